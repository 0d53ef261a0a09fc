/-
The plain functions of the program that the law DeclrunDecodes reaches, that the program computes them, and what they come to. No condition.
-/
import Derived.Test.YtgjimkgehbppbabAm1
import Derived.Test.YtgjimkgehbppbabAm2
import Derived.Test.YtgjimkgehbppbabAm3
import Derived.Test.YtgjimkgehbppbabDeclrunDecodesC1
set_option linter.unusedVariables false
set_option linter.unusedSimpArgs false
set_option linter.unusedSectionVars false

section
/-
Ytgjimkgehbppbab: signalbench.signalbenchref36.Next, as one plain function, its equations, its contract. No condition.
-/
set_option maxRecDepth 100000
set_option linter.unusedVariables false
set_option maxHeartbeats 4000000
open Go Go.AM
namespace Go.Proofs.Ytgjimkgehbppbab
noncomputable section
def ref36_Next_F6 : FSh := ⟨[(1, .one (.int .i64)), (2, .one (.int .i64)), (3, .one (.ptr 0 0)), (9, .one (.int .i64))], [.boxr (.cons .str (.cons (.int .i64) (.cons (.int .i64) (.sl (.sl (.cons (.int .i64) (.cons (.int .i64) (.cons (.int .i64) (.sl (.cons (.int .i64) (.int .i64)))))))))))]⟩
def ref36_Next_D : FD := ⟨T, lookC [], [], (Try.f40.body.getD .skip), Try.f40.results.toList, ⟨[.row (.cons .str (.cons (.int .i64) (.cons (.int .i64) (.sl (.sl (.cons (.int .i64) (.cons (.int .i64) (.cons (.int .i64) (.sl (.cons (.int .i64) (.int .i64))))))))))), .one (.int .i64), .one (.int .i64)], []⟩, ⟨[.one (.int .i64), .one (.sl (.cons (.int .i64) (.int .i64))), .one .bool], []⟩, [(6, ref36_Next_F6)]⟩
def ref36_Next_l6 (state : Int) (symbol : Int) (i : Int) (h0 : TTable) : (Option ((Int × (List TAct) × Bool × Unit) × Unit)) := ref36_Next_D.lab 6 ref36_Next_F6 ((state, symbol, (), i, ()), (h0, ()))
theorem ref36_Next_l6_eq (state : Int) (symbol : Int) (i : Int) (h0 : TTable) : ref36_Next_l6 state symbol i h0 =
  if 0 ≤ state ∧ state < (h0.2.2.2.length : Int) then
    if (decide (i < ((h0.2.2.2.getD state.toNat []).length : Int))) = true then
      if 0 ≤ state ∧ state < (h0.2.2.2.length : Int) then
        if 0 ≤ i ∧ i < ((h0.2.2.2.getD state.toNat []).length : Int) then
          if (decide (((h0.2.2.2.getD state.toNat []).getD i.toNat dCell).1 ≤ symbol)) = true then
            if (decide (symbol ≤ ((h0.2.2.2.getD state.toNat []).getD i.toNat dCell).2.1)) = true then
              if (0 + ((h0.2.2.2.getD state.toNat []).getD i.toNat dCell).2.2.2.length) * 16 ≤ 140737488355328 ∧ 0 < 16 then
                some ((((h0.2.2.2.getD state.toNat []).getD i.toNat dCell).2.2.1, ((h0.2.2.2.getD state.toNat []).getD i.toNat dCell).2.2.2, true, ()), ())
              else
                none
            else
              ref36_Next_l6 state symbol (IntKind.i64.wrap (i + 1)) h0
          else
            ref36_Next_l6 state symbol (IntKind.i64.wrap (i + 1)) h0
        else
          none
      else
        none
    else
      some ((0, [], false, ()), ())
  else
    none := (FD.lab_eq _ _ _ _).trans (by kernel_rfl)
def ref36_Next (t : TTable) (state : Int) (symbol : Int) : (Option ((Int × (List TAct) × Bool × Unit) × Unit)) :=
  if (decide (state < 0)) = true then
    some ((0, [], false, ()), ())
  else
    if (decide (state ≥ (t.2.2.2.length : Int))) = true then
      some ((0, [], false, ()), ())
    else
      ref36_Next_l6 state symbol 0 t
def fc40 : FC := ⟨⟨[.row (.cons .str (.cons (.int .i64) (.cons (.int .i64) (.sl (.sl (.cons (.int .i64) (.cons (.int .i64) (.cons (.int .i64) (.sl (.cons (.int .i64) (.int .i64))))))))))), .one (.int .i64), .one (.int .i64)], []⟩, ⟨[.one (.int .i64), .one (.sl (.cons (.int .i64) (.int .i64))), .one .bool], []⟩, fun x => ref36_Next x.1.1 x.1.2.1 x.1.2.2.1⟩
theorem con40 : Contract Try.prog 40 fc40 :=
  ref36_Next_D.contract tok (cok_of (l := []) trivial) mixed (fn' := Try.f40) (by kernel_rfl) (by kernel_rfl) rfl (by kernel_rfl) (fun x => (FD.fn_eq _ _).trans (by kernel_rfl))
end
end Go.Proofs.Ytgjimkgehbppbab
end

section
/-
Ytgjimkgehbppbab: signalbench.signalbenchref37.collect, as one plain function, its equations, its contract. No condition.
-/
set_option maxRecDepth 100000
set_option linter.unusedVariables false
set_option maxHeartbeats 4000000
open Go Go.AM
namespace Go.Proofs.Ytgjimkgehbppbab
noncomputable section
def ref37_collect_F4 : FSh := ⟨[(2, .one (.int .i64)), (3, .one (.ptr 0 0)), (6, .one (.ptr 1 0))], [.boxr (.cons (.int .i64) (.cons (.int .i64) (.cons (.int .i64) (.cons (.int .i64) (.cons (.int .i64) (.cons (.int .i64) (.cons (.int .i64) .str))))))), .boxr (.cons (.int .i64) (.cons (.int .i64) (.cons (.int .i64) (.cons (.int .i64) (.cons (.int .i64) (.cons (.int .i64) (.cons (.int .i64) .str)))))))]⟩
def ref37_collect_D : FD := ⟨T, lookC [], [4], (Try.f83.body.getD .skip), Try.f83.results.toList, ⟨[.row (.cons (.int .i64) (.cons (.int .i64) (.cons (.int .i64) (.cons (.int .i64) (.cons (.int .i64) (.cons (.int .i64) (.cons (.int .i64) .str))))))), .row (.cons (.int .i64) (.cons (.int .i64) (.cons (.int .i64) (.cons (.int .i64) (.cons (.int .i64) (.cons .str (.int .i64))))))), .one (.int .i64)], []⟩, ⟨[.row (.cons (.int .i64) (.cons (.int .i64) (.cons (.int .i64) (.cons (.int .i64) (.cons (.int .i64) (.cons (.int .i64) (.cons (.int .i64) .str)))))))], []⟩, [(4, ref37_collect_F4)]⟩
def ref37_collect_l4 (b : Int) (h0 : TState) (h1 : TState) : (Option ((TState × Unit) × Unit)) := ref37_collect_D.lab 4 ref37_collect_F4 ((b, (), (), ()), (h0, h1, ()))
theorem ref37_collect_l4_eq (b : Int) (h0 : TState) (h1 : TState) : ref37_collect_l4 b h0 h1 =
  if h0.2.2.2.2.2.2.2.size + (strOfBytes [IntKind.u8.wrap b]).size ≤ 9223372036854775807 then
    some (((h0.1, h0.2.1, h0.2.2.1, h0.2.2.2.1, h0.2.2.2.2.1, h0.2.2.2.2.2.1, h0.2.2.2.2.2.2.1, h0.2.2.2.2.2.2.2 ++ (strOfBytes [IntKind.u8.wrap b])), ()), ())
  else
    none := (FD.lab_eq _ _ _ _).trans (by kernel_rfl)
def ref37_collect (s : TState) (e0 : TEvent) (b : Int) : (Option ((TState × Unit) × Unit)) :=
  if ((s.2.2.2.2.2.2.2.size : Int) == 4096) = true then
    some ((s, ()), ())
  else
    if (s.2.2.2.2.2.2.2.toList == (strB []).toList) = true then
      ref37_collect_l4 b (s.1, s.2.1, e0.2.1, s.2.2.2) (0, 0, 0, 0, 0, 0, 0, (strB []))
    else
      ref37_collect_l4 b s (0, 0, 0, 0, 0, 0, 0, (strB []))
def fc83 : FC := ⟨⟨[.row (.cons (.int .i64) (.cons (.int .i64) (.cons (.int .i64) (.cons (.int .i64) (.cons (.int .i64) (.cons (.int .i64) (.cons (.int .i64) .str))))))), .row (.cons (.int .i64) (.cons (.int .i64) (.cons (.int .i64) (.cons (.int .i64) (.cons (.int .i64) (.cons .str (.int .i64))))))), .one (.int .i64)], []⟩, ⟨[.row (.cons (.int .i64) (.cons (.int .i64) (.cons (.int .i64) (.cons (.int .i64) (.cons (.int .i64) (.cons (.int .i64) (.cons (.int .i64) .str)))))))], []⟩, fun x => ref37_collect x.1.1 x.1.2.1 x.1.2.2.1⟩
theorem con83 : Contract Try.prog 83 fc83 :=
  ref37_collect_D.contract tok (cok_of (l := []) trivial) mixed (fn' := Try.f83) (by kernel_rfl) (by kernel_rfl) rfl (by kernel_rfl) (fun x => (FD.fn_eq _ _).trans (by kernel_rfl))
end
end Go.Proofs.Ytgjimkgehbppbab
end

section
/-
Ytgjimkgehbppbab: signalbench.signalbenchref37.emitted, as one plain function, its equations, its contract. No condition.
-/
set_option maxRecDepth 100000
set_option linter.unusedVariables false
set_option maxHeartbeats 4000000
open Go Go.AM
namespace Go.Proofs.Ytgjimkgehbppbab
noncomputable section
def ref37_emitted_D : FD := ⟨T, lookC [], [], (Try.f84.body.getD .skip), Try.f84.results.toList, ⟨[.one (.int .i64), .row (.cons (.int .i64) (.cons (.int .i64) (.cons (.int .i64) (.cons (.int .i64) (.cons (.int .i64) (.cons (.int .i64) (.cons (.int .i64) .str))))))), .row (.cons (.int .i64) (.cons (.int .i64) (.cons (.int .i64) (.cons (.int .i64) (.cons (.int .i64) (.cons .str (.int .i64))))))), .one (.int .i64), .one (.int .i64)], []⟩, ⟨[.row (.cons (.int .i64) (.cons (.int .i64) (.cons (.int .i64) (.cons (.int .i64) (.cons (.int .i64) (.cons .str (.int .i64)))))))], []⟩, []⟩
def ref37_emitted (output : Int) (s : TState) (e0 : TEvent) (value : Int) (fault : Int) : (Option ((TEvent × Unit) × Unit)) :=
  if (!(s.2.2.2.2.2.2.2.toList == (strB []).toList)) = true then
    some (((output, s.2.2.1, e0.2.2.1, value, 0, s.2.2.2.2.2.2.2, fault), ()), ())
  else
    some (((output, e0.2.1, e0.2.2.1, value, 0, s.2.2.2.2.2.2.2, fault), ()), ())
def fc84 : FC := ⟨⟨[.one (.int .i64), .row (.cons (.int .i64) (.cons (.int .i64) (.cons (.int .i64) (.cons (.int .i64) (.cons (.int .i64) (.cons (.int .i64) (.cons (.int .i64) .str))))))), .row (.cons (.int .i64) (.cons (.int .i64) (.cons (.int .i64) (.cons (.int .i64) (.cons (.int .i64) (.cons .str (.int .i64))))))), .one (.int .i64), .one (.int .i64)], []⟩, ⟨[.row (.cons (.int .i64) (.cons (.int .i64) (.cons (.int .i64) (.cons (.int .i64) (.cons (.int .i64) (.cons .str (.int .i64)))))))], []⟩, fun x => ref37_emitted x.1.1 x.1.2.1 x.1.2.2.1 x.1.2.2.2.1 x.1.2.2.2.2.1⟩
theorem con84 : Contract Try.prog 84 fc84 :=
  ref37_emitted_D.contract tok (cok_of (l := []) trivial) mixed (fn' := Try.f84) (by kernel_rfl) (by kernel_rfl) rfl (by kernel_rfl) (fun x => (FD.fn_eq _ _).trans (by kernel_rfl))
end
end Go.Proofs.Ytgjimkgehbppbab
end

section
/-
Ytgjimkgehbppbab: signalbench.signalbenchref37.act, as one plain function, its equations, its contract. No condition.
-/
set_option maxRecDepth 100000
set_option linter.unusedVariables false
set_option maxHeartbeats 4000000
open Go Go.AM
namespace Go.Proofs.Ytgjimkgehbppbab
noncomputable section
def ref37_act_D : FD := ⟨T, lookC [(83, fc83), (84, fc84)], [], (Try.f59.body.getD .skip), Try.f59.results.toList, ⟨[.one (.int .i64), .row (.cons (.int .i64) (.cons (.int .i64) (.cons (.int .i64) (.cons (.int .i64) (.cons (.int .i64) (.cons (.int .i64) (.cons (.int .i64) .str))))))), .row (.cons (.int .i64) (.cons (.int .i64) (.cons (.int .i64) (.cons (.int .i64) (.cons (.int .i64) (.cons .str (.int .i64))))))), .row (.cons (.int .i64) (.int .i64))], []⟩, ⟨[.row (.cons (.int .i64) (.cons (.int .i64) (.cons (.int .i64) (.cons (.int .i64) (.cons (.int .i64) (.cons (.int .i64) (.cons (.int .i64) .str))))))), .one (.sl (.cons (.int .i64) (.cons (.int .i64) (.cons (.int .i64) (.cons (.int .i64) (.cons (.int .i64) (.cons .str (.int .i64))))))))], []⟩, []⟩
def ref37_act (output : Int) (s : TState) (e0 : TEvent) (a : TAct) : (Option ((TState × (List TEvent) × Unit) × Unit)) :=
  if (a.1 == 1) = true then
    some (((s.1, s.2.1, s.2.2.1, s.2.2.2.1, s.2.2.2.2.1, s.2.2.2.2.2.1, s.2.2.2.2.2.2.1, (strB [])), [], ()), ())
  else
    if (a.1 == 2) = true then
      (ref37_collect s e0 e0.2.2.2.1).bind fun y1 =>
        some ((y1.1.1, [], ()), ())
    else
      if (a.1 == 3) = true then
        (ref37_collect s e0 (IntKind.i64.wrap (BitVec.ofInt 64 e0.2.2.2.1 ^^^ BitVec.ofInt 64 a.2).toNat)).bind fun y2 =>
          some ((y2.1.1, [], ()), ())
      else
        if (a.1 == 4) = true then
          (ref37_collect s e0 a.2).bind fun y3 =>
            some ((y3.1.1, [], ()), ())
        else
          if (a.1 == 5) = true then
            (ref37_emitted output s e0 a.2 0).bind fun y4 =>
              some (((s.1, s.2.1, s.2.2.1, s.2.2.2.1, s.2.2.2.2.1, s.2.2.2.2.2.1, s.2.2.2.2.2.2.1, (strB [])), [y4.1.1], ()), ())
          else
            if (a.1 == 6) = true then
              (ref37_emitted output s e0 0 a.2).bind fun y5 =>
                some (((s.1, s.2.1, s.2.2.1, s.2.2.2.1, s.2.2.2.2.1, s.2.2.2.2.2.1, s.2.2.2.2.2.2.1, (strB [])), [y5.1.1], ()), ())
            else
              some ((s, [], ()), ())
def fc59 : FC := ⟨⟨[.one (.int .i64), .row (.cons (.int .i64) (.cons (.int .i64) (.cons (.int .i64) (.cons (.int .i64) (.cons (.int .i64) (.cons (.int .i64) (.cons (.int .i64) .str))))))), .row (.cons (.int .i64) (.cons (.int .i64) (.cons (.int .i64) (.cons (.int .i64) (.cons (.int .i64) (.cons .str (.int .i64))))))), .row (.cons (.int .i64) (.int .i64))], []⟩, ⟨[.row (.cons (.int .i64) (.cons (.int .i64) (.cons (.int .i64) (.cons (.int .i64) (.cons (.int .i64) (.cons (.int .i64) (.cons (.int .i64) .str))))))), .one (.sl (.cons (.int .i64) (.cons (.int .i64) (.cons (.int .i64) (.cons (.int .i64) (.cons (.int .i64) (.cons .str (.int .i64))))))))], []⟩, fun x => ref37_act x.1.1 x.1.2.1 x.1.2.2.1 x.1.2.2.2.1⟩
theorem con59 : Contract Try.prog 59 fc59 :=
  ref37_act_D.contract tok (cok_of (l := [(83, fc83), (84, fc84)]) ⟨con83, con84, trivial⟩) mixed (fn' := Try.f59) (by kernel_rfl) (by kernel_rfl) rfl (by kernel_rfl) (fun x => (FD.fn_eq _ _).trans (by kernel_rfl))
end
end Go.Proofs.Ytgjimkgehbppbab
end

section
/-
Ytgjimkgehbppbab: signalbench.signalbenchref37.all, as one plain function, its equations, its contract. No condition.
-/
set_option maxRecDepth 100000
set_option linter.unusedVariables false
set_option maxHeartbeats 4000000
open Go Go.AM
namespace Go.Proofs.Ytgjimkgehbppbab
noncomputable section
def ref37_all_F4 : FSh := ⟨[(0, .one (.int .i64)), (3, .one (.sl (.cons (.int .i64) (.int .i64)))), (5, .one (.ptr 0 0)), (6, .one (.ptr 1 0)), (8, .one (.ptr 2 0)), (10, .one (.own 3)), (11, .one (.int .i64))], [.boxr (.cons (.int .i64) (.cons (.int .i64) (.cons (.int .i64) (.cons (.int .i64) (.cons (.int .i64) (.cons (.int .i64) (.cons (.int .i64) .str))))))), .boxr (.cons (.int .i64) (.cons (.int .i64) (.cons (.int .i64) (.cons (.int .i64) (.cons (.int .i64) (.cons .str (.int .i64))))))), .boxr (.cons (.int .i64) (.cons (.int .i64) (.cons (.int .i64) (.cons (.int .i64) (.cons (.int .i64) (.cons (.int .i64) (.cons (.int .i64) .str))))))), .arr 41 (.cons (.int .i64) (.cons (.int .i64) (.cons (.int .i64) (.cons (.int .i64) (.cons (.int .i64) (.cons .str (.int .i64))))))) true]⟩
def ref37_all_D : FD := ⟨T, lookC [(59, fc59)], [], (Try.f41.body.getD .skip), Try.f41.results.toList, ⟨[.one (.int .i64), .row (.cons (.int .i64) (.cons (.int .i64) (.cons (.int .i64) (.cons (.int .i64) (.cons (.int .i64) (.cons (.int .i64) (.cons (.int .i64) .str))))))), .row (.cons (.int .i64) (.cons (.int .i64) (.cons (.int .i64) (.cons (.int .i64) (.cons (.int .i64) (.cons .str (.int .i64))))))), .one (.sl (.cons (.int .i64) (.int .i64)))], []⟩, ⟨[.row (.cons (.int .i64) (.cons (.int .i64) (.cons (.int .i64) (.cons (.int .i64) (.cons (.int .i64) (.cons (.int .i64) (.cons (.int .i64) .str))))))), .one (.sl (.cons (.int .i64) (.cons (.int .i64) (.cons (.int .i64) (.cons (.int .i64) (.cons (.int .i64) (.cons .str (.int .i64))))))))], []⟩, [(4, ref37_all_F4)]⟩
def ref37_all_l4 (output : Int) (l : (List TAct)) (i : Int) (h0 : TState) (h1 : TEvent) (h2 : TState) (l3 : (List TEvent)) : (Option ((TState × (List TEvent) × Unit) × Unit)) := ref37_all_D.lab 4 ref37_all_F4 ((output, l, (), (), (), (), i, ()), (h0, h1, h2, l3, ()))
theorem ref37_all_l4_eq (output : Int) (l : (List TAct)) (i : Int) (h0 : TState) (h1 : TEvent) (h2 : TState) (l3 : (List TEvent)) : ref37_all_l4 output l i h0 h1 h2 l3 =
  if (decide (i < (l.length : Int))) = true then
    if 0 ≤ i ∧ i < (l.length : Int) then
      (ref37_act output h0 h1 (l.getD i.toNat dAct)).bind fun y1 =>
        if (l3.length + y1.1.2.1.length) * 64 ≤ 140737488355328 ∧ 0 < 64 then
          ref37_all_l4 output l (IntKind.i64.wrap (i + 1)) y1.1.1 h1 h2 (l3 ++ y1.1.2.1)
        else
          none
    else
      none
  else
    some ((h0, l3, ()), ()) := (FD.lab_eq _ _ _ _).trans (by kernel_rfl)
def ref37_all (output : Int) (s : TState) (e0 : TEvent) (l : (List TAct)) : (Option ((TState × (List TEvent) × Unit) × Unit)) :=
  ref37_all_l4 output l 0 s e0 (0, 0, 0, 0, 0, 0, 0, (strB [])) []
def fc41 : FC := ⟨⟨[.one (.int .i64), .row (.cons (.int .i64) (.cons (.int .i64) (.cons (.int .i64) (.cons (.int .i64) (.cons (.int .i64) (.cons (.int .i64) (.cons (.int .i64) .str))))))), .row (.cons (.int .i64) (.cons (.int .i64) (.cons (.int .i64) (.cons (.int .i64) (.cons (.int .i64) (.cons .str (.int .i64))))))), .one (.sl (.cons (.int .i64) (.int .i64)))], []⟩, ⟨[.row (.cons (.int .i64) (.cons (.int .i64) (.cons (.int .i64) (.cons (.int .i64) (.cons (.int .i64) (.cons (.int .i64) (.cons (.int .i64) .str))))))), .one (.sl (.cons (.int .i64) (.cons (.int .i64) (.cons (.int .i64) (.cons (.int .i64) (.cons (.int .i64) (.cons .str (.int .i64))))))))], []⟩, fun x => ref37_all x.1.1 x.1.2.1 x.1.2.2.1 x.1.2.2.2.1⟩
theorem con41 : Contract Try.prog 41 fc41 :=
  ref37_all_D.contract tok (cok_of (l := [(59, fc59)]) ⟨con59, trivial⟩) mixed (fn' := Try.f41) (by kernel_rfl) (by kernel_rfl) rfl (by kernel_rfl) (fun x => (FD.fn_eq _ _).trans (by kernel_rfl))
end
end Go.Proofs.Ytgjimkgehbppbab
end

section
/-
Ytgjimkgehbppbab: signalbench.signalbenchref37.Step, as one plain function, its equations, its contract. No condition.
-/
set_option maxRecDepth 100000
set_option linter.unusedVariables false
set_option maxHeartbeats 4000000
open Go Go.AM
namespace Go.Proofs.Ytgjimkgehbppbab
noncomputable section
def ref37_Step_D : FD := ⟨T, lookC [(37, fc37), (38, fc38), (39, fc39), (40, fc40), (41, fc41)], [], (Try.f18.body.getD .skip), Try.f18.results.toList, ⟨[.row (.cons .str (.cons (.int .i64) (.cons (.int .i64) (.sl (.sl (.cons (.int .i64) (.cons (.int .i64) (.cons (.int .i64) (.sl (.cons (.int .i64) (.int .i64))))))))))), .row (.cons (.int .i64) (.cons (.int .i64) (.cons (.int .i64) (.cons (.int .i64) (.cons (.int .i64) (.cons (.int .i64) (.cons (.int .i64) .str))))))), .row (.cons (.int .i64) (.cons (.int .i64) (.cons (.int .i64) (.cons (.int .i64) (.cons (.int .i64) (.cons .str (.int .i64)))))))], []⟩, ⟨[.row (.cons (.int .i64) (.cons (.int .i64) (.cons (.int .i64) (.cons (.int .i64) (.cons (.int .i64) (.cons (.int .i64) (.cons (.int .i64) .str))))))), .one (.sl (.cons (.int .i64) (.cons (.int .i64) (.cons (.int .i64) (.cons (.int .i64) (.cons (.int .i64) (.cons .str (.int .i64))))))))], []⟩, []⟩
def ref37_Step (t : TTable) (s : TState) (e0 : TEvent) : (Option ((TState × (List TEvent) × Unit) × Unit)) :=
  (ref36_Check t).bind fun y1 =>
    if (y1.1.1 != 0) = true then
      some ((s, [], ()), ())
    else
      (ref37_accepts t.2.1 s e0).bind fun y2 =>
        if (!y2.1.1) = true then
          some ((s, [], ()), ())
        else
          if (e0.2.2.2.2.2.2 != 0) = true then
            (ref37_aborted t.2.2.1 s e0.2.1).bind fun y3 =>
              some (((0, e0.2.1, 0, 0, 0, e0.2.2.1, 0, (strB [])), y3.1.1, ()), ())
          else
            (ref36_Next t s.1 e0.2.2.2.1).bind fun y4 =>
              if (!y4.1.2.2.1) = true then
                some (((s.1, e0.2.1, s.2.2.1, s.2.2.2.1, s.2.2.2.2.1, e0.2.2.1, s.2.2.2.2.2.2), [], ()), ())
              else
                (ref37_all t.2.2.1 (s.1, e0.2.1, s.2.2.1, s.2.2.2.1, s.2.2.2.2.1, e0.2.2.1, s.2.2.2.2.2.2) e0 y4.1.2.1).bind fun y5 =>
                  some (((y4.1.1, y5.1.1.2), y5.1.2.1, ()), ())
def fc18 : FC := ⟨⟨[.row (.cons .str (.cons (.int .i64) (.cons (.int .i64) (.sl (.sl (.cons (.int .i64) (.cons (.int .i64) (.cons (.int .i64) (.sl (.cons (.int .i64) (.int .i64))))))))))), .row (.cons (.int .i64) (.cons (.int .i64) (.cons (.int .i64) (.cons (.int .i64) (.cons (.int .i64) (.cons (.int .i64) (.cons (.int .i64) .str))))))), .row (.cons (.int .i64) (.cons (.int .i64) (.cons (.int .i64) (.cons (.int .i64) (.cons (.int .i64) (.cons .str (.int .i64)))))))], []⟩, ⟨[.row (.cons (.int .i64) (.cons (.int .i64) (.cons (.int .i64) (.cons (.int .i64) (.cons (.int .i64) (.cons (.int .i64) (.cons (.int .i64) .str))))))), .one (.sl (.cons (.int .i64) (.cons (.int .i64) (.cons (.int .i64) (.cons (.int .i64) (.cons (.int .i64) (.cons .str (.int .i64))))))))], []⟩, fun x => ref37_Step x.1.1 x.1.2.1 x.1.2.2.1⟩
theorem con18 : Contract Try.prog 18 fc18 :=
  ref37_Step_D.contract tok (cok_of (l := [(37, fc37), (38, fc38), (39, fc39), (40, fc40), (41, fc41)]) ⟨con37, con38, con39, con40, con41, trivial⟩) mixed (fn' := Try.f18) (by kernel_rfl) (by kernel_rfl) rfl (by kernel_rfl) (fun x => (FD.fn_eq _ _).trans (by kernel_rfl))
end
end Go.Proofs.Ytgjimkgehbppbab
end

section
/-
Ytgjimkgehbppbab: signalbench.declrun.End, as one plain function, its equations, its contract. No condition.
-/
set_option maxRecDepth 100000
set_option linter.unusedVariables false
set_option maxHeartbeats 4000000
open Go Go.AM
namespace Go.Proofs.Ytgjimkgehbppbab
noncomputable section
def declrun_End_D : FD := ⟨T, lookC [(34, fc34), (42, fc42)], [], (Try.f19.body.getD .skip), Try.f19.results.toList, ⟨[.row (.cons .str (.cons (.int .i64) (.cons (.int .i64) (.sl (.sl (.cons (.int .i64) (.cons (.int .i64) (.cons (.int .i64) (.sl (.cons (.int .i64) (.int .i64))))))))))), .row (.cons (.int .i64) (.cons (.int .i64) (.cons (.int .i64) (.cons (.int .i64) (.cons (.int .i64) (.cons (.int .i64) (.cons (.int .i64) .str)))))))], []⟩, ⟨[.one (.sl (.cons (.int .i64) (.cons (.int .i64) (.cons (.int .i64) (.cons (.int .i64) (.cons (.int .i64) (.cons .str (.int .i64))))))))], []⟩, []⟩
def declrun_End (t : TTable) (s : TState) : (Option (((List TEvent) × Unit) × Unit)) :=
  (decltab_Check t).bind fun y1 =>
    if (y1.1.1 != 0) = true then
      some (([], ()), ())
    else
      (declrun_aborted t.2.2.1 s s.2.1).bind fun y2 =>
        some ((y2.1.1, ()), ())
def fc19 : FC := ⟨⟨[.row (.cons .str (.cons (.int .i64) (.cons (.int .i64) (.sl (.sl (.cons (.int .i64) (.cons (.int .i64) (.cons (.int .i64) (.sl (.cons (.int .i64) (.int .i64))))))))))), .row (.cons (.int .i64) (.cons (.int .i64) (.cons (.int .i64) (.cons (.int .i64) (.cons (.int .i64) (.cons (.int .i64) (.cons (.int .i64) .str)))))))], []⟩, ⟨[.one (.sl (.cons (.int .i64) (.cons (.int .i64) (.cons (.int .i64) (.cons (.int .i64) (.cons (.int .i64) (.cons .str (.int .i64))))))))], []⟩, fun x => declrun_End x.1.1 x.1.2.1⟩
theorem con19 : Contract Try.prog 19 fc19 :=
  declrun_End_D.contract tok (cok_of (l := [(34, fc34), (42, fc42)]) ⟨con34, con42, trivial⟩) mixed (fn' := Try.f19) (by kernel_rfl) (by kernel_rfl) rfl (by kernel_rfl) (fun x => (FD.fn_eq _ _).trans (by kernel_rfl))
end
end Go.Proofs.Ytgjimkgehbppbab
end

section
/-
Ytgjimkgehbppbab: signalbench.signalbenchref37.End, as one plain function, its equations, its contract. No condition.
-/
set_option maxRecDepth 100000
set_option linter.unusedVariables false
set_option maxHeartbeats 4000000
open Go Go.AM
namespace Go.Proofs.Ytgjimkgehbppbab
noncomputable section
def ref37_End_D : FD := ⟨T, lookC [(37, fc37), (39, fc39)], [], (Try.f20.body.getD .skip), Try.f20.results.toList, ⟨[.row (.cons .str (.cons (.int .i64) (.cons (.int .i64) (.sl (.sl (.cons (.int .i64) (.cons (.int .i64) (.cons (.int .i64) (.sl (.cons (.int .i64) (.int .i64))))))))))), .row (.cons (.int .i64) (.cons (.int .i64) (.cons (.int .i64) (.cons (.int .i64) (.cons (.int .i64) (.cons (.int .i64) (.cons (.int .i64) .str)))))))], []⟩, ⟨[.one (.sl (.cons (.int .i64) (.cons (.int .i64) (.cons (.int .i64) (.cons (.int .i64) (.cons (.int .i64) (.cons .str (.int .i64))))))))], []⟩, []⟩
def ref37_End (t : TTable) (s : TState) : (Option (((List TEvent) × Unit) × Unit)) :=
  (ref36_Check t).bind fun y1 =>
    if (y1.1.1 != 0) = true then
      some (([], ()), ())
    else
      (ref37_aborted t.2.2.1 s s.2.2.2.2.2.1).bind fun y2 =>
        some ((y2.1.1, ()), ())
def fc20 : FC := ⟨⟨[.row (.cons .str (.cons (.int .i64) (.cons (.int .i64) (.sl (.sl (.cons (.int .i64) (.cons (.int .i64) (.cons (.int .i64) (.sl (.cons (.int .i64) (.int .i64))))))))))), .row (.cons (.int .i64) (.cons (.int .i64) (.cons (.int .i64) (.cons (.int .i64) (.cons (.int .i64) (.cons (.int .i64) (.cons (.int .i64) .str)))))))], []⟩, ⟨[.one (.sl (.cons (.int .i64) (.cons (.int .i64) (.cons (.int .i64) (.cons (.int .i64) (.cons (.int .i64) (.cons .str (.int .i64))))))))], []⟩, fun x => ref37_End x.1.1 x.1.2.1⟩
theorem con20 : Contract Try.prog 20 fc20 :=
  ref37_End_D.contract tok (cok_of (l := [(37, fc37), (39, fc39)]) ⟨con37, con39, trivial⟩) mixed (fn' := Try.f20) (by kernel_rfl) (by kernel_rfl) rfl (by kernel_rfl) (fun x => (FD.fn_eq _ _).trans (by kernel_rfl))
end
end Go.Proofs.Ytgjimkgehbppbab
end

section
/-
Ytgjimkgehbppbab: signalbench.signalbenchref37.Decode, as one plain function, its equations, its contract. No condition.
-/
set_option maxRecDepth 100000
set_option linter.unusedVariables false
set_option maxHeartbeats 4000000
open Go Go.AM
namespace Go.Proofs.Ytgjimkgehbppbab
noncomputable section
def ref37_Decode_F4 : FSh := ⟨[(1, .one (.sl (.cons (.int .i64) (.cons (.int .i64) (.cons (.int .i64) (.cons (.int .i64) (.cons (.int .i64) (.cons .str (.int .i64))))))))), (2, .one (.ptr 0 0)), (5, .one (.ptr 1 0)), (6, .one (.own 2)), (7, .one (.int .i64))], [.boxr (.cons .str (.cons (.int .i64) (.cons (.int .i64) (.sl (.sl (.cons (.int .i64) (.cons (.int .i64) (.cons (.int .i64) (.sl (.cons (.int .i64) (.int .i64))))))))))), .boxr (.cons (.int .i64) (.cons (.int .i64) (.cons (.int .i64) (.cons (.int .i64) (.cons (.int .i64) (.cons (.int .i64) (.cons (.int .i64) .str))))))), .arr 41 (.cons (.int .i64) (.cons (.int .i64) (.cons (.int .i64) (.cons (.int .i64) (.cons (.int .i64) (.cons .str (.int .i64))))))) true]⟩
def ref37_Decode_D : FD := ⟨T, lookC [(16, fc16), (18, fc18), (20, fc20)], [], (Try.f21.body.getD .skip), Try.f21.results.toList, ⟨[.row (.cons .str (.cons (.int .i64) (.cons (.int .i64) (.sl (.sl (.cons (.int .i64) (.cons (.int .i64) (.cons (.int .i64) (.sl (.cons (.int .i64) (.int .i64))))))))))), .one (.sl (.cons (.int .i64) (.cons (.int .i64) (.cons (.int .i64) (.cons (.int .i64) (.cons (.int .i64) (.cons .str (.int .i64))))))))], []⟩, ⟨[.one (.sl (.cons (.int .i64) (.cons (.int .i64) (.cons (.int .i64) (.cons (.int .i64) (.cons (.int .i64) (.cons .str (.int .i64))))))))], []⟩, [(4, ref37_Decode_F4)]⟩
def ref37_Decode_l4 (l : (List TEvent)) (i : Int) (h0 : TTable) (h1 : TState) (l2 : (List TEvent)) : (Option (((List TEvent) × Unit) × Unit)) := ref37_Decode_D.lab 4 ref37_Decode_F4 ((l, (), (), (), i, ()), (h0, h1, l2, ()))
theorem ref37_Decode_l4_eq (l : (List TEvent)) (i : Int) (h0 : TTable) (h1 : TState) (l2 : (List TEvent)) : ref37_Decode_l4 l i h0 h1 l2 =
  if (decide (i < (l.length : Int))) = true then
    if 0 ≤ i ∧ i < (l.length : Int) then
      (ref37_Step h0 h1 (l.getD i.toNat dEvent)).bind fun y1 =>
        if (l2.length + y1.1.2.1.length) * 64 ≤ 140737488355328 ∧ 0 < 64 then
          ref37_Decode_l4 l (IntKind.i64.wrap (i + 1)) h0 y1.1.1 (l2 ++ y1.1.2.1)
        else
          none
    else
      none
  else
    (ref37_End h0 h1).bind fun y2 =>
      if (l2.length + y2.1.1.length) * 64 ≤ 140737488355328 ∧ 0 < 64 then
        some ((l2 ++ y2.1.1, ()), ())
      else
        none := (FD.lab_eq _ _ _ _).trans (by kernel_rfl)
def ref37_Decode (t : TTable) (l : (List TEvent)) : (Option (((List TEvent) × Unit) × Unit)) :=
  (ref37_Start t).bind fun y1 =>
    ref37_Decode_l4 l 0 t y1.1.1 []
def fc21 : FC := ⟨⟨[.row (.cons .str (.cons (.int .i64) (.cons (.int .i64) (.sl (.sl (.cons (.int .i64) (.cons (.int .i64) (.cons (.int .i64) (.sl (.cons (.int .i64) (.int .i64))))))))))), .one (.sl (.cons (.int .i64) (.cons (.int .i64) (.cons (.int .i64) (.cons (.int .i64) (.cons (.int .i64) (.cons .str (.int .i64))))))))], []⟩, ⟨[.one (.sl (.cons (.int .i64) (.cons (.int .i64) (.cons (.int .i64) (.cons (.int .i64) (.cons (.int .i64) (.cons .str (.int .i64))))))))], []⟩, fun x => ref37_Decode x.1.1 x.1.2.1⟩
theorem con21 : Contract Try.prog 21 fc21 :=
  ref37_Decode_D.contract tok (cok_of (l := [(16, fc16), (18, fc18), (20, fc20)]) ⟨con16, con18, con20, trivial⟩) mixed (fn' := Try.f21) (by kernel_rfl) (by kernel_rfl) rfl (by kernel_rfl) (fun x => (FD.fn_eq _ _).trans (by kernel_rfl))
end
end Go.Proofs.Ytgjimkgehbppbab
end

section
/-
Ytgjimkgehbppbab: signalbench.signalbenchlaw37.short, as one plain function, its equations, its contract. No condition.
-/
set_option maxRecDepth 100000
set_option linter.unusedVariables false
set_option maxHeartbeats 4000000
open Go Go.AM
namespace Go.Proofs.Ytgjimkgehbppbab
noncomputable section
def law37_short_D : FD := ⟨T, lookC [], [], (Try.f22.body.getD .skip), Try.f22.results.toList, ⟨[.row (.cons (.int .i64) (.cons (.int .i64) (.cons .str (.cons .bool (.sl (.cons (.int .i64) (.int .i64)))))))], []⟩, ⟨[.one .bool], []⟩, []⟩
def law37_short (r : TRule) : (Option ((Bool × Unit) × Unit)) :=
  if (decide ((r.2.2.1.size : Int) ≤ 20)) = true then
    some ((decide ((r.2.2.2.2.length : Int) ≤ 10), ()), ())
  else
    some ((false, ()), ())
def fc22 : FC := ⟨⟨[.row (.cons (.int .i64) (.cons (.int .i64) (.cons .str (.cons .bool (.sl (.cons (.int .i64) (.int .i64)))))))], []⟩, ⟨[.one .bool], []⟩, fun x => law37_short x.1.1⟩
theorem con22 : Contract Try.prog 22 fc22 :=
  law37_short_D.contract tok (cok_of (l := []) trivial) mixed (fn' := Try.f22) (by kernel_rfl) (by kernel_rfl) rfl (by kernel_rfl) (fun x => (FD.fn_eq _ _).trans (by kernel_rfl))
end
end Go.Proofs.Ytgjimkgehbppbab
end

section
/-
Ytgjimkgehbppbab: signalbench.signalbenchlaw37.lines, as one plain function, its equations, its contract. No condition.
-/
set_option maxRecDepth 100000
set_option linter.unusedVariables false
set_option maxHeartbeats 4000000
open Go Go.AM
namespace Go.Proofs.Ytgjimkgehbppbab
noncomputable section
def law37_lines_D : FD := ⟨T, lookC [], [], (Try.f23.body.getD .skip), Try.f23.results.toList, ⟨[], []⟩, ⟨[.row (.cons .str (.cons (.int .i64) (.cons (.int .i64) (.sl (.cons .str (.cons (.sl (.cons (.int .i64) (.cons (.int .i64) (.cons .str (.cons .bool (.sl (.cons (.int .i64) (.int .i64)))))))) (.cons .bool (.cons (.int .i64) (.cons (.int .i64) (.cons .str (.cons .bool (.sl (.cons (.int .i64) (.int .i64))))))))))))))], []⟩, []⟩
def law37_lines : (Option ((TDecl × Unit) × Unit)) :=
  some ((((strB [108, 105, 110, 101, 115]), 3, 6, [((strB [97]), [(10, 10, (strB [97]), false, [(5, 0)])], true, 0, 0, (strB [97]), false, [(2, 0)])]), ()), ())
def fc23 : FC := ⟨⟨[], []⟩, ⟨[.row (.cons .str (.cons (.int .i64) (.cons (.int .i64) (.sl (.cons .str (.cons (.sl (.cons (.int .i64) (.cons (.int .i64) (.cons .str (.cons .bool (.sl (.cons (.int .i64) (.int .i64)))))))) (.cons .bool (.cons (.int .i64) (.cons (.int .i64) (.cons .str (.cons .bool (.sl (.cons (.int .i64) (.int .i64))))))))))))))], []⟩, fun x => law37_lines⟩
theorem con23 : Contract Try.prog 23 fc23 :=
  law37_lines_D.contract tok (cok_of (l := []) trivial) mixed (fn' := Try.f23) (by kernel_rfl) (by kernel_rfl) rfl (by kernel_rfl) (fun x => (FD.fn_eq _ _).trans (by kernel_rfl))
end
end Go.Proofs.Ytgjimkgehbppbab
end

section
/-
Ytgjimkgehbppbab: signalbench.signalbenchlaw37.small, as one plain function, its equations, its contract. No condition.
-/
set_option maxRecDepth 100000
set_option linter.unusedVariables false
set_option maxHeartbeats 4000000
open Go Go.AM
namespace Go.Proofs.Ytgjimkgehbppbab
noncomputable section
def law37_small_F6 : FSh := ⟨[(0, .one (.sl (.cons (.int .i64) (.cons (.int .i64) (.cons (.int .i64) (.cons (.int .i64) (.cons (.int .i64) (.cons .str (.int .i64))))))))), (3, .one (.int .i64))], []⟩
def law37_small_D : FD := ⟨T, lookC [], [], (Try.f7.body.getD .skip), Try.f7.results.toList, ⟨[.one (.sl (.cons (.int .i64) (.cons (.int .i64) (.cons (.int .i64) (.cons (.int .i64) (.cons (.int .i64) (.cons .str (.int .i64))))))))], []⟩, ⟨[.one .bool], []⟩, [(6, law37_small_F6)]⟩
def law37_small_l6 (l : (List TEvent)) (i : Int) : (Option ((Bool × Unit) × Unit)) := law37_small_D.lab 6 law37_small_F6 ((l, i, ()), ())
theorem law37_small_l6_eq (l : (List TEvent)) (i : Int) : law37_small_l6 l i =
  if (decide (i < (l.length : Int))) = true then
    if 0 ≤ i ∧ i < (l.length : Int) then
      if (decide (((l.getD i.toNat dEvent).2.2.2.2.2.1.size : Int) > 20)) = true then
        some ((false, ()), ())
      else
        law37_small_l6 l (IntKind.i64.wrap (i + 1))
    else
      none
  else
    some ((true, ()), ()) := (FD.lab_eq _ _ _ _).trans (by kernel_rfl)
def law37_small (l : (List TEvent)) : (Option ((Bool × Unit) × Unit)) :=
  if (decide ((l.length : Int) > 40)) = true then
    some ((false, ()), ())
  else
    law37_small_l6 l 0
def fc7 : FC := ⟨⟨[.one (.sl (.cons (.int .i64) (.cons (.int .i64) (.cons (.int .i64) (.cons (.int .i64) (.cons (.int .i64) (.cons .str (.int .i64))))))))], []⟩, ⟨[.one .bool], []⟩, fun x => law37_small x.1.1⟩
theorem con7 : Contract Try.prog 7 fc7 :=
  law37_small_D.contract tok (cok_of (l := []) trivial) mixed (fn' := Try.f7) (by kernel_rfl) (by kernel_rfl) rfl (by kernel_rfl) (fun x => (FD.fn_eq _ _).trans (by kernel_rfl))
end
end Go.Proofs.Ytgjimkgehbppbab
end

section
/-
Ytgjimkgehbppbab: signalbench.signalbenchlaw37.brief, as one plain function, its equations, its contract. No condition.
-/
set_option maxRecDepth 100000
set_option linter.unusedVariables false
set_option maxHeartbeats 4000000
open Go Go.AM
namespace Go.Proofs.Ytgjimkgehbppbab
noncomputable section
def law37_brief_F6 : FSh := ⟨[(1, .one (.ptr 0 0)), (3, .one (.int .i64))], [.boxr (.cons .str (.cons (.int .i64) (.cons (.int .i64) (.sl (.cons .str (.cons (.sl (.cons (.int .i64) (.cons (.int .i64) (.cons .str (.cons .bool (.sl (.cons (.int .i64) (.int .i64)))))))) (.cons .bool (.cons (.int .i64) (.cons (.int .i64) (.cons .str (.cons .bool (.sl (.cons (.int .i64) (.int .i64))))))))))))))]⟩
def law37_brief_F15 : FSh := ⟨[(1, .one (.ptr 0 0)), (3, .one (.int .i64)), (4, .one (.ptr 1 0)), (5, .one (.int .i64))], [.boxr (.cons .str (.cons (.int .i64) (.cons (.int .i64) (.sl (.cons .str (.cons (.sl (.cons (.int .i64) (.cons (.int .i64) (.cons .str (.cons .bool (.sl (.cons (.int .i64) (.int .i64)))))))) (.cons .bool (.cons (.int .i64) (.cons (.int .i64) (.cons .str (.cons .bool (.sl (.cons (.int .i64) (.int .i64)))))))))))))), .boxr (.cons .str (.cons (.sl (.cons (.int .i64) (.cons (.int .i64) (.cons .str (.cons .bool (.sl (.cons (.int .i64) (.int .i64)))))))) (.cons .bool (.cons (.int .i64) (.cons (.int .i64) (.cons .str (.cons .bool (.sl (.cons (.int .i64) (.int .i64))))))))))]⟩
def law37_brief_D : FD := ⟨T, lookC [(22, fc22)], [], (Try.f8.body.getD .skip), Try.f8.results.toList, ⟨[.row (.cons .str (.cons (.int .i64) (.cons (.int .i64) (.sl (.cons .str (.cons (.sl (.cons (.int .i64) (.cons (.int .i64) (.cons .str (.cons .bool (.sl (.cons (.int .i64) (.int .i64)))))))) (.cons .bool (.cons (.int .i64) (.cons (.int .i64) (.cons .str (.cons .bool (.sl (.cons (.int .i64) (.int .i64))))))))))))))], []⟩, ⟨[.one .bool], []⟩, [(6, law37_brief_F6), (15, law37_brief_F15)]⟩
def law37_brief_l6 (k0 : Int) (h0 : TDecl) : (Option ((Bool × Unit) × Unit)) := law37_brief_D.lab 6 law37_brief_F6 (((), k0, ()), (h0, ()))
def law37_brief_l15 (k0 : Int) (i : Int) (h0 : TDecl) (h1 : TDeclState) : (Option ((Bool × Unit) × Unit)) := law37_brief_D.lab 15 law37_brief_F15 (((), k0, (), i, ()), (h0, h1, ()))
theorem law37_brief_l6_eq (k0 : Int) (h0 : TDecl) : law37_brief_l6 k0 h0 =
  if (decide (k0 < (h0.2.2.2.length : Int))) = true then
    if 0 ≤ k0 ∧ k0 < (h0.2.2.2.length : Int) then
      if (decide (((h0.2.2.2.getD k0.toNat dDeclState).1.size : Int) > 20)) = true then
        some ((false, ()), ())
      else
        if (decide (((h0.2.2.2.getD k0.toNat dDeclState).2.1.length : Int) > 8)) = true then
          some ((false, ()), ())
        else
          (law37_short (h0.2.2.2.getD k0.toNat dDeclState).2.2.2).bind fun y1 =>
            if (!y1.1.1) = true then
              some ((false, ()), ())
            else
              law37_brief_l15 k0 0 h0 (h0.2.2.2.getD k0.toNat dDeclState)
    else
      none
  else
    some ((true, ()), ()) := (FD.lab_eq _ _ _ _).trans (by kernel_rfl)
theorem law37_brief_l15_eq (k0 : Int) (i : Int) (h0 : TDecl) (h1 : TDeclState) : law37_brief_l15 k0 i h0 h1 =
  if (decide (i < (h1.2.1.length : Int))) = true then
    if 0 ≤ i ∧ i < (h1.2.1.length : Int) then
      (law37_short (h1.2.1.getD i.toNat dRule)).bind fun y1 =>
        if (!y1.1.1) = true then
          some ((false, ()), ())
        else
          law37_brief_l15 k0 (IntKind.i64.wrap (i + 1)) h0 h1
    else
      none
  else
    law37_brief_l6 (IntKind.i64.wrap (k0 + 1)) h0 := (FD.lab_eq _ _ _ _).trans (by kernel_rfl)
def law37_brief (d : TDecl) : (Option ((Bool × Unit) × Unit)) :=
  if (decide ((d.2.2.2.length : Int) > 8)) = true then
    some ((false, ()), ())
  else
    if (decide ((d.1.size : Int) > 20)) = true then
      some ((false, ()), ())
    else
      law37_brief_l6 0 d
def fc8 : FC := ⟨⟨[.row (.cons .str (.cons (.int .i64) (.cons (.int .i64) (.sl (.cons .str (.cons (.sl (.cons (.int .i64) (.cons (.int .i64) (.cons .str (.cons .bool (.sl (.cons (.int .i64) (.int .i64)))))))) (.cons .bool (.cons (.int .i64) (.cons (.int .i64) (.cons .str (.cons .bool (.sl (.cons (.int .i64) (.int .i64))))))))))))))], []⟩, ⟨[.one .bool], []⟩, fun x => law37_brief x.1.1⟩
theorem con8 : Contract Try.prog 8 fc8 :=
  law37_brief_D.contract tok (cok_of (l := [(22, fc22)]) ⟨con22, trivial⟩) mixed (fn' := Try.f8) (by kernel_rfl) (by kernel_rfl) rfl (by kernel_rfl) (fun x => (FD.fn_eq _ _).trans (by kernel_rfl))
end
end Go.Proofs.Ytgjimkgehbppbab
end

section
/-
Ytgjimkgehbppbab: signalbench.signalbenchlaw37.awake, as one plain function, its equations, its contract. No condition.
-/
set_option maxRecDepth 100000
set_option linter.unusedVariables false
set_option maxHeartbeats 4000000
open Go Go.AM
namespace Go.Proofs.Ytgjimkgehbppbab
noncomputable section
def law37_awake_D : FD := ⟨T, lookC [(10, fc10), (11, fc11), (13, fc13), (23, fc23)], [], (Try.f9.body.getD .skip), Try.f9.results.toList, ⟨[], []⟩, ⟨[.one .bool], []⟩, []⟩
def law37_awake : (Option ((Bool × Unit) × Unit)) :=
  (law37_lines).bind fun y1 =>
    (declrun_Direct y1.1.1 [(3, 0, 4, 104, 0, (strB []), 0), (3, 5, 9, 105, 0, (strB []), 0), (3, 10, 14, 10, 0, (strB []), 0)]).bind fun y2 =>
      (law37_lines).bind fun y3 =>
        (declrun_Direct y3.1.1 [(3, 0, 4, 104, 0, (strB []), 0), (3, 5, 9, 105, 0, (strB []), 0)]).bind fun y4 =>
          (law37_lines).bind fun y5 =>
            (decltab_Compile y5.1.1).bind fun y6 =>
              if (y2.1.2.1 != 0) = true then
                some ((false, ()), ())
              else
                if (y4.1.2.1 != 0) = true then
                  some ((false, ()), ())
                else
                  if (y6.1.2.1 != 0) = true then
                    some ((false, ()), ())
                  else
                    if ((y2.1.1.length : Int) != 1) = true then
                      some ((false, ()), ())
                    else
                      if ((y4.1.1.length : Int) != 1) = true then
                        some ((false, ()), ())
                      else
                        (declrun_Decode y6.1.1 [(3, 0, 4, 104, 0, (strB []), 0), (3, 5, 9, 105, 0, (strB []), 0), (3, 10, 14, 10, 0, (strB []), 0)]).bind fun y7 =>
                          if 0 ≤ (0 : Int) ∧ 0 < (y2.1.1.length : Int) then
                            if (eqU uEvent (y2.1.1.getD 0 dEvent) (6, 0, 14, 0, 0, (strB [104, 105]), 0)) = true then
                              if 0 ≤ (0 : Int) ∧ 0 < (y4.1.1.length : Int) then
                                if (eqU uEvent (y4.1.1.getD 0 dEvent) (6, 0, 9, 0, 0, (strB []), 7)) = true then
                                  if ((y7.1.1.length : Int) == 1) = true then
                                    if 0 ≤ (0 : Int) ∧ 0 < (y7.1.1.length : Int) then
                                      if 0 ≤ (0 : Int) ∧ 0 < (y2.1.1.length : Int) then
                                        some ((eqU uEvent (y7.1.1.getD 0 dEvent) (y2.1.1.getD 0 dEvent), ()), ())
                                      else
                                        none
                                    else
                                      none
                                  else
                                    some ((false, ()), ())
                                else
                                  some ((false, ()), ())
                              else
                                none
                            else
                              some ((false, ()), ())
                          else
                            none
def fc9 : FC := ⟨⟨[], []⟩, ⟨[.one .bool], []⟩, fun x => law37_awake⟩
theorem con9 : Contract Try.prog 9 fc9 :=
  law37_awake_D.contract tok (cok_of (l := [(10, fc10), (11, fc11), (13, fc13), (23, fc23)]) ⟨con10, con11, con13, con23, trivial⟩) mixed (fn' := Try.f9) (by kernel_rfl) (by kernel_rfl) rfl (by kernel_rfl) (fun x => (FD.fn_eq _ _).trans (by kernel_rfl))
end
end Go.Proofs.Ytgjimkgehbppbab
end

section
/-
Ytgjimkgehbppbab: signalbench.signalbenchlaw37.DeclrunFollowsRules, as one plain function, its equations, its contract. No condition.
-/
set_option maxRecDepth 100000
set_option linter.unusedVariables false
set_option maxHeartbeats 4000000
open Go Go.AM
namespace Go.Proofs.Ytgjimkgehbppbab
noncomputable section
def law37_DeclrunFollowsRules_D : FD := ⟨T, lookC [(7, fc7), (8, fc8), (9, fc9), (10, fc10), (11, fc11), (12, fc12), (13, fc13)], [], (Try.f3.body.getD .skip), Try.f3.results.toList, ⟨[.row (.cons .str (.cons (.int .i64) (.cons (.int .i64) (.sl (.cons .str (.cons (.sl (.cons (.int .i64) (.cons (.int .i64) (.cons .str (.cons .bool (.sl (.cons (.int .i64) (.int .i64)))))))) (.cons .bool (.cons (.int .i64) (.cons (.int .i64) (.cons .str (.cons .bool (.sl (.cons (.int .i64) (.int .i64)))))))))))))), .one (.sl (.cons (.int .i64) (.cons (.int .i64) (.cons (.int .i64) (.cons (.int .i64) (.cons (.int .i64) (.cons .str (.int .i64))))))))], []⟩, ⟨[.one .bool], []⟩, []⟩
def law37_DeclrunFollowsRules (d : TDecl) (l : (List TEvent)) : (Option ((Bool × Unit) × Unit)) :=
  (law37_small l).bind fun y1 =>
    if (!y1.1.1) = true then
      (law37_awake).bind fun y2 =>
        some ((y2.1.1, ()), ())
    else
      (law37_brief d).bind fun y3 =>
        if (!y3.1.1) = true then
          (law37_awake).bind fun y4 =>
            some ((y4.1.1, ()), ())
        else
          (decltab_Compile d).bind fun y5 =>
            if (y5.1.2.1 != 0) = true then
              (law37_awake).bind fun y6 =>
                some ((y6.1.1, ()), ())
            else
              (declrun_Direct d l).bind fun y7 =>
                if (y7.1.2.1 == 0) = true then
                  (declrun_Decode y5.1.1 l).bind fun y8 =>
                    (ref07_Same y8.1.1 y7.1.1).bind fun y9 =>
                      if y9.1.1 = true then
                        (law37_awake).bind fun y10 =>
                          some ((y10.1.1, ()), ())
                      else
                        some ((false, ()), ())
                else
                  some ((false, ()), ())
def fc3 : FC := ⟨⟨[.row (.cons .str (.cons (.int .i64) (.cons (.int .i64) (.sl (.cons .str (.cons (.sl (.cons (.int .i64) (.cons (.int .i64) (.cons .str (.cons .bool (.sl (.cons (.int .i64) (.int .i64)))))))) (.cons .bool (.cons (.int .i64) (.cons (.int .i64) (.cons .str (.cons .bool (.sl (.cons (.int .i64) (.int .i64)))))))))))))), .one (.sl (.cons (.int .i64) (.cons (.int .i64) (.cons (.int .i64) (.cons (.int .i64) (.cons (.int .i64) (.cons .str (.int .i64))))))))], []⟩, ⟨[.one .bool], []⟩, fun x => law37_DeclrunFollowsRules x.1.1 x.1.2.1⟩
theorem con3 : Contract Try.prog 3 fc3 :=
  law37_DeclrunFollowsRules_D.contract tok (cok_of (l := [(7, fc7), (8, fc8), (9, fc9), (10, fc10), (11, fc11), (12, fc12), (13, fc13)]) ⟨con7, con8, con9, con10, con11, con12, con13, trivial⟩) mixed (fn' := Try.f3) (by kernel_rfl) (by kernel_rfl) rfl (by kernel_rfl) (fun x => (FD.fn_eq _ _).trans (by kernel_rfl))
end
end Go.Proofs.Ytgjimkgehbppbab
end

section
/-
Ytgjimkgehbppbab: signalbench.signalbenchlaw37.DeclrunEmits, as one plain function, its equations, its contract. No condition.
-/
set_option maxRecDepth 100000
set_option linter.unusedVariables false
set_option maxHeartbeats 4000000
open Go Go.AM
namespace Go.Proofs.Ytgjimkgehbppbab
noncomputable section
def law37_DeclrunEmits_F6 : FSh := ⟨[(1, .one (.sl (.cons (.int .i64) (.cons (.int .i64) (.cons (.int .i64) (.cons (.int .i64) (.cons (.int .i64) (.cons .str (.int .i64))))))))), (2, .one (.ptr 0 0)), (5, .one (.int .i64))], [.boxr (.cons .str (.cons (.int .i64) (.cons (.int .i64) (.sl (.cons .str (.cons (.sl (.cons (.int .i64) (.cons (.int .i64) (.cons .str (.cons .bool (.sl (.cons (.int .i64) (.int .i64)))))))) (.cons .bool (.cons (.int .i64) (.cons (.int .i64) (.cons .str (.cons .bool (.sl (.cons (.int .i64) (.int .i64))))))))))))))]⟩
def law37_DeclrunEmits_F18 : FSh := ⟨[(2, .one (.ptr 0 0)), (6, .one (.sl (.cons (.int .i64) (.cons (.int .i64) (.cons (.int .i64) (.cons (.int .i64) (.cons (.int .i64) (.cons .str (.int .i64))))))))), (8, .one (.int .i64))], [.boxr (.cons .str (.cons (.int .i64) (.cons (.int .i64) (.sl (.cons .str (.cons (.sl (.cons (.int .i64) (.cons (.int .i64) (.cons .str (.cons .bool (.sl (.cons (.int .i64) (.int .i64)))))))) (.cons .bool (.cons (.int .i64) (.cons (.int .i64) (.cons .str (.cons .bool (.sl (.cons (.int .i64) (.int .i64))))))))))))))]⟩
def law37_DeclrunEmits_D : FD := ⟨T, lookC [(7, fc7), (8, fc8), (9, fc9), (11, fc11)], [], (Try.f4.body.getD .skip), Try.f4.results.toList, ⟨[.row (.cons .str (.cons (.int .i64) (.cons (.int .i64) (.sl (.cons .str (.cons (.sl (.cons (.int .i64) (.cons (.int .i64) (.cons .str (.cons .bool (.sl (.cons (.int .i64) (.int .i64)))))))) (.cons .bool (.cons (.int .i64) (.cons (.int .i64) (.cons .str (.cons .bool (.sl (.cons (.int .i64) (.int .i64)))))))))))))), .one (.sl (.cons (.int .i64) (.cons (.int .i64) (.cons (.int .i64) (.cons (.int .i64) (.cons (.int .i64) (.cons .str (.int .i64))))))))], []⟩, ⟨[.one .bool], []⟩, [(6, law37_DeclrunEmits_F6), (18, law37_DeclrunEmits_F18)]⟩
def law37_DeclrunEmits_l6 (l : (List TEvent)) (i : Int) (h0 : TDecl) : (Option ((Bool × Unit) × Unit)) := law37_DeclrunEmits_D.lab 6 law37_DeclrunEmits_F6 ((l, (), i, ()), (h0, ()))
def law37_DeclrunEmits_l18 (m : (List TEvent)) (i : Int) (h0 : TDecl) : (Option ((Bool × Unit) × Unit)) := law37_DeclrunEmits_D.lab 18 law37_DeclrunEmits_F18 (((), m, i, ()), (h0, ()))
theorem law37_DeclrunEmits_l6_eq (l : (List TEvent)) (i : Int) (h0 : TDecl) : law37_DeclrunEmits_l6 l i h0 =
  if (decide (i < (l.length : Int))) = true then
    if (decide (i > 0)) = true then
      if 0 ≤ i ∧ i < (l.length : Int) then
        if 0 ≤ IntKind.i64.wrap (i - 1) ∧ IntKind.i64.wrap (i - 1) < (l.length : Int) then
          if (decide ((l.getD i.toNat dEvent).2.1 < (l.getD (IntKind.i64.wrap (i - 1)).toNat dEvent).2.2.1)) = true then
            (law37_awake).bind fun y1 =>
              some ((y1.1.1, ()), ())
          else
            if 0 ≤ i ∧ i < (l.length : Int) then
              if 0 ≤ i ∧ i < (l.length : Int) then
                if (decide ((l.getD i.toNat dEvent).2.1 > (l.getD i.toNat dEvent).2.2.1)) = true then
                  (law37_awake).bind fun y2 =>
                    some ((y2.1.1, ()), ())
                else
                  law37_DeclrunEmits_l6 l (IntKind.i64.wrap (i + 1)) h0
              else
                none
            else
              none
        else
          none
      else
        none
    else
      if 0 ≤ i ∧ i < (l.length : Int) then
        if 0 ≤ i ∧ i < (l.length : Int) then
          if (decide ((l.getD i.toNat dEvent).2.1 > (l.getD i.toNat dEvent).2.2.1)) = true then
            (law37_awake).bind fun y3 =>
              some ((y3.1.1, ()), ())
          else
            law37_DeclrunEmits_l6 l (IntKind.i64.wrap (i + 1)) h0
        else
          none
      else
        none
  else
    (declrun_Direct h0 l).bind fun y4 =>
      if (y4.1.2.1 != 0) = true then
        if ((y4.1.1.length : Int) == 0) = true then
          (law37_awake).bind fun y5 =>
            some ((y5.1.1, ()), ())
        else
          some ((false, ()), ())
      else
        law37_DeclrunEmits_l18 y4.1.1 0 h0 := (FD.lab_eq _ _ _ _).trans (by kernel_rfl)
theorem law37_DeclrunEmits_l18_eq (m : (List TEvent)) (i : Int) (h0 : TDecl) : law37_DeclrunEmits_l18 m i h0 =
  if (decide (i < (m.length : Int))) = true then
    if 0 ≤ i ∧ i < (m.length : Int) then
      if ((m.getD i.toNat dEvent).1 != h0.2.2.1) = true then
        some ((false, ()), ())
      else
        if 0 ≤ i ∧ i < (m.length : Int) then
          if (decide (((m.getD i.toNat dEvent).2.2.2.2.2.1.size : Int) > 4096)) = true then
            some ((false, ()), ())
          else
            if 0 ≤ i ∧ i < (m.length : Int) then
              if 0 ≤ i ∧ i < (m.length : Int) then
                if (decide ((m.getD i.toNat dEvent).2.1 > (m.getD i.toNat dEvent).2.2.1)) = true then
                  some ((false, ()), ())
                else
                  if (decide (i > 0)) = true then
                    if 0 ≤ i ∧ i < (m.length : Int) then
                      if 0 ≤ IntKind.i64.wrap (i - 1) ∧ IntKind.i64.wrap (i - 1) < (m.length : Int) then
                        if (decide ((m.getD i.toNat dEvent).2.2.1 < (m.getD (IntKind.i64.wrap (i - 1)).toNat dEvent).2.2.1)) = true then
                          some ((false, ()), ())
                        else
                          law37_DeclrunEmits_l18 m (IntKind.i64.wrap (i + 1)) h0
                      else
                        none
                    else
                      none
                  else
                    law37_DeclrunEmits_l18 m (IntKind.i64.wrap (i + 1)) h0
              else
                none
            else
              none
        else
          none
    else
      none
  else
    (law37_awake).bind fun y1 =>
      some ((y1.1.1, ()), ()) := (FD.lab_eq _ _ _ _).trans (by kernel_rfl)
def law37_DeclrunEmits (d : TDecl) (l : (List TEvent)) : (Option ((Bool × Unit) × Unit)) :=
  (law37_small l).bind fun y1 =>
    if (!y1.1.1) = true then
      (law37_awake).bind fun y2 =>
        some ((y2.1.1, ()), ())
    else
      (law37_brief d).bind fun y3 =>
        if (!y3.1.1) = true then
          (law37_awake).bind fun y4 =>
            some ((y4.1.1, ()), ())
        else
          law37_DeclrunEmits_l6 l 0 d
def fc4 : FC := ⟨⟨[.row (.cons .str (.cons (.int .i64) (.cons (.int .i64) (.sl (.cons .str (.cons (.sl (.cons (.int .i64) (.cons (.int .i64) (.cons .str (.cons .bool (.sl (.cons (.int .i64) (.int .i64)))))))) (.cons .bool (.cons (.int .i64) (.cons (.int .i64) (.cons .str (.cons .bool (.sl (.cons (.int .i64) (.int .i64)))))))))))))), .one (.sl (.cons (.int .i64) (.cons (.int .i64) (.cons (.int .i64) (.cons (.int .i64) (.cons (.int .i64) (.cons .str (.int .i64))))))))], []⟩, ⟨[.one .bool], []⟩, fun x => law37_DeclrunEmits x.1.1 x.1.2.1⟩
theorem con4 : Contract Try.prog 4 fc4 :=
  law37_DeclrunEmits_D.contract tok (cok_of (l := [(7, fc7), (8, fc8), (9, fc9), (11, fc11)]) ⟨con7, con8, con9, con11, trivial⟩) mixed (fn' := Try.f4) (by kernel_rfl) (by kernel_rfl) rfl (by kernel_rfl) (fun x => (FD.fn_eq _ _).trans (by kernel_rfl))
end
end Go.Proofs.Ytgjimkgehbppbab
end

section
/-
Ytgjimkgehbppbab: signalbench.signalbenchlaw37.DeclrunIgnores, as one plain function, its equations, its contract. No condition.
-/
set_option maxRecDepth 100000
set_option linter.unusedVariables false
set_option maxHeartbeats 4000000
open Go Go.AM
namespace Go.Proofs.Ytgjimkgehbppbab
noncomputable section
def law37_DeclrunIgnores_F7 : FSh := ⟨[(1, .one (.sl (.cons (.int .i64) (.cons (.int .i64) (.cons (.int .i64) (.cons (.int .i64) (.cons (.int .i64) (.cons .str (.int .i64))))))))), (3, .one (.ptr 0 0)), (5, .one (.ptr 1 0)), (7, .one (.own 2)), (8, .one (.int .i64))], [.boxr (.cons .str (.cons (.int .i64) (.cons (.int .i64) (.sl (.sl (.cons (.int .i64) (.cons (.int .i64) (.cons (.int .i64) (.sl (.cons (.int .i64) (.int .i64))))))))))), .boxr (.cons (.int .i64) (.cons (.int .i64) (.cons (.int .i64) (.cons (.int .i64) (.cons (.int .i64) (.cons .str (.int .i64))))))), .arr 41 (.cons (.int .i64) (.cons (.int .i64) (.cons (.int .i64) (.cons (.int .i64) (.cons (.int .i64) (.cons .str (.int .i64))))))) true]⟩
def law37_DeclrunIgnores_D : FD := ⟨T, lookC [(7, fc7), (9, fc9), (12, fc12), (13, fc13), (14, fc14)], [], (Try.f5.body.getD .skip), Try.f5.results.toList, ⟨[.row (.cons .str (.cons (.int .i64) (.cons (.int .i64) (.sl (.sl (.cons (.int .i64) (.cons (.int .i64) (.cons (.int .i64) (.sl (.cons (.int .i64) (.int .i64))))))))))), .one (.sl (.cons (.int .i64) (.cons (.int .i64) (.cons (.int .i64) (.cons (.int .i64) (.cons (.int .i64) (.cons .str (.int .i64)))))))), .row (.cons (.int .i64) (.cons (.int .i64) (.cons (.int .i64) (.cons (.int .i64) (.cons (.int .i64) (.cons .str (.int .i64)))))))], []⟩, ⟨[.one .bool], []⟩, [(7, law37_DeclrunIgnores_F7)]⟩
def law37_DeclrunIgnores_l7 (l : (List TEvent)) (i : Int) (h0 : TTable) (h1 : TEvent) (l2 : (List TEvent)) : (Option ((Bool × Unit) × Unit)) := law37_DeclrunIgnores_D.lab 7 law37_DeclrunIgnores_F7 ((l, (), (), (), i, ()), (h0, h1, l2, ()))
theorem law37_DeclrunIgnores_l7_eq (l : (List TEvent)) (i : Int) (h0 : TTable) (h1 : TEvent) (l2 : (List TEvent)) : law37_DeclrunIgnores_l7 l i h0 h1 l2 =
  if (decide (i < (l.length : Int))) = true then
    if 0 ≤ i ∧ i < (l.length : Int) then
      if (l2.length + 2) * 64 ≤ 140737488355328 ∧ 0 < 64 then
        law37_DeclrunIgnores_l7 l (IntKind.i64.wrap (i + 1)) h0 h1 (l2 ++ [h1, (l.getD i.toNat dEvent)])
      else
        none
    else
      none
  else
    if (l2.length + 1) * 64 ≤ 140737488355328 ∧ 0 < 64 then
      (declrun_Decode h0 (l2 ++ [h1])).bind fun y1 =>
        (declrun_Decode h0 l).bind fun y2 =>
          (ref07_Same y1.1.1 y2.1.1).bind fun y3 =>
            if y3.1.1 = true then
              (law37_awake).bind fun y4 =>
                some ((y4.1.1, ()), ())
            else
              some ((false, ()), ())
    else
      none := (FD.lab_eq _ _ _ _).trans (by kernel_rfl)
def law37_DeclrunIgnores (t : TTable) (l : (List TEvent)) (x0 : TEvent) : (Option ((Bool × Unit) × Unit)) :=
  (law37_small l).bind fun y1 =>
    if (!y1.1.1) = true then
      (law37_awake).bind fun y2 =>
        some ((y2.1.1, ()), ())
    else
      (law37_narrow t).bind fun y3 =>
        if (!y3.1.1) = true then
          (law37_awake).bind fun y4 =>
            some ((y4.1.1, ()), ())
        else
          if (decide ((x0.2.2.2.2.2.1.size : Int) > 20)) = true then
            (law37_awake).bind fun y5 =>
              some ((y5.1.1, ()), ())
          else
            if (x0.1 == t.2.1) = true then
              if (decide (x0.2.2.2.1 ≥ 0)) = true then
                if (decide (x0.2.2.2.1 ≤ 255)) = true then
                  if (decide (x0.2.1 ≥ 0)) = true then
                    if (decide (x0.2.1 ≤ x0.2.2.1)) = true then
                      (law37_awake).bind fun y6 =>
                        some ((y6.1.1, ()), ())
                    else
                      law37_DeclrunIgnores_l7 l 0 t x0 []
                  else
                    law37_DeclrunIgnores_l7 l 0 t x0 []
                else
                  law37_DeclrunIgnores_l7 l 0 t x0 []
              else
                law37_DeclrunIgnores_l7 l 0 t x0 []
            else
              law37_DeclrunIgnores_l7 l 0 t x0 []
def fc5 : FC := ⟨⟨[.row (.cons .str (.cons (.int .i64) (.cons (.int .i64) (.sl (.sl (.cons (.int .i64) (.cons (.int .i64) (.cons (.int .i64) (.sl (.cons (.int .i64) (.int .i64))))))))))), .one (.sl (.cons (.int .i64) (.cons (.int .i64) (.cons (.int .i64) (.cons (.int .i64) (.cons (.int .i64) (.cons .str (.int .i64)))))))), .row (.cons (.int .i64) (.cons (.int .i64) (.cons (.int .i64) (.cons (.int .i64) (.cons (.int .i64) (.cons .str (.int .i64)))))))], []⟩, ⟨[.one .bool], []⟩, fun x => law37_DeclrunIgnores x.1.1 x.1.2.1 x.1.2.2.1⟩
theorem con5 : Contract Try.prog 5 fc5 :=
  law37_DeclrunIgnores_D.contract tok (cok_of (l := [(7, fc7), (9, fc9), (12, fc12), (13, fc13), (14, fc14)]) ⟨con7, con9, con12, con13, con14, trivial⟩) mixed (fn' := Try.f5) (by kernel_rfl) (by kernel_rfl) rfl (by kernel_rfl) (fun x => (FD.fn_eq _ _).trans (by kernel_rfl))
end
end Go.Proofs.Ytgjimkgehbppbab
end

section
/-
Ytgjimkgehbppbab: signalbench.signalbenchlaw37.DeclrunDecodes, as one plain function, its equations, its contract. No condition.
-/
set_option maxRecDepth 100000
set_option linter.unusedVariables false
set_option maxHeartbeats 4000000
open Go Go.AM
namespace Go.Proofs.Ytgjimkgehbppbab
noncomputable section
def law37_DeclrunDecodes_F7 : FSh := ⟨[(1, .one (.sl (.cons (.int .i64) (.cons (.int .i64) (.cons (.int .i64) (.cons (.int .i64) (.cons (.int .i64) (.cons .str (.int .i64))))))))), (2, .one (.ptr 0 0)), (5, .one (.ptr 1 0)), (6, .one (.ptr 2 0)), (7, .one (.int .i64))], [.boxr (.cons .str (.cons (.int .i64) (.cons (.int .i64) (.sl (.sl (.cons (.int .i64) (.cons (.int .i64) (.cons (.int .i64) (.sl (.cons (.int .i64) (.int .i64))))))))))), .boxr (.cons (.int .i64) (.cons (.int .i64) (.cons (.int .i64) (.cons (.int .i64) (.cons (.int .i64) (.cons (.int .i64) (.cons (.int .i64) .str))))))), .boxr (.cons (.int .i64) (.cons (.int .i64) (.cons (.int .i64) (.cons (.int .i64) (.cons (.int .i64) (.cons (.int .i64) (.cons (.int .i64) .str)))))))]⟩
def law37_DeclrunDecodes_D : FD := ⟨T, lookC [(7, fc7), (9, fc9), (12, fc12), (13, fc13), (14, fc14), (15, fc15), (16, fc16), (17, fc17), (18, fc18), (19, fc19), (20, fc20), (21, fc21)], [], (Try.f6.body.getD .skip), Try.f6.results.toList, ⟨[.row (.cons .str (.cons (.int .i64) (.cons (.int .i64) (.sl (.sl (.cons (.int .i64) (.cons (.int .i64) (.cons (.int .i64) (.sl (.cons (.int .i64) (.int .i64))))))))))), .one (.sl (.cons (.int .i64) (.cons (.int .i64) (.cons (.int .i64) (.cons (.int .i64) (.cons (.int .i64) (.cons .str (.int .i64))))))))], []⟩, ⟨[.one .bool], []⟩, [(7, law37_DeclrunDecodes_F7)]⟩
def law37_DeclrunDecodes_l7 (l : (List TEvent)) (i : Int) (h0 : TTable) (h1 : TState) (h2 : TState) : (Option ((Bool × Unit) × Unit)) := law37_DeclrunDecodes_D.lab 7 law37_DeclrunDecodes_F7 ((l, (), (), (), i, ()), (h0, h1, h2, ()))
theorem law37_DeclrunDecodes_l7_eq (l : (List TEvent)) (i : Int) (h0 : TTable) (h1 : TState) (h2 : TState) : law37_DeclrunDecodes_l7 l i h0 h1 h2 =
  if (decide (i < (l.length : Int))) = true then
    if 0 ≤ i ∧ i < (l.length : Int) then
      (declrun_Step h0 h1 (l.getD i.toNat dEvent)).bind fun y1 =>
        if 0 ≤ i ∧ i < (l.length : Int) then
          (ref37_Step h0 h2 (l.getD i.toNat dEvent)).bind fun y2 =>
            (ref07_Same y1.1.2.1 y2.1.2.1).bind fun y3 =>
              if (!y3.1.1) = true then
                some ((false, ()), ())
              else
                law37_DeclrunDecodes_l7 l (IntKind.i64.wrap (i + 1)) h0 y1.1.1 y2.1.1
        else
          none
    else
      none
  else
    (declrun_End h0 h1).bind fun y4 =>
      (ref37_End h0 h2).bind fun y5 =>
        (ref07_Same y4.1.1 y5.1.1).bind fun y6 =>
          if y6.1.1 = true then
            (declrun_Decode h0 l).bind fun y7 =>
              (ref37_Decode h0 l).bind fun y8 =>
                (ref07_Same y7.1.1 y8.1.1).bind fun y9 =>
                  if y9.1.1 = true then
                    (law37_awake).bind fun y10 =>
                      some ((y10.1.1, ()), ())
                  else
                    some ((false, ()), ())
          else
            some ((false, ()), ()) := (FD.lab_eq _ _ _ _).trans (by kernel_rfl)
def law37_DeclrunDecodes (t : TTable) (l : (List TEvent)) : (Option ((Bool × Unit) × Unit)) :=
  (law37_small l).bind fun y1 =>
    if (!y1.1.1) = true then
      (law37_awake).bind fun y2 =>
        some ((y2.1.1, ()), ())
    else
      (law37_narrow t).bind fun y3 =>
        if (!y3.1.1) = true then
          (law37_awake).bind fun y4 =>
            some ((y4.1.1, ()), ())
        else
          (declrun_Start t).bind fun y5 =>
            (ref37_Start t).bind fun y6 =>
              law37_DeclrunDecodes_l7 l 0 t y5.1.1 y6.1.1
def fc6 : FC := ⟨⟨[.row (.cons .str (.cons (.int .i64) (.cons (.int .i64) (.sl (.sl (.cons (.int .i64) (.cons (.int .i64) (.cons (.int .i64) (.sl (.cons (.int .i64) (.int .i64))))))))))), .one (.sl (.cons (.int .i64) (.cons (.int .i64) (.cons (.int .i64) (.cons (.int .i64) (.cons (.int .i64) (.cons .str (.int .i64))))))))], []⟩, ⟨[.one .bool], []⟩, fun x => law37_DeclrunDecodes x.1.1 x.1.2.1⟩
theorem con6 : Contract Try.prog 6 fc6 :=
  law37_DeclrunDecodes_D.contract tok (cok_of (l := [(7, fc7), (9, fc9), (12, fc12), (13, fc13), (14, fc14), (15, fc15), (16, fc16), (17, fc17), (18, fc18), (19, fc19), (20, fc20), (21, fc21)]) ⟨con7, con9, con12, con13, con14, con15, con16, con17, con18, con19, con20, con21, trivial⟩) mixed (fn' := Try.f6) (by kernel_rfl) (by kernel_rfl) rfl (by kernel_rfl) (fun x => (FD.fn_eq _ _).trans (by kernel_rfl))
end
end Go.Proofs.Ytgjimkgehbppbab
end

section
/-
Ytgjimkgehbppbab: declrun's actions and steps, as plain functions, come to what the plain law says. No condition.
-/
set_option maxRecDepth 100000
set_option linter.unusedVariables false
open Go Go.AM
namespace Go.Proofs.Ytgjimkgehbppbab

abbrev TW : Type := Int × Int × Int × Int × Int × Int × Int × ByteArray × Int × Int × Int × Int × Int × ByteArray × Int × Int × Unit × Unit

def packW (p at_ q a1 a2 pr : Int) (c : Core) (e : EvT) (o : Int) : TW :=
  (p, at_, c.2, q, a1, a2, pr, c.1, e.1, e.2.1, e.2.2.1, e.2.2.2.1, e.2.2.2.2.1, e.2.2.2.2.2.1, e.2.2.2.2.2.2, o, (), ())

def resW (p at_ q a1 a2 pr : Int) (c : Core) (e : EvT) (o : Int) (out : List EvT) : Option ((TW × Unit) × (Unit × List EvT × Unit)) :=
  some ((packW p at_ q a1 a2 pr c e o, ()), ((), out, ()))

section
variable (p at_ q a1 a2 pr : Int) (c : Core) (e : EvT) (o : Int) (out : List EvT)

theorem wdrop_eq : declrun_drop p at_ c.2 q a1 a2 pr c.1 e.1 e.2.1 e.2.2.1 e.2.2.2.1 e.2.2.2.2.1 e.2.2.2.2.2.1 e.2.2.2.2.2.2 o out = resW p at_ q a1 a2 pr core0 e o out := rfl

theorem wcollect_eq (b : Int) (hs : c.1.size ≤ 4096) : declrun_collect p at_ c.2 q a1 a2 pr c.1 e.1 e.2.1 e.2.2.1 e.2.2.2.1 e.2.2.2.2.1 e.2.2.2.2.2.1 e.2.2.2.2.2.2 o b out = resW p at_ q a1 a2 pr (colC e b c) e o out := by
  unfold declrun_collect colC
  have h1 : (strOfBytes [IntKind.u8.wrap b]).size = 1 := rfl
  by_cases h : 4096 ≤ c.1.size
  · rw [if_pos (dT (show (c.1.size : Int) ≥ 4096 by omega)), if_pos h]; rfl
  · rw [if_neg (dF (show ¬ (c.1.size : Int) ≥ 4096 by omega)), if_neg h]
    unfold fromC emptyB
    by_cases h2 : (c.1.toList == (strB []).toList) = true
    · rw [if_pos h2, if_pos h2, declrun_collect_l4_eq, if_pos (by omega)]; rfl
    · rw [if_neg h2, if_neg h2, declrun_collect_l4_eq, if_pos (by omega)]; rfl

theorem wtell_eq (v f : Int) (ho : out.length ≤ 1099511627776) : declrun_tell p at_ c.2 q a1 a2 pr c.1 e.1 e.2.1 e.2.2.1 e.2.2.2.1 e.2.2.2.2.1 e.2.2.2.2.2.1 e.2.2.2.2.2.2 o v f out = resW p at_ q a1 a2 pr core0 e o (out ++ [evC o e v f c]) := by
  unfold declrun_tell evC fromC emptyB
  by_cases h2 : (c.1.toList == (strB []).toList) = true
  · rw [if_pos h2, if_neg (show ¬ (!(c.1.toList == (strB []).toList)) = true by rw [h2]; simp), declrun_tell_l2_eq, if_pos (by omega)]; rfl
  · rw [if_neg h2, if_pos (show (!(c.1.toList == (strB []).toList)) = true by simpa using h2), declrun_tell_l2_eq, if_pos (by omega)]; rfl

theorem doact_eq (a : ActT) (l : List ActT) (n k : Nat) (hk : k < l.length) (hn : l.length = n) (hk2 : k + 1 < 9223372036854775808) (ha : l.getD (k : Int).toNat dAct = a) (hs : c.1.size ≤ 4096) (ho : out.length ≤ 1099511627776) :
    declrun_do_l4 l (l.length : Int) k p at_ c.2 q a1 a2 pr c.1 e.1 e.2.1 e.2.2.1 e.2.2.2.1 e.2.2.2.2.1 e.2.2.2.2.2.1 e.2.2.2.2.2.2 o 0 0 0 0 0 0 0 (strB []) 0 0 0 0 0 (strB []) 0 0 out [] =
    declrun_do_l4 l (l.length : Int) (k + 1 : Nat) p at_ (actC o e c a).1.2 q a1 a2 pr (actC o e c a).1.1 e.1 e.2.1 e.2.2.1 e.2.2.2.1 e.2.2.2.2.1 e.2.2.2.2.2.1 e.2.2.2.2.2.2 o 0 0 0 0 0 0 0 (strB []) 0 0 0 0 0 (strB []) 0 0 (out ++ (actC o e c a).2) [] := by
  rw [declrun_do_l4_eq, if_pos (dT (by omega)), if_pos ⟨by omega, by omega⟩, ha, w64a k (by omega)]
  unfold actC
  by_cases h1 : a.1 = 1
  · rw [if_pos h1]
    refine (if_pos (eT h1)).trans ?_
    unfold declrun_all_1
    rw [wdrop_eq]
    simp [resW, packW]
  rw [if_neg h1]
  refine (if_neg (eF h1)).trans ?_
  by_cases h2 : a.1 = 2
  · rw [if_pos h2]
    refine (if_pos (eT h2)).trans ?_
    unfold declrun_all_2
    rw [wcollect_eq _ _ _ _ _ _ _ _ _ _ _ hs]
    simp [resW, packW]
  rw [if_neg h2]
  refine (if_neg (eF h2)).trans ?_
  by_cases h3 : a.1 = 3
  · rw [if_pos h3]
    refine (if_pos (eT h3)).trans ?_
    unfold declrun_all_3
    rw [wcollect_eq _ _ _ _ _ _ _ _ _ _ _ hs]
    simp [resW, packW, xorI]
  rw [if_neg h3]
  refine (if_neg (eF h3)).trans ?_
  by_cases h4 : a.1 = 4
  · rw [if_pos h4]
    refine (if_pos (eT h4)).trans ?_
    rw [wcollect_eq _ _ _ _ _ _ _ _ _ _ _ hs]
    simp [resW, packW]
  rw [if_neg h4]
  refine (if_neg (eF h4)).trans ?_
  by_cases h5 : a.1 = 5
  · rw [if_pos h5]
    refine (if_pos (eT h5)).trans ?_
    unfold declrun_all_4
    rw [wtell_eq _ _ _ _ _ _ _ _ _ _ _ _ ho]
    simp [resW, packW]
  rw [if_neg h5]
  refine (if_neg (eF h5)).trans ?_
  by_cases h6 : a.1 = 6
  · rw [if_pos h6]
    refine (if_pos (eT h6)).trans ?_
    unfold declrun_all_5
    rw [wtell_eq _ _ _ _ _ _ _ _ _ _ _ _ ho]
    simp [resW, packW]
  rw [if_neg h6]
  refine (if_neg (eF h6)).trans ?_
  simp

end

theorem do_loop (p at_ q a1 a2 pr : Int) (e : EvT) (o : Int) (l : List ActT) (hl : l.length ≤ 1073741824) : ∀ (r : List ActT) (k : Nat) (c : Core) (out : List EvT), l.drop k = r → c.1.size ≤ 4096 → out.length + r.length ≤ 1099511627776 →
    declrun_do_l4 l (l.length : Int) k p at_ c.2 q a1 a2 pr c.1 e.1 e.2.1 e.2.2.1 e.2.2.2.1 e.2.2.2.2.1 e.2.2.2.2.2.1 e.2.2.2.2.2.2 o 0 0 0 0 0 0 0 (strB []) 0 0 0 0 0 (strB []) 0 0 out [] =
    resW p at_ q a1 a2 pr (doC o e c r).1 e o (out ++ (doC o e c r).2)
  | [], k, c, out, h, hs, ho => by
    have := drop_nil h
    rw [declrun_do_l4_eq, if_neg (dF (by omega))]
    simp [doC, resW, packW]
  | a :: r, k, c, out, h, hs, ho => by
    have h1 := drop_lt h
    have hr : l.getD (k : Int).toNat dAct = a := getD_drop h
    have hlen := actC_len o e c a
    simp only [List.length_cons] at ho
    rw [doact_eq p at_ q a1 a2 pr c e o out a l l.length k h1 rfl (by omega) hr hs (by omega),
      do_loop p at_ q a1 a2 pr e o l hl r (k + 1) (actC o e c a).1 (out ++ (actC o e c a).2) (dropS h) (actC_size o e c a hs) (by rw [List.length_append]; omega)]
    simp [doC, List.append_assoc]

theorem do_eq (p at_ q a1 a2 pr : Int) (c : Core) (e : EvT) (o : Int) (out : List EvT) (l : List ActT) (hl : l.length ≤ 1073741824) (hs : c.1.size ≤ 4096) (ho : out.length ≤ 1073741824) :
    declrun_do p at_ c.2 q a1 a2 pr c.1 e.1 e.2.1 e.2.2.1 e.2.2.2.1 e.2.2.2.2.1 e.2.2.2.2.2.1 e.2.2.2.2.2.2 o l out = resW p at_ q a1 a2 pr (doC o e c l).1 e o (out ++ (doC o e c l).2) := by
  unfold declrun_do declrun_all
  simp only [Option.bind_some]
  exact do_loop p at_ q a1 a2 pr e o l hl l 0 c out rfl hs (by omega)

theorem waborted_eq (o : Int) (p at_ q a1 a2 pr : Int) (c : Core) (t : Int) : declrun_aborted o (p, at_, c.2, q, a1, a2, pr, c.1) t = some ((abortC o c t, ()), ()) := by
  unfold declrun_aborted abortC emptyB
  by_cases h : (c.1.toList == (strB []).toList) = true
  · exact (if_pos h).trans (by rw [if_pos h])
  · exact (if_neg h).trans (by rw [if_neg h])

theorem ev6 (t : Bool) (e : EvT) : event_Valid_l6 t e = some (((!t && decide ((e.2.2.2.2.2.1.size : Int) ≤ 4096 ∧ 0 ≤ e.2.2.2.2.2.2 ∧ e.2.2.2.2.2.2 ≤ 12)), ()), ()) := by
  rw [event_Valid_l6_eq]
  cases t with
  | true => rfl
  | false =>
    refine (if_neg (by simp)).trans ?_
    by_cases ha : (e.2.2.2.2.2.1.size : Int) ≤ 4096
    · rw [if_pos (dT ha)]
      by_cases hb : e.2.2.2.2.2.2 ≥ 0
      · rw [if_pos (dT hb), event_Valid_l8_eq]
        have hb' : 0 ≤ e.2.2.2.2.2.2 := hb
        simp only [ha, hb', true_and, Bool.not_false, Bool.true_and]
      · rw [if_neg (dF hb), event_Valid_l8_eq]
        have hb' : ¬ 0 ≤ e.2.2.2.2.2.2 := hb
        simp only [ha, hb', true_and, false_and, Bool.not_false, Bool.true_and, decide_false]
    · rw [if_neg (dF ha), event_Valid_l8_eq]
      simp only [ha, false_and, Bool.not_false, Bool.true_and, decide_false]

theorem ev4 (t : Bool) (e : EvT) : event_Valid_l4 t e = some (((!t && (if e.2.2.2.1 < -9007199254740992 ∨ 9007199254740992 < e.2.2.2.1 ∨ e.2.2.2.2.1 < -9007199254740992 ∨ 9007199254740992 < e.2.2.2.2.1 then false else decide ((e.2.2.2.2.2.1.size : Int) ≤ 4096 ∧ 0 ≤ e.2.2.2.2.2.2 ∧ e.2.2.2.2.2.2 ≤ 12))), ()), ()) := by
  rw [event_Valid_l4_eq]
  cases t with
  | true => rfl
  | false =>
    refine (if_neg (by simp)).trans ?_
    by_cases h6 : e.2.2.2.1 < -9007199254740992
    · rw [if_pos (dT h6), if_pos (.inl h6), ev6]; rfl
    rw [if_neg (dF h6)]
    by_cases h7 : e.2.2.2.1 > 9007199254740992
    · rw [if_pos (dT h7), if_pos (.inr (.inl h7)), ev6]; rfl
    rw [if_neg (dF h7)]
    by_cases h8 : e.2.2.2.2.1 < -9007199254740992
    · rw [if_pos (dT h8), if_pos (.inr (.inr (.inl h8))), ev6]; rfl
    rw [if_neg (dF h8), ev6]
    by_cases h9 : e.2.2.2.2.1 > 9007199254740992
    · rw [if_pos (.inr (.inr (.inr h9))), dT h9]; rfl
    · rw [if_neg (by omega), show decide (e.2.2.2.2.1 > 9007199254740992) = false by simpa using h9]

theorem wevalid_eq (e : EvT) : event_Valid e = some ((validV e, ()), ()) := by
  unfold event_Valid validV
  by_cases h1 : e.1 < 1
  · rw [if_pos (dT h1), if_pos (.inl h1)]
  rw [if_neg (dF h1)]
  by_cases h2 : e.1 > 8
  · rw [if_pos (dT h2), if_pos (.inr h2)]
  rw [if_neg (dF h2), if_neg (show ¬ (e.1 < 1 ∨ 8 < e.1) by omega)]
  by_cases h3 : e.2.1 < 0
  · rw [if_pos (dT h3), if_pos (.inl h3), ev4]; rfl
  rw [if_neg (dF h3)]
  by_cases h4 : e.2.1 > e.2.2.1
  · rw [if_pos (dT h4), if_pos (.inr (.inl h4)), ev4]; rfl
  rw [if_neg (dF h4), ev4]
  by_cases h5 : e.2.2.1 > 1099511627776
  · rw [if_pos (show e.2.1 < 0 ∨ e.2.2.1 < e.2.1 ∨ 1099511627776 < e.2.2.1 from .inr (.inr h5)), dT h5]; rfl
  rw [if_neg (show ¬ (e.2.1 < 0 ∨ e.2.2.1 < e.2.1 ∨ 1099511627776 < e.2.2.1) by omega), show decide (e.2.2.1 > 1099511627776) = false by simpa using h5]
  simp only [Bool.not_false, Bool.true_and]

theorem waccepts_eq (input : Int) (s : Sig) (q a1 a2 : Int) (e : EvT) : declrun_accepts input (s.ph, s.last, s.c.2, q, a1, a2, s.prev, s.c.1) e = some ((accV input s e, ()), ()) := by
  have key : ∀ most : Int, declrun_accepts_l2 input most (s.ph, s.last, s.c.2, q, a1, a2, s.prev, s.c.1) e =
      some ((validV e && decide (e.1 = input) && decide (0 ≤ e.2.2.2.1) && decide (e.2.2.2.1 ≤ most) && (decide (s.ph = 0) || decide (s.prev ≤ e.2.1)), ()), ()) := by
    intro most
    rw [declrun_accepts_l2_eq, wevalid_eq]
    simp only [Option.bind_some]
    cases validV e with
    | false => simp
    | true =>
      by_cases h1 : e.1 = input
      · by_cases h2 : e.2.2.2.1 ≥ 0
        · by_cases h3 : e.2.2.2.1 ≤ most
          · by_cases h4 : s.ph = 0
            · simp [h1, h2, h3, h4]
            · simp [h1, h2, h3, h4]
          · simp [h1, h2, h3]
        · simp [h1, h2]
      · simp [h1]
  unfold declrun_accepts accV topI
  by_cases h : input = 2
  · rw [if_pos (eT h), key]; simp [h]
  · rw [if_neg (eF h), key]; simp [h]

end Go.Proofs.Ytgjimkgehbppbab
end

section
/-
Ytgjimkgehbppbab: tables: the cell for a symbol, the size, the error. No condition.
-/
set_option maxRecDepth 100000
open Go Go.AM
namespace Go.Proofs.Ytgjimkgehbppbab

theorem next_loop (x : Int) (cs : List TCell) (h : okRow cs) : ∀ (r : List TCell) (k : Nat), cs.drop k = r →
    decltab_Next_l6 x cs (cs.length : Int) k = some (((cellAt x r).1, (cellAt x r).2.1, (cellAt x r).2.2, ()), ()) := by
  obtain ⟨hl, ho⟩ := h
  intro r
  induction r with
  | nil =>
    intro k hk
    have := drop_nil hk
    rw [decltab_Next_l6_eq, if_neg (dF (by omega))]
    rfl
  | cons c r ih =>
    intro k hk
    have h1 := drop_lt hk
    have hr : cs.getD (k : Int).toNat dCell = c := getD_drop hk
    have hc := ho c (mem_drop hk)
    unfold okCell at hc
    rw [decltab_Next_l6_eq, if_pos (dT (by omega)), if_pos ⟨by omega, by omega⟩, hr, w64a k (by omega), ih (k + 1) (dropS hk)]
    unfold cellAt
    rw [List.find?_cons]
    by_cases ha : c.1 ≤ x
    · rw [if_pos (dT ha)]
      by_cases hb : x ≤ c.2.1
      · rw [if_pos (dT hb), hitC_iff.2 ⟨ha, hb⟩, if_pos ⟨by omega, by omega⟩]
      · rw [if_neg (dF hb), show hitC x c = false from Bool.eq_false_iff.2 fun q => hb (hitC_iff.1 q).2]
    · rw [if_neg (dF ha), show hitC x c = false from Bool.eq_false_iff.2 fun q => ha (hitC_iff.1 q).1]

theorem next_eq (t : TTable) (i x : Int) (h : okTable t) : decltab_Next t i x = some (((nextV t.2.2.2 i x).1, (nextV t.2.2.2 i x).2.1, (nextV t.2.2.2 i x).2.2, ()), ()) := by
  unfold decltab_Next nextV
  by_cases h0 : i < 0
  · rw [if_pos (dT h0), if_pos h0]
  · rw [if_neg (dF h0), if_neg h0]
    by_cases h1 : i < (t.2.2.2.length : Int)
    · have h2 : i.toNat < t.2.2.2.length := by omega
      rw [if_neg (dF (by omega)), if_pos ⟨by omega, h1⟩, getD_in _ h2, List.getElem?_eq_getElem h2]
      exact next_loop x _ (h.2 _ (List.getElem_mem h2)) _ 0 rfl
    · rw [if_pos (dT (by omega)), List.getElem?_eq_none (by omega)]

theorem rnext_loop (t : TTable) (i : Nat) (x : Int) (hi : i < t.2.2.2.length) (h : okRow t.2.2.2[i]) : ∀ (r : List TCell) (k : Nat), t.2.2.2[i].drop k = r →
    ref36_Next_l6 i x k t = some (((cellAt x r).1, (cellAt x r).2.1, (cellAt x r).2.2, ()), ()) := by
  obtain ⟨hl, ho⟩ := h
  have hin : (0 : Int) ≤ i ∧ (i : Int) < (t.2.2.2.length : Int) := ⟨by omega, by omega⟩
  have hg : t.2.2.2.getD (i : Int).toNat [] = t.2.2.2[i] := getD_in _ hi
  intro r
  induction r with
  | nil =>
    intro k hk
    have := drop_nil hk
    rw [ref36_Next_l6_eq, if_pos hin, hg, if_neg (dF (by omega))]
    rfl
  | cons c r ih =>
    intro k hk
    have h1 := drop_lt hk
    have hr : t.2.2.2[i].getD (k : Int).toNat dCell = c := getD_drop hk
    have hc := ho c (mem_drop hk)
    unfold okCell at hc
    rw [ref36_Next_l6_eq, if_pos hin, hg, if_pos (dT (by omega)), if_pos hin, if_pos ⟨by omega, by omega⟩, hr, w64a k (by omega), ih (k + 1) (dropS hk)]
    unfold cellAt
    rw [List.find?_cons]
    by_cases ha : c.1 ≤ x
    · rw [if_pos (dT ha)]
      by_cases hb : x ≤ c.2.1
      · rw [if_pos (dT hb), hitC_iff.2 ⟨ha, hb⟩, if_pos ⟨by omega, by omega⟩]
      · rw [if_neg (dF hb), show hitC x c = false from Bool.eq_false_iff.2 fun q => hb (hitC_iff.1 q).2]
    · rw [if_neg (dF ha), show hitC x c = false from Bool.eq_false_iff.2 fun q => ha (hitC_iff.1 q).1]

theorem rnext_eq (t : TTable) (i x : Int) (h : okTable t) : ref36_Next t i x = some (((nextV t.2.2.2 i x).1, (nextV t.2.2.2 i x).2.1, (nextV t.2.2.2 i x).2.2, ()), ()) := by
  unfold ref36_Next nextV
  by_cases h0 : i < 0
  · rw [if_pos (dT h0), if_pos h0]
  · rw [if_neg (dF h0), if_neg h0]
    by_cases h1 : i < (t.2.2.2.length : Int)
    · obtain ⟨j, rfl⟩ : ∃ j : Nat, i = j := ⟨i.toNat, by omega⟩
      have h2 : j < t.2.2.2.length := by omega
      rw [if_neg (dF (by omega)), show t.2.2.2[(j : Int).toNat]? = some t.2.2.2[j] from List.getElem?_eq_getElem h2]
      exact rnext_loop t j x h2 (h.2 _ (List.getElem_mem h2)) _ 0 rfl
    · rw [if_pos (dT (by omega)), List.getElem?_eq_none (by omega)]

theorem size_bound (rows : List (List TCell)) (h : ∀ cs ∈ rows, cs.length ≤ 1048576) : (rows.map List.length).sum ≤ rows.length * 1048576 := by
  induction rows with
  | nil => simp
  | cons cs r ih =>
    have h1 := h cs (by simp)
    have h2 := ih (fun c hc => h c (by simp [hc]))
    simp only [List.map_cons, List.sum_cons, List.length_cons]
    omega

end Go.Proofs.Ytgjimkgehbppbab
end

section
/-
Ytgjimkgehbppbab: names. No condition.
-/
set_option maxRecDepth 100000
open Go Go.AM
namespace Go.Proofs.Ytgjimkgehbppbab

theorem ref05_letter_b (c : UInt8) : ref05_letter c.toNat = some ((letterB c, ()), ()) := by
  unfold ref05_letter letterB
  by_cases h : 97 ≤ c.toNat
  · rw [if_pos (decide_eq_true (by omega)), decide_eq_true h, Bool.true_and]
    by_cases h2 : c.toNat ≤ 122
    · rw [decide_eq_true h2, decide_eq_true (by omega)]
    · rw [decide_eq_false h2, decide_eq_false (by omega)]
  · rw [if_neg (dF (by omega)), decide_eq_false h, Bool.false_and]

theorem ref05_digit_b (c : UInt8) : ref05_digit c.toNat = some ((digitB c, ()), ()) := by
  unfold ref05_digit digitB
  by_cases h : 48 ≤ c.toNat
  · rw [if_pos (decide_eq_true (by omega)), decide_eq_true h, Bool.true_and]
    by_cases h2 : c.toNat ≤ 57
    · rw [decide_eq_true h2, decide_eq_true (by omega)]
    · rw [decide_eq_false h2, decide_eq_false (by omega)]
  · rw [if_neg (dF (by omega)), decide_eq_false h, Bool.false_and]

theorem int_beq (c d : UInt8) : ((c.toNat : Int) == (d.toNat : Int)) = (c == d) := by
  rw [Bool.eq_iff_iff, beq_iff_eq, beq_iff_eq, u8_eq]

theorem ref05_inner_b (c : UInt8) : ref05_inner c.toNat = some ((wordB c, ()), ()) := by
  unfold ref05_inner wordB
  rw [ref05_letter_b, ref05_digit_b]
  have := int_beq c 95
  cases letterB c <;> cases digitB c <;> simp <;> exact this

theorem ref05_Name_loop (s : ByteArray) (hs : s.size ≤ 4611686018427387904) : ∀ (r : List UInt8) (n : Nat), (L s).drop n = r → ref05_Name_l6 s n = some ((r.all wordB, ()), ())
  | [], n, h => by
    have := drop_nil h
    rw [L_len] at this
    rw [ref05_Name_l6_eq, if_neg (dF (by omega))]
    rfl
  | c :: r, n, h => by
    have h1 := drop_lt h
    rw [L_len] at h1
    rw [ref05_Name_l6_eq, if_pos (decide_eq_true (by omega)), if_pos ⟨by omega, by omega⟩, bt_drop h, ref05_inner_b]
    simp only [Option.bind_some, List.all_cons]
    cases hw : wordB c
    · rfl
    · simp only [Bool.not_true, Bool.false_eq_true, if_false, Bool.true_and]
      rw [w64 (by omega) (by omega)]
      exact ref05_Name_loop s hs r (n + 1) (drop_succ h)

theorem ref05_Name_b (s : ByteArray) : ref05_Name s = some ((nameB (L s), ()), ()) := by
  unfold ref05_Name
  have hl := L_len s
  cases hL : L s with
  | nil =>
    rw [hL] at hl
    simp only [List.length_nil] at hl
    rw [if_pos (decide_eq_true (by omega))]; rfl
  | cons c r =>
    rw [hL] at hl
    simp only [List.length_cons] at hl
    rw [if_neg (dF (by omega))]
    rw [nameB_cons]
    by_cases h : s.size ≤ 16
    · rw [if_neg (dF (by omega)), if_pos ⟨by omega, by omega⟩, bt_cons hL, ref05_letter_b, decide_eq_true (by omega : r.length + 1 ≤ 16)]
      simp only [Option.bind_some, Bool.true_and]
      cases letterB c
      · rfl
      · simp only [Bool.not_true, Bool.false_eq_true, if_false, Bool.true_and]
        exact ref05_Name_loop s (by omega) (c :: r) 0 (by rw [hL]; rfl)
    · rw [if_pos (decide_eq_true (by omega)), decide_eq_false (by omega : ¬ r.length + 1 ≤ 16)]
      rfl

end Go.Proofs.Ytgjimkgehbppbab
end

section
/-
Ytgjimkgehbppbab: names, as the program reads them. No condition.
-/
set_option maxRecDepth 100000
open Go Go.AM
namespace Go.Proofs.Ytgjimkgehbppbab

theorem lex_letter_b (c : UInt8) : lex_letter c.toNat = some ((letterB c, ()), ()) := by
  unfold lex_letter letterB
  by_cases h : 97 ≤ c.toNat
  · rw [if_pos (decide_eq_true (by omega)), decide_eq_true h, Bool.true_and]
    by_cases h2 : c.toNat ≤ 122
    · rw [decide_eq_true h2, decide_eq_true (by omega)]
    · rw [decide_eq_false h2, decide_eq_false (by omega)]
  · rw [if_neg (dF (by omega)), decide_eq_false h, Bool.false_and]

theorem lex_digit_b (c : UInt8) : lex_digit c.toNat = some ((digitB c, ()), ()) := by
  unfold lex_digit digitB
  by_cases h : 48 ≤ c.toNat
  · rw [if_pos (decide_eq_true (by omega)), decide_eq_true h, Bool.true_and]
    by_cases h2 : c.toNat ≤ 57
    · rw [decide_eq_true h2, decide_eq_true (by omega)]
    · rw [decide_eq_false h2, decide_eq_false (by omega)]
  · rw [if_neg (dF (by omega)), decide_eq_false h, Bool.false_and]

theorem lex_word_b (c : UInt8) : lex_word c.toNat = some ((wordB c, ()), ()) := by
  unfold lex_word wordB
  rw [lex_letter_b, lex_digit_b]
  have := int_beq c 95
  cases letterB c <;> cases digitB c <;> simp <;> exact this

theorem lex_Name_loop (s : ByteArray) (hs : s.size ≤ 4611686018427387904) : ∀ (r : List UInt8) (n : Nat), (L s).drop n = r → lex_Name_l6 s s.size n = some ((r.all wordB, ()), ())
  | [], n, h => by
    have := drop_nil h
    rw [L_len] at this
    rw [lex_Name_l6_eq, if_neg (dF (by omega))]
    rfl
  | c :: r, n, h => by
    have h1 := drop_lt h
    rw [L_len] at h1
    rw [lex_Name_l6_eq, if_pos (decide_eq_true (by omega)), if_pos ⟨by omega, by omega⟩, bt_drop h, w32c, lex_word_b]
    simp only [Option.bind_some, List.all_cons]
    cases hw : wordB c
    · rfl
    · simp only [Bool.not_true, Bool.false_eq_true, if_false, Bool.true_and]
      rw [w64 (by omega) (by omega)]
      exact lex_Name_loop s hs r (n + 1) (drop_succ h)

theorem lex_Name_b (s : ByteArray) : lex_Name s = some ((nameB (L s), ()), ()) := by
  unfold lex_Name
  have hl := L_len s
  cases hL : L s with
  | nil => rw [if_pos (by rw [toL, toL, hL, L_strB]; rfl)]; rfl
  | cons c r =>
    rw [hL] at hl
    simp only [List.length_cons] at hl
    rw [if_neg (by rw [toL, toL, hL, L_strB]; simp)]
    rw [nameB_cons]
    by_cases h : s.size ≤ 16
    · rw [if_neg (dF (by omega)), if_pos ⟨by omega, by omega⟩, bt_cons hL, w32c, lex_letter_b, decide_eq_true (by omega : r.length + 1 ≤ 16)]
      simp only [Option.bind_some, Bool.true_and]
      cases letterB c
      · rfl
      · simp only [Bool.not_true, Bool.false_eq_true, if_false, Bool.true_and]
        exact lex_Name_loop s (by omega) (c :: r) 0 (by rw [hL]; rfl)
    · rw [if_pos (decide_eq_true (by omega)), decide_eq_false (by omega : ¬ r.length + 1 ≤ 16)]
      rfl


end Go.Proofs.Ytgjimkgehbppbab
end

section
/-
Ytgjimkgehbppbab: the error of a table. No condition.
-/
set_option maxRecDepth 100000
open Go Go.AM
namespace Go.Proofs.Ytgjimkgehbppbab

theorem topI_le (p : Int) : topI p ≤ 255 := by unfold topI; split <;> omega
theorem ttop_eq (p : Int) : decltab_top p = some (((topI p : Int), ()), ()) := by
  unfold decltab_top topI
  by_cases h : p = 2
  · rw [if_pos (eT h), if_pos h]; rfl
  · rw [if_neg (eF h), if_neg h]; rfl
theorem rttop_eq (p : Int) : ref36_top p = some (((topI p : Int), ()), ()) := by
  unfold ref36_top topI
  by_cases h : p = 2
  · rw [if_pos (eT h), if_pos h]; rfl
  · rw [if_neg (eF h), if_neg h]; rfl

theorem tact_eq (a : TAct) : decltab_act a = some ((decide (actV a = 0), ()), ()) := by
  obtain ⟨p, q⟩ := a
  unfold decltab_act actV
  simp only [decide_eq_true_eq, bne_iff_ne, ne_eq]
  by_cases l1 : p < 1
  · rw [if_pos l1, if_neg (by omega), if_neg (by omega), if_neg (by omega)]; rfl
  rw [if_neg l1]
  by_cases l2 : p > 6
  · rw [if_pos l2, if_neg (by omega), if_neg (by omega), if_neg (by omega)]; rfl
  rw [if_neg l2]
  by_cases m1 : q < 0
  · rw [if_pos m1]
    split
    · rw [if_neg (by omega)]; rfl
    · split
      · rw [if_neg (by omega)]; rfl
      · split
        · rw [if_neg (by omega)]; rfl
        · rfl
  rw [if_neg m1]
  by_cases m2 : q > 255
  · rw [if_pos m2]
    split
    · rw [if_neg (by omega)]; rfl
    · split
      · rw [if_neg (by omega)]; rfl
      · split
        · rw [if_neg (by omega)]; rfl
        · rfl
  rw [if_neg m2]
  by_cases l3 : p ≤ 2
  · rw [if_pos l3, if_pos (show p = 1 ∨ p = 2 by omega)]
    by_cases hq : q = 0
    · rw [if_neg (by simpa using hq), if_pos (by omega), if_pos hq]; rfl
    · rw [if_pos hq, if_neg hq]; rfl
  · rw [if_neg l3, if_neg (show ¬ (p = 1 ∨ p = 2) by omega)]
    by_cases l5 : p = 6
    · rw [if_neg (by omega), if_neg (show ¬ (p = 3 ∨ p = 4 ∨ p = 5) by omega), if_pos l5]
      by_cases a1 : q ≥ 1
      · rw [if_pos a1]
        by_cases a2 : q ≤ 12
        · rw [if_pos ⟨a1, a2⟩, decide_eq_true a2]; rfl
        · rw [if_neg (by omega), decide_eq_false a2]; rfl
      · rw [if_neg a1, if_neg (by omega)]; rfl
    · rw [if_pos l5, if_pos (show p = 3 ∨ p = 4 ∨ p = 5 by omega), if_pos (by omega)]; rfl

theorem rtact_eq (a : TAct) : ref36_act a = some ((decide (actV a = 0), ()), ()) := by
  obtain ⟨p, q⟩ := a
  unfold ref36_act actV
  simp only [ref36_act_l3_eq, ref36_act_l6_eq]
  have big : (if q ≥ 0 then some ((decide (q ≤ 255), ()), ()) else some ((false, ()), ())) = some ((decide ((if 0 ≤ q ∧ q ≤ 255 then (0 : Int) else 2) = 0), ()), ()) := by
    by_cases a1 : q ≥ 0
    · rw [if_pos a1]
      by_cases a2 : q ≤ 255
      · rw [if_pos ⟨a1, a2⟩, decide_eq_true a2]; rfl
      · rw [if_neg (by omega), decide_eq_false a2]; rfl
    · rw [if_neg a1, if_neg (by omega)]; rfl
  have six : (if q ≥ 1 then some ((decide (q ≤ 12), ()), ()) else some ((false, ()), ())) = some ((decide ((if 1 ≤ q ∧ q ≤ 12 then (0 : Int) else 2) = 0), ()), ()) := by
    by_cases a1 : q ≥ 1
    · rw [if_pos a1]
      by_cases a2 : q ≤ 12
      · rw [if_pos ⟨a1, a2⟩, decide_eq_true a2]; rfl
      · rw [if_neg (by omega), decide_eq_false a2]; rfl
    · rw [if_neg a1, if_neg (by omega)]; rfl
  have zero : (q == 0) = decide ((if q = 0 then (0 : Int) else 1) = 0) := by
    by_cases hq : q = 0 <;> simp [hq]
  by_cases h1 : p = 1
  · subst h1; simp [zero]
  by_cases h2 : p = 2
  · subst h2; simp [zero]
  by_cases h3 : p = 3
  · subst h3; simpa using big
  by_cases h4 : p = 4
  · subst h4; simpa using big
  by_cases h5 : p = 5
  · subst h5; simpa using big
  by_cases h6 : p = 6
  · subst h6; simpa using six
  · simp [h1, h2, h3, h4, h5, h6]

theorem tacts_loop (l : List TAct) (hl : l.length ≤ 1048576) : ∀ (r : List TAct) (k : Nat), l.drop k = r → decltab_cell_l12 l (l.length : Int) k = some ((if r.all (fun a => decide (actV a = 0)) = true then 0 else 2, ()), ())
  | [], k, h => by
    have := drop_nil h
    rw [decltab_cell_l12_eq, if_neg (dF (by omega))]
    rfl
  | a :: r, k, h => by
    have h1 := drop_lt h
    have hr : l.getD (k : Int).toNat dAct = a := getD_drop h
    rw [decltab_cell_l12_eq, if_pos (dT (by omega)), if_pos ⟨by omega, by omega⟩, hr, tact_eq, w64a k (by omega), tacts_loop l hl r (k + 1) (dropS h)]
    simp only [Option.bind_some]
    rw [List.all_cons]
    by_cases q : actV a = 0
    · rw [decide_eq_true q, Bool.true_and]; rfl
    · rw [decide_eq_false q, Bool.false_and]; rfl

theorem rtacts_loop (z : TCell) (hl : z.2.2.2.length ≤ 1048576) : ∀ (r : List TAct) (k : Nat), z.2.2.2.drop k = r → ref36_cell_l12 k z = some ((if r.all (fun a => decide (actV a = 0)) = true then 0 else 2, ()), ())
  | [], k, h => by
    have := drop_nil h
    rw [ref36_cell_l12_eq, if_neg (dF (by omega))]
    rfl
  | a :: r, k, h => by
    have h1 := drop_lt h
    have hr : z.2.2.2.getD (k : Int).toNat dAct = a := getD_drop h
    rw [ref36_cell_l12_eq, if_pos (dT (by omega)), if_pos ⟨by omega, by omega⟩, hr, rtact_eq, w64a k (by omega), rtacts_loop z hl r (k + 1) (dropS h)]
    simp only [Option.bind_some]
    rw [List.all_cons]
    by_cases q : actV a = 0
    · rw [decide_eq_true q, Bool.true_and]; rfl
    · rw [decide_eq_false q, Bool.false_and]; rfl

theorem cell_eq (t : TTable) (c : TCell) (first : Int) (hc : okCell c) : decltab_cell t c first = some ((cellE (topI t.2.1) t.2.2.2.length first c, ()), ()) := by
  unfold okCell at hc
  have hlp : decltab_cell_l12 c.2.2.2 (c.2.2.2.length : Int) 0 = _ := tacts_loop c.2.2.2 hc _ 0 rfl
  unfold decltab_cell cellE
  simp only [decltab_cell_l4_eq, ttop_eq, Option.bind_some, hlp]
  by_cases h0 : 64 < c.2.2.2.length
  · rw [if_pos (dT (by omega)), if_pos h0]
  rw [if_neg (dF (by omega)), if_neg h0]
  by_cases h1 : c.1 = first
  · rw [if_neg (nF h1)]
    by_cases h2 : c.2.1 < c.1
    · rw [if_pos (dT h2), if_pos trivial, if_neg (by omega)]
    rw [if_neg (dF h2)]
    by_cases h3 : c.2.1 > (topI t.2.1 : Int)
    · rw [if_pos (dT h3), if_neg (by omega)]
    rw [if_neg (dF h3), if_pos (show c.1 = first ∧ c.1 ≤ c.2.1 ∧ c.2.1 ≤ (topI t.2.1 : Int) from ⟨h1, by omega, by omega⟩)]
    by_cases h4 : c.2.2.1 < 0
    · rw [if_pos (dT h4), if_neg (by omega)]
    rw [if_neg (dF h4)]
    by_cases h5 : c.2.2.1 ≥ (t.2.2.2.length : Int)
    · rw [if_pos (dT h5), if_neg (by omega)]
    rw [if_neg (dF h5), if_pos (show 0 ≤ c.2.2.1 ∧ c.2.2.1 < (t.2.2.2.length : Int) by omega)]
    rfl
  · rw [if_pos (nT h1), if_pos trivial, if_neg (fun q => h1 q.1)]

theorem rcell_eq (t : TTable) (c : TCell) (before : Int) (hc : okCell c) (hb : -1 ≤ before) (hb2 : before ≤ 255) : ref36_cell t c before = some ((cellE (topI t.2.1) t.2.2.2.length (before + 1) c, ()), ()) := by
  unfold okCell at hc
  have hlp : ref36_cell_l12 0 c = _ := rtacts_loop c hc _ 0 rfl
  unfold ref36_cell cellE
  simp only [rttop_eq, Option.bind_some, hlp]
  rw [w64 (by omega) (by omega)]
  by_cases h0 : 64 < c.2.2.2.length
  · rw [if_pos (dT (by omega)), if_pos h0]
  rw [if_neg (dF (by omega)), if_neg h0]
  by_cases h1 : c.1 = before + 1
  · rw [if_neg (nF h1)]
    by_cases h2 : c.2.1 < c.1
    · rw [if_pos (dT h2), if_neg (by omega)]
    rw [if_neg (dF h2)]
    by_cases h3 : c.2.1 > (topI t.2.1 : Int)
    · rw [if_pos (dT h3), if_neg (by omega)]
    rw [if_neg (dF h3), if_pos (show c.1 = before + 1 ∧ c.1 ≤ c.2.1 ∧ c.2.1 ≤ (topI t.2.1 : Int) from ⟨h1, by omega, by omega⟩)]
    by_cases h4 : c.2.2.1 < 0
    · rw [if_pos (dT h4), if_neg (by omega)]
    rw [if_neg (dF h4)]
    by_cases h5 : c.2.2.1 ≥ (t.2.2.2.length : Int)
    · rw [if_pos (dT h5), if_neg (by omega)]
    rw [if_neg (dF h5), if_pos (show 0 ≤ c.2.2.1 ∧ c.2.2.1 < (t.2.2.2.length : Int) by omega)]
    rfl
  · rw [if_pos (nT h1), if_neg (fun q => h1 q.1)]

/-- A cell without an error ends within the symbols. -/
theorem cellE_hi {top n first : Int} {c : TCell} (h : cellE top n first c = 0) : first ≤ c.2.1 ∧ c.2.1 ≤ top := by
  unfold cellE at h
  split at h
  · cases h
  · split at h
    · rename_i q; omega
    · cases h

theorem row_loop (t : TTable) (h : okTable t) (i : Nat) (hi : i < t.2.2.2.length) (G : Option ((Int × Unit) × Unit)) (hG : decltab_Check_l11 t.2.2.2 (t.2.2.2.length : Int) ((i + 1 : Nat) : Int) t = G) : ∀ (r : List TCell) (k : Nat) (first : Int), t.2.2.2[i].drop k = r → 0 ≤ first → first ≤ 256 →
    decltab_Check_l19 first t.2.2.2 (t.2.2.2.length : Int) i t.2.2.2[i] (t.2.2.2[i].length : Int) k t = if rowE (topI t.2.1) t.2.2.2.length first r = 0 then G else some ((rowE (topI t.2.1) t.2.2.2.length first r, ()), ()) := by
  obtain ⟨hl, ho⟩ := h.2 _ (List.getElem_mem hi)
  have hn := h.1
  have htop := topI_le t.2.1
  intro r
  induction r with
  | nil =>
    intro k first hk h0 h1
    have := drop_nil hk
    rw [decltab_Check_l19_eq, if_neg (dF (by omega)), ttop_eq]
    simp only [Option.bind_some]
    rw [w64 (by omega) (by omega), w64a i (by omega), hG]
    by_cases q : first = (topI t.2.1 : Int) + 1
    · have e : rowE (topI t.2.1) t.2.2.2.length first [] = 0 := if_pos q
      rw [if_neg (nF q), if_pos e]
    · have e : rowE (topI t.2.1) t.2.2.2.length first [] = 14 := if_neg q
      rw [if_pos (nT q), if_neg (show ¬ rowE (topI t.2.1) t.2.2.2.length first [] = 0 by rw [e]; decide), e]
  | cons c r ih =>
    intro k first hk h0 h1
    have h2 := drop_lt hk
    have hr : t.2.2.2[i].getD (k : Int).toNat dCell = c := getD_drop hk
    rw [decltab_Check_l19_eq, if_pos (dT (by omega)), if_pos ⟨by omega, by omega⟩, hr, cell_eq t c first (ho c (mem_drop hk)), w64a k (by omega)]
    simp only [Option.bind_some]
    by_cases q : cellE (topI t.2.1) t.2.2.2.length first c = 0
    · obtain ⟨q1, q2⟩ := cellE_hi q
      have e : rowE (topI t.2.1) t.2.2.2.length first (c :: r) = rowE (topI t.2.1) t.2.2.2.length (c.2.1 + 1) r := if_pos q
      rw [if_neg (nF q), w64 (by omega) (by omega)]
      simp only [e]
      exact ih (k + 1) (c.2.1 + 1) (dropS hk) (by omega) (by omega)
    · have e : rowE (topI t.2.1) t.2.2.2.length first (c :: r) = cellE (topI t.2.1) t.2.2.2.length first c := if_neg q
      rw [if_pos (nT q)]
      simp only [e]
      rw [if_neg q]

theorem rrow_loop (t : TTable) (h : okTable t) (i : Nat) (hi : i < t.2.2.2.length) (G : Option ((Int × Unit) × Unit)) (hG : ref36_Check_l12 ((i + 1 : Nat) : Int) t = G) : ∀ (r : List TCell) (k : Nat) (before : Int), t.2.2.2[i].drop k = r → -1 ≤ before → before ≤ 255 →
    ref36_Check_l19 i before k t = if rowE (topI t.2.1) t.2.2.2.length (before + 1) r = 0 then G else some ((rowE (topI t.2.1) t.2.2.2.length (before + 1) r, ()), ()) := by
  obtain ⟨hl, ho⟩ := h.2 _ (List.getElem_mem hi)
  have hn := h.1
  have htop := topI_le t.2.1
  have hin : (0 : Int) ≤ i ∧ (i : Int) < (t.2.2.2.length : Int) := ⟨by omega, by omega⟩
  have hg : t.2.2.2.getD (i : Int).toNat [] = t.2.2.2[i] := getD_in _ hi
  intro r
  induction r with
  | nil =>
    intro k before hk h0 h1
    have := drop_nil hk
    rw [ref36_Check_l19_eq, if_pos hin, hg, if_neg (dF (by omega)), rttop_eq]
    simp only [Option.bind_some]
    rw [w64a i (by omega), hG]
    by_cases q : before = (topI t.2.1 : Int)
    · have e : rowE (topI t.2.1) t.2.2.2.length (before + 1) [] = 0 := if_pos (by omega)
      rw [if_neg (nF q), if_pos e]
    · have e : rowE (topI t.2.1) t.2.2.2.length (before + 1) [] = 14 := if_neg (by omega)
      rw [if_pos (nT q), if_neg (show ¬ rowE (topI t.2.1) t.2.2.2.length (before + 1) [] = 0 by rw [e]; decide), e]
  | cons c r ih =>
    intro k before hk h0 h1
    have h2 := drop_lt hk
    have hr : t.2.2.2[i].getD (k : Int).toNat dCell = c := getD_drop hk
    have hin2 : (0 : Int) ≤ k ∧ (k : Int) < (t.2.2.2[i].length : Int) := ⟨by omega, by omega⟩
    rw [ref36_Check_l19_eq, if_pos hin, hg, if_pos (dT (by omega)), if_pos hin, if_pos hin2, hr, rcell_eq t c before (ho c (mem_drop hk)) h0 h1, w64a k (by omega)]
    simp only [Option.bind_some]
    by_cases q : cellE (topI t.2.1) t.2.2.2.length (before + 1) c = 0
    · obtain ⟨q1, q2⟩ := cellE_hi q
      have e : rowE (topI t.2.1) t.2.2.2.length (before + 1) (c :: r) = rowE (topI t.2.1) t.2.2.2.length (c.2.1 + 1) r := if_pos q
      rw [if_neg (nF q), if_pos hin, if_pos hin2]
      simp only [e]
      exact ih (k + 1) c.2.1 (dropS hk) (by omega) (by omega)
    · have e : rowE (topI t.2.1) t.2.2.2.length (before + 1) (c :: r) = cellE (topI t.2.1) t.2.2.2.length (before + 1) c := if_neg q
      rw [if_pos (nT q)]
      simp only [e]
      rw [if_neg q]

theorem table_loop (t : TTable) (h : okTable t) : ∀ (r : List (List TCell)) (k : Nat), t.2.2.2.drop k = r → decltab_Check_l11 t.2.2.2 (t.2.2.2.length : Int) k t = some ((tableE (topI t.2.1) t.2.2.2.length r, ()), ()) := by
  have hn := h.1
  intro r
  induction r with
  | nil =>
    intro k hk
    have := drop_nil hk
    rw [decltab_Check_l11_eq, if_neg (dF (by omega))]
    rfl
  | cons cs r ih =>
    intro k hk
    have h1 := drop_lt hk
    have hr : t.2.2.2.getD (k : Int).toNat [] = cs := getD_drop hk
    have e : t.2.2.2[k] = cs := by rw [List.drop_eq_getElem_cons h1] at hk; injection hk
    have := row_loop t h k h1 _ (ih (k + 1) (dropS hk)) _ 0 0 rfl (by omega) (by omega)
    rw [e] at this
    rw [decltab_Check_l11_eq, if_pos (dT (by omega)), if_pos ⟨by omega, by omega⟩, hr]
    refine this.trans ?_
    simp only [tableE, List.drop_zero]
    split <;> rfl

theorem rtable_loop (t : TTable) (h : okTable t) : ∀ (r : List (List TCell)) (k : Nat), t.2.2.2.drop k = r → ref36_Check_l12 k t = some ((tableE (topI t.2.1) t.2.2.2.length r, ()), ()) := by
  have hn := h.1
  intro r
  induction r with
  | nil =>
    intro k hk
    have := drop_nil hk
    rw [ref36_Check_l12_eq, if_neg (dF (by omega))]
    rfl
  | cons cs r ih =>
    intro k hk
    have h1 := drop_lt hk
    have e : t.2.2.2[k] = cs := by rw [List.drop_eq_getElem_cons h1] at hk; injection hk
    have := rrow_loop t h k h1 _ (ih (k + 1) (dropS hk)) _ 0 (-1) rfl (by omega) (by omega)
    rw [e] at this
    rw [ref36_Check_l12_eq, if_pos (dT (by omega))]
    refine this.trans ?_
    simp only [tableE, List.drop_zero, show (-1 : Int) + 1 = 0 from rfl]
    split <;> rfl

theorem tcheck_eq (t : TTable) (h : okTable t) : decltab_Check t = some ((checkT t, ()), ()) := by
  have hl : decltab_Check_l11 t.2.2.2 (t.2.2.2.length : Int) 0 t = _ := table_loop t h _ 0 rfl
  unfold decltab_Check checkT
  rw [lex_Name_b]
  simp only [Option.bind_some, decltab_Check_l4_eq, hl]
  by_cases q1 : nameB (L t.1) = true
  · rw [if_neg (by rw [q1]; simp), if_pos q1]
    have fin : (if ((t.2.2.2.length : Int) == 0) = true then some (((6 : Int), ()), ()) else if (decide ((t.2.2.2.length : Int) > 32)) = true then some ((6, ()), ()) else some ((tableE (topI t.2.1) t.2.2.2.length t.2.2.2, ()), ())) =
        some ((if t.2.2.2.length = 0 ∨ 32 < t.2.2.2.length then (6 : Int) else tableE (topI t.2.1) t.2.2.2.length t.2.2.2, ()), ()) := by
      by_cases a : t.2.2.2.length = 0
      · rw [if_pos (eT (by omega)), if_pos (.inl a)]
      · rw [if_neg (eF (by omega))]
        by_cases b : 32 < t.2.2.2.length
        · rw [if_pos (dT (by omega)), if_pos (.inr b)]
        · rw [if_neg (dF (by omega)), if_neg (by omega)]
    rw [List.drop_zero, fin]
    by_cases a2 : t.2.1 = 2 <;> by_cases a3 : t.2.1 = 3 <;> by_cases a5 : t.2.2.1 = 5 <;> by_cases a6 : t.2.2.1 = 6 <;> first | omega | (simp [a2, a3, a5, a6]; done)
  · rw [if_pos (by simpa using q1), if_neg q1]

theorem rtcheck_eq (t : TTable) (h : okTable t) : ref36_Check t = some ((checkT t, ()), ()) := by
  have hl : ref36_Check_l12 0 t = _ := rtable_loop t h _ 0 rfl
  unfold ref36_Check checkT
  rw [ref05_Name_b]
  simp only [Option.bind_some, hl]
  by_cases q1 : nameB (L t.1) = true
  · rw [if_neg (by rw [q1]; simp), if_pos q1]
    have fin : (if (decide ((t.2.2.2.length : Int) < 1)) = true then some (((6 : Int), ()), ()) else if (decide ((t.2.2.2.length : Int) > 32)) = true then some ((6, ()), ()) else some ((tableE (topI t.2.1) t.2.2.2.length t.2.2.2, ()), ())) =
        some ((if t.2.2.2.length = 0 ∨ 32 < t.2.2.2.length then (6 : Int) else tableE (topI t.2.1) t.2.2.2.length t.2.2.2, ()), ()) := by
      by_cases a : t.2.2.2.length = 0
      · rw [if_pos (dT (by omega)), if_pos (.inl a)]
      · rw [if_neg (dF (by omega))]
        by_cases b : 32 < t.2.2.2.length
        · rw [if_pos (dT (by omega)), if_pos (.inr b)]
        · rw [if_neg (dF (by omega)), if_neg (by omega)]
    rw [List.drop_zero, fin]
    by_cases a2 : t.2.1 = 2 <;> by_cases a3 : t.2.1 = 3 <;> by_cases a5 : t.2.2.1 = 5 <;> by_cases a6 : t.2.2.1 = 6 <;> first | omega | (simp [a2, a3, a5, a6]; done)
  · rw [if_pos (by simpa using q1), if_neg q1]

end Go.Proofs.Ytgjimkgehbppbab
end

section
/-
Ytgjimkgehbppbab: which rule a symbol has, which state a name has. No condition.
-/
set_option maxRecDepth 100000
open Go Go.AM
namespace Go.Proofs.Ytgjimkgehbppbab

theorem own_eq (r : TRule) (h : okRule r) : decl_own r = some ((r, ()), ()) := by
  unfold decl_own
  unfold okRule at h
  exact if_pos ⟨by omega, by omega⟩

theorem hit_iff {x : Int} {r : RuleT} : hitB x r = true ↔ r.1 ≤ x ∧ x ≤ r.2.1 := by
  unfold hitB; simp

theorem match_loop (x : Int) (s : TDeclState) (z : TRule) (hl : s.2.1.length ≤ 1048576) (ho : ∀ r ∈ s.2.1, okRule r) (he : okRule s.2.2.2) : ∀ (rs : List TRule) (k : Nat), s.2.1.drop k = rs →
    decl_Match_l7 x s.2.1 (s.2.1.length : Int) k z s = some (((ruleR s x rs).1, (ruleR s x rs).2, ()), ()) := by
  intro rs
  induction rs with
  | nil =>
    intro k hk
    have := drop_nil hk
    rw [decl_Match_l7_eq, if_neg (dF (by omega))]
    unfold ruleR
    by_cases h : s.2.2.1 = true
    · rw [if_pos h, own_eq _ he]
      simp [h]
    · rw [if_neg h]
      simp [h, noRule]
  | cons r rs ih =>
    intro k hk
    have h1 := drop_lt hk
    have ih' := ih (k + 1) (dropS hk)
    have hr : s.2.1.getD (k : Int).toNat dRule = r := getD_drop hk
    rw [decl_Match_l7_eq, if_pos (dT (by omega)), if_pos ⟨by omega, by omega⟩, hr, w64a k (by omega), ih']
    unfold ruleR
    rw [List.find?_cons]
    by_cases ha : r.1 ≤ x
    · rw [if_pos (dT ha)]
      by_cases hb : x ≤ r.2.1
      · rw [if_pos (dT hb), own_eq _ (ho r (mem_drop hk)), hit_iff.2 ⟨ha, hb⟩]
        rfl
      · rw [if_neg (dF hb), show hitB x r = false from Bool.eq_false_iff.2 fun q => hb (hit_iff.1 q).2]
    · rw [if_neg (dF ha), show hitB x r = false from Bool.eq_false_iff.2 fun q => ha (hit_iff.1 q).1]

theorem match_eq (d : TDecl) (i x : Int) (h : okDecl d) : decl_Match d i x = some (((matchV d.2.2.2 i x).1, (matchV d.2.2.2 i x).2, ()), ()) := by
  unfold decl_Match matchV
  by_cases h0 : i < 0
  · rw [if_pos (dT h0), if_pos h0]; rfl
  · rw [if_neg (dF h0), if_neg h0]
    by_cases h1 : i < (d.2.2.2.length : Int)
    · have h2 : i.toNat < d.2.2.2.length := by omega
      obtain ⟨a, b, c⟩ := h.2 _ (List.getElem_mem h2)
      rw [if_neg (dF (by omega)), if_pos ⟨by omega, h1⟩, getD_in _ h2, List.getElem?_eq_getElem h2]
      exact match_loop x _ _ a b c _ 0 rfl
    · rw [if_pos (dT (by omega)), List.getElem?_eq_none (by omega)]; rfl

theorem find_go (b : ByteArray) (ss : List TDeclState) (F : Int → Option ((Int × Unit) × Unit)) (hF : ∀ (k : Nat) (s : TDeclState) (r : List TDeclState), ss.drop k = s :: r → F k = if L s.1 = L b then some (((k : Int), ()), ()) else F ((k + 1 : Nat) : Int))
    (hE : F ss.length = some ((-1, ()), ())) : F 0 = some ((optI (findN ss b), ()), ()) := by
  have key : ∀ (rs : List TDeclState) (k : Nat), ss.drop k = rs → k ≤ ss.length → F k = some ((optI ((rs.findIdx? fun s => L s.1 == L b).map (· + k)), ()), ()) := by
    intro rs
    induction rs with
    | nil =>
      intro k hk hkl
      have h1 := drop_nil hk
      have : k = ss.length := by omega
      subst this
      rw [hE]; rfl
    | cons s rs ih =>
      intro k hk _
      have h1 := drop_lt hk
      rw [hF k s rs hk, List.findIdx?_cons]
      by_cases h : L s.1 = L b
      · rw [if_pos h, beq_iff_eq.2 h]; simp [optI]
      · rw [if_neg h, ih (k + 1) (dropS hk) (by omega), show (L s.1 == L b) = false from beq_eq_false_iff_ne.2 h]
        simp only [Option.map_map, Bool.false_eq_true, if_false]
        congr 4
        cases rs.findIdx? (fun s => L s.1 == L b) with
        | none => rfl
        | some i => simp; omega
  have := key ss 0 (by simp) (by omega)
  simpa [findN] using this

theorem find_eq (d : TDecl) (b : ByteArray) (h : d.2.2.2.length ≤ 1048576) : decl_Find d b = some ((optI (findN d.2.2.2 b), ()), ()) := by
  unfold decl_Find
  refine find_go b d.2.2.2 (fun k => decl_Find_l3 b d.2.2.2 (d.2.2.2.length : Int) k) (fun k s r hk => ?_) ?_
  · have h1 := drop_lt hk
    have hr : d.2.2.2.getD (k : Int).toNat dDeclState = s := getD_drop hk
    show decl_Find_l3 b d.2.2.2 (d.2.2.2.length : Int) k = _
    rw [decl_Find_l3_eq, if_pos (dT (by omega)), if_pos ⟨by omega, by omega⟩, hr, w64a k (by omega), toL, toL]
    by_cases q : L s.1 = L b
    · rw [if_pos q, if_pos (beq_iff_eq.2 q)]
    · rw [if_neg q, if_neg (fun z => q (beq_iff_eq.1 z))]
  · show decl_Find_l3 b d.2.2.2 (d.2.2.2.length : Int) (d.2.2.2.length : Int) = _
    rw [decl_Find_l3_eq, if_neg (dF (by omega))]

end Go.Proofs.Ytgjimkgehbppbab
end

section
/-
Ytgjimkgehbppbab: where rules lead, the cells of a state. No condition.
-/
set_option maxRecDepth 100000
open Go Go.AM
namespace Go.Proofs.Ytgjimkgehbppbab

theorem act_beq (p q : TAct) : eqU uAct p q = decide (p = q) := by
  rw [Bool.eq_iff_iff, eqU_iff uAct rfl, decide_eq_true_eq]

theorem tsame_loop (a b : Tresult) (ha : a.2.length ≤ 1099511627776) (hab : a.2.length = b.2.length) : ∀ (r q : List TAct) (k : Nat), a.2.drop k = r → b.2.drop k = q → decltab_same_l6 (a.2.length : Int) k a b = some ((decide (r = q), ()), ())
  | [], q, k, h, hq => by
    have h1 := drop_nil h
    have : q = [] := by rw [← hq]; exact List.drop_of_length_le (by omega)
    subst this
    rw [decltab_same_l6_eq, if_neg (dF (by omega))]
    rfl
  | x :: r, q, k, h, hq => by
    have h1 := drop_lt h
    cases q with
    | nil => have := drop_nil hq; omega
    | cons y q =>
      have e1 : a.2.getD (k : Int).toNat dAct = x := getD_drop h
      have e2 : b.2.getD (k : Int).toNat dAct = y := getD_drop hq
      rw [decltab_same_l6_eq, if_pos (dT (by omega)), if_pos ⟨by omega, by omega⟩, if_pos ⟨by omega, by omega⟩, e1, e2, act_beq, w64a k (by omega), tsame_loop a b ha hab r q (k + 1) (dropS h) (dropS hq)]
      by_cases p : x = y
      · subst p; simp
      · simp [p]

theorem tsame_eq (a b : Tresult) (ha : a.2.length ≤ 1099511627776) : decltab_same a b = some ((decide (a = b), ()), ()) := by
  unfold decltab_same
  obtain ⟨p, l⟩ := a
  obtain ⟨q, m⟩ := b
  by_cases h1 : p = q
  · rw [if_neg (nF h1)]
    by_cases h2 : l.length = m.length
    · rw [if_neg (nF (by simp only; omega))]
      refine (tsame_loop (p, l) (q, m) ha h2 _ _ 0 rfl rfl).trans ?_
      simp [h1]
    · rw [if_pos (nT (by simp only; omega)), decide_eq_false]
      intro e
      exact h2 (by injection e with _ e; rw [e])
  · rw [if_pos (nT h1), decide_eq_false]
    intro e
    exact h1 (by injection e)

theorem match_ok (d : TDecl) (h : okDecl d) (s x : Int) : (matchV d.2.2.2 s x).1.2.2.2.2.length ≤ 1048576 := by
  unfold matchV
  split
  · simp [noRule]
  · split
    · rename_i t ht
      obtain ⟨_, h1, h2⟩ := h.2 t (List.mem_of_getElem? ht)
      unfold ruleR
      split
      · rename_i r hr
        exact h1 r (List.mem_of_find?_eq_some hr)
      · split
        · exact h2
        · simp [noRule]
    · simp [noRule]

theorem follow_loop (d : TDecl) (h : okDecl d) (x : Int) : ∀ (c k : Nat) (s : Int) (l : List TAct), c = d.2.2.2.length + 1 - k → k ≤ d.2.2.2.length + 1 → l.length ≤ k * 1048576 →
    decltab_follow_l5 x ((d.2.2.2.length + 1 : Nat) : Int) k d 0 s [] l = some ((followV d.2.2.2 x c s l, decide (((followV d.2.2.2 x c s l).2.length : Int) ≤ 64), ()), ()) := by
  have hd := h.1
  intro c
  induction c with
  | zero =>
    intro k s l hc hk hl
    rw [decltab_follow_l5_eq, if_neg (dF (by omega)), decltab_follow_l3_eq]
    rfl
  | succ c ih =>
    intro k s l hc hk hl
    have hm := match_ok d h s x
    rw [decltab_follow_l5_eq, if_pos (dT (by omega)), match_eq d s x h]
    simp only [Option.bind_some]
    rw [if_pos ⟨by omega, by omega⟩, find_eq d _ hd]
    simp only [Option.bind_some]
    rw [w64a k (by omega)]
    by_cases ha : (matchV d.2.2.2 s x).1.2.2.2.1 = true
    · have e : followV d.2.2.2 x (c + 1) s l = followV d.2.2.2 x c (optI (findN d.2.2.2 (matchV d.2.2.2 s x).1.2.2.1)) (l ++ (matchV d.2.2.2 s x).1.2.2.2.2) := if_pos ha
      rw [if_neg (show ¬ (!(matchV d.2.2.2 s x).1.2.2.2.1) = true by rw [ha]; simp), ih (k + 1) _ _ (by omega) (by omega) (by rw [List.length_append]; omega), e]
    · have e : followV d.2.2.2 x (c + 1) s l = (optI (findN d.2.2.2 (matchV d.2.2.2 s x).1.2.2.1), l ++ (matchV d.2.2.2 s x).1.2.2.2.2) := if_neg ha
      rw [if_pos (show (!(matchV d.2.2.2 s x).1.2.2.2.1) = true by simpa using ha), decltab_follow_l3_eq, e]

theorem follow_eq (d : TDecl) (h : okDecl d) (i x : Nat) : decltab_follow d i x = some ((resF d.2.2.2 i x, decide (((resF d.2.2.2 i x).2.length : Int) ≤ 64), ()), ()) := by
  unfold decltab_follow
  have hd := h.1
  rw [w64a d.2.2.2.length (by omega)]
  exact follow_loop d h x _ 0 i [] rfl (by omega) (by simp)

end Go.Proofs.Ytgjimkgehbppbab
end

section
/-
Ytgjimkgehbppbab: the first ambiguous, missing, endless symbols. No condition.
-/
set_option maxRecDepth 100000
open Go Go.AM
namespace Go.Proofs.Ytgjimkgehbppbab

theorem top_eq (d : TDecl) : declcheck_top d = some (((topV d : Int), ()), ()) := by
  unfold declcheck_top topV
  by_cases h : d.2.1 = 2
  · rw [if_pos (eT h), if_pos h]; rfl
  · rw [if_neg (eF h), if_neg h]; rfl
theorem topV_le (d : DeclT) : topV d ≤ 255 := by unfold topV; split <;> omega

theorem amb_loop (d : TDecl) (i : Nat) (x : Nat) (s : TDeclState) (hl : s.2.1.length ≤ 1048576) : ∀ (rs : List TRule) (k : Nat) (seen : Bool), s.2.1.drop k = rs →
    declcheck_Ambiguous_l16 0 0 false i x seen d.2.2.2 (d.2.2.2.length : Int) i s.2.1 (s.2.1.length : Int) k d s =
      if 1 < rs.countP (hitB x) + seen.toNat then some (((i : Int), (x : Int), true, ()), ()) else declcheck_Ambiguous_l10 0 0 false i (IntKind.i64.wrap ((x : Int) + 1)) d.2.2.2 (d.2.2.2.length : Int) i d s := by
  intro rs
  induction rs with
  | nil =>
    intro k seen hk
    have := drop_nil hk
    rw [declcheck_Ambiguous_l16_eq, if_neg (dF (by omega)), if_neg (by cases seen <;> simp)]
  | cons r rs ih =>
    intro k seen hk
    have h1 := drop_lt hk
    have hr : s.2.1.getD (k : Int).toNat dRule = r := getD_drop hk
    rw [declcheck_Ambiguous_l16_eq, if_pos (dT (by omega)), if_pos ⟨by omega, by omega⟩, hr, w64a k (by omega), ih (k + 1) seen (dropS hk), ih (k + 1) true (dropS hk), List.countP_cons]
    by_cases ha : (x : Int) < r.1
    · rw [if_pos (dT ha), show hitB x r = false from Bool.eq_false_iff.2 fun q => by have := (hit_iff.1 q).1; omega]
      simp
    · rw [if_neg (dF ha)]
      by_cases hb : (x : Int) > r.2.1
      · rw [if_pos (dT hb), show hitB x r = false from Bool.eq_false_iff.2 fun q => by have := (hit_iff.1 q).2; omega]
        simp
      · rw [if_neg (dF hb), hit_iff.2 ⟨by omega, by omega⟩]
        cases seen with
        | true => rw [if_pos rfl, if_pos (by simp)]
        | false => rw [if_neg (by simp)]; simp

theorem amb_eq (d : TDecl) (h : okDecl d) : declcheck_Ambiguous d = resV (firstV d.2.2.2.length (topV d) (ambP d.2.2.2)) := by
  unfold declcheck_Ambiguous
  have htop := topV_le d
  have hd := h.1
  refine first_loop _ _ _ (fun i => declcheck_Ambiguous_l4 0 0 false d.2.2.2 (d.2.2.2.length : Int) i d)
    (fun i x => declcheck_Ambiguous_l10 0 0 false i x d.2.2.2 (d.2.2.2.length : Int) i d (d.2.2.2.getD i dDeclState)) _ (fun i hi => ?_) ?_ (fun i x hi hx => ?_) (fun i hi => ?_)
  · show declcheck_Ambiguous_l4 0 0 false d.2.2.2 (d.2.2.2.length : Int) i d = _
    rw [declcheck_Ambiguous_l4_eq, if_pos (dT (by omega)), if_pos ⟨by omega, by omega⟩]
    rfl
  · show declcheck_Ambiguous_l4 0 0 false d.2.2.2 (d.2.2.2.length : Int) (d.2.2.2.length : Int) d = _
    rw [declcheck_Ambiguous_l4_eq, if_neg (dF (by omega))]
    rfl
  · show declcheck_Ambiguous_l10 0 0 false i x d.2.2.2 (d.2.2.2.length : Int) i d (d.2.2.2.getD i dDeclState) = _
    obtain ⟨a, _, _⟩ := h.2 _ (List.getElem_mem hi)
    rw [declcheck_Ambiguous_l10_eq, top_eq, getD_in _ hi]
    simp only [Option.bind_some]
    have := amb_loop d i x d.2.2.2[i] a _ 0 false rfl
    rw [if_pos (dT (by omega))]
    refine this.trans ?_
    rw [w64a x (by omega)]
    unfold ambP
    rw [List.getElem?_eq_getElem hi]
    simp only [decide_eq_true_eq, Bool.toNat_false, Nat.add_zero]
    rfl
  · show declcheck_Ambiguous_l10 0 0 false i ((topV d + 1 : Nat) : Int) d.2.2.2 (d.2.2.2.length : Int) i d (d.2.2.2.getD i dDeclState) = _
    rw [declcheck_Ambiguous_l10_eq, top_eq]
    simp only [Option.bind_some]
    rw [if_neg (dF (by omega)), w64a i (by omega)]

/-! ### missing -/
def resD (d : TDecl) : Option (Nat × Nat) → Option ((Int × Int × Bool × Unit) × (TDecl × Unit))
  | some (i, x) => some (((i : Int), (x : Int), true, ()), (d, ()))
  | none => some ((0, 0, false, ()), (d, ()))

theorem mis_eq (d : TDecl) (h : okDecl d) : declcheck_Missing d = resV (firstV d.2.2.2.length (topV d) (misP d.2.2.2)) := by
  unfold declcheck_Missing declcheck_firstM
  have htop := topV_le d
  have hd := h.1
  have := first_loop d.2.2.2.length (topV d) (misP d.2.2.2) (fun i => declcheck_firstM_l3 (d.2.2.2.length : Int) i d d) (fun i x => declcheck_firstM_l9 i x (d.2.2.2.length : Int) i d d) (resD d) (fun i hi => ?_) ?_ (fun i x hi hx => ?_) (fun i hi => ?_)
  · refine (congrArg (fun z => Option.bind z _) this).trans ?_
    cases firstV d.2.2.2.length (topV d) (misP d.2.2.2) <;> rfl
  · show declcheck_firstM_l3 (d.2.2.2.length : Int) i d d = _
    rw [declcheck_firstM_l3_eq, if_pos (dT (by omega))]
    rfl
  · show declcheck_firstM_l3 (d.2.2.2.length : Int) (d.2.2.2.length : Int) d d = _
    rw [declcheck_firstM_l3_eq, if_neg (dF (by omega))]
    rfl
  · show declcheck_firstM_l9 i x (d.2.2.2.length : Int) i d d = _
    rw [declcheck_firstM_l9_eq, top_eq]
    simp only [Option.bind_some]
    rw [if_pos (dT (by omega)), show declcheck_Missing_1 i x d = some ((!(matchV d.2.2.2 i x).2, ()), (d, ())) from by unfold declcheck_Missing_1; rw [match_eq d i x h]; rfl]
    simp only [Option.bind_some]
    rw [w64a x (by omega)]
    rfl
  · show declcheck_firstM_l9 i ((topV d + 1 : Nat) : Int) (d.2.2.2.length : Int) i d d = _
    rw [declcheck_firstM_l9_eq, top_eq]
    simp only [Option.bind_some]
    rw [if_neg (dF (by omega)), w64a i (by omega)]

/-! ### walks that do not end -/
theorem endless_loop (d : TDecl) (x : Int) (h : okDecl d) : ∀ (c : Nat) (V : List Bool) (s : Nat), V.length = d.2.2.2.length → falses V = c → s < d.2.2.2.length → (∀ t, V[t]? = some true → ∃ j, 1 ≤ j ∧ iter (stepV d.2.2.2 x) j t = some s) →
    declcheck_endless_l3 s x d V = some (((iter (stepV d.2.2.2 x) (c + 1) s).isSome, ()), ()) := by
  intro c
  induction c with
  | zero =>
    intro V s hl hc hs hinv
    have hv : V[s]? = some true := by
      rw [List.getElem?_eq_getElem (by omega)]
      cases e : V[s]'(by omega) with
      | true => rfl
      | false => have := falses_pos (l := V) (i := s) (by rw [List.getElem?_eq_getElem (by omega), e]); omega
    obtain ⟨j, hj, hjs⟩ := hinv s hv
    have hg : V.getD (s : Int).toNat false = true := by simp [List.getD, hv]
    rw [declcheck_endless_l3_eq, if_pos (dT (by omega)), if_pos ⟨by omega, by omega⟩, hg, if_neg (by simp), iter_cycle hj hjs]
    rw [dT (by omega)]
  | succ c ih =>
    intro V s hl hc hs hinv
    cases hv : V[s]? with
    | none => rw [List.getElem?_eq_getElem (by omega)] at hv; cases hv
    | some b =>
      have hg : V.getD (s : Int).toNat false = b := by simp [List.getD, hv]
      rw [declcheck_endless_l3_eq, if_pos (dT (by omega)), if_pos ⟨by omega, by omega⟩, hg]
      cases b with
      | true =>
        obtain ⟨j, hj, hjs⟩ := hinv s hv
        rw [if_neg (by simp), iter_cycle hj hjs, dT (by omega)]
      | false =>
        rw [if_pos (by simp), if_pos ⟨by omega, by omega⟩, match_eq d s x h]
        simp only [Option.bind_some]
        by_cases h1 : (matchV d.2.2.2 s x).2 = true
        · rw [h1, if_neg (by simp)]
          by_cases h2 : (matchV d.2.2.2 s x).1.2.2.2.1 = true
          · rw [h2, if_neg (by simp), find_eq d _ h.1]
            simp only [Option.bind_some]
            have hst : stepV d.2.2.2 x s = findN d.2.2.2 (matchV d.2.2.2 s x).1.2.2.1 := by unfold stepV; rw [if_pos h1, if_pos h2]
            cases hf : findN d.2.2.2 (matchV d.2.2.2 s x).1.2.2.1 with
            | none =>
              rw [hf] at hst
              show declcheck_endless_l3 (-1) x d _ = _
              rw [declcheck_endless_l3_eq, if_neg (dF (by omega))]
              simp [iter, hst]
            | some j =>
              rw [hf] at hst
              show declcheck_endless_l3 j x d (V.set s true) = _
              have hfs := falses_set V s hv
              rw [ih (V.set s true) j (by simpa using hl) (by omega) (findN_lt hf) (fun t ht => ?_)]
              · simp [iter, hst]
              · have one : iter (stepV d.2.2.2 x) 1 s = some j := by simp [iter, hst]
                rcases set_get ht with rfl | ht
                · exact ⟨1, Nat.le_refl _, one⟩
                · obtain ⟨q, _, hq⟩ := hinv t ht
                  exact ⟨q + 1, by omega, by rw [iter_add, hq]; exact one⟩
          · have h2' : (matchV d.2.2.2 s x).1.2.2.2.1 = false := by simpa using h2
            have hst : stepV d.2.2.2 x s = none := by unfold stepV; rw [if_pos h1, if_neg h2]
            rw [h2', if_pos (by simp)]
            simp [iter, hst]
        · have h1' : (matchV d.2.2.2 s x).2 = false := by simpa using h1
          have hst : stepV d.2.2.2 x s = none := by unfold stepV; rw [if_neg h1]
          rw [h1', if_pos (by simp)]
          simp [iter, hst]

theorem endless_eq (d : TDecl) (i : Nat) (x : Int) (h : okDecl d) (hi : i < d.2.2.2.length) : declcheck_endless d i x = some ((endlessV d.2.2.2 i x, ()), ()) := by
  unfold declcheck_endless
  have hd := h.1
  rw [if_pos ⟨.inr rfl, by omega, by omega, by omega⟩]
  rw [Int.toNat_natCast]
  exact endless_loop d x h _ _ i (by simp) (falses_rep _) hi (fun t ht => by
    rw [List.getElem?_replicate] at ht
    split at ht <;> simp at ht)

theorem cyc_eq (d : TDecl) (h : okDecl d) : declcheck_Cycle d = resV (firstV d.2.2.2.length (topV d) (cycP d.2.2.2)) := by
  unfold declcheck_Cycle declcheck_firstC
  have htop := topV_le d
  have hd := h.1
  have := first_loop d.2.2.2.length (topV d) (cycP d.2.2.2) (fun i => declcheck_firstC_l3 (d.2.2.2.length : Int) i d d) (fun i x => declcheck_firstC_l9 i x (d.2.2.2.length : Int) i d d) (resD d) (fun i hi => ?_) ?_ (fun i x hi hx => ?_) (fun i hi => ?_)
  · refine (congrArg (fun z => Option.bind z _) this).trans ?_
    cases firstV d.2.2.2.length (topV d) (cycP d.2.2.2) <;> rfl
  · show declcheck_firstC_l3 (d.2.2.2.length : Int) i d d = _
    rw [declcheck_firstC_l3_eq, if_pos (dT (by omega))]
    rfl
  · show declcheck_firstC_l3 (d.2.2.2.length : Int) (d.2.2.2.length : Int) d d = _
    rw [declcheck_firstC_l3_eq, if_neg (dF (by omega))]
    rfl
  · show declcheck_firstC_l9 i x (d.2.2.2.length : Int) i d d = _
    rw [declcheck_firstC_l9_eq, top_eq]
    simp only [Option.bind_some]
    rw [if_pos (dT (by omega)), show declcheck_Cycle_1 i x d = some ((endlessV d.2.2.2 i x, ()), (d, ())) from by unfold declcheck_Cycle_1; rw [endless_eq d i x h hi]; rfl]
    simp only [Option.bind_some]
    rw [w64a x (by omega)]
    rfl
  · show declcheck_firstC_l9 i ((topV d + 1 : Nat) : Int) (d.2.2.2.length : Int) i d d = _
    rw [declcheck_firstC_l9_eq, top_eq]
    simp only [Option.bind_some]
    rw [if_neg (dF (by omega)), w64a i (by omega)]

end Go.Proofs.Ytgjimkgehbppbab
end

section
/-
Ytgjimkgehbppbab: the states that are reached. No condition.
-/
set_option maxRecDepth 100000
open Go Go.AM
namespace Go.Proofs.Ytgjimkgehbppbab

theorem visit_eq (ss : List StateT) (t : Option Nat) (out : List Bool) (q : List Int) (hn : ss.length ≤ 1048576) (hq : QueueS ss out q) (ht : ∀ j, t = some j → j < ss.length ∧ ReachS ss j) :
    ∃ out' q', declcheck_Reach_1 (optI t) out q = some ((), (((), ()), ((), ()), (), (), out', q', ())) ∧ QueueS ss out' q' ∧ GrowS out q out' q' ∧ (∀ j, t = some j → out'[j]? = some true) := by
  unfold declcheck_Reach_1
  cases t with
  | none =>
    exact ⟨out, q, if_neg (dF (by simp [optI])), hq, GrowS.refl _ _, fun j h => by cases h⟩
  | some j =>
    obtain ⟨hj, hr⟩ := ht j rfl
    have hl := hq.base.len
    have hjo : j < out.length := by omega
    show ∃ out' q', (if decide ((j : Int) ≥ 0) = true then _ else _) = _ ∧ _
    rw [if_pos (dT (by omega)), if_pos ⟨by simp only [optI]; omega, by simp only [optI]; omega⟩]
    show ∃ out' q', (if (!(out.getD j false)) = true then _ else _) = _ ∧ _
    rw [getD_in _ hjo]
    cases e : out[j] with
    | true =>
      refine ⟨out, q, if_neg (by simp), hq, GrowS.refl _ _, fun k hk => ?_⟩
      cases hk
      rw [List.getElem?_eq_getElem hjo, e]
    | false =>
      have hv : out[j]? = some false := by rw [List.getElem?_eq_getElem hjo, e]
      have hf := falses_set out j hv
      have hsz := hq.len
      refine ⟨out.set j true, q ++ [(j : Int)], ?_, ⟨hq.base.set hr, fun o ho => ?_, ?_⟩, ⟨MonoS.set _ _, fun o ho => by simp [ho], fun k hk => ?_, ?_⟩, fun k hk => ?_⟩
      · rw [if_pos (by simp), if_pos ⟨by simp only [optI]; omega, by simp only [optI]; omega⟩, if_pos ⟨by omega, by omega⟩]
        rfl
      · rcases List.mem_append.1 ho with h | h
        · obtain ⟨k, h1, h2⟩ := hq.mem o h
          exact ⟨k, h1, MonoS.set _ _ k h2⟩
        · simp at h
          exact ⟨j, h, by rw [List.getElem?_set_self hjo]⟩
      · simp; omega
      · rcases set_get hk with rfl | h
        · exact .inr (by simp)
        · exact .inl h
      · simp; omega
      · cases hk
        rw [List.getElem?_set_self hjo]

/-- The targets of one state. -/
theorem pop_loop (d : TDecl) (h : okDecl d) (i : Nat) (s : TDeclState) (hs : d.2.2.2[i]? = some s) (hri : ReachS d.2.2.2 i) : ∀ (rs : List TRule) (k : Nat) (out : List Bool) (q : List Int), s.2.1.drop k = rs → QueueS d.2.2.2 out q →
    ∃ out' q', declcheck_Reach_l14 s.2.1 (s.2.1.length : Int) k d s out q = declcheck_Reach_l7 d out' q' ∧ QueueS d.2.2.2 out' q' ∧ GrowS out q out' q' ∧
      (∀ r ∈ rs, ∀ j, findN d.2.2.2 r.2.2.1 = some j → out'[j]? = some true) ∧ (s.2.2.1 = true → ∀ j, findN d.2.2.2 s.2.2.2.2.2.1 = some j → out'[j]? = some true) := by
  have hsm := List.mem_of_getElem? hs
  obtain ⟨hsl, _, _⟩ := h.2 s hsm
  intro rs
  induction rs with
  | nil =>
    intro k out q hk hq
    have := drop_nil hk
    rw [declcheck_Reach_l14_eq, if_neg (dF (by omega))]
    by_cases he : s.2.2.1 = true
    · obtain ⟨out', q', h1, h2, h3, h4⟩ := visit_eq d.2.2.2 (findN d.2.2.2 s.2.2.2.2.2.1) out q h.1 hq (fun j hj => ⟨findN_lt hj, .step hri ⟨s, hs, s.2.2.2, by simp [targets, he], hj⟩⟩)
      refine ⟨out', q', ?_, h2, h3, fun r hr => by simp at hr, fun _ => h4⟩
      rw [if_pos he, find_eq d _ h.1]
      simp only [Option.bind_some]
      rw [h1]
      rfl
    · exact ⟨out, q, by rw [if_neg he], hq, GrowS.refl _ _, fun r hr => by simp at hr, fun h => absurd h he⟩
  | cons r rs ih =>
    intro k out q hk hq
    have h1 := drop_lt hk
    have hr : s.2.1.getD (k : Int).toNat dRule = r := getD_drop hk
    obtain ⟨out1, q1, h2, h3, h4, h5⟩ := visit_eq d.2.2.2 (findN d.2.2.2 r.2.2.1) out q h.1 hq (fun j hj => ⟨findN_lt hj, .step hri ⟨s, hs, r, by simp [targets, mem_drop hk], hj⟩⟩)
    obtain ⟨out2, q2, h6, h7, h8, h9, h10⟩ := ih (k + 1) out1 q1 (dropS hk) h3
    refine ⟨out2, q2, ?_, h7, h4.trans h8, fun r' hr' j hj => ?_, h10⟩
    · rw [declcheck_Reach_l14_eq, if_pos (dT (by omega)), if_pos ⟨by omega, by omega⟩, hr, find_eq d _ h.1]
      simp only [Option.bind_some]
      rw [h2]
      simp only [Option.bind_some]
      rw [w64a k (by omega)]
      exact h6
    · rcases List.mem_cons.1 hr' with rfl | hr'
      · exact h8.mono j (h5 j hj)
      · exact h9 r' hr' j hj

theorem bfs_eq (d : TDecl) (h : okDecl d) : ∀ (c : Nat) (out : List Bool) (q : List Int), 2 * falses out + q.length ≤ c → QueueS d.2.2.2 out q → (0 < d.2.2.2.length → out[0]? = some true) →
    (∀ j : Nat, out[j]? = some true → (j : Int) ∈ q ∨ DoneS d.2.2.2 out j) → declcheck_Reach_l7 d out q = some ((reachV d.2.2.2, ()), ()) := by
  intro c
  induction c with
  | zero =>
    intro out q hc hq h0 hcl
    have : q = [] := List.eq_nil_of_length_eq_zero (by omega)
    subst this
    rw [declcheck_Reach_l7_eq, if_neg (dF (by simp)), reach_closed hq.base h0 (fun i hi => (hcl i hi).resolve_left (by simp))]
  | succ c ih =>
    intro out q hc hq h0 hcl
    cases q with
    | nil => rw [declcheck_Reach_l7_eq, if_neg (dF (by simp)), reach_closed hq.base h0 (fun i hi => (hcl i hi).resolve_left (by simp))]
    | cons o q =>
      obtain ⟨i, rfl, hi⟩ := hq.mem o (by simp)
      have hil : i < d.2.2.2.length := by have := get_true_lt hi; rw [hq.base.len] at this; exact this
      have hs : d.2.2.2[i]? = some d.2.2.2[i] := List.getElem?_eq_getElem hil
      have hq1 : QueueS d.2.2.2 out q := ⟨hq.base, fun o ho => hq.mem o (by simp [ho]), by have := hq.len; simp at this; omega⟩
      obtain ⟨out', q', h1, h2, h3, h4, h5⟩ := pop_loop d h i _ hs (hq.base.sound i hi) _ 0 out q rfl hq1
      have hrun : declcheck_Reach_l7 d out ((i : Int) :: q) = declcheck_Reach_l7 d out' q' := by
        rw [declcheck_Reach_l7_eq, if_pos (dT (by simp)), if_pos ⟨by omega, by simp only [List.length_cons]; omega⟩]
        show (if 0 ≤ (i : Int) ∧ (i : Int) < (d.2.2.2.length : Int) then _ else _) = _
        rw [if_pos ⟨by omega, by omega⟩, if_pos ⟨by omega, by simp only [List.length_cons]; omega⟩]
        show declcheck_Reach_l14 (d.2.2.2.getD i dDeclState).2.1 ((d.2.2.2.getD i dDeclState).2.1.length : Int) 0 d (d.2.2.2.getD i dDeclState) out q = _
        rw [getD_in _ hil]
        exact h1
      rw [hrun]
      refine ih out' q' ?_ h2 (fun hz => h3.mono 0 (h0 hz)) (fun j hj => ?_)
      · have := h3.size
        simp at hc
        omega
      · rcases h3.new j hj with h6 | h6
        · rcases hcl j h6 with h7 | h7
          · rcases List.mem_cons.1 h7 with h8 | h8
            · have : j = i := by omega
              subst this
              refine .inr (fun k hk => ?_)
              obtain ⟨s, e1, r, hr, hrk⟩ := hk
              rw [hs] at e1
              cases e1
              unfold targets at hr
              rcases List.mem_append.1 hr with h9 | h9
              · exact h4 r h9 k hrk
              · split at h9
                · rename_i he
                  simp at h9
                  subst h9
                  exact h5 he k hrk
                · simp at h9
            · exact .inl (h3.keep _ h8)
          · exact .inr (h7.mono h3.mono)
        · exact .inl h6

theorem rep_get {n j : Nat} : ¬ (List.replicate n false)[j]? = some true := by
  rw [List.getElem?_replicate]
  split <;> simp

theorem reach_eq (d : TDecl) (h : okDecl d) : declcheck_Reach d = some ((reachV d.2.2.2, ()), ()) := by
  unfold declcheck_Reach
  have hd := h.1
  have hb0 : BaseS d.2.2.2 (List.replicate d.2.2.2.length false) := ⟨by simp, fun j hj => absurd hj rep_get⟩
  rw [if_pos ⟨.inr rfl, by omega, by omega, by omega⟩, Int.toNat_natCast]
  by_cases h0 : 0 < d.2.2.2.length
  · have hq0 : QueueS d.2.2.2 (List.replicate d.2.2.2.length false) [] := ⟨hb0, fun o ho => by simp at ho, by rw [falses_rep]; simp⟩
    obtain ⟨out', q', h1, h2, h3, h4⟩ := visit_eq d.2.2.2 (some 0) _ [] hd hq0 (fun j hj => by cases hj; exact ⟨h0, .zero h0⟩)
    rw [if_pos (dT (by simp; omega)), show declcheck_Reach_1 0 (List.replicate d.2.2.2.length false) [] = _ from h1]
    simp only [Option.bind_some]
    rw [declcheck_Reach_l4_eq]
    refine bfs_eq d h _ out' q' (Nat.le_refl _) h2 (fun _ => h4 0 rfl) (fun j hj => ?_)
    rcases h3.new j hj with h5 | h5
    · exact absurd h5 rep_get
    · exact .inl h5
  · rw [if_neg (dF (by simp only [List.length_replicate]; omega)), declcheck_Reach_l4_eq]
    exact bfs_eq d h _ _ [] (Nat.le_refl _) ⟨hb0, fun o ho => by simp at ho, by rw [falses_rep]; simp⟩ (fun q => absurd q h0) (fun j hj => absurd hj rep_get)

/-! ### the specification: rounds -/
end Go.Proofs.Ytgjimkgehbppbab
end

section
/-
Ytgjimkgehbppbab: the error of a badly formed declaration. No condition.
-/
set_option maxRecDepth 100000
open Go Go.AM
namespace Go.Proofs.Ytgjimkgehbppbab

theorem act_eq (a : TAct) : decl_act a = some ((actV a, ()), ()) := by
  obtain ⟨p, q⟩ := a
  unfold decl_act actV
  simp only [decl_act_l3_eq, decl_act_l7_eq]
  by_cases h1 : p = 1
  · subst h1
    by_cases hq : q = 0
    · simp [hq]
    · simp [hq]
  by_cases h2 : p = 2
  · subst h2
    by_cases hq : q = 0
    · simp [hq]
    · simp [hq]
  by_cases h3 : p = 3 ∨ p = 4 ∨ p = 5
  · have : (if q < 0 then some (((2 : Int), ()), ()) else if q > 255 then some ((2, ()), ()) else some ((0, ()), ())) = some ((if 0 ≤ q ∧ q ≤ 255 then (0 : Int) else 2, ()), ()) := by
      by_cases a1 : q < 0
      · rw [if_pos a1, if_neg (by omega)]
      · rw [if_neg a1]
        by_cases a2 : q > 255
        · rw [if_pos a2, if_neg (by omega)]
        · rw [if_neg a2, if_pos (by omega)]
    rcases h3 with rfl | rfl | rfl <;> simpa using this
  by_cases h6 : p = 6
  · subst h6
    have : (if q < 1 then some (((2 : Int), ()), ()) else if q > 12 then some ((2, ()), ()) else some ((0, ()), ())) = some ((if 1 ≤ q ∧ q ≤ 12 then (0 : Int) else 2, ()), ()) := by
      by_cases a1 : q < 1
      · rw [if_pos a1, if_neg (by omega)]
      · rw [if_neg a1]
        by_cases a2 : q > 12
        · rw [if_pos a2, if_neg (by omega)]
        · rw [if_neg a2, if_pos (by omega)]
    simpa using this
  · have e3 : p ≠ 3 := fun e => h3 (.inl e)
    have e4 : p ≠ 4 := fun e => h3 (.inr (.inl e))
    have e5 : p ≠ 5 := fun e => h3 (.inr (.inr e))
    simp [h1, h2, e3, e4, e5, h6]

theorem errL_cons (e : Int) (r : List Int) : errL (e :: r) = if e = 0 then errL r else e := rfl

theorem acts_loop (l : List TAct) (hl : l.length ≤ 1048576) : ∀ (r : List TAct) (k : Nat), l.drop k = r → decl_target_l9 l (l.length : Int) k = some ((errL (r.map actV), ()), ())
  | [], k, h => by
    have := drop_nil h
    rw [decl_target_l9_eq, if_neg (dF (by omega))]
    rfl
  | a :: r, k, h => by
    have h1 := drop_lt h
    have hr : l.getD (k : Int).toNat dAct = a := getD_drop h
    rw [decl_target_l9_eq, if_pos (dT (by omega)), if_pos ⟨by omega, by omega⟩, hr, act_eq, w64a k (by omega), acts_loop l hl r (k + 1) (dropS h)]
    simp only [Option.bind_some, List.map_cons, errL_cons]
    by_cases q : actV a = 0
    · rw [if_neg (nF q), if_pos q]
    · rw [if_pos (nT q), if_neg q]

theorem target_eq (d : TDecl) (r : TRule) (h : d.2.2.2.length ≤ 1048576) (hr : okRule r) : decl_target d r = some ((targetV d.2.2.2 r, ()), ()) := by
  unfold decl_target targetV
  rw [find_eq d _ h]
  simp only [Option.bind_some]
  cases findN d.2.2.2 r.2.2.1 with
  | none => exact if_pos (dT (by simp [optI]))
  | some j =>
    refine (if_neg (dF (by simp [optI]))).trans ?_
    simp only
    by_cases q : 8 < r.2.2.2.2.length
    · rw [if_pos (dT (by omega)), if_pos q]
    · rw [if_neg (dF (by omega)), if_neg q]
      exact acts_loop _ hr _ 0 rfl

theorem empty_iff (b : ByteArray) : (b.toList == (strB []).toList) = true ↔ L b = [] := by
  rw [toL, toL, L_strB, beq_iff_eq]

theorem most_eq (d : TDecl) : decl_most d = some (((topV d : Int), ()), ()) := by
  unfold decl_most topV
  by_cases h : d.2.1 = 2
  · rw [if_pos (eT h), if_pos h]; rfl
  · rw [if_neg (eF h), if_neg h]; rfl

/-- The Else of a state without one. -/
theorem noelse_eq (s : TDeclState) : (if (!(s.2.2.2.2.2.1.toList == (strB []).toList)) = true then some (((1 : Int), ()), ()) else if s.2.2.2.2.2.2.1 = true then some ((1, ()), ()) else if (decide ((s.2.2.2.2.2.2.2.length : Int) > 0)) = true then some ((1, ()), ()) else some ((0, ()), ())) =
    some ((if L s.2.2.2.2.2.1 = [] ∧ s.2.2.2.2.2.2.1 = false ∧ s.2.2.2.2.2.2.2.length = 0 then (0 : Int) else 1, ()), ()) := by
  by_cases h1 : L s.2.2.2.2.2.1 = []
  · rw [if_neg (by rw [(empty_iff _).2 h1]; simp)]
    by_cases h2 : s.2.2.2.2.2.2.1 = true
    · rw [if_pos h2, if_neg (by rw [h2]; simp)]
    · rw [if_neg h2]
      by_cases h3 : s.2.2.2.2.2.2.2.length = 0
      · rw [if_neg (dF (by omega)), if_pos ⟨h1, by simpa using h2, h3⟩]
      · rw [if_pos (dT (by omega)), if_neg (fun q => h3 q.2.2)]
  · rw [if_pos (by rw [show (s.2.2.2.2.2.1.toList == (strB []).toList) = false from Bool.eq_false_iff.2 fun q => h1 ((empty_iff _).1 q)]; rfl), if_neg (fun q => h1 q.1)]

theorem rules_loopE (d : TDecl) (h : d.2.2.2.length ≤ 1048576) (s : TDeclState) (hs : okState s) : ∀ (rs : List TRule) (k : Nat), s.2.1.drop k = rs →
    decl_rules_l3 s.2.1 (s.2.1.length : Int) k d s = some ((if errL (rs.map (ruleE d.2.2.2 (topV d))) = 0 then elseE d.2.2.2 s else errL (rs.map (ruleE d.2.2.2 (topV d))), ()), ()) := by
  obtain ⟨hl, hr, he⟩ := hs
  intro rs
  induction rs with
  | nil =>
    intro k hk
    have := drop_nil hk
    rw [decl_rules_l3_eq, if_neg (dF (by omega)), target_eq d _ h he]
    simp only [Option.bind_some, noelse_eq, List.map_nil, errL, if_true]
    unfold elseE
    by_cases h3 : s.2.2.1 = true
    · rw [if_pos h3]
      by_cases h1 : s.2.2.2.1 = 0
      · by_cases h2 : s.2.2.2.2.1 = 0
        · rw [if_neg (nF h1), if_neg (nF h2), if_pos (show s.2.2.2.1 = 0 ∧ s.2.2.2.2.1 = 0 from ⟨h1, h2⟩), if_pos h3]
        · rw [if_neg (nF h1), if_pos (nT h2), if_neg (show ¬ (s.2.2.2.1 = 0 ∧ s.2.2.2.2.1 = 0) from fun q => h2 q.2)]
      · rw [if_pos (nT h1), if_neg (show ¬ (s.2.2.2.1 = 0 ∧ s.2.2.2.2.1 = 0) from fun q => h1 q.1)]
    · rw [if_neg h3]
      by_cases h1 : s.2.2.2.1 = 0
      · by_cases h2 : s.2.2.2.2.1 = 0
        · rw [if_neg (nF h1), if_neg (nF h2), if_pos (show s.2.2.2.1 = 0 ∧ s.2.2.2.2.1 = 0 from ⟨h1, h2⟩), if_neg h3]
        · rw [if_neg (nF h1), if_pos (nT h2), if_neg (show ¬ (s.2.2.2.1 = 0 ∧ s.2.2.2.2.1 = 0) from fun q => h2 q.2)]
      · rw [if_pos (nT h1), if_neg (show ¬ (s.2.2.2.1 = 0 ∧ s.2.2.2.2.1 = 0) from fun q => h1 q.1)]
  | cons r rs ih =>
    intro k hk
    have h1 := drop_lt hk
    have hg : s.2.1.getD (k : Int).toNat dRule = r := getD_drop hk
    rw [decl_rules_l3_eq, if_pos (dT (by omega)), if_pos ⟨by omega, by omega⟩, hg, most_eq, target_eq d _ h (hr r (mem_drop hk)), w64a k (by omega), ih (k + 1) (dropS hk)]
    simp only [Option.bind_some, List.map_cons, errL_cons]
    unfold ruleE
    by_cases a1 : r.1 < 0
    · rw [if_pos (dT a1), if_neg (show ¬ (0 ≤ r.1 ∧ r.1 ≤ r.2.1 ∧ r.2.1 ≤ (topV d : Int)) by omega), if_neg (by omega)]
      simp
    · rw [if_neg (dF a1)]
      by_cases a2 : r.1 > r.2.1
      · rw [if_pos (dT a2), if_neg (show ¬ (0 ≤ r.1 ∧ r.1 ≤ r.2.1 ∧ r.2.1 ≤ (topV d : Int)) by omega), if_neg (by omega)]
        simp
      · rw [if_neg (dF a2)]
        by_cases a3 : r.2.1 > (topV d : Int)
        · rw [if_pos (dT a3), if_neg (show ¬ (0 ≤ r.1 ∧ r.1 ≤ r.2.1 ∧ r.2.1 ≤ (topV d : Int)) by omega), if_neg (by omega)]
          simp
        · rw [if_neg (dF a3), if_pos (show 0 ≤ r.1 ∧ r.1 ≤ r.2.1 ∧ r.2.1 ≤ (topV d : Int) by omega)]
          by_cases q : targetV d.2.2.2 r = 0
          · rw [if_neg (nF q), if_pos q]
          · rw [if_pos (nT q), if_neg q, if_neg q]

theorem states_loop (d : TDecl) (h : okDecl d) : ∀ (rs : List TDeclState) (k : Nat), d.2.2.2.drop k = rs → decl_Check_l12 d.2.2.2 (d.2.2.2.length : Int) k d = some ((statesE d.2.2.2 (topV d) k rs, ()), ()) := by
  have hd := h.1
  intro rs
  induction rs with
  | nil =>
    intro k hk
    have := drop_nil hk
    rw [decl_Check_l12_eq, if_neg (dF (by omega))]
    rfl
  | cons s rs ih =>
    intro k hk
    have h1 := drop_lt hk
    have hg : d.2.2.2.getD (k : Int).toNat dDeclState = s := getD_drop hk
    have hs := h.2 s (mem_drop hk)
    have hru : decl_rules d s = some ((if errL (s.2.1.map (ruleE d.2.2.2 (topV d))) = 0 then elseE d.2.2.2 s else errL (s.2.1.map (ruleE d.2.2.2 (topV d))), ()), ()) := rules_loopE d hd s hs _ 0 rfl
    rw [decl_Check_l12_eq, if_pos (dT (by omega)), if_pos ⟨by omega, by omega⟩, hg, show decl_name s.1 = some ((nameB (L s.1), ()), ()) from rfl, find_eq d _ hd, w64a k (by omega), ih (k + 1) (dropS hk), hru]
    simp only [Option.bind_some, statesE]
    have hE : stateE d.2.2.2 (topV d) k s = if nameB (L s.1) = true then if optI (findN d.2.2.2 s.1) < k then 9 else if 64 < s.2.1.length then 6 else (if errL (s.2.1.map (ruleE d.2.2.2 (topV d))) = 0 then elseE d.2.2.2 s else errL (s.2.1.map (ruleE d.2.2.2 (topV d)))) else 4 := rfl
    generalize (if errL (s.2.1.map (ruleE d.2.2.2 (topV d))) = 0 then elseE d.2.2.2 s else errL (s.2.1.map (ruleE d.2.2.2 (topV d)))) = E at hE ⊢
    rw [hE]
    by_cases q1 : nameB (L s.1) = true
    · rw [if_neg (by rw [q1]; simp), if_pos q1]
      by_cases q2 : optI (findN d.2.2.2 s.1) < (k : Int)
      · rw [if_pos (dT q2), if_pos q2]; rfl
      · rw [if_neg (dF q2), if_neg q2]
        by_cases q3 : 64 < s.2.1.length
        · rw [if_pos (dT (by omega)), if_pos q3]; rfl
        · rw [if_neg (dF (by omega)), if_neg q3]
          by_cases q4 : E = 0
          · rw [if_neg (nF q4), if_pos q4]
          · rw [if_pos (nT q4), if_neg q4]
    · rw [if_pos (by simpa using q1), if_neg q1]; rfl

theorem dcheck_eq (d : TDecl) (h : okDecl d) : decl_Check d = some ((checkV d, ()), ()) := by
  unfold decl_Check checkV
  rw [show decl_name d.1 = some ((nameB (L d.1), ()), ()) from rfl]
  simp only [Option.bind_some, decl_Check_l4_eq]
  have hl := states_loop d h _ 0 rfl
  have hl' : decl_Check_l12 d.2.2.2 (d.2.2.2.length : Int) 0 d = some ((statesE d.2.2.2 (topV d) 0 d.2.2.2, ()), ()) := hl
  rw [hl']
  by_cases q1 : nameB (L d.1) = true
  · rw [if_neg (by rw [q1]; simp), if_pos q1]
    have fin : (if ((d.2.2.2.length : Int) == 0) = true then some (((1 : Int), ()), ()) else if (decide ((d.2.2.2.length : Int) > 32)) = true then some ((6, ()), ()) else some ((statesE d.2.2.2 (topV d) 0 d.2.2.2, ()), ())) =
        some ((if d.2.2.2.length ≠ 0 then if 32 < d.2.2.2.length then (6 : Int) else statesE d.2.2.2 (topV d) 0 d.2.2.2 else 1, ()), ()) := by
      by_cases a : d.2.2.2.length = 0
      · rw [if_pos (eT (by omega)), if_neg (by omega)]
      · rw [if_neg (eF (by omega)), if_pos a]
        by_cases b : 32 < d.2.2.2.length
        · rw [if_pos (dT (by omega)), if_pos b]
        · rw [if_neg (dF (by omega)), if_neg b]
    rw [fin]
    by_cases a2 : d.2.1 = 2 <;> by_cases a3 : d.2.1 = 3 <;> by_cases a5 : d.2.2.1 = 5 <;> by_cases a6 : d.2.2.1 = 6 <;> first | omega | (simp [a2, a3, a5, a6]; done) | (by_cases a7 : d.2.2.2.length = 0 <;> simp [a2, a3, a5, a6, a7])
  · rw [if_pos (by simpa using q1), if_neg q1]

end Go.Proofs.Ytgjimkgehbppbab
end

section
/-
Ytgjimkgehbppbab: the laws of finding, reaching, checking, as plain functions, come to true. No condition.
-/
set_option maxRecDepth 100000
open Go Go.AM
namespace Go.Proofs.Ytgjimkgehbppbab

theorem all_loop (l : List Bool) (hl : l.length ≤ 1048576) : ∀ (r : List Bool) (k : Nat), l.drop k = r → declcheck_Check_l19 l (l.length : Int) k = some ((if r.all id = true then 0 else 16, ()), ())
  | [], k, h => by
    have := drop_nil h
    rw [declcheck_Check_l19_eq, if_neg (dF (by omega))]
    rfl
  | b :: r, k, h => by
    have h1 := drop_lt h
    have hr : l.getD (k : Int).toNat false = b := getD_drop h
    rw [declcheck_Check_l19_eq, if_pos (dT (by omega)), if_pos ⟨by omega, by omega⟩, hr, w64a k (by omega), all_loop l hl r (k + 1) (dropS h)]
    cases b <;> simp

theorem resV_bind {R : Type} (o : Option (Nat × Nat)) (A B : Option R) : (resV o).bind (fun y => if y.1.2.2.1 = true then A else B) = if o.isSome = true then A else B := by
  cases o <;> rfl

theorem ccheck_eq (d : TDecl) (h : okDecl d) : declcheck_Check d = some ((ccheckV d, ()), ()) := by
  have hl := reachV_len d.2.2.2
  have hd := h.1
  unfold declcheck_Check ccheckV
  rw [dcheck_eq d h, amb_eq d h, mis_eq d h, cyc_eq d h, reach_eq d h]
  simp only [Option.bind_some, resV_bind]
  have hall := all_loop (reachV d.2.2.2) (by omega) _ 0 rfl
  rw [show declcheck_Check_l19 (reachV d.2.2.2) ((reachV d.2.2.2).length : Int) 0 = _ from hall]
  by_cases q0 : checkV d = 0
  · rw [if_neg (nF q0), if_neg (show ¬ checkV d ≠ 0 from fun q => q q0)]
    split
    · rfl
    · split
      · rfl
      · split <;> rfl
  · rw [if_pos (nT q0), if_pos q0]

/-! ### examples -/
def exD : TDecl := (strB [120], 3, 6, [((strB [97]), [(0, 9, (strB [97]), false, []), (9, 20, (strB [97]), false, [])], true, 0, 0, (strB [97]), false, [])])
def rdD : TDecl := (strB [120], 2, 5, [((strB [97]), [], true, 0, 0, (strB [98]), true, []), ((strB [98]), [], true, 0, 0, (strB [97]), true, [])])
def gdD : TDecl := (strB [120], 3, 6, [((strB [97]), [(0, 9, (strB [97]), false, [])], true, 0, 0, (strB [97]), false, [])])

theorem ok_ex : okDecl exD := okDecl_bk exD (by decide)
theorem ok_rd : okDecl rdD := okDecl_bk rdD (by decide)
theorem ok_gd : okDecl gdD := okDecl_bk gdD (by decide)

theorem ex_amb : firstV exD.2.2.2.length (topV exD) (ambP exD.2.2.2) = some (0, 9) := by kernel_rfl
theorem rd_cyc : firstV rdD.2.2.2.length (topV rdD) (cycP rdD.2.2.2) = some (0, 0) := by kernel_rfl
theorem rd_mis : firstV rdD.2.2.2.length (topV rdD) (misP rdD.2.2.2) = none := by kernel_rfl
theorem rd_amb : firstV rdD.2.2.2.length (topV rdD) (ambP rdD.2.2.2) = none := by kernel_rfl
theorem gd_amb : firstV gdD.2.2.2.length (topV gdD) (ambP gdD.2.2.2) = none := by kernel_rfl
theorem gd_mis : firstV gdD.2.2.2.length (topV gdD) (misP gdD.2.2.2) = none := by kernel_rfl
theorem gd_cyc : firstV gdD.2.2.2.length (topV gdD) (cycP gdD.2.2.2) = none := by kernel_rfl
theorem ex_check : checkV exD = 0 := by kernel_rfl
theorem rd_check : checkV rdD = 0 := by kernel_rfl
theorem gd_check : checkV gdD = 0 := by kernel_rfl
theorem ex_cc : ccheckV exD = 13 := by unfold ccheckV; rw [ex_check, ex_amb]; rfl
theorem rd_cc : ccheckV rdD = 15 := by unfold ccheckV; rw [rd_check, rd_amb, rd_mis, rd_cyc]; rfl
theorem gd_reach : (reachV gdD.2.2.2).all id = true := by
  rw [List.all_eq_true]
  intro b hb
  obtain ⟨j, hj⟩ := List.mem_iff_getElem?.1 hb
  have hl := get_true_lt hj
  rw [reachV_len] at hl
  have hl' : j < 1 := hl
  have e : j = 0 := by omega
  subst e
  have := (reachV_get gdD.2.2.2 0).2 ⟨hl, .zero hl⟩
  rw [this] at hj
  cases hj
  rfl
theorem gd_cc : ccheckV gdD = 0 := by unfold ccheckV; rw [gd_check, gd_amb, gd_mis, gd_cyc, if_pos gd_reach]; rfl

/-! ### the laws -/
end Go.Proofs.Ytgjimkgehbppbab
end

section
/-
Ytgjimkgehbppbab: compiled tables. No condition.
-/
set_option maxRecDepth 100000
open Go Go.AM
namespace Go.Proofs.Ytgjimkgehbppbab

/-- What is last in the row is what was added last. -/
def LastIs (out : List TCell) (a : Int) (l : List TAct) : Prop := ∀ c, out.getLast? = some c → c.2.2 = (a, l)

theorem addC_none {out : List TCell} (h : out.getLast? = none) (x : Nat) (r : Tresult) : addC out x r = out ++ [((x : Int), (x : Int), r)] := by
  unfold addC; rw [h]
theorem addC_same {out : List TCell} {c : TCell} (h : out.getLast? = some c) (x : Nat) (r : Tresult) (e : c.2.2 = r) : addC out x r = out.dropLast ++ [(c.1, (x : Int), r)] := by
  unfold addC; rw [h]; exact if_pos e
theorem addC_new {out : List TCell} {c : TCell} (h : out.getLast? = some c) (x : Nat) (r : Tresult) (e : ¬ c.2.2 = r) : addC out x r = out ++ [((x : Int), (x : Int), r)] := by
  unfold addC; rw [h]; exact if_neg e
theorem addC_last (out : List TCell) (x : Nat) (r : Tresult) : ∃ c, (addC out x r).getLast? = some c ∧ c.2.2 = r := by
  cases h : out.getLast? with
  | none => exact ⟨((x : Int), (x : Int), r), by rw [addC_none h]; simp, rfl⟩
  | some c =>
    by_cases e : c.2.2 = r
    · exact ⟨(c.1, (x : Int), r), by rw [addC_same h x r e]; simp, rfl⟩
    · exact ⟨((x : Int), (x : Int), r), by rw [addC_new h x r e]; simp, rfl⟩
theorem addC_len (out : List TCell) (x : Nat) (r : Tresult) : (addC out x r).length ≤ out.length + 1 := by
  cases h : out.getLast? with
  | none => rw [addC_none h]; simp
  | some c =>
    by_cases e : c.2.2 = r
    · rw [addC_same h x r e]; simp
    · rw [addC_new h x r e]; simp

theorem lastIs_add (out : List TCell) (x : Nat) (r : Tresult) : LastIs (addC out x r) r.1 r.2 := by
  obtain ⟨c, h1, h2⟩ := addC_last out x r
  intro c' hc'
  rw [h1] at hc'
  cases hc'
  exact h2

theorem add_eq (out : List TCell) (x : Nat) (r : Tresult) (a : Int) (l : List TAct) (hv : LastIs out a l) (hlen : out.length ≤ 1048576) (hl : l.length ≤ 1048576) :
    decltab_result_add x r (0, 0, r) a l out = some ((), (((), r.1, r.2, (), ()), (), addC out x r, ())) := by
  unfold decltab_result_add
  cases h : out.getLast? with
  | none =>
    have e : out = [] := by simpa using h
    subst e
    rw [if_neg (dF (by simp)), if_pos ⟨by simp, by omega⟩, addC_none h]
  | some c =>
    obtain ⟨_, h2, h3⟩ := last_set (v := c) h
    have hc := hv c h
    have hw : IntKind.i64.wrap ((out.length : Int) - 1) = ((out.length - 1 : Nat) : Int) := by rw [w64 (by omega) (by omega)]; omega
    rw [if_pos (dT (by omega)), tsame_eq (a, l) r (by simp only; omega)]
    simp only [Option.bind_some]
    by_cases e : (a, l) = r
    · rw [if_pos (dT e), hw, if_pos ⟨by omega, by omega⟩, Int.toNat_natCast]
      have hg : out.getD (out.length - 1) dCell = c := by simp [List.getD, h2]
      rw [hg, (last_set (v := (c.1, (x : Int), c.2.2)) h).1, addC_same h x r (by rw [hc]; exact e), hc, e]
      subst e
      rfl
    · rw [if_neg (dF e), if_pos ⟨by omega, by omega⟩, addC_new h x r (by rw [hc]; exact e)]

theorem ttop_d (d : TDecl) : decltab_top d.2.1 = some (((topV d : Int), ()), ()) := ttop_eq d.2.1
theorem rttop_d (d : TDecl) : ref36_top d.2.1 = some (((topV d : Int), ()), ()) := rttop_eq d.2.1

theorem crow_loop (d : TDecl) (h : okDecl d) (i : Nat) (hi : i < d.2.2.2.length) (n1 : ByteArray) (n2 n3 : Int) (m1 : ByteArray) (m2 m3 : Int) (l4 l5 : List (List TCell)) (hl5 : l5.length ≤ 1048576) :
    ∀ (c x : Nat) (a : Int) (l : List TAct) (out : List TCell), c = topV d + 1 - x → x ≤ topV d + 1 → LastIs out a l → out.length ≤ x → l.length ≤ 64 →
    decltab_Compile_l16 i x (d.2.2.2.length : Int) i d n1 n2 n3 m1 m2 m3 a l l4 l5 out = match rowF (resF d.2.2.2 i) c x out with
      | none => some (((strB [], 0, 0, []), 6, ()), ())
      | some cs => decltab_Compile_l8 (d.2.2.2.length : Int) ((i + 1 : Nat) : Int) d n1 n2 n3 m1 m2 m3 l4 (l5 ++ [cs]) := by
  have hd := h.1
  have htop := topV_le d
  intro c
  induction c with
  | zero =>
    intro x a l out hc hx hv ho hl
    rw [decltab_Compile_l16_eq, ttop_d]
    simp only [Option.bind_some]
    rw [if_neg (dF (by omega)), if_pos ⟨by omega, by omega⟩, w64a i (by omega)]
    rfl
  | succ c ih =>
    intro x a l out hc hx hv ho hl
    have hlen := addC_len out x (resF d.2.2.2 i x)
    rw [decltab_Compile_l16_eq, ttop_d]
    simp only [Option.bind_some]
    rw [if_pos (dT (by omega)), follow_eq d h i x]
    simp only [Option.bind_some]
    by_cases hb : 64 < (resF d.2.2.2 i x).2.length
    · have e : rowF (resF d.2.2.2 i) (c + 1) x out = none := if_pos hb
      rw [e, decide_eq_false (by omega)]
      rfl
    · have e : rowF (resF d.2.2.2 i) (c + 1) x out = rowF (resF d.2.2.2 i) c (x + 1) (addC out x (resF d.2.2.2 i x)) := if_neg hb
      rw [e, decide_eq_true (by omega)]
      refine (if_neg (by simp)).trans ?_
      rw [add_eq out x _ a l hv (by omega) (by omega)]
      simp only [Option.bind_some]
      rw [w64a x (by omega)]
      exact ih (x + 1) _ _ _ (by omega) (by omega) (lastIs_add _ _ _) (by omega) (by omega)

theorem ctab_loop (d : TDecl) (h : okDecl d) (n1 : ByteArray) (n2 n3 : Int) (m1 : ByteArray) (m2 m3 : Int) (l4 : List (List TCell)) : ∀ (c i : Nat) (l5 : List (List TCell)), c = d.2.2.2.length - i → i ≤ d.2.2.2.length → l5.length = i →
    decltab_Compile_l8 (d.2.2.2.length : Int) i d n1 n2 n3 m1 m2 m3 l4 l5 = match rowsF d.2.2.2 (topV d) c i l5 with
      | none => some (((strB [], 0, 0, []), 6, ()), ())
      | some rows => some (((m1, m2, m3, rows), 0, ()), ()) := by
  have hd := h.1
  intro c
  induction c with
  | zero =>
    intro i l5 hc hi hl
    rw [decltab_Compile_l8_eq, if_neg (dF (by omega))]
    rfl
  | succ c ih =>
    intro i l5 hc hi hl
    have hloop : decltab_Compile_l16 i 0 (d.2.2.2.length : Int) i d n1 n2 n3 m1 m2 m3 0 [] l4 l5 [] = _ := crow_loop d h i (by omega) n1 n2 n3 m1 m2 m3 l4 l5 (by omega) (topV d + 1) 0 0 [] [] (by omega) (by omega) (fun c hc => by simp at hc) (by simp) (by simp)
    rw [decltab_Compile_l8_eq, if_pos (dT (by omega)), hloop]
    unfold rowsF
    cases rowF (resF d.2.2.2 i) (topV d + 1) 0 [] with
    | none => rfl
    | some cs => exact ih (i + 1) (l5 ++ [cs]) (by omega) (by omega) (by simp [hl])

theorem compile_eq (d : TDecl) (h : okDecl d) : decltab_Compile d = some (((compileV d).1, (compileV d).2, ()), ()) := by
  unfold decltab_Compile compileV
  rw [ccheck_eq d h]
  simp only [Option.bind_some]
  by_cases h0 : ccheckV d = 0
  · rw [if_neg (nF h0), if_pos h0]
    refine (ctab_loop d h _ 0 0 _ _ _ [] _ 0 [] rfl (Nat.zero_le _) rfl).trans ?_
    rw [Nat.sub_zero]
    cases rowsF d.2.2.2 (topV d) d.2.2.2.length 0 [] <;> rfl
  · rw [if_pos (nT h0), if_neg h0]

/-! ### the specification -/
end Go.Proofs.Ytgjimkgehbppbab
end

section
/-
Ytgjimkgehbppbab: the laws of reading and compiling tables, as plain functions, come to true. No condition.
-/
set_option maxRecDepth 100000
open Go Go.AM
namespace Go.Proofs.Ytgjimkgehbppbab

def lvD : TDecl := (strB [100], 3, 5, [((strB [97]), [(0, 9, (strB [97]), false, [(2, 0)])], true, 0, 0, (strB [97]), false, [(5, 1)])])
def lvT : TTable := (strB [100], 3, 5, [[(0, 9, 0, [(2, 0)]), (10, 255, 0, [(5, 1)])]])
theorem ok_lv : okDecl lvD := okDecl_bk lvD (by decide)
theorem ok_lt : okTable lvT := okTable_bk lvT (by decide)
theorem lv_check : checkV lvD = 0 := by kernel_rfl
theorem lv_amb : firstV lvD.2.2.2.length (topV lvD) (ambP lvD.2.2.2) = none := by kernel_rfl
theorem lv_mis : firstV lvD.2.2.2.length (topV lvD) (misP lvD.2.2.2) = none := by kernel_rfl
theorem lv_cyc : firstV lvD.2.2.2.length (topV lvD) (cycP lvD.2.2.2) = none := by kernel_rfl
theorem lv_reach : (reachV lvD.2.2.2).all id = true := all_reach.2 fun j hj => by
  have hj' : j < 1 := hj
  have e : j = 0 := by omega
  subst e
  exact .zero hj
theorem lv_cc : ccheckV lvD = 0 := by unfold ccheckV; rw [lv_check, lv_amb, lv_mis, lv_cyc, if_pos lv_reach]; rfl
theorem lv_rows : rowsF lvD.2.2.2 (topV lvD) lvD.2.2.2.length 0 [] = some lvT.2.2.2 := by kernel_rfl
theorem lv_compile : compileV lvD = (lvT, 0) := by unfold compileV; rw [if_pos lv_cc, lv_rows]; rfl
theorem lt_check : checkT lvT = 0 := by kernel_rfl

/-! ### compiled -/
end Go.Proofs.Ytgjimkgehbppbab
end

section
/-
Ytgjimkgehbppbab: declrun's decoding, by a table and by rules, as plain functions, comes to what the plain law says. No condition.
-/
set_option maxRecDepth 100000
set_option linter.unusedVariables false
open Go Go.AM
namespace Go.Proofs.Ytgjimkgehbppbab

theorem nextV_len (t : TTable) (h : okTable t) (q x : Int) : (nextV t.2.2.2 q x).2.1.length ≤ 1048576 := by
  unfold nextV
  split
  · simp
  · split
    · rename_i cs hcs
      unfold cellAt
      split
      · rename_i c hf
        have := (h.2 cs (List.mem_of_getElem? hcs)).2 c (List.mem_of_find?_eq_some hf)
        unfold okCell at this
        simpa using this
      · simp
    · simp

theorem rdT_len (o : Int) (t : TTable) (h : okTable t) (e : EvT) (q : Int) (c : Core) : (rdT o t.2.2.2 e q c).2.2.length ≤ 33554432 := by
  unfold rdT
  have h1 := doC_len o e (nextV t.2.2.2 q e.2.2.2.1).2.1 c
  have h2 := nextV_len t h q e.2.2.2.1
  split
  · simp only; omega
  · simp

theorem rdT_size (o : Int) (rows : List (List CellT)) (e : EvT) (q : Int) (c : Core) (hs : c.1.size ≤ 4096) : (rdT o rows e q c).2.1.1.size ≤ 4096 := by
  unfold rdT
  split
  · exact doC_size o e _ c hs
  · exact hs

theorem rdRule_len (o : Int) (d : TDecl) (h : okDecl d) (e : EvT) : ∀ (m : Nat) (q : Int) (c : Core), (rdRule o d.2.2.2 m e q c).2.2.length ≤ m * 1048576
  | 0, q, c => by simp [rdRule]
  | m + 1, q, c => by
    have h1 := doC_len o e (matchV d.2.2.2 q e.2.2.2.1).1.2.2.2.2 c
    have h2 := match_ok d h q e.2.2.2.1
    unfold rdRule
    split
    · split
      · have := rdRule_len o d h e m (optI (findN d.2.2.2 (matchV d.2.2.2 q e.2.2.2.1).1.2.2.1)) (doC o e c (matchV d.2.2.2 q e.2.2.2.1).1.2.2.2.2).1
        simp only [List.length_append]; omega
      · simp only; omega
    · simp

theorem rdRule_size (o : Int) (ss : List StateT) (e : EvT) : ∀ (m : Nat) (q : Int) (c : Core), c.1.size ≤ 4096 → (rdRule o ss m e q c).2.1.1.size ≤ 4096
  | 0, q, c, hs => hs
  | m + 1, q, c, hs => by
    unfold rdRule
    split
    · split
      · exact rdRule_size o ss e m _ _ (doC_size o e _ c hs)
      · exact doC_size o e _ c hs
    · exact hs

theorem look_eq (t : TTable) (ht : okTable t) (p at_ q a1 a2 pr : Int) (c : Core) (e : EvT) (o : Int) (out : List EvT) (hs : c.1.size ≤ 4096) (ho : out.length ≤ 1073741824) :
    declrun_look_1 p at_ c.2 q a1 a2 pr c.1 e.1 e.2.1 e.2.2.1 e.2.2.2.1 e.2.2.2.2.1 e.2.2.2.2.2.1 e.2.2.2.2.2.2 o out t =
    some ((packW p at_ (rdT o t.2.2.2 e q c).1 a1 a2 pr (rdT o t.2.2.2 e q c).2.1 e o, ()), ((), t, out ++ (rdT o t.2.2.2 e q c).2.2, ())) := by
  have h2 := nextV_len t ht q e.2.2.2.1
  unfold declrun_look_1 rdT
  rw [next_eq t q _ ht]
  simp only [Option.bind_some]
  cases hn : (nextV t.2.2.2 q e.2.2.2.1).2.2 with
  | false =>
    refine (if_pos rfl).trans ?_
    rw [if_neg (by simp), List.append_nil]
    rfl
  | true =>
    refine (if_neg (by simp)).trans ?_
    rw [do_eq p at_ q a1 a2 pr c e o out _ (by omega) hs ho, if_pos rfl]
    rfl

theorem follow_loop_ (d : TDecl) (h : okDecl d) (hn : d.2.2.2.length ≤ 32) (p at_ a1 a2 pr : Int) (e : EvT) (o : Int) : ∀ (m k : Nat) (q : Int) (c : Core) (out : List EvT), k + m = d.2.2.2.length → c.1.size ≤ 4096 → out.length ≤ k * 1048576 →
    declrun_Direct_1_l3 (d.2.2.2.length : Int) k d p at_ c.2 q a1 a2 pr c.1 e.1 e.2.1 e.2.2.1 e.2.2.2.1 e.2.2.2.2.1 e.2.2.2.2.2.1 e.2.2.2.2.2.2 o 0 0 0 0 0 0 0 (strB []) 0 0 0 0 0 (strB []) 0 0 out [] =
    some ((packW p at_ (rdRule o d.2.2.2 m e q c).1 a1 a2 pr (rdRule o d.2.2.2 m e q c).2.1 e o, ()), ((), d, out ++ (rdRule o d.2.2.2 m e q c).2.2, ())) := by
  intro m
  induction m with
  | zero =>
    intro k q c out hk hs ho
    rw [declrun_Direct_1_l3_eq, if_neg (dF (by omega))]
    simp [rdRule, packW]
  | succ m ih =>
    intro k q c out hk hs ho
    have h2 := match_ok d h q e.2.2.2.1
    have h3 := doC_len o e (matchV d.2.2.2 q e.2.2.2.1).1.2.2.2.2 c
    rw [declrun_Direct_1_l3_eq, if_pos (dT (by omega)), match_eq d q _ h]
    simp only [Option.bind_some]
    unfold rdRule
    cases hm : (matchV d.2.2.2 q e.2.2.2.1).2 with
    | false =>
      refine (if_pos rfl).trans ?_
      rw [if_neg (by simp), List.append_nil]
      rfl
    | true =>
      refine (if_neg (by simp)).trans ?_
      rw [if_pos rfl, do_eq p at_ q a1 a2 pr c e o out _ (by omega) hs (by omega), find_eq d _ (by omega)]
      cases ha : (matchV d.2.2.2 q e.2.2.2.1).1.2.2.2.1 with
      | false =>
        rw [if_neg (by simp)]
        rfl
      | true =>
        rw [if_pos rfl]
        simp only [resW, Option.bind_some]
        refine (if_neg (by simp)).trans ?_
        rw [w64a k (by omega)]
        refine (ih (k + 1) _ _ _ (by omega) (doC_size o e _ c hs) (by rw [List.length_append]; omega)).trans ?_
        simp [List.append_assoc]

theorem followD_eq (d : TDecl) (h : okDecl d) (hn : d.2.2.2.length ≤ 32) (p at_ q a1 a2 pr : Int) (c : Core) (e : EvT) (o : Int) (hs : c.1.size ≤ 4096) :
    declrun_Direct_1 p at_ c.2 q a1 a2 pr c.1 e.1 e.2.1 e.2.2.1 e.2.2.2.1 e.2.2.2.2.1 e.2.2.2.2.2.1 e.2.2.2.2.2.2 o [] d =
    some ((packW p at_ (rdRule o d.2.2.2 d.2.2.2.length e q c).1 a1 a2 pr (rdRule o d.2.2.2 d.2.2.2.length e q c).2.1 e o, ()), ((), d, (rdRule o d.2.2.2 d.2.2.2.length e q c).2.2, ())) := by
  unfold declrun_Direct_1
  exact follow_loop_ d h hn p at_ a1 a2 pr e o _ 0 q c [] (by omega) hs (by simp)

def stS (s : Sig) : TState := (s.ph, s.last, s.c.2, s.q, 0, 0, s.prev, s.c.1)

theorem stepT_eq (t : TTable) (ht : okTable t) (input o : Int) (s : Sig) (e : EvT) (hs : s.c.1.size ≤ 4096) :
    declrun_stepT input o (stS s) e t = some ((stS (stepR input o (rdT o t.2.2.2) s e).1, (stepR input o (rdT o t.2.2.2) s e).2, ()), (t, ())) := by
  unfold declrun_stepT stepR
  rw [show declrun_accepts input (stS s) e = _ from waccepts_eq input s s.q 0 0 e]
  simp only [Option.bind_some]
  cases ha : accV input s e with
  | false => exact (if_pos rfl).trans rfl
  | true =>
    refine (if_neg (by simp)).trans ?_
    rw [if_pos rfl]
    by_cases hf : e.2.2.2.2.2.2 = 0
    · rw [if_neg (nF hf), if_neg (show ¬ e.2.2.2.2.2.2 ≠ 0 from fun q => q hf)]
      refine (congrArg (fun z => Option.bind z _) (look_eq t ht 1 e.2.2.1 s.q 0 0 e.2.1 s.c e o [] hs (by simp))).trans ?_
      rfl
    · rw [if_pos (nT hf), if_pos hf]
      refine (congrArg (fun z => Option.bind z _) (waborted_eq o s.ph s.last s.q 0 0 s.prev s.c e.2.1)).trans ?_
      rfl

theorem stepD_eq (d : TDecl) (h : okDecl d) (hn : d.2.2.2.length ≤ 32) (input o : Int) (s : Sig) (e : EvT) (hs : s.c.1.size ≤ 4096) :
    declrun_stepD input o (stS s) e d = some ((stS (stepR input o (rdRule o d.2.2.2 d.2.2.2.length) s e).1, (stepR input o (rdRule o d.2.2.2 d.2.2.2.length) s e).2, ()), (d, ())) := by
  unfold declrun_stepD stepR
  rw [show declrun_accepts input (stS s) e = _ from waccepts_eq input s s.q 0 0 e]
  simp only [Option.bind_some]
  cases ha : accV input s e with
  | false => exact (if_pos rfl).trans rfl
  | true =>
    refine (if_neg (by simp)).trans ?_
    rw [if_pos rfl]
    by_cases hf : e.2.2.2.2.2.2 = 0
    · rw [if_neg (nF hf), if_neg (show ¬ e.2.2.2.2.2.2 ≠ 0 from fun q => q hf)]
      refine (congrArg (fun z => Option.bind z _) (followD_eq d h hn 1 e.2.2.1 s.q 0 0 e.2.1 s.c e o hs)).trans ?_
      rfl
    · rw [if_pos (nT hf), if_pos hf]
      refine (congrArg (fun z => Option.bind z _) (waborted_eq o s.ph s.last s.q 0 0 s.prev s.c e.2.1)).trans ?_
      rfl

theorem stepR_size (input o : Int) (rd : Rd) (hrd : ∀ e q c, c.1.size ≤ 4096 → (rd e q c).2.1.1.size ≤ 4096) (s : Sig) (e : EvT) (hs : s.c.1.size ≤ 4096) : (stepR input o rd s e).1.c.1.size ≤ 4096 := by
  have h0 : core0.1.size ≤ 4096 := by decide
  unfold stepR
  repeat' split
  all_goals first | exact h0 | exact hrd _ _ _ hs | exact hs

theorem abortC_len (o : Int) (c : Core) (t : Int) : (abortC o c t).length ≤ 1 := by unfold abortC; split <;> simp

theorem stepR_len (input o : Int) (rd : Rd) (n : Nat) (hrd : ∀ e q c, (rd e q c).2.2.length ≤ n) (s : Sig) (e : EvT) : (stepR input o rd s e).2.length ≤ n + 1 := by
  have h0 := abortC_len o s.c e.2.1
  unfold stepR
  repeat' split
  · simp only; omega
  · have := hrd e s.q s.c; simp only; omega
  · simp

theorem runR_len (input o : Int) (rd : Rd) (n : Nat) (hrd : ∀ e q c, (rd e q c).2.2.length ≤ n) : ∀ (l : List EvT) (s : Sig), (runR input o rd s l).2.length ≤ l.length * (n + 1)
  | [], s => by simp [runR]
  | e :: l, s => by
    have h1 := stepR_len input o rd n hrd s e
    have h2 := runR_len input o rd n hrd l (stepR input o rd s e).1
    simp only [runR, List.length_append, List.length_cons, Nat.succ_mul]
    omega

theorem allR_len (input o : Int) (rd : Rd) (n : Nat) (hrd : ∀ e q c, (rd e q c).2.2.length ≤ n) (l : List EvT) : (allR input o rd l).length ≤ l.length * (n + 1) + 1 := by
  have h1 := runR_len input o rd n hrd l sig0
  have h2 := abortC_len o (runR input o rd sig0 l).1.c (runR input o rd sig0 l).1.last
  unfold allR
  rw [List.length_append]
  omega

theorem directV_len (d : TDecl) (h : okDecl d) (l : List EvT) (hl : l.length ≤ 40) : (directV d l).1.length ≤ 1099511627776 := by
  unfold directV
  by_cases hc : ccheckV d = 0
  · have g := ccheck_zero.1 hc
    have hn : d.2.2.2.length ≤ 32 := (checkV_zero.1 g.check).2.2.1
    rw [if_pos hc]
    have := allR_len d.2.1 d.2.2.1 (rdRule d.2.2.1 d.2.2.2 d.2.2.2.length) 33554432 (fun e q c => by have := rdRule_len d.2.2.1 d h e d.2.2.2.length q c; omega) l
    show (allR _ _ _ l).length ≤ _
    have h3 : l.length * (33554432 + 1) ≤ 40 * 33554433 := Nat.mul_le_mul_right _ hl
    omega
  · rw [if_neg hc]; simp

theorem decodeV_len (t : TTable) (h : okTable t) (l : List EvT) (hl : l.length ≤ 81) : (decodeV t l).length ≤ 1099511627776 := by
  unfold decodeV
  split
  · have := allR_len t.2.1 t.2.2.1 (rdT t.2.2.1 t.2.2.2) 33554432 (fun e q c => rdT_len t.2.2.1 t h e q c) l
    have h3 : l.length * (33554432 + 1) ≤ 81 * 33554433 := Nat.mul_le_mul_right _ hl
    omega
  · simp

theorem runT_loop (t : TTable) (ht : okTable t) (input o : Int) (l : List EvT) (hl : l.length ≤ 81) : ∀ (r : List EvT) (k : Nat) (s : Sig) (out : List EvT), l.drop k = r → k ≤ l.length → s.c.1.size ≤ 4096 → out.length ≤ k * 33554433 →
    declrun_runT_l5 input o l (l.length : Int) k t out (stS s) = some ((out ++ ((runR input o (rdT o t.2.2.2) s r).2 ++ abortC o (runR input o (rdT o t.2.2.2) s r).1.c (runR input o (rdT o t.2.2.2) s r).1.last), ()), (t, ()))
  | [], k, s, out, h, hk, hs, ho => by
    have := drop_nil h
    have h1 := abortC_len o s.c s.last
    rw [declrun_runT_l5_eq, if_neg (dF (by omega))]
    refine (congrArg (fun z => Option.bind z _) (waborted_eq o s.ph s.last s.q 0 0 s.prev s.c s.last)).trans ?_
    refine (if_pos (show (out.length + (abortC o s.c s.last).length) * 64 ≤ 140737488355328 ∧ 0 < 64 from ⟨by omega, by decide⟩)).trans rfl
  | e :: r, k, s, out, h, hk, hs, ho => by
    have h1 := drop_lt h
    have hr : l.getD (k : Int).toNat dEvent = e := getD_drop h
    have h2 := stepR_len input o (rdT o t.2.2.2) 33554432 (fun e q c => rdT_len o t ht e q c) s e
    have h3 := stepR_size input o (rdT o t.2.2.2) (fun e q c => rdT_size o t.2.2.2 e q c) s e hs
    rw [declrun_runT_l5_eq, if_pos (dT (by omega)), if_pos ⟨by omega, by omega⟩, hr, stepT_eq t ht input o s e hs]
    simp only [Option.bind_some]
    rw [if_pos ⟨by omega, by decide⟩, w64a k (by omega), runT_loop t ht input o l hl r (k + 1) (stepR input o (rdT o t.2.2.2) s e).1 _ (dropS h) (by omega) h3 (by rw [List.length_append]; omega)]
    simp [runR, List.append_assoc]

theorem runD_loop (d : TDecl) (h0 : okDecl d) (hn : d.2.2.2.length ≤ 32) (input o : Int) (l : List EvT) (hl : l.length ≤ 40) : ∀ (r : List EvT) (k : Nat) (s : Sig) (out : List EvT), l.drop k = r → k ≤ l.length → s.c.1.size ≤ 4096 → out.length ≤ k * 33554433 →
    declrun_runD_l5 input o l (l.length : Int) k d out (stS s) = some ((out ++ ((runR input o (rdRule o d.2.2.2 d.2.2.2.length) s r).2 ++ abortC o (runR input o (rdRule o d.2.2.2 d.2.2.2.length) s r).1.c (runR input o (rdRule o d.2.2.2 d.2.2.2.length) s r).1.last), ()), (d, ()))
  | [], k, s, out, h, hk, hs, ho => by
    have := drop_nil h
    have h1 := abortC_len o s.c s.last
    rw [declrun_runD_l5_eq, if_neg (dF (by omega))]
    refine (congrArg (fun z => Option.bind z _) (waborted_eq o s.ph s.last s.q 0 0 s.prev s.c s.last)).trans ?_
    refine (if_pos (show (out.length + (abortC o s.c s.last).length) * 64 ≤ 140737488355328 ∧ 0 < 64 from ⟨by omega, by decide⟩)).trans rfl
  | e :: r, k, s, out, h, hk, hs, ho => by
    have h1 := drop_lt h
    have hr : l.getD (k : Int).toNat dEvent = e := getD_drop h
    have h2 := stepR_len input o (rdRule o d.2.2.2 d.2.2.2.length) 33554432 (fun e q c => by have := rdRule_len o d h0 e d.2.2.2.length q c; omega) s e
    have h3 := stepR_size input o (rdRule o d.2.2.2 d.2.2.2.length) (fun e q c => rdRule_size o d.2.2.2 e _ q c) s e hs
    rw [declrun_runD_l5_eq, if_pos (dT (by omega)), if_pos ⟨by omega, by omega⟩, hr, stepD_eq d h0 hn input o s e hs]
    simp only [Option.bind_some]
    rw [if_pos ⟨by omega, by decide⟩, w64a k (by omega), runD_loop d h0 hn input o l hl r (k + 1) (stepR input o (rdRule o d.2.2.2 d.2.2.2.length) s e).1 _ (dropS h) (by omega) h3 (by rw [List.length_append]; omega)]
    simp [runR, List.append_assoc]

theorem decode_eq (t : TTable) (ht : okTable t) (l : List EvT) (hl : l.length ≤ 81) : declrun_Decode t l = some ((decodeV t l, ()), ()) := by
  unfold declrun_Decode decodeV
  rw [tcheck_eq t ht]
  simp only [Option.bind_some]
  by_cases h : checkT t = 0
  · rw [if_neg (nF h), if_pos h]
    unfold declrun_look declrun_runT
    simp only [Option.bind_some]
    refine (congrArg (fun z => Option.bind z _) (runT_loop t ht t.2.1 t.2.2.1 l hl l 0 sig0 [] rfl (by omega) (by decide) (by simp))).trans ?_
    rfl
  · rw [if_pos (nT h), if_neg h]

theorem direct_eq (d : TDecl) (h : okDecl d) (l : List EvT) (hl : l.length ≤ 40) : declrun_Direct d l = some (((directV d l).1, (directV d l).2, ()), ()) := by
  unfold declrun_Direct directV
  rw [ccheck_eq d h]
  simp only [Option.bind_some]
  by_cases hc : ccheckV d = 0
  · have g := ccheck_zero.1 hc
    have hn : d.2.2.2.length ≤ 32 := (checkV_zero.1 g.check).2.2.1
    rw [if_neg (nF hc), if_pos hc]
    unfold declrun_runD
    refine (congrArg (fun z => Option.bind z _) (runD_loop d h hn d.2.1 d.2.2.1 l hl l 0 sig0 [] rfl (by omega) (by decide) (by simp))).trans ?_
    rfl
  · rw [if_pos (nT hc), if_neg hc]

end Go.Proofs.Ytgjimkgehbppbab
end

section
/-
Ytgjimkgehbppbab: the specification's decoding, as plain functions, comes to what the plain law says. No condition.
-/
set_option maxRecDepth 100000
set_option linter.unusedVariables false
open Go Go.AM
namespace Go.Proofs.Ytgjimkgehbppbab

theorem rvalid_eq (e : EvT) : ref07_Valid e = some ((validV e, ()), ()) := by
  unfold ref07_Valid validV
  by_cases h1 : e.1 < 1
  · rw [if_pos (dT h1), if_pos (.inl h1)]
  rw [if_neg (dF h1)]
  by_cases h2 : e.1 > 8
  · rw [if_pos (dT h2), if_pos (.inr h2)]
  rw [if_neg (dF h2), if_neg (show ¬ (e.1 < 1 ∨ 8 < e.1) by omega)]
  by_cases h3 : e.2.1 < 0
  · rw [if_pos (dT h3), if_pos (.inl h3)]
  rw [if_neg (dF h3)]
  by_cases h4 : e.2.1 > e.2.2.1
  · rw [if_pos (dT h4), if_pos (.inr (.inl h4))]
  rw [if_neg (dF h4)]
  by_cases h5 : e.2.2.1 > 1099511627776
  · rw [if_pos (dT h5), if_pos (show e.2.1 < 0 ∨ e.2.2.1 < e.2.1 ∨ 1099511627776 < e.2.2.1 from .inr (.inr h5))]
  rw [if_neg (dF h5), if_neg (show ¬ (e.2.1 < 0 ∨ e.2.2.1 < e.2.1 ∨ 1099511627776 < e.2.2.1) by omega)]
  by_cases ha : (e.2.2.2.2.2.1.size : Int) > 4096
  · rw [if_pos (dT ha)]
    split
    · rfl
    · rw [show decide ((e.2.2.2.2.2.1.size : Int) ≤ 4096 ∧ 0 ≤ e.2.2.2.2.2.2 ∧ e.2.2.2.2.2.2 ≤ 12) = false from decide_eq_false (fun q => by omega)]
  rw [if_neg (dF ha)]
  by_cases hb : e.2.2.2.2.2.2 < 0
  · rw [if_pos (dT hb)]
    split
    · rfl
    · rw [show decide ((e.2.2.2.2.2.1.size : Int) ≤ 4096 ∧ 0 ≤ e.2.2.2.2.2.2 ∧ e.2.2.2.2.2.2 ≤ 12) = false from decide_eq_false (fun q => by omega)]
  rw [if_neg (dF hb)]
  by_cases hc : e.2.2.2.2.2.2 > 12
  · rw [if_pos (dT hc)]
    split
    · rfl
    · rw [show decide ((e.2.2.2.2.2.1.size : Int) ≤ 4096 ∧ 0 ≤ e.2.2.2.2.2.2 ∧ e.2.2.2.2.2.2 ≤ 12) = false from decide_eq_false (fun q => by omega)]
  rw [if_neg (dF hc), show decide ((e.2.2.2.2.2.1.size : Int) ≤ 4096 ∧ 0 ≤ e.2.2.2.2.2.2 ∧ e.2.2.2.2.2.2 ≤ 12) = true from decide_eq_true (by omega)]
  by_cases h6 : e.2.2.2.1 ≥ -9007199254740992
  · rw [if_pos (dT h6)]
    by_cases h7 : e.2.2.2.1 ≤ 9007199254740992
    · rw [if_pos (dT h7)]
      by_cases h8 : e.2.2.2.2.1 ≥ -9007199254740992
      · rw [if_pos (dT h8)]
        by_cases h9 : e.2.2.2.2.1 ≤ 9007199254740992
        · rw [dT h9, if_neg (by omega)]
        · rw [show decide (e.2.2.2.2.1 ≤ 9007199254740992) = false from decide_eq_false h9, if_pos (by omega)]
      · rw [if_neg (dF h8), if_pos (by omega)]
    · rw [if_neg (dF h7), if_pos (by omega)]
  · rw [if_neg (dF h6), if_pos (by omega)]

def rcore (r : TState) : Core := (r.2.2.2.2.2.2.2, r.2.2.1)
def setC (r : TState) (c : Core) : TState := (r.1, r.2.1, c.2, r.2.2.2.1, r.2.2.2.2.1, r.2.2.2.2.2.1, r.2.2.2.2.2.2.1, c.1)

theorem rcollect_eq (r : TState) (e : EvT) (b : Int) (hs : (rcore r).1.size ≤ 4096) : ref37_collect r e b = some ((setC r (colC e b (rcore r)), ()), ()) := by
  obtain ⟨r1, r2, r3, r4, r5, r6, r7, r8⟩ := r
  have hs' : r8.size ≤ 4096 := hs
  have h1 : (strOfBytes [IntKind.u8.wrap b]).size = 1 := rfl
  unfold ref37_collect colC
  by_cases h : 4096 ≤ r8.size
  · rw [if_pos (eT (show ((r8.size : Nat) : Int) = 4096 by omega)), if_pos (show 4096 ≤ (rcore (r1, r2, r3, r4, r5, r6, r7, r8)).1.size from h)]; rfl
  · rw [if_neg (eF (show ¬ ((r8.size : Nat) : Int) = 4096 by omega)), if_neg (show ¬ 4096 ≤ (rcore (r1, r2, r3, r4, r5, r6, r7, r8)).1.size from h)]
    unfold fromC emptyB
    by_cases h2 : (r8.toList == (strB []).toList) = true
    · rw [if_pos (show ((rcore (r1, r2, r3, r4, r5, r6, r7, r8)).1.toList == (strB []).toList) = true from h2)]
      refine (if_pos h2).trans ?_
      rw [ref37_collect_l4_eq, if_pos (by show r8.size + _ ≤ _; omega)]; rfl
    · rw [if_neg (show ¬ ((rcore (r1, r2, r3, r4, r5, r6, r7, r8)).1.toList == (strB []).toList) = true from h2)]
      refine (if_neg h2).trans ?_
      rw [ref37_collect_l4_eq, if_pos (by show r8.size + _ ≤ _; omega)]; rfl

theorem remitted_eq (o : Int) (r : TState) (e : EvT) (v f : Int) : ref37_emitted o r e v f = some ((evC o e v f (rcore r), ()), ()) := by
  obtain ⟨r1, r2, r3, r4, r5, r6, r7, r8⟩ := r
  unfold ref37_emitted evC fromC emptyB
  by_cases h2 : (r8.toList == (strB []).toList) = true
  · rw [if_pos (show ((rcore (r1, r2, r3, r4, r5, r6, r7, r8)).1.toList == (strB []).toList) = true from h2)]
    refine (if_neg (show ¬ (!(r8.toList == (strB []).toList)) = true by rw [h2]; simp)).trans rfl
  · rw [if_neg (show ¬ ((rcore (r1, r2, r3, r4, r5, r6, r7, r8)).1.toList == (strB []).toList) = true from h2)]
    refine (if_pos (show (!(r8.toList == (strB []).toList)) = true by simpa using h2)).trans rfl

theorem _root_.Go.AM.CEq.col {c d : Core} (h : CEq c d) (e : EvT) (b : Int) : CEq (colC e b c) (colC e b d) := by
  unfold colC
  rw [h.1]
  split
  · exact h
  · exact ⟨rfl, fun _ => h.from e⟩

theorem _root_.Go.AM.CEq.ev {c d : Core} (h : CEq c d) (o : Int) (e : EvT) (v f : Int) : evC o e v f c = evC o e v f d := by
  unfold evC
  rw [h.from e, h.1]

theorem _root_.Go.AM.CEq.zero (x : Int) : CEq core0 (strB [], x) := ⟨rfl, fun h => Bool.noConfusion (h.symm.trans (show emptyB core0.1 = true by kernel_rfl))⟩

theorem ract_eq (o : Int) (r : TState) (e : EvT) (a : ActT) (c : Core) (hc : CEq c (rcore r)) (hs : c.1.size ≤ 4096) :
    ∃ c', CEq (actC o e c a).1 c' ∧ ref37_act o r e a = some ((setC r c', (actC o e c a).2, ()), ()) := by
  have hs' : (rcore r).1.size ≤ 4096 := by rw [← hc.1]; exact hs
  unfold ref37_act actC
  by_cases h1 : a.1 = 1
  · rw [if_pos h1, if_pos (eT h1)]
    exact ⟨(strB [], r.2.2.1), CEq.zero _, rfl⟩
  rw [if_neg h1, if_neg (eF h1)]
  by_cases h2 : a.1 = 2
  · rw [if_pos h2, if_pos (eT h2), rcollect_eq r e _ hs']
    exact ⟨_, hc.col e _, rfl⟩
  rw [if_neg h2, if_neg (eF h2)]
  by_cases h3 : a.1 = 3
  · rw [if_pos h3, if_pos (eT h3), rcollect_eq r e _ hs']
    exact ⟨_, hc.col e _, rfl⟩
  rw [if_neg h3, if_neg (eF h3)]
  by_cases h4 : a.1 = 4
  · rw [if_pos h4, if_pos (eT h4), rcollect_eq r e _ hs']
    exact ⟨_, hc.col e _, rfl⟩
  rw [if_neg h4, if_neg (eF h4)]
  by_cases h5 : a.1 = 5
  · rw [if_pos h5, if_pos (eT h5), remitted_eq, ← hc.ev o e a.2 0]
    exact ⟨(strB [], r.2.2.1), CEq.zero _, rfl⟩
  rw [if_neg h5, if_neg (eF h5)]
  by_cases h6 : a.1 = 6
  · rw [if_pos h6, if_pos (eT h6), remitted_eq, ← hc.ev o e 0 a.2]
    exact ⟨(strB [], r.2.2.1), CEq.zero _, rfl⟩
  rw [if_neg h6, if_neg (eF h6)]
  exact ⟨rcore r, hc, rfl⟩

theorem rall_loop37 (o : Int) (e : EvT) (z : TState) (l : List ActT) (hl : l.length ≤ 1073741824) : ∀ (m : List ActT) (k : Nat) (r : TState) (c : Core) (out : List EvT), l.drop k = m → CEq c (rcore r) → c.1.size ≤ 4096 → out.length + m.length ≤ 1099511627776 →
    ∃ c', CEq (doC o e c m).1 c' ∧ ref37_all_l4 o l k r e z out = some ((setC r c', out ++ (doC o e c m).2, ()), ())
  | [], k, r, c, out, h, hc, hs, ho => by
    have := drop_nil h
    rw [ref37_all_l4_eq, if_neg (dF (by omega))]
    exact ⟨rcore r, hc, by simp [doC]; rfl⟩
  | a :: m, k, r, c, out, h, hc, hs, ho => by
    have h1 := drop_lt h
    have hr : l.getD (k : Int).toNat dAct = a := getD_drop h
    have hlen := actC_len o e c a
    simp only [List.length_cons] at ho
    obtain ⟨c1, hc1, e1⟩ := ract_eq o r e a c hc hs
    rw [ref37_all_l4_eq, if_pos (dT (by omega)), if_pos ⟨by omega, by omega⟩, hr, e1]
    simp only [Option.bind_some]
    rw [if_pos ⟨by omega, by decide⟩, w64a k (by omega)]
    obtain ⟨c2, hc2, e2⟩ := rall_loop37 o e z l hl m (k + 1) (setC r c1) (actC o e c a).1 (out ++ (actC o e c a).2) (dropS h) hc1 (actC_size o e c a hs) (by rw [List.length_append]; omega)
    refine ⟨c2, hc2, e2.trans ?_⟩
    simp [doC, List.append_assoc]
    rfl

theorem rall_eq37 (o : Int) (r : TState) (e : EvT) (l : List ActT) (hl : l.length ≤ 1073741824) (c : Core) (hc : CEq c (rcore r)) (hs : c.1.size ≤ 4096) :
    ∃ c', CEq (doC o e c l).1 c' ∧ ref37_all o r e l = some ((setC r c', (doC o e c l).2, ()), ()) := by
  unfold ref37_all
  obtain ⟨c', h1, h2⟩ := rall_loop37 o e (0, 0, 0, 0, 0, 0, 0, strB []) l hl l 0 r c [] rfl hc hs (by simp; omega)
  exact ⟨c', h1, h2⟩

/-- The specification's state for a state. -/
structure RSt (s : Sig) (r : TState) : Prop where
  q : r.1 = s.q
  fresh : s.ph = 0 → r.2.1 = 0
  prev : s.ph ≠ 0 → r.2.1 = s.prev
  core : CEq s.c (rcore r)
  last : r.2.2.2.2.2.1 = s.last

theorem raborted_eq (o : Int) (r : TState) (c : Core) (hc : CEq c (rcore r)) (t : Int) : ref37_aborted o r t = some ((abortC o c t, ()), ()) := by
  obtain ⟨r1, r2, r3, r4, r5, r6, r7, r8⟩ := r
  obtain ⟨c1, c2⟩ := c
  obtain ⟨rfl, h2⟩ := hc
  have h2' : emptyB c1 = false → c2 = r3 := h2
  unfold ref37_aborted abortC
  cases h : emptyB c1 with
  | true =>
    have h' : (c1.toList == (strB []).toList) = true := h
    exact (if_pos h').trans rfl
  | false =>
    have h' : ¬ (c1.toList == (strB []).toList) = true := by unfold emptyB at h; rw [h]; simp
    rw [h2' h]
    refine (if_neg h').trans ?_
    simp only [ref37_aborted_l4_eq]
    show (if (decide (t < r3)) = true then some (([(o, r3, r3, 0, 0, strB [], 7)], ()), ()) else some (([(o, r3, t, 0, 0, strB [], 7)], ()), ())) = some ((if false = true then [] else [(o, r3, (if r3 < t then t else r3), 0, 0, strB [], 7)], ()), ())
    rw [if_neg (show ¬ false = true by simp)]
    by_cases h3 : t < r3
    · rw [if_pos (dT h3), if_neg (by omega)]
    · rw [if_neg (dF h3)]
      by_cases h4 : r3 < t
      · rw [if_pos h4]
      · rw [if_neg h4, show t = r3 by omega]

theorem raccepts_eq (input : Int) (hi : input = 2 ∨ input = 3) (s : Sig) (r : TState) (hr : RSt s r) (e : EvT) : ref37_accepts input r e = some ((accV input s e, ()), ()) := by
  unfold ref37_accepts accV
  rw [rvalid_eq]
  simp only [Option.bind_some]
  cases hv : validV e with
  | false => exact (if_pos rfl).trans rfl
  | true =>
    have hf : 0 ≤ e.2.1 := by
      unfold validV at hv
      split at hv
      · cases hv
      · split at hv
        · cases hv
        · omega
    refine (if_neg (by simp)).trans ?_
    by_cases h1 : e.1 = input
    · rw [if_neg (nF h1)]
      have hp : decide (e.2.1 < r.2.1) = !(decide (s.ph = 0) || decide (s.prev ≤ e.2.1)) := by
        by_cases h0 : s.ph = 0
        · rw [hr.fresh h0]; simp [h0]; omega
        · rw [hr.prev h0, show decide (s.ph = 0) = false from decide_eq_false h0, Bool.false_or, ← decide_not]; exact decide_eq_decide.2 (by omega)
      rw [hp]
      cases hq : (decide (s.ph = 0) || decide (s.prev ≤ e.2.1)) with
      | false => simp
      | true =>
        refine (if_neg (by simp)).trans ?_
        by_cases h2 : e.2.2.2.1 < 0
        · rw [if_pos (dT h2)]; simp [h1]; omega
        · rw [if_neg (dF h2)]
          by_cases h3 : e.2.2.2.1 > 255
          · rw [if_pos (dT h3)]
            have : ¬ e.2.2.2.1 ≤ (topI input : Int) := by unfold topI; split <;> omega
            simp [this]
          · rw [if_neg (dF h3)]
            rcases hi with rfl | rfl
            · refine (if_neg (by decide)).trans ?_
              have : decide (e.2.2.2.1 < 2) = decide (e.2.2.2.1 ≤ ((topI 2 : Nat) : Int)) := decide_eq_decide.2 (by show _ ↔ e.2.2.2.1 ≤ 1; omega)
              rw [this]
              have h2' : 0 ≤ e.2.2.2.1 := by omega
              simp [h1, h2']
            · refine (if_pos (by decide)).trans ?_
              have h3' : e.2.2.2.1 ≤ ((topI 3 : Nat) : Int) := by show _ ≤ (255 : Int); omega
              have h2' : 0 ≤ e.2.2.2.1 := by omega
              simp [h1, h2', h3']
    · rw [if_pos (nT h1)]; simp [h1]

end Go.Proofs.Ytgjimkgehbppbab
end

section
/-
Ytgjimkgehbppbab: the specification's decoding by rules; events compared; the chapter's example. No condition.
-/
set_option maxRecDepth 100000
set_option linter.unusedVariables false
open Go Go.AM
namespace Go.Proofs.Ytgjimkgehbppbab

def setQ (r : TState) (q : Int) (c : Core) : TState := (q, r.2.1, c.2, r.2.2.2.1, r.2.2.2.2.1, r.2.2.2.2.2.1, r.2.2.2.2.2.2.1, c.1)

theorem rdRule_len' (o : Int) (d : TDecl) (h : okDecl d) (e : EvT) (m : Nat) (q : Int) (c : Core) : (rdRule o d.2.2.2 m e q c).2.2.length ≤ m * 1048576 := rdRule_len o d h e m q c

theorem evsame_loop (a : List EvT) (ha : a.length ≤ 1099511627776) : ∀ (c k : Nat), c = a.length - k → k ≤ a.length → ref07_Same_l6 a a k = some ((true, ()), ()) := by
  intro c
  induction c with
  | zero => intro k hc hk; rw [ref07_Same_l6_eq, if_neg (dF (by omega))]
  | succ c ih =>
    intro k hc hk
    have hkl : k < a.length := by omega
    have hin : (0 : Int) ≤ k ∧ (k : Int) < (a.length : Int) := ⟨by omega, by omega⟩
    rw [ref07_Same_l6_eq, if_pos (dT (by omega)), if_pos hin, if_pos hin, w64a k (by omega), ih (k + 1) (by omega) (by omega), (eqU_iff uEvent rfl _ _).2 rfl]
    rfl

theorem evsame (a : List EvT) (ha : a.length ≤ 1099511627776) : ref07_Same a a = some ((true, ()), ()) := by
  unfold ref07_Same
  rw [if_neg (nF rfl)]
  exact evsame_loop a ha _ 0 rfl (Nat.zero_le _)

theorem small37 (l : List EvT) : ∃ b, law37_small l = some ((b, ()), ()) ∧ (b = true → l.length ≤ 40) := by
  unfold law37_small
  by_cases h : (l.length : Int) > 40
  · exact ⟨false, if_pos (dT h), fun q => by cases q⟩
  · have key : ∀ (c k : Nat), c = l.length - k → k ≤ l.length → ∃ b, law37_small_l6 l k = some ((b, ()), ()) := by
      intro c
      induction c with
      | zero => intro k hc hk; exact ⟨true, by rw [law37_small_l6_eq, if_neg (dF (by omega))]⟩
      | succ c ih =>
        intro k hc hk
        rw [law37_small_l6_eq, if_pos (dT (by omega)), if_pos ⟨by omega, by omega⟩, w64a k (by omega)]
        split
        · exact ⟨false, rfl⟩
        · exact ih (k + 1) (by omega) (by omega)
    obtain ⟨b, hb⟩ := key _ 0 rfl (Nat.zero_le _)
    exact ⟨b, (if_neg (dF h)).trans hb, fun _ => by omega⟩

theorem short37 (r : TRule) : ∃ b, law37_short r = some ((b, ()), ()) := by
  unfold law37_short
  split
  · exact ⟨_, rfl⟩
  · exact ⟨_, rfl⟩

theorem brief37 (d : TDecl) (h : okDecl d) : ∃ b, law37_brief d = some ((b, ()), ()) := by
  have hd := h.1
  have key : ∀ (c i : Nat), c = d.2.2.2.length - i → i ≤ d.2.2.2.length → ∃ b, law37_brief_l6 i d = some ((b, ()), ()) := by
    intro c
    induction c with
    | zero => intro i hc hi; exact ⟨true, by rw [law37_brief_l6_eq, if_neg (dF (by omega))]⟩
    | succ c ih =>
      intro i hc hi
      have hil : i < d.2.2.2.length := by omega
      obtain ⟨hl, _⟩ := h.2 _ (List.getElem_mem hil)
      have hg : d.2.2.2.getD (i : Int).toNat dDeclState = d.2.2.2[i] := getD_in _ hil
      have inner : ∀ (e k : Nat), e = d.2.2.2[i].2.1.length - k → k ≤ d.2.2.2[i].2.1.length → ∃ b, law37_brief_l15 i k d d.2.2.2[i] = some ((b, ()), ()) := by
        intro e
        induction e with
        | zero =>
          intro k he hk
          rw [law37_brief_l15_eq, if_neg (dF (by omega)), w64a i (by omega)]
          exact ih (i + 1) (by omega) (by omega)
        | succ e ihe =>
          intro k he hk
          obtain ⟨b, hb⟩ := short37 (d.2.2.2[i].2.1.getD (k : Int).toNat dRule)
          rw [law37_brief_l15_eq, if_pos (dT (by omega)), if_pos ⟨by omega, by omega⟩, hb, w64a k (by omega)]
          simp only [Option.bind_some]
          split
          · exact ⟨false, rfl⟩
          · exact ihe (k + 1) (by omega) (by omega)
      obtain ⟨b, hb⟩ := short37 d.2.2.2[i].2.2.2
      rw [law37_brief_l6_eq, if_pos (dT (by omega)), if_pos ⟨by omega, by omega⟩, hg, hb]
      simp only [Option.bind_some]
      split
      · exact ⟨false, rfl⟩
      · split
        · exact ⟨false, rfl⟩
        · split
          · exact ⟨false, rfl⟩
          · exact inner _ 0 rfl (Nat.zero_le _)
  unfold law37_brief
  split
  · exact ⟨false, rfl⟩
  · split
    · exact ⟨false, rfl⟩
    · exact key _ 0 rfl (Nat.zero_le _)

/-! ### the example -/
def lnD : TDecl := ((strB [108, 105, 110, 101, 115]), 3, 6, [((strB [97]), [(10, 10, (strB [97]), false, [(5, 0)])], true, 0, 0, (strB [97]), false, [(2, 0)])])
def lnT : TTable := ((strB [108, 105, 110, 101, 115]), 3, 6, [[(0, 9, 0, [(2, 0)]), (10, 10, 0, [(5, 0)]), (11, 255, 0, [(2, 0)])]])
def lnE : List EvT := [(3, 0, 4, 104, 0, (strB []), 0), (3, 5, 9, 105, 0, (strB []), 0), (3, 10, 14, 10, 0, (strB []), 0)]
def lnE2 : List EvT := [(3, 0, 4, 104, 0, (strB []), 0), (3, 5, 9, 105, 0, (strB []), 0)]
theorem ok_ln : okDecl lnD := okDecl_bk lnD (by decide)
theorem ok_lnT : okTable lnT := okTable_bk lnT (by decide)
theorem ln_check : checkV lnD = 0 := by kernel_rfl
theorem ln_amb : firstV lnD.2.2.2.length (topV lnD) (ambP lnD.2.2.2) = none := by kernel_rfl
theorem ln_mis : firstV lnD.2.2.2.length (topV lnD) (misP lnD.2.2.2) = none := by kernel_rfl
theorem ln_cyc : firstV lnD.2.2.2.length (topV lnD) (cycP lnD.2.2.2) = none := by kernel_rfl
theorem ln_reach : (reachV lnD.2.2.2).all id = true := all_reach.2 fun j hj => by
  have hj' : j < 1 := hj
  have e : j = 0 := by omega
  subst e
  exact .zero hj
theorem ln_cc : ccheckV lnD = 0 := by unfold ccheckV; rw [ln_check, ln_amb, ln_mis, ln_cyc, if_pos ln_reach]; rfl
theorem ln_rows : rowsF lnD.2.2.2 (topV lnD) lnD.2.2.2.length 0 [] = some lnT.2.2.2 := by kernel_rfl
theorem ln_compile : compileV lnD = (lnT, 0) := by unfold compileV; rw [if_pos ln_cc, ln_rows]; rfl
theorem ln_all : allR lnD.2.1 lnD.2.2.1 (rdRule lnD.2.2.1 lnD.2.2.2 lnD.2.2.2.length) lnE = [(6, 0, 14, 0, 0, (strB [104, 105]), 0)] := by kernel_rfl
theorem ln_all2 : allR lnD.2.1 lnD.2.2.1 (rdRule lnD.2.2.1 lnD.2.2.2 lnD.2.2.2.length) lnE2 = [(6, 0, 9, 0, 0, (strB []), 7)] := by kernel_rfl
theorem ln_dec : decodeV lnT lnE = [(6, 0, 14, 0, 0, (strB [104, 105]), 0)] := by kernel_rfl

theorem awake37 : law37_awake = some ((true, ()), ()) := by
  have e1 : declrun_Direct lnD lnE = some (([(6, 0, 14, 0, 0, (strB [104, 105]), 0)], 0, ()), ()) := by rw [direct_eq lnD ok_ln lnE (by decide)]; unfold directV; rw [if_pos ln_cc, ln_all]
  have e2 : declrun_Direct lnD lnE2 = some (([(6, 0, 9, 0, 0, (strB []), 7)], 0, ()), ()) := by rw [direct_eq lnD ok_ln lnE2 (by decide)]; unfold directV; rw [if_pos ln_cc, ln_all2]
  have e3 : decltab_Compile lnD = some ((lnT, 0, ()), ()) := by rw [compile_eq lnD ok_ln, ln_compile]
  have e4 : declrun_Decode lnT lnE = some (([(6, 0, 14, 0, 0, (strB [104, 105]), 0)], ()), ()) := by rw [decode_eq lnT ok_lnT lnE (by decide), ln_dec]
  unfold law37_awake law37_lines
  simp only [Option.bind_some]
  refine (congrArg (fun z => Option.bind z _) e1).trans ?_
  simp only [Option.bind_some]
  refine (congrArg (fun z => Option.bind z _) e2).trans ?_
  simp only [Option.bind_some]
  refine (congrArg (fun z => Option.bind z _) e3).trans ?_
  simp only [Option.bind_some]
  iterate 5 (refine Eq.trans (if_neg ?_) ?_; · decide)
  refine (congrArg (fun z => Option.bind z _) e4).trans ?_
  simp only [Option.bind_some]
  kernel_rfl

end Go.Proofs.Ytgjimkgehbppbab
end

section
/-
Ytgjimkgehbppbab: compiled tables are valid, their adjacent cells differ. No condition.
-/
set_option maxRecDepth 100000
open Go Go.AM
namespace Go.Proofs.Ytgjimkgehbppbab

theorem seg_mem : ∀ {cs : List CellT} {a b : Int}, SegC a cs b → ∀ c ∈ cs, a ≤ c.1 ∧ c.1 ≤ c.2.1 ∧ c.2.1 < b
  | c :: r, a, b, ⟨h1, h2, h3⟩, c', hc => by
    have := SegC.le h3
    rcases List.mem_cons.1 hc with rfl | hc
    · omega
    · have := seg_mem h3 c' hc; omega
  | [], _, _, _, c', hc => by simp at hc

theorem row_good (d : TDecl) (g : GoodD d) (i : Nat) (hi : i < d.2.2.2.length) (cs : List CellT) (hr : rowF (resF d.2.2.2 i) (topV d + 1) 0 [] = some cs) : rowE (topV d) d.2.2.2.length 0 cs = 0 ∧ AdjN (valsC cs) := by
  have hv := rowF_inv _ _ _ _ hr ⟨rfl, fun c hc => by simp at hc⟩
  have ha := (rowF_ok _ _ _ _ _ hr (fun q hq => by simp at hq)).2
  have hs : SegC 0 cs ((topV d : Int) + 1) := by
    have := hv.seg
    rwa [show ((0 + (topV d + 1) : Nat) : Int) = (topV d : Int) + 1 by omega] at this
  refine ⟨rowE_zero hs (fun c hc => ?_), rowF_adj _ _ _ _ hr trivial⟩
  obtain ⟨h1, h2, h3⟩ := seg_mem hs c hc
  obtain ⟨y, hy⟩ : ∃ y : Nat, c.1 = y := ⟨c.1.toNat, by omega⟩
  have e := hv.val c hc y (hitC_iff.2 ⟨by omega, by omega⟩)
  obtain ⟨k1, k2⟩ := follow_ok g (x := y) (by omega) (d.2.2.2.length + 1) i [] hi (fun a ha => by simp at ha)
  have e' : c.2.2 = followV d.2.2.2 y (d.2.2.2.length + 1) i [] := e
  exact ⟨ha c hc, by rw [e']; exact k1, by rw [e']; exact k2⟩

theorem table_good {top n : Int} : ∀ {rows : List (List CellT)}, (∀ cs ∈ rows, rowE top n 0 cs = 0) → tableE top n rows = 0
  | [], _ => rfl
  | cs :: r, h => by
    show (if rowE top n 0 cs = 0 then tableE top n r else _) = 0
    rw [if_pos (h cs (by simp))]
    exact table_good (fun c hc => h c (by simp [hc]))

theorem rows_good (d : TDecl) (g : GoodD d) (rows : List (List CellT)) (hr : rowsF d.2.2.2 (topV d) d.2.2.2.length 0 [] = some rows) :
    rows.length = d.2.2.2.length ∧ ∀ cs ∈ rows, rowE (topV d) d.2.2.2.length 0 cs = 0 ∧ AdjN (valsC cs) := by
  have hl := (rowsF_ok _ _ (topV_le d) _ _ _ _ hr (fun q hq => by simp at hq)).1
  have hl' : rows.length = d.2.2.2.length := by simpa using hl
  refine ⟨hl', fun cs hc => ?_⟩
  obtain ⟨j, hj⟩ := List.mem_iff_getElem?.1 hc
  have hjl := (List.getElem?_eq_some_iff.1 hj).1
  obtain ⟨cs', h1, h2⟩ := (rowsF_get _ _ _ 0 [] rows hr rfl).2 j (Nat.zero_le _) (by omega)
  rw [hj] at h1
  cases h1
  exact row_good d g j (by omega) cs h2

theorem checkT_good (d : TDecl) (g : GoodD d) (rows : List (List CellT)) (hr : rowsF d.2.2.2 (topV d) d.2.2.2.length 0 [] = some rows) : checkT (d.1, d.2.1, d.2.2.1, rows) = 0 := by
  obtain ⟨c1, ⟨c2, c3, c4⟩, c5, _⟩ := checkV_zero.1 g.check
  obtain ⟨h1, h2⟩ := rows_good d g rows hr
  unfold checkT
  simp only
  rw [if_pos c1, if_pos ⟨c2, c3⟩, if_neg (by omega), h1]
  exact table_good (fun cs hc => (h2 cs hc).1)

end Go.Proofs.Ytgjimkgehbppbab
end

section
/-
Ytgjimkgehbppbab: the laws of decoding, as plain functions, come to true. No condition.
-/
set_option maxRecDepth 100000
set_option linter.unusedVariables false
open Go Go.AM
namespace Go.Proofs.Ytgjimkgehbppbab

theorem compileV_zero (d : TDecl) (h : (compileV d).2 = 0) : ccheckV d = 0 ∧ ∃ rows, rowsF d.2.2.2 (topV d) d.2.2.2.length 0 [] = some rows ∧ (compileV d).1 = (d.1, d.2.1, d.2.2.1, rows) := by
  unfold compileV at h ⊢
  by_cases hc : ccheckV d = 0
  · rw [if_pos hc] at h ⊢
    cases hr : rowsF d.2.2.2 (topV d) d.2.2.2.length 0 [] with
    | none => rw [hr] at h; cases h
    | some rows => exact ⟨hc, rows, rfl, rfl⟩
  · rw [if_neg hc] at h; exact absurd h hc

theorem DeclrunFollowsRules_true (d : TDecl) (l : List EvT) (h : okDecl d) : law37_DeclrunFollowsRules d l = some ((true, ()), ()) := by
  obtain ⟨b, hb, hbl⟩ := small37 l
  obtain ⟨b2, hb2⟩ := brief37 d h
  unfold law37_DeclrunFollowsRules
  rw [hb, hb2, awake37]
  simp only [Option.bind_some]
  cases b with
  | false => rfl
  | true =>
    have hl := hbl rfl
    refine (if_neg (by simp)).trans ?_
    cases b2 with
    | false => rfl
    | true =>
      refine (if_neg (by simp)).trans ?_
      rw [compile_eq d h]
      simp only [Option.bind_some]
      by_cases h0 : (compileV d).2 = 0
      · obtain ⟨hc, rows, hr, e1⟩ := compileV_zero d h0
        have g := ccheck_zero.1 hc
        have hz := checkV_zero.1 g.check
        have hd : directV d l = (allR d.2.1 d.2.2.1 (rdRule d.2.2.1 d.2.2.2 d.2.2.2.length) l, 0) := by unfold directV; rw [if_pos hc]
        have hok := compileV_ok d h (topV_le d)
        have hlen := directV_len d h l hl
        have hdec : decodeV (compileV d).1 l = (directV d l).1 := by
          rw [e1, hd]
          unfold decodeV
          rw [if_pos (checkT_good d g rows hr)]
          exact compiled_same d g hr (by have := hz.2.1.2.2; omega) _ l
        refine (if_neg (nF h0)).trans ?_
        rw [direct_eq d h l hl, decode_eq _ hok l (by omega), hdec]
        simp only [Option.bind_some]
        rw [evsame _ hlen, hd]
        rfl
      · exact (if_pos (nT h0)).trans rfl

theorem narrow37 (t : TTable) (h : okTable t) : ∃ b, law37_narrow t = some ((b, ()), ()) := by
  have hn := h.1
  have key : ∀ (c i : Nat), c = t.2.2.2.length - i → i ≤ t.2.2.2.length → ∃ b, law37_narrow_l6 i t = some ((b, ()), ()) := by
    intro c
    induction c with
    | zero => intro i hc hi; exact ⟨true, by rw [law37_narrow_l6_eq, if_neg (dF (by omega))]⟩
    | succ c ih =>
      intro i hc hi
      have hil : i < t.2.2.2.length := by omega
      obtain ⟨hl, _⟩ := h.2 _ (List.getElem_mem hil)
      have hin : (0 : Int) ≤ i ∧ (i : Int) < (t.2.2.2.length : Int) := ⟨by omega, by omega⟩
      have hg : t.2.2.2.getD (i : Int).toNat [] = t.2.2.2[i] := getD_in _ hil
      have inner : ∀ (e k : Nat), e = t.2.2.2[i].length - k → k ≤ t.2.2.2[i].length → ∃ b, law37_narrow_l14 i k t = some ((b, ()), ()) := by
        intro e
        induction e with
        | zero =>
          intro k he hk
          rw [law37_narrow_l14_eq, if_pos hin, hg, if_neg (dF (by omega)), w64a i (by omega)]
          exact ih (i + 1) (by omega) (by omega)
        | succ e ihe =>
          intro k he hk
          rw [law37_narrow_l14_eq, if_pos hin, hg, if_pos (dT (by omega)), if_pos hin, if_pos ⟨by omega, by omega⟩, w64a k (by omega)]
          split
          · exact ⟨false, rfl⟩
          · exact ihe (k + 1) (by omega) (by omega)
      rw [law37_narrow_l6_eq, if_pos (dT (by omega)), if_pos hin, hg]
      split
      · exact ⟨false, rfl⟩
      · exact inner _ 0 rfl (Nat.zero_le _)
  unfold law37_narrow
  split
  · exact ⟨false, rfl⟩
  · split
    · exact ⟨false, rfl⟩
    · exact key _ 0 rfl (Nat.zero_le _)

/-! ### events that are not accepted -/
theorem not_accepted (t : TTable) (x : EvT) (h : ¬ (x.1 = t.2.1 ∧ 0 ≤ x.2.2.2.1 ∧ x.2.2.2.1 ≤ 255 ∧ 0 ≤ x.2.1 ∧ x.2.1 ≤ x.2.2.1)) (s : Sig) : accV t.2.1 s x = false := by
  cases ha : accV t.2.1 s x with
  | false => rfl
  | true =>
    unfold accV at ha
    simp only [Bool.and_eq_true, decide_eq_true_eq] at ha
    obtain ⟨⟨⟨⟨h1, h2⟩, h3⟩, h4⟩, _⟩ := ha
    have h5 : 0 ≤ x.2.1 ∧ x.2.1 ≤ x.2.2.1 := by
      unfold validV at h1
      split at h1
      · cases h1
      · split at h1
        · cases h1
        · omega
    have h6 : x.2.2.2.1 ≤ 255 := by unfold topI at h4; split at h4 <;> omega
    exact absurd ⟨h2, h3, h6, h5⟩ h

theorem ignores_loop (t : TTable) (h : okTable t) (x : EvT) (hx : ∀ s, accV t.2.1 s x = false) (l : List EvT) (hl : l.length ≤ 40) : ∀ (r : List EvT) (k : Nat) (p : List EvT), l = p ++ r → p.length = k → law37_DeclrunIgnores_l7 l k t x (inter x p) = some ((true, ()), ())
  | [], k, p, hp, hk => by
    have hp' : l = p := by simpa using hp
    subst hp'
    have h1 := inter_len x l
    have e : decodeV t (inter x l ++ [x]) = decodeV t l := by
      unfold decodeV
      rw [allR_inter hx]
    rw [law37_DeclrunIgnores_l7_eq, if_neg (dF (by omega)), if_pos ⟨by omega, by decide⟩, decode_eq t h _ (by simp only [List.length_append, List.length_cons, List.length_nil]; omega), decode_eq t h l (by omega), e]
    simp only [Option.bind_some]
    rw [evsame _ (decodeV_len t h l (by omega)), awake37]
    rfl
  | e :: r, k, p, hp, hk => by
    have h1 := inter_len x p
    have h2 : l.drop k = e :: r := by rw [hp, ← hk]; simp
    have h3 := drop_lt h2
    have hg : l.getD (k : Int).toNat dEvent = e := getD_drop h2
    rw [law37_DeclrunIgnores_l7_eq, if_pos (dT (by omega)), if_pos ⟨by omega, by omega⟩, if_pos ⟨by omega, by decide⟩, hg, w64a k (by omega), ← inter_snoc]
    exact ignores_loop t h x hx l hl r (k + 1) (p ++ [e]) (by simp [hp]) (by simp [hk])

theorem DeclrunIgnores_true (t : TTable) (l : List EvT) (x : EvT) (h : okTable t) : law37_DeclrunIgnores t l x = some ((true, ()), ()) := by
  obtain ⟨b, hb, hbl⟩ := small37 l
  obtain ⟨b2, hb2⟩ := narrow37 t h
  unfold law37_DeclrunIgnores
  rw [hb, hb2, awake37]
  simp only [Option.bind_some]
  cases b with
  | false => rfl
  | true =>
    have hl := hbl rfl
    refine (if_neg (by simp)).trans ?_
    cases b2 with
    | false => rfl
    | true =>
      refine (if_neg (by simp)).trans ?_
      have go : ¬ (x.1 = t.2.1 ∧ 0 ≤ x.2.2.2.1 ∧ x.2.2.2.1 ≤ 255 ∧ 0 ≤ x.2.1 ∧ x.2.1 ≤ x.2.2.1) → law37_DeclrunIgnores_l7 l 0 t x [] = some ((true, ()), ()) := fun q =>
        ignores_loop t h x (not_accepted t x q) l hl l 0 [] rfl rfl
      split
      · rfl
      · by_cases h1 : x.1 = t.2.1
        · rw [if_pos (eT h1)]
          by_cases h2 : x.2.2.2.1 ≥ 0
          · rw [if_pos (dT h2)]
            by_cases h3 : x.2.2.2.1 ≤ 255
            · rw [if_pos (dT h3)]
              by_cases h4 : x.2.1 ≥ 0
              · rw [if_pos (dT h4)]
                by_cases h5 : x.2.1 ≤ x.2.2.1
                · rw [if_pos (dT h5)]
                · rw [if_neg (dF h5)]; exact go (fun q => h5 q.2.2.2.2)
              · rw [if_neg (dF h4)]; exact go (fun q => h4 q.2.2.2.1)
            · rw [if_neg (dF h3)]; exact go (fun q => h3 q.2.2.1)
          · rw [if_neg (dF h2)]; exact go (fun q => h2 q.2.1)
        · rw [if_neg (eF h1)]; exact go (fun q => h1 q.1)

/-! ### step by step -/
def stepX (t : TTable) (s : Sig) (e : EvT) : Sig × List EvT := if checkT t = 0 then stepR t.2.1 t.2.2.1 (rdT t.2.2.1 t.2.2.2) s e else (s, [])
def endX (t : TTable) (s : Sig) : List EvT := if checkT t = 0 then abortC t.2.2.1 s.c s.last else []

theorem checkT_input {t : TTable} (h : checkT t = 0) : t.2.1 = 2 ∨ t.2.1 = 3 := by
  unfold checkT at h
  split at h
  · split at h
    · rename_i q; exact q.1
    · cases h
  · cases h

theorem step_eq (t : TTable) (h : okTable t) (s : Sig) (e : EvT) (hs : s.c.1.size ≤ 4096) : declrun_Step t (stS s) e = some ((stS (stepX t s e).1, (stepX t s e).2, ()), ()) := by
  unfold declrun_Step stepX
  rw [tcheck_eq t h]
  simp only [Option.bind_some]
  by_cases hc : checkT t = 0
  · rw [if_neg (nF hc), if_pos hc]
    unfold declrun_look
    simp only [Option.bind_some]
    rw [stepT_eq t h t.2.1 t.2.2.1 s e hs]
    rfl
  · rw [if_pos (nT hc), if_neg hc]

theorem end_eq (t : TTable) (h : okTable t) (s : Sig) : declrun_End t (stS s) = some ((endX t s, ()), ()) := by
  unfold declrun_End endX
  rw [tcheck_eq t h]
  simp only [Option.bind_some]
  by_cases hc : checkT t = 0
  · rw [if_neg (nF hc), if_pos hc]
    refine (congrArg (fun z => Option.bind z _) (waborted_eq t.2.2.1 s.ph s.last s.q 0 0 s.prev s.c s.last)).trans ?_
    rfl
  · rw [if_pos (nT hc), if_neg hc]

theorem rstep_eq (t : TTable) (h : okTable t) (s : Sig) (r : TState) (hr : RSt s r) (e : EvT) (hs : s.c.1.size ≤ 4096) : ∃ r', RSt (stepX t s e).1 r' ∧ ref37_Step t r e = some ((r', (stepX t s e).2, ()), ()) := by
  unfold ref37_Step stepX
  rw [rtcheck_eq t h]
  simp only [Option.bind_some]
  by_cases hc : checkT t = 0
  · rw [if_neg (nF hc), if_pos hc, raccepts_eq _ (checkT_input hc) s r hr e]
    simp only [Option.bind_some]
    unfold stepR
    cases ha : accV t.2.1 s e with
    | false => rw [if_neg (by simp)]; exact ⟨r, hr, if_pos rfl⟩
    | true =>
      rw [if_pos rfl]
      by_cases hf : e.2.2.2.2.2.2 = 0
      · rw [if_neg (show ¬ e.2.2.2.2.2.2 ≠ 0 from fun q => q hf), if_neg (nF hf), hr.q, rnext_eq t s.q _ h]
        simp only [Option.bind_some]
        have h2 := nextV_len t h s.q e.2.2.2.1
        unfold rdT
        cases hn : (nextV t.2.2.2 s.q e.2.2.2.1).2.2 with
        | false =>
          rw [if_neg (by simp)]
          exact ⟨(s.q, e.2.1, r.2.2.1, r.2.2.2.1, r.2.2.2.2.1, e.2.2.1, r.2.2.2.2.2.2), ⟨rfl, fun q => absurd q (by show ¬ (1 : Int) = 0; decide), fun _ => rfl, hr.core, rfl⟩, (if_neg (by simp)).trans ((if_pos rfl).trans rfl)⟩
        | true =>
          rw [if_pos rfl]
          obtain ⟨c', hc', e1⟩ := rall_eq37 t.2.2.1 (s.q, e.2.1, r.2.2.1, r.2.2.2.1, r.2.2.2.2.1, e.2.2.1, r.2.2.2.2.2.2) e (nextV t.2.2.2 s.q e.2.2.2.1).2.1 (by omega) s.c hr.core hs
          rw [e1]
          exact ⟨((nextV t.2.2.2 s.q e.2.2.2.1).1, e.2.1, c'.2, r.2.2.2.1, r.2.2.2.2.1, e.2.2.1, r.2.2.2.2.2.2.1, c'.1), ⟨rfl, fun q => absurd q (by show ¬ (1 : Int) = 0; decide), fun _ => rfl, hc', rfl⟩, (if_neg (by simp)).trans ((if_neg (by simp)).trans rfl)⟩
      · rw [if_pos hf, if_pos (nT hf), raborted_eq _ r s.c hr.core]
        exact ⟨(0, e.2.1, 0, 0, 0, e.2.2.1, 0, strB []), ⟨rfl, fun q => absurd q (by show ¬ (1 : Int) = 0; decide), fun _ => rfl, CEq.zero 0, rfl⟩, (if_neg (by simp)).trans rfl⟩
  · rw [if_pos (nT hc), if_neg hc]
    exact ⟨r, hr, rfl⟩

theorem rend_eq (t : TTable) (h : okTable t) (s : Sig) (r : TState) (hr : RSt s r) : ref37_End t r = some ((endX t s, ()), ()) := by
  unfold ref37_End endX
  rw [rtcheck_eq t h]
  simp only [Option.bind_some]
  by_cases hc : checkT t = 0
  · rw [if_neg (nF hc), if_pos hc, hr.last, raborted_eq _ r s.c hr.core]
    rfl
  · rw [if_pos (nT hc), if_neg hc]

theorem stepX_size (t : TTable) (s : Sig) (e : EvT) (hs : s.c.1.size ≤ 4096) : (stepX t s e).1.c.1.size ≤ 4096 := by
  unfold stepX
  split
  · exact stepR_size _ _ _ (fun e q c => rdT_size t.2.2.1 t.2.2.2 e q c) s e hs
  · exact hs

theorem stepX_len (t : TTable) (h : okTable t) (s : Sig) (e : EvT) : (stepX t s e).2.length ≤ 33554433 := by
  unfold stepX
  split
  · exact stepR_len _ _ _ 33554432 (fun e q c => rdT_len t.2.2.1 t h e q c) s e
  · simp

theorem endX_len (t : TTable) (s : Sig) : (endX t s).length ≤ 1 := by
  unfold endX
  split
  · exact abortC_len _ _ _
  · simp

def runX (t : TTable) : Sig → List EvT → Sig × List EvT
  | s, [] => (s, [])
  | s, e :: l => ((runX t (stepX t s e).1 l).1, (stepX t s e).2 ++ (runX t (stepX t s e).1 l).2)

theorem runX_good {t : TTable} (hc : checkT t = 0) : ∀ (l : List EvT) (s : Sig), runX t s l = runR t.2.1 t.2.2.1 (rdT t.2.2.1 t.2.2.2) s l
  | [], s => rfl
  | e :: l, s => by
    have h1 : stepX t s e = stepR t.2.1 t.2.2.1 (rdT t.2.2.1 t.2.2.2) s e := if_pos hc
    unfold runX runR
    rw [h1, runX_good hc l]

theorem runX_bad {t : TTable} (hc : ¬ checkT t = 0) : ∀ (l : List EvT) (s : Sig), runX t s l = (s, [])
  | [], s => rfl
  | e :: l, s => by
    have h1 : stepX t s e = (s, []) := if_neg hc
    unfold runX
    rw [h1, runX_bad hc l]
    rfl

theorem allX (t : TTable) (l : List EvT) : (runX t sig0 l).2 ++ endX t (runX t sig0 l).1 = decodeV t l := by
  unfold decodeV endX
  by_cases hc : checkT t = 0
  · rw [if_pos hc, if_pos hc, runX_good hc]; rfl
  · rw [if_neg hc, if_neg hc, runX_bad hc]; rfl

theorem rdecode_loop (t : TTable) (h : okTable t) (l : List EvT) (hl : l.length ≤ 40) : ∀ (m : List EvT) (k : Nat) (s : Sig) (r : TState) (out : List EvT), l.drop k = m → k ≤ l.length → RSt s r → s.c.1.size ≤ 4096 → out.length ≤ k * 33554433 →
    ref37_Decode_l4 l k t r out = some ((out ++ ((runX t s m).2 ++ endX t (runX t s m).1), ()), ())
  | [], k, s, r, out, hm, hk, hr, hs, ho => by
    have := drop_nil hm
    have h1 := endX_len t s
    rw [ref37_Decode_l4_eq, if_neg (dF (by omega)), rend_eq t h s r hr]
    simp only [Option.bind_some]
    exact (if_pos ⟨by omega, by decide⟩).trans rfl
  | e :: m, k, s, r, out, hm, hk, hr, hs, ho => by
    have h1 := drop_lt hm
    have hg : l.getD (k : Int).toNat dEvent = e := getD_drop hm
    have h2 := stepX_len t h s e
    obtain ⟨r', hr', e1⟩ := rstep_eq t h s r hr e hs
    rw [ref37_Decode_l4_eq, if_pos (dT (by omega)), if_pos ⟨by omega, by omega⟩, hg, e1]
    simp only [Option.bind_some]
    rw [if_pos ⟨by omega, by decide⟩, w64a k (by omega), rdecode_loop t h l hl m (k + 1) (stepX t s e).1 r' _ (dropS hm) (by omega) hr' (stepX_size t s e hs) (by rw [List.length_append]; omega)]
    simp [runX, List.append_assoc]

theorem rst0 : RSt sig0 (0, 0, 0, 0, 0, 0, 0, strB []) := ⟨rfl, fun _ => rfl, fun q => absurd rfl q, CEq.zero 0, rfl⟩

theorem rdecode_eq (t : TTable) (h : okTable t) (l : List EvT) (hl : l.length ≤ 40) : ref37_Decode t l = some ((decodeV t l, ()), ()) := by
  unfold ref37_Decode ref37_Start
  simp only [Option.bind_some]
  refine (rdecode_loop t h l hl l 0 sig0 _ [] rfl (by omega) rst0 (by decide) (by simp)).trans ?_
  rw [allX, List.nil_append]

theorem decodes_loop (t : TTable) (h : okTable t) (l : List EvT) (hl : l.length ≤ 40) : ∀ (m : List EvT) (k : Nat) (s : Sig) (r : TState), l.drop k = m → RSt s r → s.c.1.size ≤ 4096 →
    law37_DeclrunDecodes_l7 l k t (stS s) r = some ((true, ()), ())
  | [], k, s, r, hm, hr, hs => by
    have := drop_nil hm
    have h1 := endX_len t s
    rw [law37_DeclrunDecodes_l7_eq, if_neg (dF (by omega)), end_eq t h s, rend_eq t h s r hr]
    simp only [Option.bind_some]
    rw [evsame _ (by omega), decode_eq t h l (by omega), rdecode_eq t h l hl]
    simp only [Option.bind_some]
    rw [evsame _ (decodeV_len t h l (by omega)), awake37]
    rfl
  | e :: m, k, s, r, hm, hr, hs => by
    have h1 := drop_lt hm
    have hg : l.getD (k : Int).toNat dEvent = e := getD_drop hm
    have h2 := stepX_len t h s e
    obtain ⟨r', hr', e1⟩ := rstep_eq t h s r hr e hs
    rw [law37_DeclrunDecodes_l7_eq, if_pos (dT (by omega)), if_pos ⟨by omega, by omega⟩, hg, step_eq t h s e hs, e1]
    simp only [Option.bind_some]
    rw [if_pos ⟨by omega, by omega⟩, evsame _ (by omega), w64a k (by omega), decodes_loop t h l hl m (k + 1) (stepX t s e).1 r' (dropS hm) hr' (stepX_size t s e hs)]
    rfl

theorem DeclrunDecodes_true (t : TTable) (l : List EvT) (h : okTable t) : law37_DeclrunDecodes t l = some ((true, ()), ()) := by
  obtain ⟨b, hb, hbl⟩ := small37 l
  obtain ⟨b2, hb2⟩ := narrow37 t h
  unfold law37_DeclrunDecodes
  rw [hb, hb2, awake37]
  simp only [Option.bind_some]
  cases b with
  | false => rfl
  | true =>
    have hl := hbl rfl
    refine (if_neg (by simp)).trans ?_
    cases b2 with
    | false => rfl
    | true =>
      refine (if_neg (by simp)).trans ?_
      unfold declrun_Start ref37_Start
      simp only [Option.bind_some]
      exact decodes_loop t h l hl l 0 sig0 _ rfl rst0 (by decide)

/-! ### what is emitted -/
theorem emits_out (d : TDecl) (m : List EvT) (hm : m.length ≤ 1099511627776) (h1 : ∀ x ∈ m, EmitOk d.2.2.1 x) (h2 : m.Pairwise fun a b => a.2.2.1 ≤ b.2.2.1) : ∀ (c k : Nat), c = m.length - k → k ≤ m.length → law37_DeclrunEmits_l18 m k d = some ((true, ()), ()) := by
  intro c
  induction c with
  | zero => intro k hc hk; rw [law37_DeclrunEmits_l18_eq, if_neg (dF (by omega)), awake37]; rfl
  | succ c ih =>
    intro k hc hk
    have hkl : k < m.length := by omega
    have hin : (0 : Int) ≤ k ∧ (k : Int) < (m.length : Int) := ⟨by omega, by omega⟩
    have hg : m.getD (k : Int).toNat dEvent = m[k] := getD_in _ hkl
    obtain ⟨q1, q2, q3⟩ := h1 _ (List.getElem_mem hkl)
    rw [law37_DeclrunEmits_l18_eq, if_pos (dT (by omega)), if_pos hin, hg, if_neg (nF q1), if_pos hin, if_neg (dF (by omega)), if_pos hin, if_pos hin, if_neg (dF (by omega)), w64a k (by omega), ih (k + 1) (by omega) (by omega)]
    by_cases hk0 : k = 0
    · rw [if_neg (dF (by omega))]
    · obtain ⟨j, rfl⟩ : ∃ j, k = j + 1 := ⟨k - 1, by omega⟩
      have hw : IntKind.i64.wrap (((j + 1 : Nat) : Int) - 1) = (j : Int) := by
        rw [show ((j + 1 : Nat) : Int) - 1 = (j : Int) by omega]
        exact w64 (by omega) (by omega)
      have hj : m.getD (j : Int).toNat dEvent = m[j] := getD_in _ (by omega)
      have hp : m[j].2.2.1 ≤ m[j + 1].2.2.1 := (List.pairwise_iff_getElem.1 h2) j (j + 1) (by omega) hkl (by omega)
      rw [if_pos (dT (by omega)), if_pos hin, hw, if_pos ⟨by omega, by omega⟩, hj, if_neg (dF (by omega))]

theorem srt_of (l : List EvT) : ∀ (r : List EvT) (k : Nat), l.drop (k + 1) = r → (∀ i (h : i + 1 < l.length), (l[i]'(by omega)).2.2.1 ≤ l[i + 1].2.1) → (∀ i (h : i < l.length), l[i].2.1 ≤ l[i].2.2.1) → (hk : k < l.length) → Srt l[k].2.2.1 r
  | [], _, _, _, _, _ => trivial
  | e :: r, k, h, h1, h2, hk => by
    have hlt := drop_lt h
    have e1 : l[k + 1] = e := by rw [List.drop_eq_getElem_cons hlt] at h; cases h; rfl
    refine ⟨by rw [← e1]; exact h1 k hlt, by rw [← e1]; exact h2 _ hlt, ?_⟩
    rw [← e1]
    exact srt_of l r (k + 1) (dropS h) h1 h2 hlt

theorem emits_loop (d : TDecl) (h : okDecl d) (l : List EvT) (hl : l.length ≤ 40) : ∀ (c k : Nat), c = l.length - k → k ≤ l.length → (∀ i (_ : i < k) (hi : i + 1 < l.length), i + 1 < k → (l[i]'(by omega)).2.2.1 ≤ l[i + 1].2.1) → (∀ i (_ : i < k) (hi : i < l.length), l[i].2.1 ≤ l[i].2.2.1) →
    law37_DeclrunEmits_l6 l k d = some ((true, ()), ()) := by
  intro c
  induction c with
  | zero =>
    intro k hc hk h1 h2
    have hkl : k = l.length := by omega
    subst hkl
    rw [law37_DeclrunEmits_l6_eq, if_neg (dF (by omega)), direct_eq d h l hl, awake37]
    simp only [Option.bind_some]
    by_cases hc : ccheckV d = 0
    · have hd : directV d l = (allR d.2.1 d.2.2.1 (rdRule d.2.2.1 d.2.2.2 d.2.2.2.length) l, 0) := by unfold directV; rw [if_pos hc]
      have hlen := directV_len d h l hl
      rw [hd] at hlen ⊢
      refine (if_neg (nF rfl)).trans ?_
      have hs : ∃ b, Srt b l := by
        cases hq : l with
        | nil => exact ⟨0, trivial⟩
        | cons e r =>
          have hlt : 0 < l.length := by rw [hq]; simp
          have e1 : l[0] = e := by simp [hq]
          refine ⟨e.2.1, Int.le_refl _, by rw [← e1]; exact h2 0 hlt hlt, ?_⟩
          rw [← e1]
          exact srt_of l r 0 (by rw [hq]; rfl) (fun i hi => h1 i (by omega) hi hi) (fun i hi => h2 i hi hi) hlt
      obtain ⟨b, hb⟩ := hs
      obtain ⟨g1, g2⟩ := emits_all (input := d.2.1) (o := d.2.2.1) (ss := d.2.2.2) (n := d.2.2.2.length) l b hb
      exact emits_out d _ hlen g1 g2 _ 0 rfl (Nat.zero_le _)
    · have hd : directV d l = ([], ccheckV d) := by unfold directV; rw [if_neg hc]
      rw [hd]
      exact (if_pos (nT hc)).trans rfl
  | succ c ih =>
    intro k hc hk h1 h2
    have hkl : k < l.length := by omega
    have hin : (0 : Int) ≤ k ∧ (k : Int) < (l.length : Int) := ⟨by omega, by omega⟩
    have hg : l.getD (k : Int).toNat dEvent = l[k] := getD_in _ hkl
    rw [law37_DeclrunEmits_l6_eq, if_pos (dT (by omega)), awake37, hg, w64a k (by omega)]
    by_cases hk0 : k = 0
    · subst hk0
      rw [if_neg (dF (by omega)), if_pos hin, if_pos hin]
      by_cases hq : l[0].2.1 > l[0].2.2.1
      · exact (if_pos (dT hq)).trans rfl
      · rw [if_neg (dF hq)]
        exact ih 1 (by omega) (by omega) (fun i hi hi2 hi3 => by omega) (fun i hi hi2 => by obtain rfl : i = 0 := (by omega); omega)
    · obtain ⟨j, rfl⟩ : ∃ j, k = j + 1 := ⟨k - 1, by omega⟩
      have hw : IntKind.i64.wrap (((j + 1 : Nat) : Int) - 1) = (j : Int) := by
        rw [show ((j + 1 : Nat) : Int) - 1 = (j : Int) by omega]
        exact w64 (by omega) (by omega)
      have hj : l.getD (j : Int).toNat dEvent = l[j] := getD_in _ (by omega)
      rw [if_pos (dT (by omega)), if_pos hin, hw, if_pos ⟨by omega, by omega⟩, hj]
      by_cases hp : l[j + 1].2.1 < l[j].2.2.1
      · exact (if_pos (dT hp)).trans rfl
      · rw [if_neg (dF hp), if_pos hin, if_pos hin]
        by_cases hq : l[j + 1].2.1 > l[j + 1].2.2.1
        · exact (if_pos (dT hq)).trans rfl
        · rw [if_neg (dF hq)]
          refine ih (j + 2) (by omega) (by omega) (fun i hi hi2 hi3 => ?_) (fun i hi hi2 => ?_)
          · by_cases e : i = j
            · subst e; omega
            · exact h1 i (by omega) hi2 (by omega)
          · by_cases e : i = j + 1
            · subst e; omega
            · exact h2 i (by omega) hi2

theorem DeclrunEmits_true (d : TDecl) (l : List EvT) (h : okDecl d) : law37_DeclrunEmits d l = some ((true, ()), ()) := by
  obtain ⟨b, hb, hbl⟩ := small37 l
  obtain ⟨b2, hb2⟩ := brief37 d h
  unfold law37_DeclrunEmits
  rw [hb, hb2, awake37]
  simp only [Option.bind_some]
  cases b with
  | false => rfl
  | true =>
    have hl := hbl rfl
    refine (if_neg (by simp)).trans ?_
    cases b2 with
    | false => rfl
    | true =>
      refine (if_neg (by simp)).trans ?_
      exact emits_loop d h l hl _ 0 rfl (Nat.zero_le _) (fun i hi => by omega) (fun i hi => by omega)

end Go.Proofs.Ytgjimkgehbppbab
end
