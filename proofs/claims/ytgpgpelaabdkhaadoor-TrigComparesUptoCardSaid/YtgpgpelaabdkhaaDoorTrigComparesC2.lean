/-
The plain functions of the program that the law TrigCompares reaches, that the program computes them, and what they come to. No condition.
-/
import Derived.Test.YtgpgpelaabdkhaaDoorAm1
import Derived.Test.YtgpgpelaabdkhaaDoorAm2
import Derived.Test.YtgpgpelaabdkhaaDoorAm3
import Derived.Test.YtgpgpelaabdkhaaDoorTrigComparesC1
set_option linter.unusedVariables false
set_option linter.unusedSimpArgs false
set_option linter.unusedSectionVars false

section
/-
YtgpgpelaabdkhaaDoor: signalbench.signalbenchlaw43.TrigTexts, as one plain function, its equations, its contract. No condition.
-/
set_option maxRecDepth 100000
set_option linter.unusedVariables false
set_option maxHeartbeats 4000000
open Go Go.AM
namespace Go.Proofs.YtgpgpelaabdkhaaDoor
noncomputable section
def law43_TrigTexts_D : FD := ⟨T, lookC [(10, fc10), (16, fc16), (17, fc17), (18, fc18)], [], (Tryd.f6.body.getD .skip), Tryd.f6.results.toList, ⟨[.one .str], []⟩, ⟨[.one .bool], []⟩, []⟩
def law43_TrigTexts (s : ByteArray) : (Option ((Bool × Unit) × Unit)) :=
  if (decide ((s.size : Int) > 500)) = true then
    (law43_awake).bind fun y1 =>
      some ((y1.1.1, ()), ())
  else
    (trig_Parse s).bind fun y2 =>
      if (y2.1.2.2.1 != 0) = true then
        if ((y2.1.1.2.length : Int) == 0) = true then
          (law43_awake).bind fun y3 =>
            some ((y3.1.1, ()), ())
        else
          some ((false, ()), ())
      else
        (trig_Print y2.1.1).bind fun y4 =>
          (trig_Parse y4.1.1).bind fun y5 =>
            (trig_Print y5.1.1).bind fun y6 =>
              if (y4.1.2.1 == 0) = true then
                if (y5.1.2.2.1 == 0) = true then
                  if (y6.1.2.1 == 0) = true then
                    (ref43_Same y5.1.1 y2.1.1).bind fun y7 =>
                      if y7.1.1 = true then
                        if (y6.1.1.toList == y4.1.1.toList) = true then
                          (law43_awake).bind fun y8 =>
                            some ((y8.1.1, ()), ())
                        else
                          some ((false, ()), ())
                      else
                        some ((false, ()), ())
                  else
                    some ((false, ()), ())
                else
                  some ((false, ()), ())
              else
                some ((false, ()), ())
def fc6 : FC := ⟨⟨[.one .str], []⟩, ⟨[.one .bool], []⟩, fun x => law43_TrigTexts x.1.1⟩
theorem con6 : Contract Tryd.prog 6 fc6 :=
  law43_TrigTexts_D.contract tok (cok_of (l := [(10, fc10), (16, fc16), (17, fc17), (18, fc18)]) ⟨con10, con16, con17, con18, trivial⟩) mixed (fn' := Tryd.f6) (by kernel_rfl) (by kernel_rfl) rfl (by kernel_rfl) (fun x => (FD.fn_eq _ _).trans (by kernel_rfl))
end
end Go.Proofs.YtgpgpelaabdkhaaDoor
end

section
/-
YtgpgpelaabdkhaaDoor: signalbench.signalbenchlaw43.TrigCompares, as one plain function, its equations, its contract. No condition.
-/
set_option maxRecDepth 100000
set_option linter.unusedVariables false
set_option maxHeartbeats 4000000
open Go Go.AM
namespace Go.Proofs.YtgpgpelaabdkhaaDoor
noncomputable section
def law43_TrigCompares_F5 : FSh := ⟨[(3, .one (.ptr 0 0)), (4, .one (.ptr 1 0)), (5, .one (.ptr 2 0))], [.boxr 28 (.cons (.sl (.cons .str (.cons (.int .i64) (.cons (.int .i64) (.sl (.cons .str (.cons (.sl (.cons (.int .i64) (.cons (.int .i64) (.cons .str (.cons .bool (.sl (.cons (.int .i64) (.int .i64)))))))) (.cons .bool (.cons (.int .i64) (.cons (.int .i64) (.cons .str (.cons .bool (.sl (.cons (.int .i64) (.int .i64))))))))))))))) (.sl (.cons .str (.cons .str (.cons (.sl .str) (.sl (.cons .str (.int .i64)))))))), .boxr 40 (.cons (.int .i64) (.cons (.int .i64) (.cons (.int .i64) (.cons (.int .i64) (.cons (.int .i64) (.cons (.int .i64) (.cons (.int .i64) (.cons .str (.int .i64))))))))), .boxr 36 (.cons .str (.cons (.int .i64) (.cons (.int .i64) (.cons (.int .i64) (.int .i64)))))]⟩
def law43_TrigCompares_F9 : FSh := ⟨[(3, .one (.ptr 0 0)), (4, .one (.ptr 1 0)), (5, .one (.ptr 2 0)), (7, .one (.int .i64))], [.boxr 28 (.cons (.sl (.cons .str (.cons (.int .i64) (.cons (.int .i64) (.sl (.cons .str (.cons (.sl (.cons (.int .i64) (.cons (.int .i64) (.cons .str (.cons .bool (.sl (.cons (.int .i64) (.int .i64)))))))) (.cons .bool (.cons (.int .i64) (.cons (.int .i64) (.cons .str (.cons .bool (.sl (.cons (.int .i64) (.int .i64))))))))))))))) (.sl (.cons .str (.cons .str (.cons (.sl .str) (.sl (.cons .str (.int .i64)))))))), .boxr 40 (.cons (.int .i64) (.cons (.int .i64) (.cons (.int .i64) (.cons (.int .i64) (.cons (.int .i64) (.cons (.int .i64) (.cons (.int .i64) (.cons .str (.int .i64))))))))), .boxr 36 (.cons .str (.cons (.int .i64) (.cons (.int .i64) (.cons (.int .i64) (.int .i64)))))]⟩
def law43_TrigCompares_F19 : FSh := ⟨[(3, .one (.ptr 0 0)), (4, .one (.ptr 1 0)), (5, .one (.ptr 2 0)), (8, .one (.ptr 3 0)), (9, .one (.int .i64)), (10, .one (.int .i64))], [.boxr 28 (.cons (.sl (.cons .str (.cons (.int .i64) (.cons (.int .i64) (.sl (.cons .str (.cons (.sl (.cons (.int .i64) (.cons (.int .i64) (.cons .str (.cons .bool (.sl (.cons (.int .i64) (.int .i64)))))))) (.cons .bool (.cons (.int .i64) (.cons (.int .i64) (.cons .str (.cons .bool (.sl (.cons (.int .i64) (.int .i64))))))))))))))) (.sl (.cons .str (.cons .str (.cons (.sl .str) (.sl (.cons .str (.int .i64)))))))), .boxr 40 (.cons (.int .i64) (.cons (.int .i64) (.cons (.int .i64) (.cons (.int .i64) (.cons (.int .i64) (.cons (.int .i64) (.cons (.int .i64) (.cons .str (.int .i64))))))))), .boxr 36 (.cons .str (.cons (.int .i64) (.cons (.int .i64) (.cons (.int .i64) (.int .i64))))), .boxr 53 (.cons .bool (.cons .bool (.cons .bool (.cons .bool (.cons .bool .bool)))))]⟩
def law43_TrigCompares_F28 : FSh := ⟨[(3, .one (.ptr 0 0)), (4, .one (.ptr 1 0)), (5, .one (.ptr 2 0)), (8, .one (.ptr 3 0)), (9, .one (.int .i64)), (10, .one (.int .i64))], [.boxr 28 (.cons (.sl (.cons .str (.cons (.int .i64) (.cons (.int .i64) (.sl (.cons .str (.cons (.sl (.cons (.int .i64) (.cons (.int .i64) (.cons .str (.cons .bool (.sl (.cons (.int .i64) (.int .i64)))))))) (.cons .bool (.cons (.int .i64) (.cons (.int .i64) (.cons .str (.cons .bool (.sl (.cons (.int .i64) (.int .i64))))))))))))))) (.sl (.cons .str (.cons .str (.cons (.sl .str) (.sl (.cons .str (.int .i64)))))))), .boxr 40 (.cons (.int .i64) (.cons (.int .i64) (.cons (.int .i64) (.cons (.int .i64) (.cons (.int .i64) (.cons (.int .i64) (.cons (.int .i64) (.cons .str (.int .i64))))))))), .boxr 36 (.cons .str (.cons (.int .i64) (.cons (.int .i64) (.cons (.int .i64) (.int .i64))))), .boxr 53 (.cons .bool (.cons .bool (.cons .bool (.cons .bool (.cons .bool .bool)))))]⟩
def law43_TrigCompares_D : FD := ⟨T, lookC [(9, fc9), (10, fc10), (13, fc13), (14, fc14), (19, fc19), (20, fc20)], [28, 5], (Tryd.f7.body.getD .skip), Tryd.f7.results.toList, ⟨[.row (.cons (.sl (.cons .str (.cons (.int .i64) (.cons (.int .i64) (.sl (.cons .str (.cons (.sl (.cons (.int .i64) (.cons (.int .i64) (.cons .str (.cons .bool (.sl (.cons (.int .i64) (.int .i64)))))))) (.cons .bool (.cons (.int .i64) (.cons (.int .i64) (.cons .str (.cons .bool (.sl (.cons (.int .i64) (.int .i64))))))))))))))) (.sl (.cons .str (.cons .str (.cons (.sl .str) (.sl (.cons .str (.int .i64)))))))), .row (.cons (.int .i64) (.cons (.int .i64) (.cons (.int .i64) (.cons (.int .i64) (.cons (.int .i64) (.cons (.int .i64) (.cons (.int .i64) (.cons .str (.int .i64))))))))), .row (.cons .str (.cons (.int .i64) (.cons (.int .i64) (.cons (.int .i64) (.int .i64)))))], []⟩, ⟨[.one .bool], []⟩, [(5, law43_TrigCompares_F5), (9, law43_TrigCompares_F9), (19, law43_TrigCompares_F19), (28, law43_TrigCompares_F28)]⟩
def law43_TrigCompares_l5 (h0 : TStack) (h1 : TOut) (h2 : TCond) : (Option ((Bool × Unit) × Unit)) := law43_TrigCompares_D.lab 5 law43_TrigCompares_F5 (((), (), (), ()), (h0, h1, h2, ()))
def law43_TrigCompares_l9 (i : Int) (h0 : TStack) (h1 : TOut) (h2 : TCond) : (Option ((Bool × Unit) × Unit)) := law43_TrigCompares_D.lab 9 law43_TrigCompares_F9 (((), (), (), i, ()), (h0, h1, h2, ()))
def law43_TrigCompares_l19 (n : Int) (op : Int) (h0 : TStack) (h1 : TOut) (h2 : TCond) (h3 : (Bool × Bool × Bool × Bool × Bool × Bool)) : (Option ((Bool × Unit) × Unit)) := law43_TrigCompares_D.lab 19 law43_TrigCompares_F19 (((), (), (), (), n, op, ()), (h0, h1, h2, h3, ()))
def law43_TrigCompares_l28 (n : Int) (op : Int) (h0 : TStack) (h1 : TOut) (h2 : TCond) (h3 : (Bool × Bool × Bool × Bool × Bool × Bool)) : (Option ((Bool × Unit) × Unit)) := law43_TrigCompares_D.lab 28 law43_TrigCompares_F28 (((), (), (), (), n, op, ()), (h0, h1, h2, h3, ()))
theorem law43_TrigCompares_l5_eq (h0 : TStack) (h1 : TOut) (h2 : TCond) : law43_TrigCompares_l5 h0 h1 h2 =
  law43_TrigCompares_l9 0 h0 h1 h2 := (FD.lab_eq _ _ _ _).trans (by kernel_rfl)
theorem law43_TrigCompares_l9_eq (i : Int) (h0 : TStack) (h1 : TOut) (h2 : TCond) : law43_TrigCompares_l9 i h0 h1 h2 =
  if (decide (i < h1.1)) = true then
    if 0 ≤ i ∧ i < (h0.2.length : Int) then
      if ((h0.2.getD i.toNat dNode).1.toList == h2.1.toList) = true then
        (law43_awake).bind fun y1 =>
          some ((y1.1.1, ()), ())
      else
        law43_TrigCompares_l9 (IntKind.i64.wrap (i + 1)) h0 h1 h2
    else
      none
  else
    law43_TrigCompares_l19 0 1 h0 h1 h2 (false, false, false, false, false, false) := (FD.lab_eq _ _ _ _).trans (by kernel_rfl)
theorem law43_TrigCompares_l19_eq (n : Int) (op : Int) (h0 : TStack) (h1 : TOut) (h2 : TCond) (h3 : (Bool × Bool × Bool × Bool × Bool × Bool)) : law43_TrigCompares_l19 n op h0 h1 h2 h3 =
  if (decide (op < 5)) = true then
    (ref43_WrongCond (h2.1, h2.2.1, h2.2.2.1, op, h2.2.2.2.2)).bind fun y1 =>
      if (y1.1.1 != 0) = true then
        (trig_Holds (h2.1, h2.2.1, h2.2.2.1, op, h2.2.2.2.2) h0 h1).bind fun y2 =>
          if (!y2.1.1) = true then
            (law43_awake).bind fun y3 =>
              some ((y3.1.1, ()), ())
          else
            some ((false, ()), ())
      else
        (trig_Holds (h2.1, h2.2.1, h2.2.2.1, op, h2.2.2.2.2) h0 h1).bind fun y4 =>
          if 0 ≤ op ∧ op < (6 : Int) then
            if op.toNat = 5 then
              if (op != 2) = true then
                if 0 ≤ op ∧ op < (6 : Int) then
                  if op.toNat = 5 then
                    if y4.1.1 = true then
                      law43_TrigCompares_l28 (IntKind.i64.wrap (n + 1)) op h0 h1 (h2.1, h2.2.1, h2.2.2.1, op, h2.2.2.2.2) (h3.1, h3.2.1, h3.2.2.1, h3.2.2.2.1, h3.2.2.2.2.1, y4.1.1)
                    else
                      law43_TrigCompares_l28 n op h0 h1 (h2.1, h2.2.1, h2.2.2.1, op, h2.2.2.2.2) (h3.1, h3.2.1, h3.2.2.1, h3.2.2.2.1, h3.2.2.2.2.1, y4.1.1)
                  else
                    if op.toNat = 4 then
                      if h3.2.2.2.2.1 = true then
                        law43_TrigCompares_l28 (IntKind.i64.wrap (n + 1)) op h0 h1 (h2.1, h2.2.1, h2.2.2.1, op, h2.2.2.2.2) (h3.1, h3.2.1, h3.2.2.1, h3.2.2.2.1, h3.2.2.2.2.1, y4.1.1)
                      else
                        law43_TrigCompares_l28 n op h0 h1 (h2.1, h2.2.1, h2.2.2.1, op, h2.2.2.2.2) (h3.1, h3.2.1, h3.2.2.1, h3.2.2.2.1, h3.2.2.2.2.1, y4.1.1)
                    else
                      if op.toNat = 3 then
                        if h3.2.2.2.1 = true then
                          law43_TrigCompares_l28 (IntKind.i64.wrap (n + 1)) op h0 h1 (h2.1, h2.2.1, h2.2.2.1, op, h2.2.2.2.2) (h3.1, h3.2.1, h3.2.2.1, h3.2.2.2.1, h3.2.2.2.2.1, y4.1.1)
                        else
                          law43_TrigCompares_l28 n op h0 h1 (h2.1, h2.2.1, h2.2.2.1, op, h2.2.2.2.2) (h3.1, h3.2.1, h3.2.2.1, h3.2.2.2.1, h3.2.2.2.2.1, y4.1.1)
                      else
                        if op.toNat = 2 then
                          if h3.2.2.1 = true then
                            law43_TrigCompares_l28 (IntKind.i64.wrap (n + 1)) op h0 h1 (h2.1, h2.2.1, h2.2.2.1, op, h2.2.2.2.2) (h3.1, h3.2.1, h3.2.2.1, h3.2.2.2.1, h3.2.2.2.2.1, y4.1.1)
                          else
                            law43_TrigCompares_l28 n op h0 h1 (h2.1, h2.2.1, h2.2.2.1, op, h2.2.2.2.2) (h3.1, h3.2.1, h3.2.2.1, h3.2.2.2.1, h3.2.2.2.2.1, y4.1.1)
                        else
                          if op.toNat = 1 then
                            if h3.2.1 = true then
                              law43_TrigCompares_l28 (IntKind.i64.wrap (n + 1)) op h0 h1 (h2.1, h2.2.1, h2.2.2.1, op, h2.2.2.2.2) (h3.1, h3.2.1, h3.2.2.1, h3.2.2.2.1, h3.2.2.2.2.1, y4.1.1)
                            else
                              law43_TrigCompares_l28 n op h0 h1 (h2.1, h2.2.1, h2.2.2.1, op, h2.2.2.2.2) (h3.1, h3.2.1, h3.2.2.1, h3.2.2.2.1, h3.2.2.2.2.1, y4.1.1)
                          else
                            if op.toNat = 0 then
                              if h3.1 = true then
                                law43_TrigCompares_l28 (IntKind.i64.wrap (n + 1)) op h0 h1 (h2.1, h2.2.1, h2.2.2.1, op, h2.2.2.2.2) (h3.1, h3.2.1, h3.2.2.1, h3.2.2.2.1, h3.2.2.2.2.1, y4.1.1)
                              else
                                law43_TrigCompares_l28 n op h0 h1 (h2.1, h2.2.1, h2.2.2.1, op, h2.2.2.2.2) (h3.1, h3.2.1, h3.2.2.1, h3.2.2.2.1, h3.2.2.2.2.1, y4.1.1)
                            else
                              none
                else
                  none
              else
                law43_TrigCompares_l28 n op h0 h1 (h2.1, h2.2.1, h2.2.2.1, op, h2.2.2.2.2) (h3.1, h3.2.1, h3.2.2.1, h3.2.2.2.1, h3.2.2.2.2.1, y4.1.1)
            else
              if op.toNat = 4 then
                if (op != 2) = true then
                  if 0 ≤ op ∧ op < (6 : Int) then
                    if op.toNat = 5 then
                      if h3.2.2.2.2.2 = true then
                        law43_TrigCompares_l28 (IntKind.i64.wrap (n + 1)) op h0 h1 (h2.1, h2.2.1, h2.2.2.1, op, h2.2.2.2.2) (h3.1, h3.2.1, h3.2.2.1, h3.2.2.2.1, y4.1.1, h3.2.2.2.2.2)
                      else
                        law43_TrigCompares_l28 n op h0 h1 (h2.1, h2.2.1, h2.2.2.1, op, h2.2.2.2.2) (h3.1, h3.2.1, h3.2.2.1, h3.2.2.2.1, y4.1.1, h3.2.2.2.2.2)
                    else
                      if op.toNat = 4 then
                        if y4.1.1 = true then
                          law43_TrigCompares_l28 (IntKind.i64.wrap (n + 1)) op h0 h1 (h2.1, h2.2.1, h2.2.2.1, op, h2.2.2.2.2) (h3.1, h3.2.1, h3.2.2.1, h3.2.2.2.1, y4.1.1, h3.2.2.2.2.2)
                        else
                          law43_TrigCompares_l28 n op h0 h1 (h2.1, h2.2.1, h2.2.2.1, op, h2.2.2.2.2) (h3.1, h3.2.1, h3.2.2.1, h3.2.2.2.1, y4.1.1, h3.2.2.2.2.2)
                      else
                        if op.toNat = 3 then
                          if h3.2.2.2.1 = true then
                            law43_TrigCompares_l28 (IntKind.i64.wrap (n + 1)) op h0 h1 (h2.1, h2.2.1, h2.2.2.1, op, h2.2.2.2.2) (h3.1, h3.2.1, h3.2.2.1, h3.2.2.2.1, y4.1.1, h3.2.2.2.2.2)
                          else
                            law43_TrigCompares_l28 n op h0 h1 (h2.1, h2.2.1, h2.2.2.1, op, h2.2.2.2.2) (h3.1, h3.2.1, h3.2.2.1, h3.2.2.2.1, y4.1.1, h3.2.2.2.2.2)
                        else
                          if op.toNat = 2 then
                            if h3.2.2.1 = true then
                              law43_TrigCompares_l28 (IntKind.i64.wrap (n + 1)) op h0 h1 (h2.1, h2.2.1, h2.2.2.1, op, h2.2.2.2.2) (h3.1, h3.2.1, h3.2.2.1, h3.2.2.2.1, y4.1.1, h3.2.2.2.2.2)
                            else
                              law43_TrigCompares_l28 n op h0 h1 (h2.1, h2.2.1, h2.2.2.1, op, h2.2.2.2.2) (h3.1, h3.2.1, h3.2.2.1, h3.2.2.2.1, y4.1.1, h3.2.2.2.2.2)
                          else
                            if op.toNat = 1 then
                              if h3.2.1 = true then
                                law43_TrigCompares_l28 (IntKind.i64.wrap (n + 1)) op h0 h1 (h2.1, h2.2.1, h2.2.2.1, op, h2.2.2.2.2) (h3.1, h3.2.1, h3.2.2.1, h3.2.2.2.1, y4.1.1, h3.2.2.2.2.2)
                              else
                                law43_TrigCompares_l28 n op h0 h1 (h2.1, h2.2.1, h2.2.2.1, op, h2.2.2.2.2) (h3.1, h3.2.1, h3.2.2.1, h3.2.2.2.1, y4.1.1, h3.2.2.2.2.2)
                            else
                              if op.toNat = 0 then
                                if h3.1 = true then
                                  law43_TrigCompares_l28 (IntKind.i64.wrap (n + 1)) op h0 h1 (h2.1, h2.2.1, h2.2.2.1, op, h2.2.2.2.2) (h3.1, h3.2.1, h3.2.2.1, h3.2.2.2.1, y4.1.1, h3.2.2.2.2.2)
                                else
                                  law43_TrigCompares_l28 n op h0 h1 (h2.1, h2.2.1, h2.2.2.1, op, h2.2.2.2.2) (h3.1, h3.2.1, h3.2.2.1, h3.2.2.2.1, y4.1.1, h3.2.2.2.2.2)
                              else
                                none
                  else
                    none
                else
                  law43_TrigCompares_l28 n op h0 h1 (h2.1, h2.2.1, h2.2.2.1, op, h2.2.2.2.2) (h3.1, h3.2.1, h3.2.2.1, h3.2.2.2.1, y4.1.1, h3.2.2.2.2.2)
              else
                if op.toNat = 3 then
                  if (op != 2) = true then
                    if 0 ≤ op ∧ op < (6 : Int) then
                      if op.toNat = 5 then
                        if h3.2.2.2.2.2 = true then
                          law43_TrigCompares_l28 (IntKind.i64.wrap (n + 1)) op h0 h1 (h2.1, h2.2.1, h2.2.2.1, op, h2.2.2.2.2) (h3.1, h3.2.1, h3.2.2.1, y4.1.1, h3.2.2.2.2)
                        else
                          law43_TrigCompares_l28 n op h0 h1 (h2.1, h2.2.1, h2.2.2.1, op, h2.2.2.2.2) (h3.1, h3.2.1, h3.2.2.1, y4.1.1, h3.2.2.2.2)
                      else
                        if op.toNat = 4 then
                          if h3.2.2.2.2.1 = true then
                            law43_TrigCompares_l28 (IntKind.i64.wrap (n + 1)) op h0 h1 (h2.1, h2.2.1, h2.2.2.1, op, h2.2.2.2.2) (h3.1, h3.2.1, h3.2.2.1, y4.1.1, h3.2.2.2.2)
                          else
                            law43_TrigCompares_l28 n op h0 h1 (h2.1, h2.2.1, h2.2.2.1, op, h2.2.2.2.2) (h3.1, h3.2.1, h3.2.2.1, y4.1.1, h3.2.2.2.2)
                        else
                          if op.toNat = 3 then
                            if y4.1.1 = true then
                              law43_TrigCompares_l28 (IntKind.i64.wrap (n + 1)) op h0 h1 (h2.1, h2.2.1, h2.2.2.1, op, h2.2.2.2.2) (h3.1, h3.2.1, h3.2.2.1, y4.1.1, h3.2.2.2.2)
                            else
                              law43_TrigCompares_l28 n op h0 h1 (h2.1, h2.2.1, h2.2.2.1, op, h2.2.2.2.2) (h3.1, h3.2.1, h3.2.2.1, y4.1.1, h3.2.2.2.2)
                          else
                            if op.toNat = 2 then
                              if h3.2.2.1 = true then
                                law43_TrigCompares_l28 (IntKind.i64.wrap (n + 1)) op h0 h1 (h2.1, h2.2.1, h2.2.2.1, op, h2.2.2.2.2) (h3.1, h3.2.1, h3.2.2.1, y4.1.1, h3.2.2.2.2)
                              else
                                law43_TrigCompares_l28 n op h0 h1 (h2.1, h2.2.1, h2.2.2.1, op, h2.2.2.2.2) (h3.1, h3.2.1, h3.2.2.1, y4.1.1, h3.2.2.2.2)
                            else
                              if op.toNat = 1 then
                                if h3.2.1 = true then
                                  law43_TrigCompares_l28 (IntKind.i64.wrap (n + 1)) op h0 h1 (h2.1, h2.2.1, h2.2.2.1, op, h2.2.2.2.2) (h3.1, h3.2.1, h3.2.2.1, y4.1.1, h3.2.2.2.2)
                                else
                                  law43_TrigCompares_l28 n op h0 h1 (h2.1, h2.2.1, h2.2.2.1, op, h2.2.2.2.2) (h3.1, h3.2.1, h3.2.2.1, y4.1.1, h3.2.2.2.2)
                              else
                                if op.toNat = 0 then
                                  if h3.1 = true then
                                    law43_TrigCompares_l28 (IntKind.i64.wrap (n + 1)) op h0 h1 (h2.1, h2.2.1, h2.2.2.1, op, h2.2.2.2.2) (h3.1, h3.2.1, h3.2.2.1, y4.1.1, h3.2.2.2.2)
                                  else
                                    law43_TrigCompares_l28 n op h0 h1 (h2.1, h2.2.1, h2.2.2.1, op, h2.2.2.2.2) (h3.1, h3.2.1, h3.2.2.1, y4.1.1, h3.2.2.2.2)
                                else
                                  none
                    else
                      none
                  else
                    law43_TrigCompares_l28 n op h0 h1 (h2.1, h2.2.1, h2.2.2.1, op, h2.2.2.2.2) (h3.1, h3.2.1, h3.2.2.1, y4.1.1, h3.2.2.2.2)
                else
                  if op.toNat = 2 then
                    if (op != 2) = true then
                      if 0 ≤ op ∧ op < (6 : Int) then
                        if op.toNat = 5 then
                          if h3.2.2.2.2.2 = true then
                            law43_TrigCompares_l28 (IntKind.i64.wrap (n + 1)) op h0 h1 (h2.1, h2.2.1, h2.2.2.1, op, h2.2.2.2.2) (h3.1, h3.2.1, y4.1.1, h3.2.2.2)
                          else
                            law43_TrigCompares_l28 n op h0 h1 (h2.1, h2.2.1, h2.2.2.1, op, h2.2.2.2.2) (h3.1, h3.2.1, y4.1.1, h3.2.2.2)
                        else
                          if op.toNat = 4 then
                            if h3.2.2.2.2.1 = true then
                              law43_TrigCompares_l28 (IntKind.i64.wrap (n + 1)) op h0 h1 (h2.1, h2.2.1, h2.2.2.1, op, h2.2.2.2.2) (h3.1, h3.2.1, y4.1.1, h3.2.2.2)
                            else
                              law43_TrigCompares_l28 n op h0 h1 (h2.1, h2.2.1, h2.2.2.1, op, h2.2.2.2.2) (h3.1, h3.2.1, y4.1.1, h3.2.2.2)
                          else
                            if op.toNat = 3 then
                              if h3.2.2.2.1 = true then
                                law43_TrigCompares_l28 (IntKind.i64.wrap (n + 1)) op h0 h1 (h2.1, h2.2.1, h2.2.2.1, op, h2.2.2.2.2) (h3.1, h3.2.1, y4.1.1, h3.2.2.2)
                              else
                                law43_TrigCompares_l28 n op h0 h1 (h2.1, h2.2.1, h2.2.2.1, op, h2.2.2.2.2) (h3.1, h3.2.1, y4.1.1, h3.2.2.2)
                            else
                              if op.toNat = 2 then
                                if y4.1.1 = true then
                                  law43_TrigCompares_l28 (IntKind.i64.wrap (n + 1)) op h0 h1 (h2.1, h2.2.1, h2.2.2.1, op, h2.2.2.2.2) (h3.1, h3.2.1, y4.1.1, h3.2.2.2)
                                else
                                  law43_TrigCompares_l28 n op h0 h1 (h2.1, h2.2.1, h2.2.2.1, op, h2.2.2.2.2) (h3.1, h3.2.1, y4.1.1, h3.2.2.2)
                              else
                                if op.toNat = 1 then
                                  if h3.2.1 = true then
                                    law43_TrigCompares_l28 (IntKind.i64.wrap (n + 1)) op h0 h1 (h2.1, h2.2.1, h2.2.2.1, op, h2.2.2.2.2) (h3.1, h3.2.1, y4.1.1, h3.2.2.2)
                                  else
                                    law43_TrigCompares_l28 n op h0 h1 (h2.1, h2.2.1, h2.2.2.1, op, h2.2.2.2.2) (h3.1, h3.2.1, y4.1.1, h3.2.2.2)
                                else
                                  if op.toNat = 0 then
                                    if h3.1 = true then
                                      law43_TrigCompares_l28 (IntKind.i64.wrap (n + 1)) op h0 h1 (h2.1, h2.2.1, h2.2.2.1, op, h2.2.2.2.2) (h3.1, h3.2.1, y4.1.1, h3.2.2.2)
                                    else
                                      law43_TrigCompares_l28 n op h0 h1 (h2.1, h2.2.1, h2.2.2.1, op, h2.2.2.2.2) (h3.1, h3.2.1, y4.1.1, h3.2.2.2)
                                  else
                                    none
                      else
                        none
                    else
                      law43_TrigCompares_l28 n op h0 h1 (h2.1, h2.2.1, h2.2.2.1, op, h2.2.2.2.2) (h3.1, h3.2.1, y4.1.1, h3.2.2.2)
                  else
                    if op.toNat = 1 then
                      if (op != 2) = true then
                        if 0 ≤ op ∧ op < (6 : Int) then
                          if op.toNat = 5 then
                            if h3.2.2.2.2.2 = true then
                              law43_TrigCompares_l28 (IntKind.i64.wrap (n + 1)) op h0 h1 (h2.1, h2.2.1, h2.2.2.1, op, h2.2.2.2.2) (h3.1, y4.1.1, h3.2.2)
                            else
                              law43_TrigCompares_l28 n op h0 h1 (h2.1, h2.2.1, h2.2.2.1, op, h2.2.2.2.2) (h3.1, y4.1.1, h3.2.2)
                          else
                            if op.toNat = 4 then
                              if h3.2.2.2.2.1 = true then
                                law43_TrigCompares_l28 (IntKind.i64.wrap (n + 1)) op h0 h1 (h2.1, h2.2.1, h2.2.2.1, op, h2.2.2.2.2) (h3.1, y4.1.1, h3.2.2)
                              else
                                law43_TrigCompares_l28 n op h0 h1 (h2.1, h2.2.1, h2.2.2.1, op, h2.2.2.2.2) (h3.1, y4.1.1, h3.2.2)
                            else
                              if op.toNat = 3 then
                                if h3.2.2.2.1 = true then
                                  law43_TrigCompares_l28 (IntKind.i64.wrap (n + 1)) op h0 h1 (h2.1, h2.2.1, h2.2.2.1, op, h2.2.2.2.2) (h3.1, y4.1.1, h3.2.2)
                                else
                                  law43_TrigCompares_l28 n op h0 h1 (h2.1, h2.2.1, h2.2.2.1, op, h2.2.2.2.2) (h3.1, y4.1.1, h3.2.2)
                              else
                                if op.toNat = 2 then
                                  if h3.2.2.1 = true then
                                    law43_TrigCompares_l28 (IntKind.i64.wrap (n + 1)) op h0 h1 (h2.1, h2.2.1, h2.2.2.1, op, h2.2.2.2.2) (h3.1, y4.1.1, h3.2.2)
                                  else
                                    law43_TrigCompares_l28 n op h0 h1 (h2.1, h2.2.1, h2.2.2.1, op, h2.2.2.2.2) (h3.1, y4.1.1, h3.2.2)
                                else
                                  if op.toNat = 1 then
                                    if y4.1.1 = true then
                                      law43_TrigCompares_l28 (IntKind.i64.wrap (n + 1)) op h0 h1 (h2.1, h2.2.1, h2.2.2.1, op, h2.2.2.2.2) (h3.1, y4.1.1, h3.2.2)
                                    else
                                      law43_TrigCompares_l28 n op h0 h1 (h2.1, h2.2.1, h2.2.2.1, op, h2.2.2.2.2) (h3.1, y4.1.1, h3.2.2)
                                  else
                                    if op.toNat = 0 then
                                      if h3.1 = true then
                                        law43_TrigCompares_l28 (IntKind.i64.wrap (n + 1)) op h0 h1 (h2.1, h2.2.1, h2.2.2.1, op, h2.2.2.2.2) (h3.1, y4.1.1, h3.2.2)
                                      else
                                        law43_TrigCompares_l28 n op h0 h1 (h2.1, h2.2.1, h2.2.2.1, op, h2.2.2.2.2) (h3.1, y4.1.1, h3.2.2)
                                    else
                                      none
                        else
                          none
                      else
                        law43_TrigCompares_l28 n op h0 h1 (h2.1, h2.2.1, h2.2.2.1, op, h2.2.2.2.2) (h3.1, y4.1.1, h3.2.2)
                    else
                      if op.toNat = 0 then
                        if (op != 2) = true then
                          if 0 ≤ op ∧ op < (6 : Int) then
                            if op.toNat = 5 then
                              if h3.2.2.2.2.2 = true then
                                law43_TrigCompares_l28 (IntKind.i64.wrap (n + 1)) op h0 h1 (h2.1, h2.2.1, h2.2.2.1, op, h2.2.2.2.2) (y4.1.1, h3.2)
                              else
                                law43_TrigCompares_l28 n op h0 h1 (h2.1, h2.2.1, h2.2.2.1, op, h2.2.2.2.2) (y4.1.1, h3.2)
                            else
                              if op.toNat = 4 then
                                if h3.2.2.2.2.1 = true then
                                  law43_TrigCompares_l28 (IntKind.i64.wrap (n + 1)) op h0 h1 (h2.1, h2.2.1, h2.2.2.1, op, h2.2.2.2.2) (y4.1.1, h3.2)
                                else
                                  law43_TrigCompares_l28 n op h0 h1 (h2.1, h2.2.1, h2.2.2.1, op, h2.2.2.2.2) (y4.1.1, h3.2)
                              else
                                if op.toNat = 3 then
                                  if h3.2.2.2.1 = true then
                                    law43_TrigCompares_l28 (IntKind.i64.wrap (n + 1)) op h0 h1 (h2.1, h2.2.1, h2.2.2.1, op, h2.2.2.2.2) (y4.1.1, h3.2)
                                  else
                                    law43_TrigCompares_l28 n op h0 h1 (h2.1, h2.2.1, h2.2.2.1, op, h2.2.2.2.2) (y4.1.1, h3.2)
                                else
                                  if op.toNat = 2 then
                                    if h3.2.2.1 = true then
                                      law43_TrigCompares_l28 (IntKind.i64.wrap (n + 1)) op h0 h1 (h2.1, h2.2.1, h2.2.2.1, op, h2.2.2.2.2) (y4.1.1, h3.2)
                                    else
                                      law43_TrigCompares_l28 n op h0 h1 (h2.1, h2.2.1, h2.2.2.1, op, h2.2.2.2.2) (y4.1.1, h3.2)
                                  else
                                    if op.toNat = 1 then
                                      if h3.2.1 = true then
                                        law43_TrigCompares_l28 (IntKind.i64.wrap (n + 1)) op h0 h1 (h2.1, h2.2.1, h2.2.2.1, op, h2.2.2.2.2) (y4.1.1, h3.2)
                                      else
                                        law43_TrigCompares_l28 n op h0 h1 (h2.1, h2.2.1, h2.2.2.1, op, h2.2.2.2.2) (y4.1.1, h3.2)
                                    else
                                      if op.toNat = 0 then
                                        if y4.1.1 = true then
                                          law43_TrigCompares_l28 (IntKind.i64.wrap (n + 1)) op h0 h1 (h2.1, h2.2.1, h2.2.2.1, op, h2.2.2.2.2) (y4.1.1, h3.2)
                                        else
                                          law43_TrigCompares_l28 n op h0 h1 (h2.1, h2.2.1, h2.2.2.1, op, h2.2.2.2.2) (y4.1.1, h3.2)
                                      else
                                        none
                          else
                            none
                        else
                          law43_TrigCompares_l28 n op h0 h1 (h2.1, h2.2.1, h2.2.2.1, op, h2.2.2.2.2) (y4.1.1, h3.2)
                      else
                        none
          else
            none
  else
    if (n == 1) = true then
      if (!(h3.2.2.1 == h3.2.1)) = true then
        (law43_awake).bind fun y5 =>
          some ((y5.1.1, ()), ())
      else
        some ((false, ()), ())
    else
      some ((false, ()), ()) := (FD.lab_eq _ _ _ _).trans (by kernel_rfl)
theorem law43_TrigCompares_l28_eq (n : Int) (op : Int) (h0 : TStack) (h1 : TOut) (h2 : TCond) (h3 : (Bool × Bool × Bool × Bool × Bool × Bool)) : law43_TrigCompares_l28 n op h0 h1 h2 h3 =
  (trig_Holds h2 h0 (IntKind.i64.wrap (h1.1 + 1), h1.2)).bind fun y1 =>
    if y1.1.1 = true then
      some ((false, ()), ())
    else
      law43_TrigCompares_l19 n (IntKind.i64.wrap (op + 1)) h0 h1 h2 h3 := (FD.lab_eq _ _ _ _).trans (by kernel_rfl)
def law43_TrigCompares (st : TStack) (o : TOut) (c : TCond) : (Option ((Bool × Unit) × Unit)) :=
  (law43_few st).bind fun y1 =>
    if (!y1.1.1) = true then
      (law43_awake).bind fun y2 =>
        some ((y2.1.1, ()), ())
    else
      (law43_brief o.2.2.2.2.2.2.2.1).bind fun y3 =>
        if (!y3.1.1) = true then
          (law43_awake).bind fun y4 =>
            some ((y4.1.1, ()), ())
        else
          (ref07_Valid o.2.2).bind fun y5 =>
            if (!y5.1.1) = true then
              (law43_awake).bind fun y6 =>
                some ((y6.1.1, ()), ())
            else
              if (decide (o.1 < 0)) = true then
                (law43_awake).bind fun y7 =>
                  some ((y7.1.1, ()), ())
              else
                if (decide (o.1 ≥ (st.2.length : Int))) = true then
                  (law43_awake).bind fun y8 =>
                    some ((y8.1.1, ()), ())
                else
                  if 0 ≤ o.1 ∧ o.1 < (st.2.length : Int) then
                    if (c.2.1 != 0) = true then
                      law43_TrigCompares_l5 st o ((st.2.getD o.1.toNat dNode).1, o.2.2.1, c.2.2)
                    else
                      law43_TrigCompares_l5 st o ((st.2.getD o.1.toNat dNode).1, c.2)
                  else
                    none
def fc7 : FC := ⟨⟨[.row (.cons (.sl (.cons .str (.cons (.int .i64) (.cons (.int .i64) (.sl (.cons .str (.cons (.sl (.cons (.int .i64) (.cons (.int .i64) (.cons .str (.cons .bool (.sl (.cons (.int .i64) (.int .i64)))))))) (.cons .bool (.cons (.int .i64) (.cons (.int .i64) (.cons .str (.cons .bool (.sl (.cons (.int .i64) (.int .i64))))))))))))))) (.sl (.cons .str (.cons .str (.cons (.sl .str) (.sl (.cons .str (.int .i64)))))))), .row (.cons (.int .i64) (.cons (.int .i64) (.cons (.int .i64) (.cons (.int .i64) (.cons (.int .i64) (.cons (.int .i64) (.cons (.int .i64) (.cons .str (.int .i64))))))))), .row (.cons .str (.cons (.int .i64) (.cons (.int .i64) (.cons (.int .i64) (.int .i64)))))], []⟩, ⟨[.one .bool], []⟩, fun x => law43_TrigCompares x.1.1 x.1.2.1 x.1.2.2.1⟩
theorem con7 : Contract Tryd.prog 7 fc7 :=
  law43_TrigCompares_D.contract tok (cok_of (l := [(9, fc9), (10, fc10), (13, fc13), (14, fc14), (19, fc19), (20, fc20)]) ⟨con9, con10, con13, con14, con19, con20, trivial⟩) mixed (fn' := Tryd.f7) (by kernel_rfl) (by kernel_rfl) rfl (by kernel_rfl) (fun x => (FD.fn_eq _ _).trans (by kernel_rfl))
end
end Go.Proofs.YtgpgpelaabdkhaaDoor
end

section
/-
YtgpgpelaabdkhaaDoor: the plain functions of names and numbers come to what they should. No condition.
-/
set_option maxRecDepth 100000
open Go Go.AM
namespace Go.Proofs.YtgpgpelaabdkhaaDoor

theorem lex_letter_b (c : UInt8) : lex_letter c.toNat = some ((letterB c, ()), ()) := by
  unfold lex_letter letterB
  by_cases h : 97 ≤ c.toNat
  · rw [if_pos (decide_eq_true (by omega)), decide_eq_true h, Bool.true_and]
    by_cases h2 : c.toNat ≤ 122
    · rw [decide_eq_true h2, decide_eq_true (by omega)]
    · rw [decide_eq_false h2, decide_eq_false (by omega)]
  · rw [if_neg (dF (by omega)), decide_eq_false h, Bool.false_and]

theorem lex_digit_b (c : UInt8) : lex_digit c.toNat = some ((digitB c, ()), ()) := by
  unfold lex_digit digitB
  by_cases h : 48 ≤ c.toNat
  · rw [if_pos (decide_eq_true (by omega)), decide_eq_true h, Bool.true_and]
    by_cases h2 : c.toNat ≤ 57
    · rw [decide_eq_true h2, decide_eq_true (by omega)]
    · rw [decide_eq_false h2, decide_eq_false (by omega)]
  · rw [if_neg (dF (by omega)), decide_eq_false h, Bool.false_and]

theorem int_beq (c d : UInt8) : ((c.toNat : Int) == (d.toNat : Int)) = (c == d) := by
  rw [Bool.eq_iff_iff, beq_iff_eq, beq_iff_eq, u8_eq]

theorem lex_word_b (c : UInt8) : lex_word c.toNat = some ((wordB c, ()), ()) := by
  unfold lex_word wordB
  rw [lex_letter_b, lex_digit_b]
  have := int_beq c 95
  cases letterB c <;> cases digitB c <;> simp <;> exact this

theorem ref05_letter_b (c : UInt8) : ref05_letter c.toNat = some ((letterB c, ()), ()) := lex_letter_b c
theorem ref05_digit_b (c : UInt8) : ref05_digit c.toNat = some ((digitB c, ()), ()) := lex_digit_b c
theorem ref05_inner_b (c : UInt8) : ref05_inner c.toNat = some ((wordB c, ()), ()) := lex_word_b c

theorem lex_hex_b (c : UInt8) : lex_hex c.toNat = some ((hexI c, ()), ()) := by
  have hc := c.toNat_lt
  unfold lex_hex hexI hexv
  by_cases h : 48 ≤ c.toNat ∧ c.toNat ≤ 57
  · rw [if_pos (decide_eq_true (by omega)), if_pos (decide_eq_true (by omega)), if_pos h, w8 (by omega) (by omega), w64 (by omega) (by omega)]
    simp only [Option.some.injEq, Prod.mk.injEq, and_true]; omega
  · rw [if_neg h]
    by_cases h2 : 97 ≤ c.toNat ∧ c.toNat ≤ 102
    · have e1 : IntKind.u8.wrap ((c.toNat : Int) - 97) = c.toNat - 97 := w8 (by omega) (by omega)
      have e2 : IntKind.i64.wrap ((c.toNat : Int) - 97) = c.toNat - 97 := w64 (by omega) (by omega)
      have e3 : IntKind.i64.wrap ((c.toNat : Int) - 97 + 10) = c.toNat - 97 + 10 := w64 (by omega) (by omega)
      rw [if_pos (decide_eq_true (by omega)), if_neg (dF (by omega)), if_pos (decide_eq_true (by omega)), if_pos (decide_eq_true (by omega)), if_pos h2, e1, e2, e3]
      simp only [Option.some.injEq, Prod.mk.injEq, and_true]; omega
    · rw [if_neg h2]
      simp only [decide_eq_true_eq]
      repeat' split
      all_goals first | rfl | (exfalso; omega)

theorem hasPrefix_b (s p : ByteArray) : strings_HasPrefix s p = some ((decide (L s = L p ++ (L s).drop (L p).length), ()), ()) := by
  unfold strings_HasPrefix stringslite_HasPrefix
  by_cases h : p.size ≤ s.size
  · rw [if_pos (decide_eq_true (by omega)), if_pos ⟨by omega, by omega, by omega⟩]
    simp only [Option.bind_some, Option.some.injEq, Prod.mk.injEq, and_true]
    rw [Bool.eq_iff_iff, beq_iff_eq, decide_eq_true_eq, toL, toL, L_ext]
    simp only [Int.toNat_natCast, List.drop_zero]
    rw [← L_len p]
    constructor
    · intro e
      conv => lhs; rw [← List.take_append_drop (L p).length (L s), e]
    · intro e
      rw [e, List.take_left]
  · rw [if_neg (dF (by omega))]
    simp only [Option.bind_some, Option.some.injEq, Prod.mk.injEq, and_true]
    symm
    rw [decide_eq_false_iff_not]
    intro e
    have := congrArg List.length e
    simp only [List.length_append, L_len] at this
    omega

theorem lex_Name_loop (s : ByteArray) (hs : s.size ≤ 4611686018427387904) : ∀ (r : List UInt8) (n : Nat), (L s).drop n = r → lex_Name_l6 s s.size n = some ((r.all wordB, ()), ())
  | [], n, h => by
    have := drop_nil h
    rw [L_len] at this
    rw [lex_Name_l6_eq, if_neg (dF (by omega))]
    rfl
  | c :: r, n, h => by
    have h1 := drop_lt h
    rw [L_len] at h1
    rw [lex_Name_l6_eq, if_pos (decide_eq_true (by omega)), if_pos ⟨by omega, by omega⟩, bt_drop h, w32c, lex_word_b]
    simp only [Option.bind_some, List.all_cons]
    cases hw : wordB c
    · rfl
    · simp only [Bool.not_true, Bool.false_eq_true, if_false, Bool.true_and]
      rw [w64 (by omega) (by omega)]
      exact lex_Name_loop s hs r (n + 1) (drop_succ h)

theorem ref05_Name_loop (s : ByteArray) (hs : s.size ≤ 4611686018427387904) : ∀ (r : List UInt8) (n : Nat), (L s).drop n = r → ref05_Name_l6 s n = some ((r.all wordB, ()), ())
  | [], n, h => by
    have := drop_nil h
    rw [L_len] at this
    rw [ref05_Name_l6_eq, if_neg (dF (by omega))]
    rfl
  | c :: r, n, h => by
    have h1 := drop_lt h
    rw [L_len] at h1
    rw [ref05_Name_l6_eq, if_pos (decide_eq_true (by omega)), if_pos ⟨by omega, by omega⟩, bt_drop h, ref05_inner_b]
    simp only [Option.bind_some, List.all_cons]
    cases hw : wordB c
    · rfl
    · simp only [Bool.not_true, Bool.false_eq_true, if_false, Bool.true_and]
      rw [w64 (by omega) (by omega)]
      exact ref05_Name_loop s hs r (n + 1) (drop_succ h)

theorem lex_Name_b (s : ByteArray) : lex_Name s = some ((nameB (L s), ()), ()) := by
  unfold lex_Name
  have hl := L_len s
  cases hL : L s with
  | nil => rw [if_pos (by rw [toL, toL, hL, L_strB]; rfl)]; rfl
  | cons c r =>
    rw [hL] at hl
    simp only [List.length_cons] at hl
    rw [if_neg (by rw [toL, toL, hL, L_strB]; simp)]
    rw [nameB_cons]
    by_cases h : s.size ≤ 16
    · rw [if_neg (dF (by omega)), if_pos ⟨by omega, by omega⟩, bt_cons hL, w32c, lex_letter_b, decide_eq_true (by omega : r.length + 1 ≤ 16)]
      simp only [Option.bind_some, Bool.true_and]
      cases letterB c
      · rfl
      · simp only [Bool.not_true, Bool.false_eq_true, if_false, Bool.true_and]
        exact lex_Name_loop s (by omega) (c :: r) 0 (by rw [hL]; rfl)
    · rw [if_pos (decide_eq_true (by omega)), decide_eq_false (by omega : ¬ r.length + 1 ≤ 16)]
      rfl

theorem ref05_Name_b (s : ByteArray) : ref05_Name s = some ((nameB (L s), ()), ()) := by
  unfold ref05_Name
  have hl := L_len s
  cases hL : L s with
  | nil =>
    rw [hL] at hl
    simp only [List.length_nil] at hl
    rw [if_pos (decide_eq_true (by omega))]; rfl
  | cons c r =>
    rw [hL] at hl
    simp only [List.length_cons] at hl
    rw [if_neg (dF (by omega))]
    rw [nameB_cons]
    by_cases h : s.size ≤ 16
    · rw [if_neg (dF (by omega)), if_pos ⟨by omega, by omega⟩, bt_cons hL, ref05_letter_b, decide_eq_true (by omega : r.length + 1 ≤ 16)]
      simp only [Option.bind_some, Bool.true_and]
      cases letterB c
      · rfl
      · simp only [Bool.not_true, Bool.false_eq_true, if_false, Bool.true_and]
        exact ref05_Name_loop s (by omega) (c :: r) 0 (by rw [hL]; rfl)
    · rw [if_pos (decide_eq_true (by omega)), decide_eq_false (by omega : ¬ r.length + 1 ≤ 16)]
      rfl

theorem hexI_cases (c : UInt8) : (hexv c = none ∧ hexI c = -1) ∨ ∃ d : Nat, hexv c = some d ∧ hexI c = d ∧ d < 16 := by
  unfold hexI
  cases h : hexv c with
  | none => exact .inl ⟨rfl, rfl⟩
  | some d => exact .inr ⟨d, rfl, rfl, hexv_lt h⟩

/-- What the loop over the digits comes to. -/
def numEnd (minus : Bool) : Option Nat → Int × Int
  | none => (0, 4)
  | some n => if n > 9007199254740992 then (0, 2) else (if minus = true then -(n : Int) else n, 0)

theorem lex_Number_loop (s : ByteArray) (hs : s.size ≤ 4611686018427387904) (minus : Bool) (base : Nat) (hb : base ≤ 16) : ∀ (r : List UInt8) (i n : Nat), (L s).drop i = r → n ≤ 9007199254740993 →
    lex_Number_l13 s minus base n s.size i = some (((numEnd minus (digs base r n)).1, (numEnd minus (digs base r n)).2, ()), ())
  | [], i, n, h, hn => by
    have := drop_nil h
    rw [L_len] at this
    rw [lex_Number_l13_eq, if_neg (dF (by omega))]
    simp only [digs, numEnd]
    by_cases h2 : n > 9007199254740992
    · rw [if_pos (decide_eq_true (by omega)), if_pos h2]
    · rw [if_neg (dF (by omega)), if_neg h2]
      cases minus
      · rfl
      · simp only [if_true, Option.some.injEq, Prod.mk.injEq, and_true]
        rw [w64 (by omega) (by omega)]; omega
  | c :: r, i, n, h, hn => by
    have h1 := drop_lt h
    rw [L_len] at h1
    rw [lex_Number_l13_eq, if_pos (decide_eq_true (by omega)), if_pos ⟨by omega, by omega⟩, bt_drop h, lex_hex_b]
    simp only [Option.bind_some, digs]
    rcases hexI_cases c with ⟨e1, e2⟩ | ⟨d, e1, e2, e3⟩
    · rw [e1, e2, if_pos (by decide)]
      try rfl
    · rw [e1, e2, if_neg (dF (by omega))]
      simp only
      by_cases hd : d < base
      · rw [if_neg (dF (by omega)), if_pos hd]
        have b1 : base * n ≤ 16 * 9007199254740993 := Nat.mul_le_mul hb hn
        have e4 : IntKind.i64.wrap ((base : Int) * n) = ((base * n : Nat) : Int) := by rw [← Int.natCast_mul, w64 (by omega) (by omega)]
        have e5 : IntKind.i64.wrap (((base * n : Nat) : Int) + d) = ((base * n + d : Nat) : Int) := by rw [w64 (by omega) (by omega)]; omega
        have e6 : IntKind.i64.wrap ((i : Int) + 1) = ((i + 1 : Nat) : Int) := by rw [w64 (by omega) (by omega)]; omega
        rw [e4, e5, e6, show (if (9007199254740993 : Int) < ((base * n + d : Nat) : Int) then (9007199254740993 : Int) else ((base * n + d : Nat) : Int)) = ((min (base * n + d) 9007199254740993 : Nat) : Int) by
          split <;> omega]
        exact lex_Number_loop s hs minus base hb r (i + 1) _ (drop_succ h) (by omega)
      · rw [if_pos (decide_eq_true (by omega)), if_neg hd]
        try rfl

end Go.Proofs.YtgpgpelaabdkhaaDoor
end

section
/-
YtgpgpelaabdkhaaDoor: the plain functions of numbers and quoted strings come to what they should. No condition.
-/
set_option maxRecDepth 100000
open Go Go.AM
namespace Go.Proofs.YtgpgpelaabdkhaaDoor

def l5V (minus : Bool) (base : Nat) (l : List UInt8) : Int × Int := match l with
  | [] => (0, 4)
  | c :: r => if c = 48 ∧ (minus = true ∨ r ≠ []) then (0, 4) else numEnd minus (digs base (c :: r) 0)

theorem lex_Number_l5_b (s : ByteArray) (hs : s.size ≤ 4611686018427387904) (minus : Bool) (base : Nat) (hb : base ≤ 16) : lex_Number_l5 s minus base = some (((l5V minus base (L s)).1, (l5V minus base (L s)).2, ()), ()) := by
  rw [lex_Number_l5_eq]
  cases hL : L s with
  | nil => rw [if_pos (is_nil hL)]; rfl
  | cons c r =>
    have hl := size_of hL
    simp only [List.length_cons] at hl
    rw [if_neg (not_nil hL), if_pos ⟨by omega, by omega⟩, bt_cons hL]
    have loop := lex_Number_loop s hs minus base hb (c :: r) 0 0 (by rw [hL]; rfl) (by omega)
    simp only [l5V]
    by_cases h1 : c = 48
    · subst h1
      rw [if_pos (by decide)]
      cases minus with
      | true => simp
      | false =>
        simp only [Bool.false_eq_true, if_false, false_or, true_and]
        by_cases h2 : r = []
        · subst h2
          simp only [List.length_nil] at hl
          rw [if_neg (dF (by omega)), if_neg (by simp)]
          exact loop
        · have := List.length_pos_iff.2 h2
          rw [if_pos (dT (by omega)), if_pos h2]
    · rw [if_neg (show ¬ ((c.toNat : Int) == 48) = true from byte_ne h1), if_neg (by simp [h1])]
      exact loop

theorem numN_natV (neg : Bool) (base : Nat) (hb : 0 < base) (l : List UInt8) : numN neg (natV l base) = l5V neg base l := by
  cases l with
  | nil => rfl
  | cons c r =>
    simp only [natV, l5V]
    by_cases h1 : c = 48
    · subst h1
      by_cases h2 : r = []
      · subst h2
        have e : digs base [48] 0 = some 0 := by
          have : hexv 48 = some 0 := by decide
          simp [digs, this, hb]
        rw [if_neg (by simp), e]
        cases neg <;> simp [numN, numEnd]
      · rw [if_pos ⟨rfl, h2⟩, if_pos ⟨rfl, .inr h2⟩]
        rfl
    · rw [if_neg (by simp [h1]), if_neg (by simp [h1])]
      cases hd : digs base (c :: r) 0 with
      | none => rfl
      | some m =>
        have := digs_first hb hd h1
        simp only [numN, numEnd]
        rw [if_neg (by omega)]

theorem body_l5 (neg : Bool) (b : List UInt8) : numN neg (bodyV b) = match b with
    | 48 :: 120 :: t => l5V neg 16 t
    | b => l5V neg 10 b := by
  match b with
  | [] => exact numN_natV neg 10 (by omega) []
  | [c] =>
    have : bodyV [c] = natV [c] 10 := by unfold bodyV; split <;> simp_all
    rw [this, numN_natV neg 10 (by omega)]
    split <;> simp_all
  | c :: d :: r =>
    by_cases h : c = 48 ∧ d = 120
    · obtain ⟨rfl, rfl⟩ := h
      cases r with
      | nil =>
        have : bodyV [48, 120] = none := by rfl
        rw [this]; rfl
      | cons e r => exact numN_natV neg 16 (by omega) (e :: r)
    · have : bodyV (c :: d :: r) = natV (c :: d :: r) 10 := by
        unfold bodyV
        split
        · rename_i e; simp only [List.cons.injEq] at e; exact absurd ⟨e.1, e.2.1⟩ h
        · rfl
      rw [this, numN_natV neg 10 (by omega)]
      split
      · rename_i e; simp only [List.cons.injEq] at e; exact absurd ⟨e.1, e.2.1⟩ h
      · rfl

theorem prefix_minus_yes {s : ByteArray} {r : List UInt8} (h : L s = 45 :: r) : strings_HasPrefix s (strB [45]) = some ((true, ()), ()) := by
  rw [hasPrefix_b, L_strB, h]
  simp

theorem prefix_minus_no {s : ByteArray} (h : ∀ r, L s ≠ 45 :: r) : strings_HasPrefix s (strB [45]) = some ((false, ()), ()) := by
  rw [hasPrefix_b, L_strB]
  simp only [Option.some.injEq, Prod.mk.injEq, and_true, decide_eq_false_iff_not]
  exact fun e => h _ e

theorem prefix_hex (s : ByteArray) : strings_HasPrefix s (strB [48, 120]) = some ((match L s with
    | 48 :: 120 :: _ => true
    | _ => false, ()), ()) := by
  rw [hasPrefix_b]
  simp only [Option.some.injEq, Prod.mk.injEq, and_true]
  rw [L_strB]
  match L s with
  | [] => rfl
  | [c] => simp
  | c :: d :: r =>
    simp only [List.length_cons, List.length_nil, List.drop_succ_cons, List.drop_zero, List.cons_append, List.nil_append, List.cons.injEq, and_true]
    by_cases h : c = 48 ∧ d = 120
    · obtain ⟨rfl, rfl⟩ := h; simp
    · rw [decide_eq_false h]
      split
      · rename_i e; cases e; exact absurd ⟨rfl, rfl⟩ h
      · rfl

theorem lex_Number_l2_b (s : ByteArray) (hs : s.size ≤ 4611686018427387904) (minus : Bool) : lex_Number_l2 s minus = some (((numN minus (bodyV (L s))).1, (numN minus (bodyV (L s))).2, ()), ()) := by
  rw [lex_Number_l2_eq, prefix_hex, body_l5]
  simp only [Option.bind_some]
  split
  · rename_i t hL
    have hl := size_of hL
    simp only [List.length_cons] at hl
    rw [if_pos rfl, if_pos ⟨by omega, by omega⟩]
    have := lex_Number_l5_b (s.extract 2 s.size) (by rw [size_drop]; omega) minus 16 (by omega)
    rw [L_ext', hL] at this
    exact this
  · rw [if_neg (by simp)]
    exact lex_Number_l5_b s hs minus 10 (by omega)

theorem lex_Number_b (s : ByteArray) (hs : s.size ≤ 4611686018427387904) : lex_Number s = some (((numV (L s)).1, (numV (L s)).2, ()), ()) := by
  unfold lex_Number
  have no : (∀ r, L s ≠ 45 :: r) → numV (L s) = numN false (bodyV (L s)) → ((strings_HasPrefix s (strB [45])).bind fun y1 =>
      if y1.1.1 = true then
        if 0 ≤ (1 : Int) ∧ 1 ≤ (s.size : Int) then lex_Number_l2 (s.extract 1 s.size) y1.1.1 else none
      else lex_Number_l2 s y1.1.1) = some (((numV (L s)).1, (numV (L s)).2, ()), ()) := by
    intro h e
    rw [prefix_minus_no h, e]
    exact lex_Number_l2_b s hs false
  cases hL : L s with
  | nil =>
    rw [hL] at no
    exact no (fun r e => by cases e) rfl
  | cons c r =>
    by_cases h : c = 45
    · subst h
      have hl := size_of hL
      simp only [List.length_cons] at hl
      rw [prefix_minus_yes hL, numV_minus]
      simp only [Option.bind_some, if_true]
      rw [if_pos ⟨by omega, by omega⟩]
      have := lex_Number_l2_b (s.extract 1 s.size) (by rw [size_drop]; omega) true
      rw [L_ext', hL] at this
      exact this
    · rw [hL] at no
      exact no (fun r e => by cases e; exact h rfl) (numV_other h)

theorem natV_le {l : List UInt8} {base n : Nat} (h : natV l base = some n) : n ≤ 9007199254740993 := by
  unfold natV at h
  split at h
  · cases h
  · split at h
    · cases h
    · exact digs_le _ _ _ h (by omega)

theorem bodyV_le {l : List UInt8} {n : Nat} (h : bodyV l = some n) : n ≤ 9007199254740993 := by
  unfold bodyV at h
  split at h <;> exact natV_le h

end Go.Proofs.YtgpgpelaabdkhaaDoor
end

section
/-
YtgpgpelaabdkhaaDoor: the plain functions of quoted strings come to what they should. No condition.
-/
set_option maxRecDepth 100000
open Go Go.AM
namespace Go.Proofs.YtgpgpelaabdkhaaDoor

theorem lex_plain_b (c : UInt8) : lex_plain c.toNat = some ((plainB c, ()), ()) := by
  unfold lex_plain plainB
  by_cases h : 32 ≤ c.toNat
  · rw [if_pos (dT (by omega)), decide_eq_true h]
    by_cases h2 : c.toNat ≤ 126
    · rw [if_pos (dT (by omega)), decide_eq_true h2]
      by_cases h3 : c = 34
      · subst h3; rfl
      · rw [if_pos (show ((c.toNat : Int) != 34) = true from byte_bne h3), bne_iff_ne.2 h3]
        by_cases h4 : c = 92
        · subst h4; rfl
        · rw [show ((c.toNat : Int) != 92) = true from byte_bne h4, bne_iff_ne.2 h4]; rfl
    · rw [if_neg (dF (by omega)), decide_eq_false h2]
      simp
  · rw [if_neg (dF (by omega)), decide_eq_false h]
    simp

theorem hex_pair {x y : Nat} (hx : x < 16) (hy : y < 16) : IntKind.u8.wrap (IntKind.i64.wrap (IntKind.i64.wrap (16 * (x : Int)) + y)) = ((UInt8.ofNat (16 * x + y)).toNat : Int) := by
  have e1 : IntKind.i64.wrap (16 * (x : Int)) = 16 * x := w64 (by omega) (by omega)
  have e2 : IntKind.i64.wrap (16 * (x : Int) + y) = 16 * x + y := w64 (by omega) (by omega)
  rw [e1, e2, w8 (by omega) (by omega), UInt8.toNat_ofNat', Nat.mod_eq_of_lt (by omega)]
  omega

theorem hex_pair' {x y : Nat} (hx : x < 16) (hy : y < 16) : IntKind.u8.wrap (IntKind.i64.wrap (IntKind.i64.wrap ((x : Int) * 16) + y)) = ((UInt8.ofNat (16 * x + y)).toNat : Int) := by
  rw [Int.mul_comm]; exact hex_pair hx hy

theorem bt_at {s : ByteArray} {i : Nat} {c : UInt8} {r : List UInt8} (h : (L s).drop i = c :: r) (x : Int) (hx : x = i) : bt s x = (c.toNat : Int) := by
  subst hx; exact bt_drop h

theorem lex_escape_b (s : ByteArray) (c : UInt8) (r : List UInt8) (hL : L s = c :: r) : lex_escape s = some ((match escV r with
    | some (b, n) => ((b.toNat : Int), (n : Int), ())
    | none => (0, 0, ())), ()) := by
  unfold lex_escape
  have hl := size_of hL
  cases r with
  | nil =>
    simp only [List.length_cons, List.length_nil] at hl
    rw [if_pos (dT (by omega))]; rfl
  | cons e r =>
    simp only [List.length_cons] at hl
    have b1 : bt s 1 = (e.toNat : Int) := bt_at (i := 1) (r := r) (by rw [hL]; rfl) 1 rfl
    rw [if_neg (dF (by omega)), if_pos ⟨by omega, by omega⟩, b1]
    have yes : ∀ x, lex_escape_l6 s x true = some (((e.toNat : Int), 2, ()), ()) := fun x => by
      rw [lex_escape_l6_eq, if_pos rfl, if_pos ⟨by omega, by omega⟩, b1]
    by_cases h1 : e = 34
    · subst h1
      rw [if_pos (by decide), yes]; rfl
    · rw [if_neg (show ¬ ((e.toNat : Int) == 34) = true from byte_ne h1)]
      by_cases h2 : e = 92
      · subst h2
        rw [show (((92 : UInt8).toNat : Int) == 92) = true from by decide, yes]; rfl
      · rw [show ((e.toNat : Int) == 92) = false from by simpa using byte_ne h2, lex_escape_l6_eq, if_neg Bool.false_ne_true]
        simp only [escV]
        rw [if_neg (show ¬ (e = 34 ∨ e = 92) by simp [h1, h2])]
        by_cases h3 : e = 110
        · subst h3
          rw [if_pos (by decide), if_pos rfl]; rfl
        · rw [if_neg (show ¬ ((e.toNat : Int) == 110) = true from byte_ne h3), if_neg h3]
          by_cases h4 : e = 120
          · subst h4
            rw [if_pos (by decide), if_pos rfl]
            match r, hl, hL with
            | [], hl, _ => simp only [List.length_nil] at hl; rw [if_pos (dT (by omega))]
            | [a], hl, _ => simp only [List.length_cons, List.length_nil] at hl; rw [if_pos (dT (by omega))]
            | a :: b :: r, hl, hL =>
              simp only [List.length_cons] at hl
              have b2 : bt s 2 = (a.toNat : Int) := bt_at (i := 2) (r := b :: r) (by rw [hL]; rfl) 2 rfl
              have b3 : bt s 3 = (b.toNat : Int) := bt_at (i := 3) (r := r) (by rw [hL]; rfl) 3 rfl
              rw [if_neg (dF (by omega)), if_pos ⟨by omega, by omega⟩, b2, b3, lex_hex_b, lex_hex_b]
              simp only [Option.bind_some]
              rcases hexI_cases a with ⟨e1, e2⟩ | ⟨x, e1, e2, e3⟩
              · rw [e1, e2, if_pos (by decide)]
              · rw [e1, e2, if_neg (dF (by omega)), if_pos ⟨by omega, by omega⟩]
                rcases hexI_cases b with ⟨f1, f2⟩ | ⟨y, f1, f2, f3⟩
                · rw [f1, f2, if_pos (by decide)]
                · rw [f1, f2, if_neg (dF (by omega)), if_pos ⟨by omega, by omega⟩, if_pos ⟨by omega, by omega⟩, hex_pair e3 f3]
                  rfl
          · rw [if_neg (show ¬ ((e.toNat : Int) == 120) = true from byte_ne h4), if_neg h4]

theorem lex_Unquote_loop : ∀ (k : Nat) (s : ByteArray) (acc : List UInt8), (L s).length ≤ k → acc.length + (L s).length ≤ 1099511627776 → lex_Unquote_l7 s (bI acc) = some ((match unqI k (L s) with
    | some o => (strB (acc ++ o), 0, ())
    | none => (strB [], 4, ())), ()) := by
  intro k
  induction k using Nat.strongRecOn with
  | _ k ih =>
    intro s acc hk ha
    rw [lex_Unquote_l7_eq]
    cases hL : L s with
    | nil =>
      rw [if_neg (cond_nil hL), strOf_bI]
      have : unqI k [] = some [] := by cases k <;> rfl
      rw [this]
      simp
    | cons c r =>
      have hl := size_of hL
      rw [hL] at hk ha
      simp only [List.length_cons] at hk ha hl
      obtain ⟨k, rfl⟩ : ∃ j, k = j + 1 := ⟨k - 1, by omega⟩
      rw [if_pos (cond_not_nil hL), if_pos ⟨by omega, by omega⟩, bt_cons hL, w32c, lex_plain_b]
      simp only [Option.bind_some, unqI]
      by_cases hp : plainB c = true
      · rw [if_pos hp, if_pos hp, if_pos ⟨by omega, by omega⟩, if_pos (by rw [bI_len]; omega), if_pos ⟨by omega, by omega⟩, bI_snoc]
        have e := L_ext' s 1
        rw [hL] at e
        rw [ih k (by omega) (s.extract 1 s.size) (acc ++ [c]) (by rw [e]; simpa using by omega) (by rw [e]; simp; omega), e]
        simp only [List.drop_succ_cons, List.drop_zero]
        cases unqI k r <;> simp
      · rw [if_neg hp, if_neg hp, if_pos ⟨by omega, by omega⟩]
        have bad : ∀ x : Int, lex_Unquote_l14 s x 0 (bI acc) = some ((strB [], 4, ()), ()) := fun x => by rw [lex_Unquote_l14_eq, if_pos (eT rfl)]
        by_cases hc : c = 92
        · subst hc
          rw [if_pos (by decide), if_pos rfl, lex_escape_b s 92 r hL]
          simp only [Option.bind_some]
          cases he : escV r with
          | none => exact bad 0
          | some p =>
            obtain ⟨b, n⟩ := p
            have hn := escV_len he
            simp only
            rw [lex_Unquote_l14_eq, if_neg (eF (by omega)), if_pos (by rw [bI_len]; omega), if_pos ⟨by omega, by omega⟩, bI_snoc, Int.toNat_natCast]
            have e := L_ext' s n
            rw [hL, show n = (n - 1) + 1 by omega, List.drop_succ_cons] at e
            rw [show n - 1 + 1 = n by omega] at e
            rw [ih k (by omega) (s.extract n s.size) (acc ++ [b]) (by rw [e, List.length_drop]; omega) (by rw [e, List.length_drop]; simp; omega), e]
            cases unqI k (r.drop (n - 1)) <;> simp
        · rw [if_neg (show ¬ ((c.toNat : Int) == 92) = true from byte_ne hc), if_neg hc]
          exact bad 0

theorem lex_Unquote_b (s : ByteArray) (hs : s.size ≤ 1099511627776) : lex_Unquote s = some ((match unqV (L s) with
    | some o => (strB o, 0, ())
    | none => (strB [], 4, ())), ()) := by
  unfold lex_Unquote
  match hL : L s with
  | [] =>
    have hl := size_of hL
    simp only [List.length_nil] at hl
    rw [if_pos (dT (by omega))]; rfl
  | [c] =>
    have hl := size_of hL
    simp only [List.length_cons, List.length_nil] at hl
    rw [if_pos (dT (by omega))]
    by_cases h : c = 34
    · subst h; rfl
    · have : unqV [c] = none := by
        unfold unqV
        split
        · rename_i e; cases e; exact absurd rfl h
        · rfl
      rw [this]
  | c :: d :: r =>
    have hl := size_of hL
    simp only [List.length_cons] at hl
    rw [if_neg (dF (by omega)), if_pos ⟨by omega, by omega⟩, bt_cons hL]
    by_cases h : c = 34
    · subst h
      rw [if_neg (by decide)]
      have e1 : IntKind.i64.wrap ((s.size : Int) - 1) = ((r.length + 1 : Nat) : Int) := by rw [w64 (by omega) (by omega)]; omega
      rw [e1, if_pos ⟨by omega, by omega⟩]
      obtain ⟨i, z, hi⟩ : ∃ i z, d :: r = i ++ [z] := ⟨(d :: r).dropLast, (d :: r).getLast (by simp), (List.dropLast_concat_getLast (by simp)).symm⟩
      have hil : i.length = r.length := by
        have := congrArg List.length hi
        simp at this
        omega
      have hz : bt s ((r.length + 1 : Nat) : Int) = (z.toNat : Int) := bt_at (i := r.length + 1) (r := []) (by rw [hL, hi, List.drop_succ_cons, ← hil]; simp) _ rfl
      rw [hz]
      unfold unqV
      simp only
      rw [hi, List.getLast?_concat, List.dropLast_concat]
      by_cases h2 : z = 34
      · subst h2
        rw [if_neg (by decide), if_pos rfl, if_pos ⟨by omega, by omega, by omega⟩, Int.toNat_natCast]
        have e2 : L (s.extract 1 (r.length + 1)) = i := by
          rw [L_ext, hL, hi, ← hil]
          simp
        have := lex_Unquote_loop (i ++ [34]).length (s.extract 1 (r.length + 1)) [] (by rw [e2]; simp) (by rw [e2]; simp; omega)
        rw [e2] at this
        simp only [List.nil_append] at this
        exact this
      · rw [if_pos (show ((z.toNat : Int) != 34) = true from byte_bne h2), if_neg (by simpa using h2)]
    · rw [if_pos (show ((c.toNat : Int) != 34) = true from byte_bne h)]
      have : unqV (c :: d :: r) = none := by
        unfold unqV
        split
        · rename_i e; cases e; exact absurd rfl h
        · rfl
      rw [this]

end Go.Proofs.YtgpgpelaabdkhaaDoor
end

section
/-
YtgpgpelaabdkhaaDoor: the plain functions of tokens come to what they should. No condition.
-/
set_option maxRecDepth 100000
open Go Go.AM
namespace Go.Proofs.YtgpgpelaabdkhaaDoor

theorem lex_words_loop (s : ByteArray) (hs : s.size ≤ 1099511627776) : ∀ (r : List UInt8) (n : Nat), (L s).drop n = r → n ≤ s.size → lex_words_l3 s n = some ((((n + (r.takeWhile wordB).length : Nat) : Int), ()), ())
  | [], n, h, hn => by
    have := drop_nil h
    rw [L_len] at this
    rw [lex_words_l3_eq, if_neg (dF (by omega))]
    rfl
  | c :: r, n, h, hn => by
    have h1 := drop_lt h
    rw [L_len] at h1
    rw [lex_words_l3_eq, if_pos (dT (by omega)), if_pos ⟨by omega, by omega⟩, bt_drop h, w32c, lex_word_b]
    simp only [Option.bind_some, List.takeWhile_cons]
    cases hw : wordB c
    · simp
    · rw [if_pos rfl, w64a n (by omega), lex_words_loop s hs r (n + 1) (drop_succ h) (by omega)]
      simp only [if_true, List.length_cons]
      rw [show n + 1 + (r.takeWhile wordB).length = n + ((r.takeWhile wordB).length + 1) by omega]

theorem lex_words_b (s : ByteArray) (hs : s.size ≤ 1099511627776) : lex_words s = some (((((L s).takeWhile wordB).length : Int), ()), ()) := by
  have := lex_words_loop s hs (L s) 0 rfl (by omega)
  rw [Nat.zero_add] at this
  exact this

theorem lex_quoted_loop (s : ByteArray) (hs : s.size ≤ 1099511627776) : ∀ (k : Nat) (r : List UInt8) (i : Nat), (L s).drop i = r → r.length ≤ k → i ≤ s.size + 2 → lex_quoted_l3 s i = some ((match scanQ r with
    | some m => ((i + m + 1 : Nat) : Int)
    | none => 0, ()), ()) := by
  intro k
  induction k using Nat.strongRecOn with
  | _ k ih =>
    intro r i hr hk hi
    rw [lex_quoted_l3_eq]
    cases r with
    | nil =>
      have := drop_nil hr
      rw [L_len] at this
      rw [if_neg (dF (by omega))]; rfl
    | cons c r =>
      have h1 := drop_lt hr
      rw [L_len] at h1
      simp only [List.length_cons] at hk
      rw [if_pos (dT (by omega)), if_pos ⟨by omega, by omega⟩, bt_drop hr, scanQ_cons, w64a i (by omega)]
      have d1 := drop_succ hr
      by_cases g1 : c = 34
      · subst g1
        rw [if_pos (by decide), if_pos rfl]
      · rw [if_neg (show ¬ ((c.toNat : Int) == 34) = true from byte_ne g1), if_neg g1]
        by_cases g2 : c = 92
        · subst g2
          rw [if_pos (by decide), if_pos rfl, w64a (i + 1) (by omega)]
          cases r with
          | nil =>
            have := drop_nil d1
            rw [L_len] at this
            exact ih (k - 1) (by omega) [] (i + 1 + 1) (by rw [List.drop_of_length_le]; rw [L_len]; omega) (by simp) (by omega)
          | cons d r =>
            simp only [List.length_cons] at hk
            dsimp only
            rw [ih (k - 1) (by omega) r (i + 1 + 1) (drop_succ d1) (by omega) (by omega)]
            cases scanQ r with
            | none => rfl
            | some m => simp only [Option.map_some]; rw [show i + 1 + 1 + m + 1 = i + (m + 2) + 1 by omega]
        · rw [if_neg (show ¬ ((c.toNat : Int) == 92) = true from byte_ne g2), if_neg g2, ih (k - 1) (by omega) r (i + 1) d1 (by omega) (by omega)]
          cases scanQ r with
          | none => rfl
          | some m => simp only [Option.map_some]; rw [show i + 1 + m + 1 = i + (m + 1) + 1 by omega]

theorem or_if (b x : Bool) : (if b = true then some ((true, ()), ()) else some ((x, ()), ())) = some ((b || x, ()), ()) := by cases b <;> rfl

theorem lex_mark_b (c : UInt8) : lex_mark c.toNat = some ((markB c, ()), ()) := by
  unfold lex_mark markB marks
  simp only [or_if]
  simp only [show ((c.toNat : Int) == 40) = (c == 40) from int_beq c 40, show ((c.toNat : Int) == 41) = (c == 41) from int_beq c 41, show ((c.toNat : Int) == 91) = (c == 91) from int_beq c 91, show ((c.toNat : Int) == 93) = (c == 93) from int_beq c 93,
    show ((c.toNat : Int) == 123) = (c == 123) from int_beq c 123, show ((c.toNat : Int) == 125) = (c == 125) from int_beq c 125, show ((c.toNat : Int) == 60) = (c == 60) from int_beq c 60, show ((c.toNat : Int) == 62) = (c == 62) from int_beq c 62,
    show ((c.toNat : Int) == 61) = (c == 61) from int_beq c 61, show ((c.toNat : Int) == 44) = (c == 44) from int_beq c 44, show ((c.toNat : Int) == 59) = (c == 59) from int_beq c 59, show ((c.toNat : Int) == 58) = (c == 58) from int_beq c 58,
    show ((c.toNat : Int) == 46) = (c == 46) from int_beq c 46, show ((c.toNat : Int) == 47) = (c == 47) from int_beq c 47, show ((c.toNat : Int) == 42) = (c == 42) from int_beq c 42, show ((c.toNat : Int) == 43) = (c == 43) from int_beq c 43,
    show ((c.toNat : Int) == 33) = (c == 33) from int_beq c 33, show ((c.toNat : Int) == 38) = (c == 38) from int_beq c 38, show ((c.toNat : Int) == 124) = (c == 124) from int_beq c 124, List.contains_cons, List.contains_nil]

theorem takeWhile_le (p : UInt8 → Bool) (l : List UInt8) : (l.takeWhile p).length ≤ l.length := (List.takeWhile_sublist p).length_le

theorem takeV_len {c : UInt8} {r : List UInt8} {t : Int × List UInt8 × Int} {n : Nat} (h : takeV (c :: r) = .ok (t, n)) : 1 ≤ n ∧ n ≤ r.length + 1 := by
  simp only [takeV] at h
  split at h
  · rename_i hc
    split at h
    · cases h
      have hw : wordB c = true := by simp [wordB, hc]
      rw [List.takeWhile_cons, if_pos hw]
      have := takeWhile_le wordB r
      simp only [List.length_cons]
      omega
    · cases h
  · split at h
    · split at h
      · cases h
        have := takeWhile_le wordB r
        omega
      · cases h
    · split at h
      · split at h
        · rename_i o rest hu
          cases h
          rw [unqL_scan _ _ (Nat.le_refl _)] at hu
          split at hu
          · cases hu
          · rename_i m hs
            have := scanQ_lt _ _ (Nat.le_refl _) m hs
            cases hi : unqI r.length (r.take m) with
            | none => rw [hi] at hu; cases hu
            | some o' =>
              rw [hi] at hu
              cases hu
              simp only [List.length_cons, List.length_drop]
              omega
        · cases h
      · split at h
        · cases h; omega
        · cases h

theorem numV_err (l : List UInt8) : (numV l).2 = 0 ∨ (numV l).2 = 4 ∨ (numV l).2 = 2 := by
  have key : ∀ b o, (numN b o).2 = 0 ∨ (numN b o).2 = 4 ∨ (numN b o).2 = 2 := by
    intro b o
    unfold numN
    split
    · simp
    · split
      · simp
      · split <;> simp
  unfold numV
  split <;> exact key _ _

theorem takeV_err {l : List UInt8} {e : Int} (h : takeV l = .error e) : e ≠ 0 := by
  cases l with
  | nil => cases h; decide
  | cons c r =>
    simp only [takeV] at h
    split at h
    · split at h
      · cases h
      · cases h; decide
    · split at h
      · split at h
        · cases h
        · rename_i hv
          cases h
          exact hv
      · split at h
        · split at h
          · cases h
          · cases h; decide
        · split at h
          · cases h
          · cases h; decide

/-- Numbers, as both functions take them. -/
theorem lex_take_num (s : ByteArray) (hs : s.size ≤ 1099511627776) (c : UInt8) (r : List UInt8) (hL : L s = c :: r) : (if 0 ≤ (1 : Int) ∧ 1 ≤ (s.size : Int) then
      (lex_words (s.extract 1 s.size)).bind fun y5 =>
        if 0 ≤ (0 : Int) ∧ (0 : Int) ≤ IntKind.i64.wrap (1 + y5.1.1) ∧ IntKind.i64.wrap (1 + y5.1.1) ≤ (s.size : Int) then
          (lex_Number (s.extract 0 (IntKind.i64.wrap (1 + y5.1.1)).toNat)).bind fun y6 =>
            if 0 ≤ (0 : Int) ∧ (0 : Int) ≤ IntKind.i64.wrap (1 + y5.1.1) ∧ IntKind.i64.wrap (1 + y5.1.1) ≤ (s.size : Int) then
              some ((((2 : Int), s.extract 0 (IntKind.i64.wrap (1 + y5.1.1)).toNat, y6.1.1, (0 : Int)), IntKind.i64.wrap (1 + y5.1.1), y6.1.2.1, ()), ())
            else
              none
        else
          none
    else
      none) = some (((2, strB ((c :: r).take (1 + (r.takeWhile wordB).length)), (numV ((c :: r).take (1 + (r.takeWhile wordB).length))).1, 0), ((1 + (r.takeWhile wordB).length : Nat) : Int), (numV ((c :: r).take (1 + (r.takeWhile wordB).length))).2, ()), ()) := by
  have hl := size_of hL
  simp only [List.length_cons] at hl
  have e := L_ext' s 1
  rw [hL, List.drop_succ_cons, List.drop_zero] at e
  have hw := takeWhile_le wordB r
  rw [if_pos ⟨by omega, by omega⟩, lex_words_b _ (by rw [size_drop]; omega), e]
  simp only [Option.bind_some]
  rw [show (1 : Int) + ((r.takeWhile wordB).length : Int) = (((1 + (r.takeWhile wordB).length : Nat)) : Int) by omega, w64 (by omega) (by omega), Int.toNat_natCast]
  rw [if_pos ⟨by omega, by omega, by omega⟩]
  have e2 : s.extract 0 (1 + (r.takeWhile wordB).length) = strB ((c :: r).take (1 + (r.takeWhile wordB).length)) := L_inj (by rw [L_take, hL, L_strB])
  rw [e2, lex_Number_b _ (by rw [strB_size, List.length_take]; simp only [List.length_cons]; omega), L_strB]
  simp only [Option.bind_some]
  rw [if_pos ⟨by omega, by omega, by omega⟩]

/-- What a function that takes a token comes to. -/
def TakeOk (line : Int) (i : Nat) (o : Option ((TToken × Int × Int × Unit) × Unit)) (v : Except Int ((Int × List UInt8 × Int) × Nat)) : Prop := match v with
  | .ok (t, n) => o = some (((t.1, strB t.2.1, t.2.2, line), ((i + n : Nat) : Int), 0, ()), ())
  | .error e => ∃ x n, o = some ((x, n, e, ()), ())

theorem take_ok {line : Int} {i n : Nat} {t : Int × List UInt8 × Int} {o : Option ((TToken × Int × Int × Unit) × Unit)} (h : o = some (((t.1, strB t.2.1, t.2.2, line), ((i + n : Nat) : Int), 0, ()), ())) : TakeOk line i o (.ok (t, n)) := h
theorem take_err {line : Int} {i : Nat} {e : Int} {x : TToken} {n : Int} : TakeOk line i (some ((x, n, e, ()), ())) (.error e) := ⟨x, n, rfl⟩

theorem lex_take_b (s : ByteArray) (hs : s.size ≤ 1099511627776) (c : UInt8) (r : List UInt8) (hL : L s = c :: r) : TakeOk 0 0 (lex_take s) (takeV (c :: r)) := by
  have hl := size_of hL
  simp only [List.length_cons] at hl
  unfold lex_take
  rw [if_pos ⟨by omega, by omega⟩, bt_cons hL, w32c, lex_letter_b, lex_digit_b]
  simp only [Option.bind_some]
  rw [lex_take_num s hs c r hL]
  simp only [takeV]
  by_cases h1 : letterB c = true
  · rw [if_pos h1, if_pos h1]
    have hw : ((c :: r).takeWhile wordB).length ≤ r.length + 1 := takeWhile_le wordB (c :: r)
    rw [lex_words_b s hs, hL]
    simp only [Option.bind_some, Int.toNat_natCast]
    rw [if_pos ⟨by omega, by omega, by omega⟩, if_pos ⟨by omega, by omega, by omega⟩]
    have e2 : s.extract 0 ((c :: r).takeWhile wordB).length = strB ((c :: r).take ((c :: r).takeWhile wordB).length) := L_inj (by rw [L_take, hL, L_strB])
    rw [e2, lex_Name_b, L_strB]
    simp only [Option.bind_some]
    cases hn : nameB ((c :: r).take ((c :: r).takeWhile wordB).length)
    · exact take_err
    · exact take_ok (by rw [Nat.zero_add]; rfl)
  · rw [if_neg h1, if_neg h1]
    by_cases h2 : digitB c = true ∨ c = 45
    · have e3 : ∀ (x y : Option ((TToken × Int × Int × Unit) × Unit)), (if digitB c = true then x else if ((c.toNat : Int) == 45) = true then x else y) = x := by
        intro x y
        rcases h2 with h2 | h2
        · rw [if_pos h2]
        · subst h2
          rw [if_neg (by decide), if_pos (by decide)]
      rw [e3, if_pos h2]
      by_cases hv : (numV ((c :: r).take (1 + (r.takeWhile wordB).length))).2 = 0
      · rw [if_pos hv, hv]
        exact take_ok (by rw [Nat.zero_add])
      · rw [if_neg hv]
        exact take_err
    · rw [if_neg (fun q => h2 (.inl q)), if_neg (show ¬ ((c.toNat : Int) == 45) = true from byte_ne (fun q => h2 (.inr q))), if_neg h2]
      by_cases h3 : c = 34
      · subst h3
        rw [if_pos (by decide), if_pos rfl]
        have hq := lex_quoted_loop s hs r.length r 1 (by rw [hL]; rfl) (Nat.le_refl _) (by omega)
        unfold lex_quoted
        rw [show (1 : Int) = ((1 : Nat) : Int) from rfl, hq, unqL_scan r.length r (Nat.le_refl _)]
        simp only [Option.bind_some]
        cases hsc : scanQ r with
        | none =>
          simp only
          rw [if_pos ⟨by omega, by omega, by omega⟩, lex_Unquote_b _ (by rw [size_take _ _ (by simp)]; simp), L_take]
          exact take_err
        | some m =>
          have hm := scanQ_lt _ _ (Nat.le_refl _) m hsc
          simp only [Int.toNat_natCast]
          have hm' := hm.1
          rw [if_pos ⟨by omega, by omega, by omega⟩, lex_Unquote_b _ (by rw [size_take _ _ (by omega)]; omega), L_take, hL]
          have e4 : (34 :: r).take (1 + m + 1) = 34 :: (r.take m ++ [34]) := by
            rw [show 1 + m + 1 = (m + 1) + 1 by omega, List.take_succ_cons, List.take_succ_eq_append_getElem hm', (List.getElem?_eq_some_iff.1 hm.2).2]
          rw [e4]
          have e5 : unqV (34 :: (r.take m ++ [34])) = unqI r.length (r.take m) := by
            unfold unqV
            simp only
            rw [List.getLast?_concat, if_pos rfl, List.dropLast_concat, unqI_fuel _ _ (by simp), unqI_fuel r.length _ (by rw [List.length_take]; omega)]
          rw [e5]
          cases hu : unqI r.length (r.take m) with
          | none => exact take_err
          | some o =>
            refine take_ok ?_
            simp only [Option.bind_some, Option.some.injEq, Prod.mk.injEq, and_true, true_and, List.length_cons, List.length_drop]
            omega
      · rw [if_neg (show ¬ ((c.toNat : Int) == 34) = true from byte_ne h3), if_neg h3, lex_mark_b]
        simp only [Option.bind_some]
        by_cases h4 : markB c = true
        · rw [if_pos h4, if_pos ⟨by omega, by omega, by omega⟩, if_pos h4]
          have e6 : s.extract 0 1 = strB [c] := L_inj (by rw [L_take, hL]; rfl)
          rw [e6]
          exact take_ok rfl
        · rw [if_neg h4, if_neg h4]
          exact take_err

theorem indexByte_drop : ∀ (l : List UInt8) (c : UInt8), (Lib.indexByte l c = -1 ∧ l.dropWhile (· ≠ c) = []) ∨ ∃ n : Nat, Lib.indexByte l c = n ∧ n ≤ l.length ∧ l.dropWhile (· ≠ c) = l.drop n
  | [], c => .inl ⟨rfl, rfl⟩
  | b :: l, c => by
    simp only [Lib.indexByte]
    by_cases h : b = c
    · subst h
      refine .inr ⟨0, by simp, by simp, by simp⟩
    · rw [if_neg (by simpa using h)]
      have e : (b :: l).dropWhile (· ≠ c) = l.dropWhile (· ≠ c) := by simp [List.dropWhile_cons, h]
      rw [e]
      rcases indexByte_drop l c with ⟨h1, h2⟩ | ⟨n, h1, h2, h3⟩
      · rw [h1]; exact .inl ⟨by decide, h2⟩
      · rw [h1, if_neg (by simp)]
        exact .inr ⟨n + 1, by simp, by simp; omega, by rw [h3]; rfl⟩

/-- What the loops over a text come to. -/
def tokOut (l0 : List TToken) : Except (Int × Int) (List TToken) → (List TToken × Int × Int × Unit)
  | .ok ts => (l0 ++ ts, 0, 0, ())
  | .error e => ([], e.1, e.2, ())

theorem dropWhile_le (p : UInt8 → Bool) (l : List UInt8) : (l.dropWhile p).length ≤ l.length := (List.dropWhile_sublist p).length_le

theorem lex_Tokens_loop : ∀ (k : Nat) (s : ByteArray) (line : Nat) (l0 : List TToken), (L s).length ≤ k → l0.length + (L s).length ≤ 1048576 → line + (L s).length ≤ 2097152 →
    lex_Tokens_l7 s line l0 = some (tokOut l0 (tokF k line (L s)), ()) := by
  intro k
  induction k using Nat.strongRecOn with
  | _ k ih =>
    intro s line l0 hk ha hb
    rw [lex_Tokens_l7_eq]
    cases hL : L s with
    | nil =>
      rw [if_neg (cond_nil hL)]
      have : tokF k line [] = .ok [] := by cases k <;> rfl
      rw [this]
      simp only [tokOut, List.append_nil]
    | cons c r =>
      have hl := size_of hL
      rw [hL] at hk ha hb
      simp only [List.length_cons] at hk ha hb hl
      obtain ⟨k, rfl⟩ : ∃ j, k = j + 1 := ⟨k - 1, by omega⟩
      have e1 := L_ext' s 1
      rw [hL, List.drop_succ_cons, List.drop_zero] at e1
      rw [if_pos (cond_not_nil hL), if_pos ⟨by omega, by omega⟩, bt_cons hL, tokF]
      by_cases h1 : c = 10
      · subst h1
        rw [if_pos (by decide), if_pos rfl, if_pos ⟨by omega, by omega⟩, w64a line (by omega), ih k (by omega) _ (line + 1) l0 (by rw [e1]; omega) (by rw [e1]; omega) (by rw [e1]; omega), e1]
        rfl
      · rw [if_neg (show ¬ ((c.toNat : Int) == 10) = true from byte_ne h1), if_neg h1]
        have blank : ∀ t, lex_Tokens_l15 s line t true l0 = some (tokOut l0 (tokF k line r), ()) := by
          intro t
          rw [lex_Tokens_l15_eq, if_pos rfl, if_pos ⟨by omega, by omega⟩, ih k (by omega) _ line l0 (by rw [e1]; omega) (by rw [e1]; omega) (by rw [e1]; omega), e1]
        by_cases h2 : c = 32
        · subst h2
          rw [if_pos (by decide), if_pos (.inl rfl)]
          exact blank _
        · rw [if_neg (show ¬ ((c.toNat : Int) == 32) = true from byte_ne h2)]
          by_cases h3 : c = 9
          · subst h3
            rw [show (((9 : UInt8).toNat : Int) == 9) = true from by decide, if_pos (.inr rfl)]
            exact blank _
          · rw [show ((c.toNat : Int) == 9) = false from by simpa using byte_ne h3, if_neg (by simp [h2, h3]), lex_Tokens_l15_eq, if_neg Bool.false_ne_true]
            by_cases h4 : c = 35
            · subst h4
              rw [if_pos (by decide), if_pos rfl]
              simp only [strings_IndexByte, Option.bind_some]
              rw [show (10 : Int).toNat.toUInt8 = 10 from rfl, show s.data.toList = L s from rfl, hL]
              have e2 : ((35 : UInt8) :: r).dropWhile (· ≠ 10) = r.dropWhile (· ≠ 10) := by simp [List.dropWhile_cons]
              have hdl := dropWhile_le (· ≠ 10) r
              rcases indexByte_drop (35 :: r) 10 with ⟨f1, f2⟩ | ⟨n, f1, f2, f3⟩
              · rw [f1, if_pos (by decide), if_pos ⟨by omega, by omega⟩, Int.toNat_natCast]
                have e3 := L_ext' s s.size
                rw [List.drop_of_length_le (by rw [L_len]; exact Nat.le_refl _)] at e3
                rw [ih k (by omega) _ line l0 (by rw [e3]; simp) (by rw [e3]; simp; omega) (by rw [e3]; simp; omega), e3, ← e2, f2]
              · simp only [List.length_cons] at f2
                rw [f1, if_neg (dF (by omega)), if_pos ⟨by omega, by omega⟩, Int.toNat_natCast]
                have e3 := L_ext' s n
                rw [hL, ← f3, e2] at e3
                rw [ih k (by omega) _ line l0 (by rw [e3]; omega) (by rw [e3]; omega) (by rw [e3]; omega), e3]
            · rw [if_neg (show ¬ ((c.toNat : Int) == 35) = true from byte_ne h4), if_neg h4]
              have ht := lex_take_b s (by omega) c r hL
              cases hv : takeV (c :: r) with
              | error e =>
                rw [hv] at ht
                obtain ⟨x, n, ht⟩ := ht
                rw [ht]
                simp only [Option.bind_some]
                rw [if_pos (nT (takeV_err hv))]
                rfl
              | ok p =>
                obtain ⟨t, n⟩ := p
                rw [hv] at ht
                have hn := takeV_len hv
                rw [show lex_take s = _ from ht]
                simp only [Option.bind_some]
                have e3 := L_ext' s n
                rw [hL] at e3
                have e4 : (L (s.extract n s.size)).length = r.length + 1 - n := by rw [e3, List.length_drop, List.length_cons]
                rw [if_neg (nF rfl), if_pos ⟨by omega, by omega⟩, if_pos ⟨by omega, by omega⟩, Int.toNat_natCast, Nat.zero_add,
                  ih k (by omega) _ line _ (by rw [e4]; omega) (by rw [e4, List.length_append, List.length_cons, List.length_nil]; omega) (by rw [e4]; omega), e3]
                cases tokF k line ((c :: r).drop n) with
                | error e => rfl
                | ok ts => simp only [tokOut, List.append_assoc, List.cons_append, List.nil_append]

theorem lex_Tokens_b (s : ByteArray) : lex_Tokens s = some (tokOut [] (tokV (L s)), ()) := by
  unfold lex_Tokens tokV
  rw [L_len]
  by_cases h : s.size > 1048576
  · rw [if_pos (dT (by omega)), if_pos h]; rfl
  · rw [if_neg (dF (by omega)), if_neg h]
    exact lex_Tokens_loop s.size s 1 [] (by rw [L_len]; exact Nat.le_refl _) (by rw [L_len]; simp; omega) (by rw [L_len]; omega)

end Go.Proofs.YtgpgpelaabdkhaaDoor
end

section
/-
YtgpgpelaabdkhaaDoor: the laws of tokens, numbers and quoted strings, as plain functions, come to true. No condition.
-/
set_option maxRecDepth 100000
open Go Go.AM
namespace Go.Proofs.YtgpgpelaabdkhaaDoor

theorem awake_tokens : tokV [97, 50, 32, 61, 32, 45, 48, 120, 49, 102, 59, 32, 35, 32, 101, 110, 100] = .ok [(1, strB [97, 50], 0, 1), (4, strB [61], 0, 1), (2, strB [45, 48, 120, 49, 102], (-31), 1), (4, strB [59], 0, 1)] := by kernel_rfl

theorem tokF_length : ∀ (k : Nat) (line : Int) (l : List UInt8) (ts : List TToken), tokF k line l = .ok ts → ts.length ≤ l.length := by
  intro k
  induction k with
  | zero => intro line l ts h; cases l <;> cases h <;> simp
  | succ k ih =>
    intro line l ts h
    cases l with
    | nil => cases h; simp
    | cons c r =>
      rw [tokF] at h
      split at h
      · have := ih _ _ _ h; simp only [List.length_cons]; omega
      · split at h
        · have := ih _ _ _ h; simp only [List.length_cons]; omega
        · split at h
          · have := ih _ _ _ h
            have := dropWhile_le (· ≠ 10) r
            simp only [List.length_cons]; omega
          · split at h
            · cases h
            · rename_i t n hv
              have hn := takeV_len hv
              split at h
              · rename_i ts' ht
                cases h
                have := ih _ _ _ ht
                rw [List.length_drop] at this
                simp only [List.length_cons] at this ⊢
                omega
              · cases h

theorem tokOut_length (s : ByteArray) : (tokOut [] (tokV (L s))).1.length ≤ 1048576 := by
  unfold tokV
  split
  · simp [tokOut]
  · cases h : tokF (L s).length 1 (L s) with
    | ok ts =>
      have := tokF_length _ _ _ _ h
      simp only [tokOut, List.nil_append]
      omega
    | error e => simp [tokOut]

end Go.Proofs.YtgpgpelaabdkhaaDoor
end

section
/-
YtgpgpelaabdkhaaDoor: quoting, as plain functions, comes to what the plain law says; quoted strings are read back. No condition.
-/
set_option maxRecDepth 100000
set_option linter.unusedVariables false
open Go Go.AM
namespace Go.Proofs.YtgpgpelaabdkhaaDoor

theorem writeByte_b (c : Int) (l : List Int) (h : l.length ≤ 1099511627776) : strings_Builder_WriteByte c l = some (((), ()), (((), (), ()), (), l ++ [c], ())) := by
  unfold strings_Builder_WriteByte strings_Builder_copyCheck
  simp only [Option.bind_some]
  rw [if_pos ⟨by omega, by decide⟩]

theorem writeString_b (s : ByteArray) (l : List Int) (h : l.length + s.size ≤ 1099511627776) : strings_Builder_WriteString s l = some (((s.size : Int), (), ()), (((), (), ()), (), l ++ bytesOfStr s, ())) := by
  have e : (bytesOfStr s).length = s.size := by unfold bytesOfStr; rw [List.length_map]; exact Array.length_toList
  unfold strings_Builder_WriteString strings_Builder_copyCheck
  simp only [Option.bind_some]
  rw [if_pos ⟨by rw [e]; omega, by decide⟩]

theorem byteL_bI (l : List UInt8) : byteL (bI l) = true := by
  unfold byteL bI
  rw [List.all_eq_true]
  intro x hx
  obtain ⟨c, _, rfl⟩ := List.mem_map.1 hx
  have := c.toNat_lt
  exact decide_eq_true (by omega)

theorem string_b (l : List UInt8) : strings_Builder_String (bI l) = some ((strB l, ()), ((), (), ())) := by
  unfold strings_Builder_String
  rw [if_pos (byteL_bI l), strOf_bI]

theorem lex_Quote_loop (s : ByteArray) (hs : s.size ≤ 4294967296) : ∀ (r : List UInt8) (n : Nat) (acc : List UInt8), (L s).drop n = r → acc.length ≤ 4 * n + 1 → n ≤ s.size → lex_Quote_l5 s s.size n (bI acc) = some ((strB (acc ++ (quoteL r ++ [34])), ()), ())
  | [], n, acc, h, ha, hn => by
    have h1 := drop_nil h
    rw [L_len] at h1
    rw [lex_Quote_l5_eq, if_neg (dF (by omega)), writeByte_b _ _ (by rw [bI_len]; omega)]
    simp only [Option.bind_some]
    rw [show bI acc ++ [34] = bI (acc ++ [34]) from bI_snoc acc 34, string_b]
    rfl
  | c :: r, n, acc, h, ha, hn => by
    have h1 := drop_lt h
    rw [L_len] at h1
    have hc := c.toNat_lt
    have ih : ∀ q : List UInt8, q = quoteC c → lex_Quote_l5 s s.size (n + 1 : Nat) (bI (acc ++ q)) = some ((strB (acc ++ (quoteL (c :: r) ++ [34])), ()), ()) := fun q hq => by
      have hl := quoteC_len c
      rw [lex_Quote_loop s hs r (n + 1) (acc ++ q) (dropS h) (by rw [List.length_append, hq]; omega) (by omega), hq, quoteL_cons]
      simp [List.append_assoc]
    rw [lex_Quote_l5_eq, if_pos (dT (by omega)), if_pos ⟨by omega, by omega⟩, bt_drop h, w32c, lex_plain_b, w64a n (by omega)]
    simp only [Option.bind_some]
    by_cases hp : plainB c = true
    · rw [if_pos hp, writeByte_b _ _ (by rw [bI_len]; omega)]
      simp only [Option.bind_some]
      rw [bI_snoc]
      exact ih [c] (by unfold quoteC; rw [if_pos hp])
    · rw [if_neg hp]
      have two : ∀ k : Nat, k ≤ 4 → (bI acc).length + k ≤ 1099511627776 := fun k hk => by rw [bI_len]; omega
      by_cases h34 : c = 34
      · subst h34
        rw [if_pos (by decide), writeByte_b _ _ (by have := two 0 (by omega); omega)]
        simp only [Option.bind_some]
        rw [writeByte_b _ _ (by rw [List.length_append]; have := two 1 (by omega); simp only [List.length_cons, List.length_nil]; omega)]
        simp only [Option.bind_some]
        have := ih [92, 34] rfl
        rw [← bI_app, show bI [92, 34] = [(92 : Int)] ++ [(34 : Int)] from rfl, ← List.append_assoc] at this
        exact this
      rw [if_neg (show ¬ ((c.toNat : Int) == 34) = true from byte_ne h34)]
      by_cases h92 : c = 92
      · subst h92
        rw [if_pos (by decide), writeByte_b _ _ (by have := two 0 (by omega); omega)]
        simp only [Option.bind_some]
        rw [writeByte_b _ _ (by rw [List.length_append]; have := two 1 (by omega); simp only [List.length_cons, List.length_nil]; omega)]
        simp only [Option.bind_some]
        have := ih [92, 92] rfl
        rw [← bI_app, show bI [92, 92] = [(92 : Int)] ++ [(92 : Int)] from rfl, ← List.append_assoc] at this
        exact this
      rw [if_neg (show ¬ ((c.toNat : Int) == 92) = true from byte_ne h92)]
      by_cases h10 : c = 10
      · subst h10
        rw [if_pos (by decide), writeString_b _ _ (two 2 (by omega))]
        simp only [Option.bind_some]
        have := ih [92, 110] rfl
        rw [← bI_app] at this
        exact this
      rw [if_neg (show ¬ ((c.toNat : Int) == 10) = true from byte_ne h10), writeString_b _ _ (two 2 (by omega))]
      simp only [Option.bind_some]
      obtain ⟨a1, a2, a3⟩ := dig_hi c.toNat hc
      obtain ⟨b1, b2, b3⟩ := dig_lo c.toNat hc
      have e2 : (bytesOfStr (strB [92, 120])) = [92, 120] := rfl
      rw [if_pos ⟨a1, a2⟩, e2, writeByte_b _ _ (by rw [List.length_append]; have := two 2 (by omega); simp only [List.length_cons, List.length_nil]; omega)]
      simp only [Option.bind_some]
      rw [if_pos ⟨b1, b2⟩, writeByte_b _ _ (by simp only [List.length_append, List.length_cons, List.length_nil]; have := two 3 (by omega); omega)]
      simp only [Option.bind_some]
      have := ih [92, 120, hexD (c.toNat / 16), hexD (c.toNat % 16)] (by unfold quoteC; rw [if_neg hp, if_neg (by simp [h34, h92]), if_neg h10])
      rw [← bI_app] at this
      have e3 : bI acc ++ [92, 120] ++ [bt digsB ((c.toNat : Int).fdiv 16)] ++ [bt digsB (IntKind.u8.wrap (BitVec.ofInt 8 (c.toNat : Int) &&& BitVec.ofInt 8 15).toNat)] = bI acc ++ bI [92, 120, hexD (c.toNat / 16), hexD (c.toNat % 16)] := by
        rw [a3, b3]
        simp [bI]
      rw [← e3] at this
      exact this

theorem lex_Quote_b (s : ByteArray) (hs : s.size ≤ 4294967296) : lex_Quote s = some ((strB (quoteV (L s)), ()), ()) := by
  unfold lex_Quote
  rw [writeByte_b _ _ (by simp)]
  simp only [Option.bind_some]
  exact lex_Quote_loop s hs (L s) 0 [34] rfl (by simp) (by omega)

end Go.Proofs.YtgpgpelaabdkhaaDoor
end

section
/-
YtgpgpelaabdkhaaDoor: the text of tokens, as plain functions, comes to what the plain law says. No condition.
-/
set_option maxRecDepth 100000
set_option linter.unusedVariables false
open Go Go.AM
namespace Go.Proofs.YtgpgpelaabdkhaaDoor

theorem strB_L (s : ByteArray) : strB (L s) = s := L_inj (L_strB _)
theorem strB_app (a b : List UInt8) : strB a ++ strB b = strB (a ++ b) := L_inj (by rw [L_app]; rfl)
theorem beq_dec (x y : Int) : (x == y) = decide (x = y) := by rw [Bool.eq_iff_iff]; simp
theorem bytesOf_strB (l : List UInt8) : bytesOfStr (strB l) = bI l := rfl

theorem itoa_b (n : Int) (h : -9223372036854775808 ≤ n ∧ n ≤ 9223372036854775807) : strconv_Itoa n = some ((strB (Lib.itoa n), ()), ()) := by
  unfold strconv_Itoa itoaG
  rw [if_pos h]
  rfl

theorem lex_form_b (t : TToken) (hs : t.2.1.size ≤ 1048576) (hv : -9223372036854775808 ≤ t.2.2.1 ∧ t.2.2.1 ≤ 9223372036854775807) : ∃ s, lex_form t = some ((s, formOk t, ()), ()) ∧ (formOk t = true → s = strB (formB t)) := by
  unfold lex_form formOk formB
  by_cases h1 : t.1 = 1
  · have e2 : ¬ t.1 = 2 := by omega
    have e3 : ¬ t.1 = 3 := by omega
    rw [if_pos (eT h1), if_pos h1, if_neg e2, if_neg e3, lex_Name_b, beq_dec]
    simp only [Option.bind_some]
    refine ⟨t.2.1, ?_, fun _ => (strB_L _).symm⟩
    cases nameB (L t.2.1) <;> simp
  rw [if_neg (eF h1), if_neg h1]
  by_cases h2 : t.1 = 2
  · rw [if_pos (eT h2), if_pos h2, if_pos h2, lex_Number_b _ (by omega), itoa_b _ hv]
    simp only [Option.bind_some, beq_dec]
    refine ⟨strB (Lib.itoa t.2.2.1), ?_, fun _ => rfl⟩
    by_cases he : (numV (L t.2.1)).2 = 0
    · rw [if_pos (by simpa using he)]; simp [he]
    · rw [if_neg (by simpa using he)]; simp [he]
  rw [if_neg (eF h2), if_neg h2, if_neg h2]
  by_cases h3 : t.1 = 3
  · rw [if_pos (eT h3), if_pos h3, if_pos h3, lex_Quote_b _ (by omega), beq_dec]
    simp only [Option.bind_some]
    exact ⟨_, rfl, fun _ => rfl⟩
  rw [if_neg (eF h3), if_neg h3, if_neg h3]
  by_cases h4 : t.1 = 4
  · rw [if_pos (eT h4), if_pos h4]
    refine ⟨t.2.1, ?_, fun _ => (strB_L _).symm⟩
    by_cases hz : (t.2.1.size : Int) = 1
    · rw [if_pos (eT hz), if_pos ⟨by omega, by omega⟩]
      have hl : (L t.2.1).length = 1 := by rw [L_len]; omega
      obtain ⟨c, hc⟩ : ∃ c, L t.2.1 = [c] := by
        match L t.2.1, hl with
        | [c], _ => exact ⟨c, rfl⟩
      rw [bt_at (i := 0) (c := c) (r := []) (by rw [hc]; rfl) 0 rfl, w32c, lex_mark_b, hc, beq_dec]
      simp only [Option.bind_some, markL]
      cases markB c <;> simp
    · rw [if_neg (eF hz)]
      have hm : markL (L t.2.1) = false := by
        have hl : (L t.2.1).length ≠ 1 := by rw [L_len]; omega
        match L t.2.1, hl with
        | [], _ => rfl
        | [c], hl => exact absurd rfl hl
        | _ :: _ :: _, _ => rfl
      rw [hm]
      simp
  rw [if_neg (eF h4), if_neg h4]
  exact ⟨strB [], rfl, fun h => by cases h⟩

theorem digit_b : ∀ d : Nat, d < 10 → (strB [48, 49, 50, 51, 52, 53, 54, 55, 56, 57]).extract d (d + 1) = strB [UInt8.ofNat (48 + d)]
  | 0, _ => by kernel_rfl
  | 1, _ => by kernel_rfl
  | 2, _ => by kernel_rfl
  | 3, _ => by kernel_rfl
  | 4, _ => by kernel_rfl
  | 5, _ => by kernel_rfl
  | 6, _ => by kernel_rfl
  | 7, _ => by kernel_rfl
  | 8, _ => by kernel_rfl
  | 9, _ => by kernel_rfl
  | n + 10, h => by omega

def okTok (t : TToken) : Prop := t.2.1.size ≤ 1048576 ∧ -9223372036854775808 ≤ t.2.2.1 ∧ t.2.2.1 ≤ 9223372036854775807

theorem len_b (l : List Int) : strings_Builder_Len l = some (((l.length : Int), ()), (((), (), ()), (), l, ())) := rfl

theorem lex_Text_loop (l : List TToken) (hl : l.length ≤ 1048576) (ho : ∀ t ∈ l, okTok t) : ∀ (r : List TToken) (n : Nat) (acc : List UInt8), l.drop n = r → acc.length + (r.map wt).sum ≤ 1073741824 →
    lex_Text_l4 l (l.length : Int) n (bI acc) = some (if r.all formOk = true then (if 1048576 < (acc ++ joinB (decide (n = 0)) r).length then (strB [], 6, ()) else (strB (acc ++ joinB (decide (n = 0)) r), 0, ())) else (strB [], 1, ()), ())
  | [], n, acc, h, ha => by
    have h1 := drop_nil h
    have hj : ∀ b, joinB b [] = [] := fun b => by cases b <;> rfl
    rw [lex_Text_l4_eq, if_neg (dF (by omega)), len_b, hj, List.append_nil]
    simp only [Option.bind_some, List.all_nil, if_true]
    by_cases hx : 1048576 < acc.length
    · rw [if_pos (dT (by rw [bI_len]; omega)), if_pos hx]
    · rw [if_neg (dF (by rw [bI_len]; omega)), if_neg hx, string_b]
      rfl
  | t :: r, n, acc, h, ha => by
    have h1 := drop_lt h
    have hg : l.getD (n : Int).toNat dToken = t := getD_drop h
    have ht := ho t (mem_drop h)
    obtain ⟨s, e1, e2⟩ := lex_form_b t ht.1 ht.2
    simp only [List.map_cons, List.sum_cons] at ha
    rw [lex_Text_l4_eq, if_pos (dT (by omega)), if_pos ⟨by omega, by omega⟩, hg, e1, w64a n (by omega)]
    simp only [Option.bind_some]
    by_cases hf : formOk t = true
    · have hs := e2 hf
      have hlen := formB_len hf
      subst hs
      refine (if_neg (by simp [hf])).trans ?_
      rw [show (t :: r).all formOk = r.all formOk by simp [hf]]
      have ih : ∀ p : List UInt8, p.length ≤ wt t → lex_Text_l4 l (l.length : Int) (n + 1 : Nat) (bI acc ++ bI p) = some (if r.all formOk = true then (if 1048576 < (acc ++ (p ++ joinB false r)).length then (strB [], 6, ()) else (strB (acc ++ (p ++ joinB false r)), 0, ())) else (strB [], 1, ()), ()) := fun p hp => by
        rw [bI_app, ← List.append_assoc]
        exact lex_Text_loop l hl ho r (n + 1) (acc ++ p) (dropS h) (by rw [List.length_append]; omega)
      by_cases hn : n = 0
      · subst hn
        rw [if_neg (dF (by omega)), writeString_b _ _ (by rw [bI_len, strB_size]; omega)]
        simp only [Option.bind_some]
        rw [bytesOf_strB]
        exact ih (formB t) (by omega)
      · rw [if_pos (dT (by omega)), writeByte_b _ _ (by rw [bI_len]; omega)]
        simp only [Option.bind_some]
        rw [writeString_b _ _ (by rw [List.length_append, bI_len, strB_size]; simp only [List.length_cons, List.length_nil]; omega)]
        simp only [Option.bind_some]
        rw [bytesOf_strB]
        have := ih (32 :: formB t) (by simp only [List.length_cons]; omega)
        rw [show bI (32 :: formB t) = [(32 : Int)] ++ bI (formB t) from rfl, ← List.append_assoc] at this
        rw [show joinB (decide (n = 0)) (t :: r) = 32 :: formB t ++ joinB false r by rw [decide_eq_false hn]; rfl]
        exact this
    · refine (if_pos (by simpa using hf)).trans ?_
      rw [show (t :: r).all formOk = false by simp [hf]]
      simp

theorem lex_Text_b (l : List TToken) (hl : l.length ≤ 1048576) (ho : ∀ t ∈ l, okTok t) (hw : (l.map wt).sum ≤ 1073741824) : lex_Text l = some ((strB (textV l).1, (textV l).2, ()), ()) := by
  unfold lex_Text textV
  refine (lex_Text_loop l hl ho l 0 [] rfl (by simpa using hw)).trans ?_
  simp only [List.nil_append, decide_true]
  split
  · split <;> rfl
  · rfl

/-! ### what is read is small -/
abbrev kTok : U := .cons (.int .i64) (.cons .str (.cons (.int .i64) (.int .i64)))

theorem toks_small (l : List TToken) (hb : bk (.sl kTok) l ≤ 1048576) : l.length ≤ 1048576 ∧ (l.map wt).sum ≤ 67108864 ∧ ∀ t ∈ l, t.2.1.size ≤ 1048576 := by
  have e1 : bk (.sl kTok) l = (l.map (bk kTok)).sum + 1 := rfl
  rw [e1] at hb
  have h1 := len_le_bk (e := kTok) (fun x => by simp only [bk]; omega) l
  refine ⟨by omega, ?_, fun t ht => ?_⟩
  · have key : ∀ m : List TToken, (m.map wt).sum ≤ 64 * (m.map (bk kTok)).sum := by
      intro m
      induction m with
      | nil => simp
      | cons t m ih =>
        have e2 : bk kTok t = 1 + ((t.2.1.size + 1) + (1 + 1)) := rfl
        simp only [List.map_cons, List.sum_cons]
        rw [e2]
        unfold wt at ih ⊢
        omega
    have := key l
    omega
  · have h2 := mem_le_bk (e := kTok) ht
    have e2 : bk kTok t = 1 + ((t.2.1.size + 1) + (1 + 1)) := rfl
    omega

theorem toks_ok (l : List TToken) (hw : Wf (.sl kTok) l) (hb : bk (.sl kTok) l ≤ 1048576) : ∀ t ∈ l, okTok t := by
  intro t ht
  have h1 := (toks_small l hb).2.2 t ht
  have h2 : Wf kTok t := hw.2 t ht
  have h3 : IntKind.i64.min ≤ t.2.2.1 ∧ t.2.2.1 ≤ IntKind.i64.max := h2.2.2.1
  exact ⟨h1, h3.1, h3.2⟩

end Go.Proofs.YtgpgpelaabdkhaaDoor
end

section
/-
YtgpgpelaabdkhaaDoor: checks of triggers and conditions, as plain functions, come to the plain law. No condition.
-/
set_option maxRecDepth 100000
set_option linter.unusedVariables false
open Go Go.AM
namespace Go.Proofs.YtgpgpelaabdkhaaDoor

theorem eqU_dec {u : U} (h : noSl u = true) [DecidableEq (El u)] (x y : El u) : eqU u x y = decide (x = y) := by
  rw [Bool.eq_iff_iff, eqU_iff u h, decide_eq_true_eq]

theorem wrongCond_eq (c : TCond) : trig_wrongCond c = some ((condE c, ()), ()) := by
  obtain ⟨n, k, f, o, v⟩ := c
  unfold trig_wrongCond condE condOk
  simp only [lex_Name_b, Option.bind_some, trig_wrongCond_l4_eq, trig_wrongCond_l6_eq, trig_wrongCond_l8_eq, trig_wrongCond_l10_eq]
  generalize nameB (L n) = b
  cases b with
  | false => rfl
  | true =>
    simp only [Bool.not_true, Bool.false_eq_true, if_false, if_true, decide_eq_true_eq, beq_iff_eq, bne_iff_ne, Bool.and_eq_true]
    have tv : (if v < -9007199254740992 then some (((2 : Int), ()), ()) else if v > 9007199254740992 then some ((2, ()), ()) else some ((0, ()), ())) = some ((if -9007199254740992 ≤ v ∧ v ≤ 9007199254740992 then 0 else 2, ()), ()) := by
      by_cases b1 : v < -9007199254740992
      · rw [if_pos b1, if_neg (by omega)]
      · rw [if_neg b1]
        by_cases b2 : v > 9007199254740992
        · rw [if_pos b2, if_neg (by omega)]
        · rw [if_neg b2, if_pos (show -9007199254740992 ≤ v ∧ v ≤ 9007199254740992 by omega)]
    rw [tv]
    have no : ∀ {X : Int}, ¬ ((0 ≤ k ∧ k ≤ 8 ∧ 0 ≤ o ∧ o ≤ 5) ∧ (o = 0 ∧ f = 0 ∧ v = 0 ∨ o ≠ 0 ∧ 1 ≤ f ∧ f ≤ 6)) → (if ((0 ≤ k ∧ k ≤ 8 ∧ 0 ≤ o ∧ o ≤ 5) ∧ (o = 0 ∧ f = 0 ∧ v = 0 ∨ o ≠ 0 ∧ 1 ≤ f ∧ f ≤ 6)) then X else 1) = 1 := fun h => if_neg h
    have yes : ∀ {X : Int}, ((0 ≤ k ∧ k ≤ 8 ∧ 0 ≤ o ∧ o ≤ 5) ∧ (o = 0 ∧ f = 0 ∧ v = 0 ∨ o ≠ 0 ∧ 1 ≤ f ∧ f ≤ 6)) → (if ((0 ≤ k ∧ k ≤ 8 ∧ 0 ≤ o ∧ o ≤ 5) ∧ (o = 0 ∧ f = 0 ∧ v = 0 ∨ o ≠ 0 ∧ 1 ≤ f ∧ f ≤ 6)) then X else 1) = X := fun h => if_pos h
    by_cases a1 : k < 0
    · rw [if_pos a1, no (by omega)]
    rw [if_neg a1]
    by_cases a2 : k > 8
    · rw [if_pos a2, no (by omega)]
    rw [if_neg a2]
    by_cases a3 : o < 0
    · rw [if_pos a3, no (by omega)]
    rw [if_neg a3]
    by_cases a4 : o > 5
    · rw [if_pos a4, no (by omega)]
    rw [if_neg a4]
    by_cases a5 : o = 0
    · rw [if_pos a5]
      by_cases a6 : f = 0
      · rw [if_neg (show ¬ f ≠ 0 by omega)]
        by_cases a7 : v = 0
        · rw [if_neg (show ¬ v ≠ 0 by omega), if_neg (show ¬ o ≠ 0 by omega), yes (by omega)]
        · rw [if_pos a7, no (by omega)]
      · rw [if_pos a6, no (by omega)]
    · rw [if_neg a5, if_pos a5]
      by_cases a6 : f < 1
      · rw [if_pos a6, no (by omega)]
      rw [if_neg a6]
      by_cases a7 : f > 6
      · rw [if_pos a7, no (by omega)]
      rw [if_neg a7, yes (by omega)]

theorem rWrongCond_eq (c : TCond) : ref43_WrongCond c = some ((condE c, ()), ()) := by
  obtain ⟨n, k, f, o, v⟩ := c
  unfold ref43_WrongCond condE condOk
  simp only [ref05_Name_b, Option.bind_some, ref43_WrongCond_l4_eq, ref43_WrongCond_l6_eq, ref43_WrongCond_l8_eq, ref43_WrongCond_l10_eq]
  generalize nameB (L n) = b
  cases b with
  | false => rfl
  | true =>
    simp only [Bool.not_true, Bool.false_eq_true, if_false, if_true, decide_eq_true_eq, beq_iff_eq, bne_iff_ne, Bool.and_eq_true]
    have tv : (if v < -9007199254740992 then some (((2 : Int), ()), ()) else if v > 9007199254740992 then some ((2, ()), ()) else some ((0, ()), ())) = some ((if -9007199254740992 ≤ v ∧ v ≤ 9007199254740992 then 0 else 2, ()), ()) := by
      by_cases b1 : v < -9007199254740992
      · rw [if_pos b1, if_neg (by omega)]
      · rw [if_neg b1]
        by_cases b2 : v > 9007199254740992
        · rw [if_pos b2, if_neg (by omega)]
        · rw [if_neg b2, if_pos (show -9007199254740992 ≤ v ∧ v ≤ 9007199254740992 by omega)]
    rw [tv]
    have no : ∀ {X : Int}, ¬ ((0 ≤ k ∧ k ≤ 8 ∧ 0 ≤ o ∧ o ≤ 5) ∧ (o = 0 ∧ f = 0 ∧ v = 0 ∨ o ≠ 0 ∧ 1 ≤ f ∧ f ≤ 6)) → (if ((0 ≤ k ∧ k ≤ 8 ∧ 0 ≤ o ∧ o ≤ 5) ∧ (o = 0 ∧ f = 0 ∧ v = 0 ∨ o ≠ 0 ∧ 1 ≤ f ∧ f ≤ 6)) then X else 1) = 1 := fun h => if_neg h
    have yes : ∀ {X : Int}, ((0 ≤ k ∧ k ≤ 8 ∧ 0 ≤ o ∧ o ≤ 5) ∧ (o = 0 ∧ f = 0 ∧ v = 0 ∨ o ≠ 0 ∧ 1 ≤ f ∧ f ≤ 6)) → (if ((0 ≤ k ∧ k ≤ 8 ∧ 0 ≤ o ∧ o ≤ 5) ∧ (o = 0 ∧ f = 0 ∧ v = 0 ∨ o ≠ 0 ∧ 1 ≤ f ∧ f ≤ 6)) then X else 1) = X := fun h => if_pos h
    by_cases a1 : k < 0
    · rw [if_pos a1, no (by omega)]
    rw [if_neg a1]
    by_cases a2 : k > 8
    · rw [if_pos a2, no (by omega)]
    rw [if_neg a2]
    by_cases a3 : o < 0
    · rw [if_pos a3, no (by omega)]
    rw [if_neg a3]
    by_cases a4 : o > 5
    · rw [if_pos a4, no (by omega)]
    rw [if_neg a4]
    by_cases a5 : o = 0
    · rw [if_pos a5]
      by_cases a6 : f = 0
      · rw [if_neg (show ¬ f ≠ 0 by omega)]
        by_cases a7 : v = 0
        · rw [if_neg (show ¬ v ≠ 0 by omega), if_neg (show ¬ o ≠ 0 by omega), yes (by omega)]
        · rw [if_pos a7, no (by omega)]
      · rw [if_pos a6, no (by omega)]
    · rw [if_neg a5, if_pos a5]
      by_cases a6 : f < 1
      · rw [if_pos a6, no (by omega)]
      rw [if_neg a6]
      by_cases a7 : f > 6
      · rw [if_pos a7, no (by omega)]
      rw [if_neg a7, yes (by omega)]

theorem step_tail (s : TTrigStep) : (if s.2.2.2.1 = true then some ((condE s.2.2.2.2, ()), ()) else if (!(eqU uCond s.2.2.2.2 ((strB []), 0, 0, 0, 0))) = true then some (((1 : Int), ()), ()) else some ((0, ()), ())) =
    some ((if s.2.2.2.1 = true then condE s.2.2.2.2 else if s.2.2.2.2 = noCond then 0 else 1, ()), ()) := by
  cases s.2.2.2.1 with
  | true => rfl
  | false =>
    rw [if_neg (show ¬ false = true by simp)]
    by_cases h : s.2.2.2.2 = noCond
    · have : eqU uCond s.2.2.2.2 ((strB []), 0, 0, 0, 0) = true := (eqU_iff uCond rfl s.2.2.2.2 noCond).2 h
      rw [this, if_neg (show ¬ false = true by simp), if_pos h]
      rfl
    · have : eqU uCond s.2.2.2.2 ((strB []), 0, 0, 0, 0) = false := by
        cases hq : eqU uCond s.2.2.2.2 ((strB []), 0, 0, 0, 0) with
        | false => rfl
        | true => exact absurd ((eqU_iff uCond rfl _ _).1 hq) h
      rw [this, if_neg (show ¬ false = true by simp), if_neg h]
      rfl

theorem wrongStep_eq (s : TTrigStep) : trig_wrongStep s = some ((stepE s, ()), ()) := by
  unfold trig_wrongStep stepE
  rw [wrongCond_eq, wrongCond_eq]
  simp only [Option.bind_some]
  rw [step_tail]
  by_cases h1 : s.2.1 < 1
  · rw [if_pos (dT h1), if_neg (by omega)]
  rw [if_neg (dF h1)]
  by_cases h2 : s.2.2.1 < 0
  · rw [if_pos (dT h2), if_neg (by omega)]
  rw [if_neg (dF h2)]
  by_cases h3 : s.2.2.1 > 1099511627776
  · rw [if_pos (dT h3), if_neg (by omega)]
  rw [if_neg (dF h3), if_pos (show 1 ≤ s.2.1 ∧ 0 ≤ s.2.2.1 ∧ s.2.2.1 ≤ 1099511627776 by omega)]
  by_cases h4 : condE s.1 = 0
  · rw [if_neg (nF h4), if_pos h4]
  · rw [if_pos (nT h4), if_neg h4]

theorem rWrongStep_eq (s : TTrigStep) : ref43_wrongStep s = some ((stepE s, ()), ()) := by
  unfold ref43_wrongStep stepE
  rw [rWrongCond_eq, rWrongCond_eq]
  simp only [Option.bind_some]
  rw [step_tail]
  by_cases h1 : s.2.1 < 1
  · rw [if_pos (dT h1), if_neg (by omega)]
  rw [if_neg (dF h1)]
  by_cases h2 : s.2.2.1 < 0
  · rw [if_pos (dT h2), if_neg (by omega)]
  rw [if_neg (dF h2)]
  by_cases h3 : s.2.2.1 > 1099511627776
  · rw [if_pos (dT h3), if_neg (by omega)]
  rw [if_neg (dF h3), if_pos (show 1 ≤ s.2.1 ∧ 0 ≤ s.2.2.1 ∧ s.2.2.1 ≤ 1099511627776 by omega)]
  by_cases h4 : condE s.1 = 0
  · rw [if_neg (nF h4), if_pos h4]
  · rw [if_pos (nT h4), if_neg h4]

theorem errS_cons (e : Int) (r : List Int) : errL (e :: r) = if e = 0 then errL r else e := rfl

theorem steps_loop (l : List TTrigStep) (hl : l.length ≤ 1048577) (t : TTrigger) : ∀ (r : List TTrigStep) (k : Nat), l.drop k = r →
    trig_wrong_l10 l (l.length : Int) k t = if errL (r.map stepE) = 0 then trig_wrong_l21 32 t.2 (t.2.length : Int) 0 else some ((errL (r.map stepE), ()), ())
  | [], k, h => by
    have h1 := drop_nil h
    rw [trig_wrong_l10_eq, if_neg (dF (by omega)), List.map_nil, if_pos (show errL [] = 0 from rfl)]
  | s :: r, k, h => by
    have h1 := drop_lt h
    have hg : l.getD (k : Int).toNat dTrigStep = s := getD_drop h
    rw [trig_wrong_l10_eq, if_pos (dT (by omega)), if_pos ⟨by omega, by omega⟩, hg, wrongStep_eq, w64a k (by omega)]
    simp only [Option.bind_some]
    rw [List.map_cons, errS_cons]
    by_cases he : stepE s = 0
    · rw [if_neg (nF he), if_pos he]
      exact steps_loop l hl t r (k + 1) (dropS h)
    · rw [if_pos (nT he), if_neg he, if_neg he]

theorem rsteps_loop (t : TTrigger) (hl : t.2.length ≤ 1048576) : ∀ (r : List TTrigStep) (k : Nat), t.2.drop k = r →
    ref43_wrong_l12 k t = if errL (r.map stepE) = 0 then ref43_wrong_l22 0 0 t else some ((errL (r.map stepE), ()), ())
  | [], k, h => by
    have h1 := drop_nil h
    rw [ref43_wrong_l12_eq, if_neg (dF (by omega)), List.map_nil, if_pos (show errL [] = 0 from rfl)]
  | s :: r, k, h => by
    have h1 := drop_lt h
    have hg : t.2.getD (k : Int).toNat dTrigStep = s := getD_drop h
    rw [ref43_wrong_l12_eq, if_pos (dT (by omega)), if_pos ⟨by omega, by omega⟩, hg, rWrongStep_eq, w64a k (by omega)]
    simp only [Option.bind_some]
    rw [List.map_cons, errS_cons]
    by_cases he : stepE s = 0
    · rw [if_neg (nF he), if_pos he]
      exact rsteps_loop t hl r (k + 1) (dropS h)
    · rw [if_pos (nT he), if_neg he, if_neg he]

theorem left_loop (l : List TTrigStep) (hl : l.length ≤ 1048577) : ∀ (r : List TTrigStep) (k : Nat) (left : Int), l.drop k = r → (∀ s ∈ r, OkStep s) → 0 ≤ left → left ≤ 32 →
    trig_wrong_l21 left l (l.length : Int) k = some ((if left < timesS r then 6 else 0, ()), ())
  | [], k, left, h, ho, h0, h32 => by
    have h1 := drop_nil h
    rw [trig_wrong_l21_eq, if_neg (dF (by omega)), if_neg (by simp only [timesS]; omega)]
  | s :: r, k, left, h, ho, h0, h32 => by
    have h1 := drop_lt h
    have hg : l.getD (k : Int).toNat dTrigStep = s := getD_drop h
    have hr : ∀ s ∈ r, OkStep s := fun b hb => ho b (by simp [hb])
    have h2 := times_ge r hr
    have h3 := (ho s (by simp)).times
    rw [trig_wrong_l21_eq, if_pos (dT (by omega)), if_pos ⟨by omega, by omega⟩, hg, w64a k (by omega)]
    by_cases hb : s.2.1 > left
    · rw [if_pos (dT hb), if_pos (show left < timesS (s :: r) by simp only [timesS]; omega)]
    · rw [if_neg (dF hb), w64 (by omega) (by omega), left_loop l hl r (k + 1) (left - s.2.1) (dropS h) hr (by omega) (by omega)]
      by_cases hq : left - s.2.1 < timesS r
      · rw [if_pos hq, if_pos (show left < timesS (s :: r) by simp only [timesS]; omega)]
      · rw [if_neg hq, if_neg (show ¬ left < timesS (s :: r) by simp only [timesS]; omega)]

theorem rleft_loop (t : TTrigger) (hl : t.2.length ≤ 1048576) : ∀ (r : List TTrigStep) (k : Nat) (n : Int), t.2.drop k = r → (∀ s ∈ r, OkStep s) → 0 ≤ n → n + 32 * (r.length : Int) ≤ 1099511627776 →
    ref43_wrong_l22 n k t = some ((if 32 < n + timesS r then 6 else 0, ()), ())
  | [], k, n, h, ho, h0, hb => by
    have h1 := drop_nil h
    rw [ref43_wrong_l22_eq, if_neg (dF (by omega))]
    have e : timesS ([] : List TTrigStep) = 0 := rfl
    by_cases hq : n > 32
    · rw [if_pos (dT hq), if_pos (show 32 < n + timesS [] by omega)]
    · rw [if_neg (dF hq), if_neg (show ¬ 32 < n + timesS [] by omega)]
  | s :: r, k, n, h, ho, h0, hb => by
    have h1 := drop_lt h
    have hg : t.2.getD (k : Int).toNat dTrigStep = s := getD_drop h
    have hr : ∀ s ∈ r, OkStep s := fun b hb => ho b (by simp [hb])
    have h2 := times_ge r hr
    have h3 := (ho s (by simp)).times
    simp only [List.length_cons] at hb
    rw [ref43_wrong_l22_eq, if_pos (dT (by omega)), if_pos ⟨by omega, by omega⟩, hg, w64a k (by omega)]
    by_cases hq : s.2.1 > 32
    · rw [if_pos (dT hq), if_pos (show 32 < n + timesS (s :: r) by simp only [timesS]; omega)]
    · rw [if_neg (dF hq), if_pos ⟨by omega, by omega⟩, w64 (by omega) (by omega), rleft_loop t hl r (k + 1) (n + s.2.1) (dropS h) hr (by omega) (by omega), Int.add_assoc]
      rfl

theorem okSteps {l : List TTrigStep} (h : errL (l.map stepE) = 0) : ∀ s ∈ l, OkStep s := fun s hs => stepE_zero.1 (errL_zero.1 h _ (List.mem_map_of_mem hs))

theorem wrong_eq' (t : TTrigger) (hl : t.2.length ≤ 1048577) : trig_wrong t = some ((wrongE t, ()), ()) := by
  unfold trig_wrong wrongE
  rw [lex_Name_b]
  simp only [Option.bind_some]
  generalize nameB (L t.1) = b
  cases b with
  | false => rfl
  | true =>
    refine (if_neg (by simp)).trans ?_
    rw [if_pos rfl]
    by_cases h0 : t.2 = []
    · rw [if_pos (eT (by rw [h0]; rfl)), if_pos h0]
    have h0' : ¬ (t.2.length : Int) = 0 := fun q => h0 (List.length_eq_zero_iff.1 (by omega))
    rw [if_neg (eF h0'), if_neg h0]
    by_cases h1 : 32 < t.2.length
    · rw [if_pos (dT (by omega)), if_pos h1]
    rw [if_neg (dF (by omega)), if_neg h1]
    refine (steps_loop t.2 hl t t.2 0 rfl).trans ?_
    by_cases he : errL (t.2.map stepE) = 0
    · rw [if_pos he, if_pos he]
      exact left_loop t.2 hl t.2 0 32 rfl (okSteps he) (by omega) (by omega)
    · rw [if_neg he, if_neg he]

theorem wrong_eq (t : TTrigger) (hl : t.2.length ≤ 1048576) : trig_wrong t = some ((wrongE t, ()), ()) := wrong_eq' t (by omega)

theorem rwrong_eq (t : TTrigger) (hl : t.2.length ≤ 1048576) : ref43_wrong t = some ((wrongE t, ()), ()) := by
  unfold ref43_wrong wrongE
  rw [ref05_Name_b]
  simp only [Option.bind_some]
  generalize nameB (L t.1) = b
  cases b with
  | false => rfl
  | true =>
    refine (if_neg (by simp)).trans ?_
    rw [if_pos rfl]
    by_cases h0 : t.2 = []
    · rw [if_pos (eT (by rw [h0]; rfl)), if_pos h0]
    have h0' : ¬ (t.2.length : Int) = 0 := fun q => h0 (List.length_eq_zero_iff.1 (by omega))
    rw [if_neg (eF h0'), if_neg h0]
    by_cases h1 : 32 < t.2.length
    · rw [if_pos (dT (by omega)), if_pos h1]
    rw [if_neg (dF (by omega)), if_neg h1]
    refine (rsteps_loop t hl t.2 0 rfl).trans ?_
    by_cases he : errL (t.2.map stepE) = 0
    · rw [if_pos he, if_pos he]
      refine (rleft_loop t hl t.2 0 0 rfl (okSteps he) (by omega) (by omega)).trans ?_
      rw [Int.zero_add]
    · rw [if_neg he, if_neg he]

/-! ### nodes -/
def nodeI (ns : List TNode) (b : ByteArray) : Int := optI (ns.findIdx? fun n => L n.1 == L b)

theorem node_go (b : ByteArray) (ns : List TNode) {α : Type} (F : Int → Option ((Int × Unit) × α)) (z : α) (hF : ∀ (k : Nat) (s : TNode) (r : List TNode), ns.drop k = s :: r → F k = if L s.1 = L b then some (((k : Int), ()), z) else F ((k + 1 : Nat) : Int))
    (hE : F ns.length = some ((-1, ()), z)) : F 0 = some ((nodeI ns b, ()), z) := by
  have key : ∀ (rs : List TNode) (k : Nat), ns.drop k = rs → k ≤ ns.length → F k = some ((optI ((rs.findIdx? fun s => L s.1 == L b).map (· + k)), ()), z) := by
    intro rs
    induction rs with
    | nil =>
      intro k hk hkl
      have h1 := drop_nil hk
      have : k = ns.length := by omega
      subst this
      rw [hE]; rfl
    | cons s rs ih =>
      intro k hk _
      have h1 := drop_lt hk
      rw [hF k s rs hk, List.findIdx?_cons]
      by_cases h : L s.1 = L b
      · rw [if_pos h, beq_iff_eq.2 h]; simp [optI]
      · rw [if_neg h, ih (k + 1) (dropS hk) (by omega), show (L s.1 == L b) = false from beq_eq_false_iff_ne.2 h]
        simp only [Option.map_map, Bool.false_eq_true, if_false]
        congr 4
        cases rs.findIdx? (fun s => L s.1 == L b) with
        | none => rfl
        | some i => simp; omega
  have := key ns 0 (by simp) (by omega)
  simpa [nodeI] using this

theorem nfind_eq (st : TStack) (b : ByteArray) (h : st.2.length ≤ 1048576) : stackdef_Find st b = some ((nodeI st.2 b, ()), ()) := by
  unfold stackdef_Find api_Node
  rw [node_go b st.2 (fun i => api_Node_l3 st.2 (st.2.length : Int) i b) ((b, ()), ()) (fun k s r hk => by
    have h1 := drop_lt hk
    have hg : st.2.getD (k : Int).toNat dNode = s := getD_drop hk
    show api_Node_l3 st.2 (st.2.length : Int) k b = _
    rw [api_Node_l3_eq, if_pos (dT (by omega)), if_pos ⟨by omega, by omega⟩, hg, w64a k (by omega)]
    unfold stackdef_Find_1
    simp only [Option.bind_some]
    by_cases he : L s.1 = L b
    · rw [if_pos he, if_pos (by rw [toL, toL, he]; simp)]
    · rw [if_neg he, if_neg (by rw [toL, toL]; simpa using he)]) (by
    show api_Node_l3 st.2 (st.2.length : Int) (st.2.length : Nat) b = _
    rw [api_Node_l3_eq, if_neg (dF (by omega))])]
  rfl

theorem rnfind_eq (st : TStack) (b : ByteArray) (h : st.2.length ≤ 1048576) : ref43_find st b = some ((nodeI st.2 b, ()), ()) := by
  unfold ref43_find
  exact node_go b st.2 (fun i => ref43_find_l3 b i st) () (fun k s r hk => by
    have h1 := drop_lt hk
    have hg : st.2.getD (k : Int).toNat dNode = s := getD_drop hk
    show ref43_find_l3 b k st = _
    rw [ref43_find_l3_eq, if_pos (dT (by omega)), if_pos ⟨by omega, by omega⟩, hg, w64a k (by omega)]
    by_cases he : L s.1 = L b
    · rw [if_pos he, if_pos (by rw [toL, toL, he]; simp)]
    · rw [if_neg he, if_neg (by rw [toL, toL]; simpa using he)]) (by
    show ref43_find_l3 b (st.2.length : Nat) st = _
    rw [ref43_find_l3_eq, if_neg (dF (by omega))])

def knownS (ns : List TNode) (s : TTrigStep) : Bool := decide (0 ≤ nodeI ns s.1.1) && (!s.2.2.2.1 || decide (0 ≤ nodeI ns s.2.2.2.2.1))
def checkT (t : TTrigger) (ns : List TNode) : Int := if wrongE t = 0 then (if t.2.all (knownS ns) = true then 0 else 8) else wrongE t

theorem check_loop (st : TStack) (hs : st.2.length ≤ 1048576) (l : List TTrigStep) (hl : l.length ≤ 1048576) : ∀ (r : List TTrigStep) (k : Nat), l.drop k = r → trig_Check_l7 l (l.length : Int) k st = some ((if r.all (knownS st.2) = true then 0 else 8, ()), ())
  | [], k, h => by
    have h1 := drop_nil h
    rw [trig_Check_l7_eq, if_neg (dF (by omega))]
    rfl
  | s :: r, k, h => by
    have h1 := drop_lt h
    have hg : l.getD (k : Int).toNat dTrigStep = s := getD_drop h
    rw [trig_Check_l7_eq, if_pos (dT (by omega)), if_pos ⟨by omega, by omega⟩, hg, nfind_eq st _ hs, nfind_eq st _ hs, w64a k (by omega), check_loop st hs l hl r (k + 1) (dropS h), List.all_cons]
    simp only [Option.bind_some]
    unfold knownS
    by_cases ha : nodeI st.2 s.1.1 < 0
    · rw [if_pos (dT ha), decide_eq_false (show ¬ 0 ≤ nodeI st.2 s.1.1 by omega)]
      rfl
    · rw [if_neg (dF ha), decide_eq_true (show 0 ≤ nodeI st.2 s.1.1 by omega)]
      cases s.2.2.2.1 with
      | false => rfl
      | true =>
        rw [if_pos rfl]
        by_cases hb : nodeI st.2 s.2.2.2.2.1 < 0
        · rw [if_pos (dT hb), decide_eq_false (show ¬ 0 ≤ nodeI st.2 s.2.2.2.2.1 by omega)]
          rfl
        · rw [if_neg (dF hb), decide_eq_true (show 0 ≤ nodeI st.2 s.2.2.2.2.1 by omega)]
          rfl

theorem rcheck_loop (st : TStack) (hs : st.2.length ≤ 1048576) (t : TTrigger) (hl : t.2.length ≤ 1048576) : ∀ (r : List TTrigStep) (k : Nat), t.2.drop k = r → ref43_Check_l7 k t st = some ((if r.all (knownS st.2) = true then 0 else 8, ()), ())
  | [], k, h => by
    have h1 := drop_nil h
    rw [ref43_Check_l7_eq, if_neg (dF (by omega))]
    rfl
  | s :: r, k, h => by
    have h1 := drop_lt h
    have hg : t.2.getD (k : Int).toNat dTrigStep = s := getD_drop h
    rw [ref43_Check_l7_eq, if_pos (dT (by omega)), if_pos ⟨by omega, by omega⟩, hg, rnfind_eq st _ hs, rnfind_eq st _ hs, w64a k (by omega), rcheck_loop st hs t hl r (k + 1) (dropS h), List.all_cons]
    simp only [Option.bind_some]
    unfold knownS
    by_cases ha : nodeI st.2 s.1.1 < 0
    · rw [if_pos (dT ha), decide_eq_false (show ¬ 0 ≤ nodeI st.2 s.1.1 by omega)]
      rfl
    · rw [if_neg (dF ha), decide_eq_true (show 0 ≤ nodeI st.2 s.1.1 by omega)]
      cases s.2.2.2.1 with
      | false => rfl
      | true =>
        rw [if_pos rfl]
        by_cases hb : nodeI st.2 s.2.2.2.2.1 < 0
        · rw [if_pos (dT hb), decide_eq_false (show ¬ 0 ≤ nodeI st.2 s.2.2.2.2.1 by omega)]
          rfl
        · rw [if_neg (dF hb), decide_eq_true (show 0 ≤ nodeI st.2 s.2.2.2.2.1 by omega)]
          rfl

theorem tcheck_eq (t : TTrigger) (st : TStack) (hl : t.2.length ≤ 1048576) (hs : st.2.length ≤ 1048576) : trig_Check t st = some ((checkT t st.2, ()), ()) := by
  unfold trig_Check checkT
  rw [wrong_eq t hl]
  simp only [Option.bind_some]
  by_cases he : wrongE t = 0
  · rw [if_neg (nF he), if_pos he]
    exact check_loop st hs t.2 hl t.2 0 rfl
  · rw [if_pos (nT he), if_neg he]

theorem rtcheck_eq (t : TTrigger) (st : TStack) (hl : t.2.length ≤ 1048576) (hs : st.2.length ≤ 1048576) : ref43_Check t st = some ((checkT t st.2, ()), ()) := by
  unfold ref43_Check checkT
  rw [rwrong_eq t hl]
  simp only [Option.bind_some]
  by_cases he : wrongE t = 0
  · rw [if_neg (nF he), if_pos he]
    exact rcheck_loop st hs t hl t.2 0 rfl
  · rw [if_pos (nT he), if_neg he]

/-! ### conditions of events -/
def validE (e : TEvent) : Bool := decide ((1 ≤ e.1 ∧ e.1 ≤ 8) ∧ (0 ≤ e.2.1 ∧ e.2.1 ≤ e.2.2.1 ∧ e.2.2.1 ≤ 1099511627776) ∧ (-9007199254740992 ≤ e.2.2.2.1 ∧ e.2.2.2.1 ≤ 9007199254740992) ∧ (-9007199254740992 ≤ e.2.2.2.2.1 ∧ e.2.2.2.2.1 ≤ 9007199254740992) ∧
  e.2.2.2.2.2.1.size ≤ 4096 ∧ (0 ≤ e.2.2.2.2.2.2 ∧ e.2.2.2.2.2.2 ≤ 12))

theorem some_dec {p q : Prop} [Decidable p] [Decidable q] (h : p ↔ q) : some ((decide p, ()), ()) = some ((decide q, ()), ()) := by
  rw [show decide p = decide q from by rw [Bool.eq_iff_iff, decide_eq_true_eq, decide_eq_true_eq]; exact h]

theorem valid_eq (e : TEvent) : event_Valid e = some ((validE e, ()), ()) := by
  obtain ⟨k, fr, to, a, b, d, f⟩ := e
  unfold event_Valid validE
  simp only [event_Valid_l4_eq, event_Valid_l6_eq, event_Valid_l8_eq, decide_eq_true_eq, Bool.false_eq_true, if_true, if_false]
  generalize (9007199254740992 : Int) = N
  repeat' split
  all_goals first
    | (refine some_dec ?_; omega)
    | (rw [decide_eq_false (by omega)])
    | (rw [decide_eq_true (by omega)])
    | (exfalso; omega)

theorem rvalid_eq (e : TEvent) : ref07_Valid e = some ((validE e, ()), ()) := by
  obtain ⟨k, fr, to, a, b, d, f⟩ := e
  unfold ref07_Valid validE
  simp only [decide_eq_true_eq]
  generalize (9007199254740992 : Int) = N
  repeat' split
  all_goals first
    | (refine some_dec ?_; omega)
    | (rw [decide_eq_false (by omega)])
    | (rw [decide_eq_true (by omega)])
    | (exfalso; omega)

def fieldV (e : TEvent) (n : Int) : Int :=
  if n = 1 then e.2.2.2.1 else if n = 2 then e.2.2.2.2.1 else if n = 3 then e.2.2.2.2.2.2 else if n = 4 then (e.2.2.2.2.2.1.size : Int) else if n = 5 then IntKind.i64.wrap (e.2.2.1 - e.2.1)
  else if L e.2.2.2.2.2.1 = [] then -1 else IntKind.i64.wrap (bt e.2.2.2.2.2.1 0)
def cmpV (f op n : Int) : Bool :=
  if op = 1 then f == n else if op = 2 then f != n else if op = 3 then decide (f < n) else if op = 4 then decide (f > n) else if op = 5 then (IntKind.i64.wrap (BitVec.ofInt 64 f &&& BitVec.ofInt 64 n).toNat) == n else true

theorem field_last (d : ByteArray) : (if (d.toList == (strB []).toList) = true then some (((-1 : Int), ()), ()) else if 0 ≤ (0 : Int) ∧ 0 < (d.size : Int) then some ((IntKind.i64.wrap (bt d 0), ()), ()) else none) =
    some ((if L d = [] then -1 else IntKind.i64.wrap (bt d 0), ()), ()) := by
  by_cases h : L d = []
  · rw [if_pos (by rw [toL, toL, h]; rfl), if_pos h]
  · have : 0 < (L d).length := List.length_pos_iff.2 h
    rw [L_len] at this
    rw [if_neg (by rw [toL, toL]; simpa [L_strB] using h), if_neg h, if_pos ⟨by omega, by omega⟩]

theorem field_eq (e : TEvent) (n : Int) : trig_field e n = some ((fieldV e n, ()), ()) := by
  unfold trig_field fieldV
  rw [field_last]
  simp only [beq_iff_eq]
  repeat' split
  all_goals rfl
theorem rfield_eq (e : TEvent) (n : Int) : ref43_Field e n = some ((fieldV e n, ()), ()) := by
  unfold ref43_Field fieldV
  rw [field_last]
  simp only [beq_iff_eq]
  repeat' split
  all_goals rfl
theorem compares_eq (f op n : Int) : ref43_Compares f op n = some ((cmpV f op n, ()), ()) := by
  unfold ref43_Compares cmpV
  simp only [beq_iff_eq]
  repeat' split
  all_goals rfl

def holdsV (c : TCond) (ns : List TNode) (o : TOut) : Bool :=
  decide (condE c = 0) && (validE o.2.2 && (decide (0 ≤ nodeI ns c.1 ∧ nodeI ns c.1 = o.1) && (decide (c.2.1 = 0 ∨ c.2.1 = o.2.2.1) && cmpV (fieldV o.2.2 c.2.2.1) c.2.2.2.1 c.2.2.2.2)))

theorem ops_cmp (f op n : Int) : (if (op == 1) = true then some ((f == n, ()), ())
      else if (op == 2) = true then some ((f != n, ()), ())
      else if (op == 3) = true then some ((decide (f < n), ()), ())
      else if (op == 4) = true then some ((decide (f > n), ()), ())
      else if (op == 5) = true then some (((IntKind.i64.wrap (BitVec.ofInt 64 f &&& BitVec.ofInt 64 n).toNat) == n, ()), ())
      else some ((true, ()), ())) = some ((cmpV f op n, ()), ()) := compares_eq f op n

theorem holds_eq (c : TCond) (st : TStack) (o : TOut) (hs : st.2.length ≤ 1048576) : trig_Holds c st o = some ((holdsV c st.2 o, ()), ()) := by
  unfold trig_Holds holdsV
  rw [wrongCond_eq, valid_eq, nfind_eq st _ hs, field_eq]
  simp only [Option.bind_some]
  rw [ops_cmp]
  by_cases h1 : condE c = 0
  · rw [if_neg (nF h1), decide_eq_true h1, Bool.true_and]
    cases validE o.2.2 with
    | false => rfl
    | true =>
      refine (if_neg (by simp)).trans ?_
      rw [Bool.true_and]
      by_cases h2 : nodeI st.2 c.1 < 0
      · rw [if_pos (dT h2), decide_eq_false (show ¬ (0 ≤ nodeI st.2 c.1 ∧ nodeI st.2 c.1 = o.1) by omega), Bool.false_and]
      · rw [if_neg (dF h2)]
        by_cases h3 : nodeI st.2 c.1 = o.1
        · rw [if_neg (nF h3), decide_eq_true (show 0 ≤ nodeI st.2 c.1 ∧ nodeI st.2 c.1 = o.1 by omega), Bool.true_and]
          by_cases h4 : c.2.1 = 0
          · rw [if_neg (nF h4), decide_eq_true (show c.2.1 = 0 ∨ c.2.1 = o.2.2.1 by omega), Bool.true_and]
          · rw [if_pos (nT h4)]
            by_cases h5 : c.2.1 = o.2.2.1
            · rw [if_neg (nF h5), decide_eq_true (show c.2.1 = 0 ∨ c.2.1 = o.2.2.1 by omega), Bool.true_and]
            · rw [if_pos (nT h5), decide_eq_false (show ¬ (c.2.1 = 0 ∨ c.2.1 = o.2.2.1) by omega), Bool.false_and]
        · rw [if_pos (nT h3), decide_eq_false (show ¬ (0 ≤ nodeI st.2 c.1 ∧ nodeI st.2 c.1 = o.1) by omega), Bool.false_and]
  · rw [if_pos (nT h1), decide_eq_false h1, Bool.false_and]

theorem op0 (f n : Int) : cmpV f 0 n = true := rfl
theorem rop (c : TCond) (f : Int) : (if (c.2.2.2.1 == 0) = true then some ((true, ()), ()) else some ((cmpV f c.2.2.2.1 c.2.2.2.2, ()), ())) = some ((cmpV f c.2.2.2.1 c.2.2.2.2, ()), ()) := by
  by_cases h : c.2.2.2.1 = 0
  · rw [if_pos (eT h), h]; rfl
  · rw [if_neg (eF h)]

theorem rholds_eq (c : TCond) (st : TStack) (o : TOut) (hs : st.2.length ≤ 1048576) : ref43_Holds c st o = some ((holdsV c st.2 o, ()), ()) := by
  unfold ref43_Holds holdsV
  rw [rWrongCond_eq, rvalid_eq, rnfind_eq st _ hs, rfield_eq]
  simp only [Option.bind_some]
  rw [compares_eq]
  simp only [Option.bind_some]
  rw [rop c]
  by_cases h1 : condE c = 0
  · rw [if_neg (nF h1), decide_eq_true h1, Bool.true_and]
    cases validE o.2.2 with
    | false => rfl
    | true =>
      refine (if_neg (by simp)).trans ?_
      rw [Bool.true_and]
      by_cases h2 : nodeI st.2 c.1 < 0
      · rw [if_pos (dT h2), decide_eq_false (show ¬ (0 ≤ nodeI st.2 c.1 ∧ nodeI st.2 c.1 = o.1) by omega), Bool.false_and]
      · rw [if_neg (dF h2)]
        by_cases h3 : nodeI st.2 c.1 = o.1
        · rw [if_neg (nF h3), decide_eq_true (show 0 ≤ nodeI st.2 c.1 ∧ nodeI st.2 c.1 = o.1 by omega), Bool.true_and]
          by_cases h4 : c.2.1 = 0
          · rw [if_neg (nF h4), decide_eq_true (show c.2.1 = 0 ∨ c.2.1 = o.2.2.1 by omega), Bool.true_and]
          · rw [if_pos (nT h4)]
            by_cases h5 : c.2.1 = o.2.2.1
            · rw [if_neg (nF h5), decide_eq_true (show c.2.1 = 0 ∨ c.2.1 = o.2.2.1 by omega), Bool.true_and]
            · rw [if_pos (nT h5), decide_eq_false (show ¬ (c.2.1 = 0 ∨ c.2.1 = o.2.2.1) by omega), Bool.false_and]
        · rw [if_pos (nT h3), decide_eq_false (show ¬ (0 ≤ nodeI st.2 c.1 ∧ nodeI st.2 c.1 = o.1) by omega), Bool.false_and]
  · rw [if_pos (nT h1), decide_eq_false h1, Bool.false_and]

end Go.Proofs.YtgpgpelaabdkhaaDoor
end

section
/-
YtgpgpelaabdkhaaDoor: trig.Print, as plain functions, comes to the text of the tokens. No condition.
-/
set_option maxRecDepth 100000
set_option linter.unusedVariables false
open Go Go.AM
namespace Go.Proofs.YtgpgpelaabdkhaaDoor

theorem tname_b (b : ByteArray) : trig_name b = some ((wTok b, ()), ()) := rfl
theorem tmark_b (c : UInt8) : trig_mark (strB [c]) = some ((mTok c, ()), ()) := rfl
theorem tnumber_b (n : Int) (h : -9007199254740992 ≤ n ∧ n ≤ 9007199254740992) : trig_number n = some ((nTok n, ()), ()) := by
  unfold trig_number
  rw [itoa_b n (by omega)]
  rfl

def opS (n : Int) : List ByteArray := (opM n).map fun c => strB [c]
theorem ops_b (n : Int) : trig_ops n = some ((opS n, ()), ()) := by
  unfold trig_ops opS opM
  simp only [beq_iff_eq]
  by_cases h1 : n = 1
  · rw [if_pos h1, if_pos h1]; rfl
  rw [if_neg h1, if_neg h1]
  by_cases h2 : n = 2
  · rw [if_pos h2, if_pos h2]; rfl
  rw [if_neg h2, if_neg h2]
  by_cases h3 : n = 3
  · rw [if_pos h3, if_pos h3]; rfl
  rw [if_neg h3, if_neg h3]
  by_cases h4 : n = 4
  · rw [if_pos h4, if_pos h4]; rfl
  · rw [if_neg h4, if_neg h4]; rfl

theorem opS_map (n : Int) : (opS n).map (fun b => ((4, b, 0, 0) : TToken)) = (opM n).map mTok := by
  unfold opS
  rw [List.map_map]
  rfl

theorem cond_loop (c : TCond) (hv : -9007199254740992 ≤ c.2.2.2.2 ∧ c.2.2.2.2 ≤ 9007199254740992) (l : List ByteArray) (hl : l.length ≤ 10) : ∀ (r : List ByteArray) (k : Nat) (acc : List TToken), l.drop k = r → acc.length + r.length ≤ 1000 →
    trig_cond_l8 l (l.length : Int) k c acc = some ((acc ++ (r.map (fun b => ((4, b, 0, 0) : TToken)) ++ [nTok c.2.2.2.2]), ()), ())
  | [], k, acc, h, ha => by
    have h1 := drop_nil h
    simp only [List.length_nil] at ha
    rw [trig_cond_l8_eq, if_neg (dF (by omega)), tnumber_b _ hv]
    simp only [Option.bind_some]
    rw [if_pos ⟨by omega, by decide⟩]
    rfl
  | b :: r, k, acc, h, ha => by
    have h1 := drop_lt h
    have hg : l.getD (k : Int).toNat (strB []) = b := getD_drop h
    simp only [List.length_cons] at ha
    have hm : trig_mark b = some (((4, b, 0, 0), ()), ()) := rfl
    rw [trig_cond_l8_eq, if_pos (dT (by omega)), if_pos ⟨by omega, by omega⟩, hg, hm, w64a k (by omega)]
    simp only [Option.bind_some]
    rw [if_pos ⟨by omega, by decide⟩, cond_loop c hv l hl r (k + 1) _ (dropS h) (by rw [List.length_append]; simp only [List.length_cons, List.length_nil]; omega)]
    simp

theorem kinds_b : trig_kinds = some ((kindTab, ()), ()) := rfl
theorem fields_b : trig_fields = some ((fieldTab, ()), ()) := rfl

theorem cond_b (c : TCond) (h : OkCond c) : trig_cond c = some ((condT c, ()), ()) := by
  have hk := h.kind
  unfold trig_cond condT
  rw [tname_b, tmark_b, kinds_b]
  simp only [Option.bind_some]
  rw [if_pos ⟨hk.1, by show c.2.1 < 9; omega⟩, tname_b]
  simp only [Option.bind_some]
  by_cases h0 : c.2.2.2.1 = 0
  · rw [if_pos (eT h0), if_pos h0]
  · have hf : 1 ≤ c.2.2.1 ∧ c.2.2.1 ≤ 6 := by have := h.field; omega
    rw [if_neg (eF h0), if_neg h0, fields_b]
    simp only [Option.bind_some]
    rw [w64 (x := c.2.2.1 - 1) (by omega) (by omega), if_pos ⟨by omega, by show c.2.2.1 - 1 < 6; omega⟩, tname_b, ops_b]
    simp only [Option.bind_some]
    refine (cond_loop c h.value (opS c.2.2.2.1) (by unfold opS; rw [List.length_map]; have := (opM_good c.2.2.2.1).2; omega) (opS c.2.2.2.1) 0 _ rfl (by unfold opS; rw [List.length_map]; have := (opM_good c.2.2.2.1).2; simp only [List.length_cons, List.length_nil]; omega)).trans ?_
    rw [opS_map]
    rfl

theorem okTok_goodG {t : TToken} (h : goodG t) : okTok t := ⟨by have := h.2.1; omega, by have := h.2.2.1; omega, by have := h.2.2.2; omega⟩

theorem Print_steps (l : List TTrigStep) (hl : l.length ≤ 32) (ho : ∀ s ∈ l, OkStep s ∧ s.2.1 ≤ 32) : ∀ (r : List TTrigStep) (k : Nat) (acc : List TToken), l.drop k = r → acc.length + 20 * r.length ≤ 1000 → (∀ t ∈ acc, goodG t) →
    trig_Print_l8 l (l.length : Int) k acc = some ((strB (textV (acc ++ stepsT k r)).1, (textV (acc ++ stepsT k r)).2, ()), ())
  | [], k, acc, h, ha, hg => by
    have h1 := drop_nil h
    simp only [List.length_nil] at ha
    have hw := wt_sumG acc hg
    rw [trig_Print_l8_eq, if_neg (dF (by omega)), lex_Text_b _ (by omega) (fun t ht => okTok_goodG (hg t ht)) (by omega), stepsT, List.append_nil]
    rfl
  | s :: r, k, acc, h, ha, hg => by
    have h1 := drop_lt h
    have hgd : l.getD (k : Int).toNat dTrigStep = s := getD_drop h
    have hs := ho s (mem_drop h)
    have h20 := (good_step hs.1 hs.2).2
    have hsg := (good_step hs.1 hs.2).1
    have hb := hs.1.times
    have hw := hs.1.within
    simp only [List.length_cons] at ha
    have ih : ∀ q, q = acc ++ ((if k = 0 then [] else [mTok 59]) ++ AM.stepT s) → trig_Print_l8 l (l.length : Int) ((k + 1 : Nat) : Int) q = some ((strB (textV (acc ++ stepsT k (s :: r))).1, (textV (acc ++ stepsT k (s :: r))).2, ()), ()) := fun q hq => by
      subst hq
      have hk1 : (if k = 0 then ([] : List TokT) else [mTok 59]).length ≤ 1 := by split <;> simp
      rw [Print_steps l hl ho r (k + 1) _ (dropS h) (by simp only [List.length_append]; omega) (fun t ht => by
        simp only [List.mem_append] at ht
        rcases ht with q | q | q
        · exact hg t q
        · split at q
          · simp at q
          · simp only [List.mem_singleton] at q
            subst q
            exact goodG_m (by decide)
        · exact hsg t q), stepsT]
      simp [List.append_assoc]
    have l18 : ∀ q p, q ++ (if s.2.2.2.1 = true then wTok sUnless :: condT s.2.2.2.2 else []) = p → q.length ≤ 1200 → p = acc ++ ((if k = 0 then [] else [mTok 59]) ++ AM.stepT s) → trig_Print_l18 l (l.length : Int) k q s = some ((strB (textV (acc ++ stepsT k (s :: r))).1, (textV (acc ++ stepsT k (s :: r))).2, ()), ()) := fun q p hp hq he => by
      rw [trig_Print_l18_eq, w64a k (by omega)]
      by_cases hu : s.2.2.2.1 = true
      · have hc := good_cond (hs.1.yes hu)
        have hc2 := hc.2
        rw [if_pos hu, tname_b]
        simp only [Option.bind_some]
        rw [if_pos ⟨by omega, by decide⟩, cond_b _ (hs.1.yes hu)]
        simp only [Option.bind_some]
        rw [if_pos ⟨by simp only [List.length_append, List.length_cons, List.length_nil]; omega, by decide⟩]
        refine ih _ ?_
        rw [← he, ← hp, if_pos hu]
        simp [List.append_assoc, sUnless]
      · rw [if_neg hu]
        refine ih _ ?_
        rw [← he, ← hp, if_neg hu, List.append_nil]
    have l16 : ∀ q, q.length ≤ 1100 → q ++ ((if s.2.2.1 = 0 then [] else [wTok sWithin, nTok s.2.2.1]) ++ (if s.2.2.2.1 = true then wTok sUnless :: condT s.2.2.2.2 else [])) = acc ++ ((if k = 0 then [] else [mTok 59]) ++ AM.stepT s) →
        trig_Print_l16 l (l.length : Int) k q s = some ((strB (textV (acc ++ stepsT k (s :: r))).1, (textV (acc ++ stepsT k (s :: r))).2, ()), ()) := fun q hq he => by
      rw [trig_Print_l16_eq]
      by_cases h0 : s.2.2.1 = 0
      · rw [if_neg (dF (by omega))]
        rw [if_pos h0, List.nil_append] at he
        exact l18 q _ he (by omega) rfl
      · rw [if_pos (dT (by omega)), tname_b, tnumber_b _ (by omega)]
        simp only [Option.bind_some]
        rw [if_pos ⟨by omega, by decide⟩]
        rw [if_neg h0, ← List.append_assoc] at he
        exact l18 _ _ he (by simp only [List.length_append, List.length_cons, List.length_nil]; omega) rfl
    have l13 : ∀ q, q.length ≤ 990 → q = acc ++ (if k = 0 then [] else [mTok 59]) → trig_Print_l13 l (l.length : Int) k q s = some ((strB (textV (acc ++ stepsT k (s :: r))).1, (textV (acc ++ stepsT k (s :: r))).2, ()), ()) := fun q hq he => by
      have hc := (good_cond hs.1.cond).2
      rw [trig_Print_l13_eq, cond_b _ hs.1.cond]
      simp only [Option.bind_some]
      rw [if_pos ⟨by omega, by decide⟩]
      by_cases h0 : s.2.1 = 1
      · rw [if_neg (dF (by omega))]
        refine l16 _ (by rw [List.length_append]; omega) ?_
        unfold AM.stepT
        rw [if_pos h0, he]
        simp [List.append_assoc]
      · rw [if_pos (dT (by omega)), tname_b, tnumber_b _ (by omega)]
        simp only [Option.bind_some]
        rw [if_pos ⟨by rw [List.length_append]; omega, by decide⟩]
        refine l16 _ (by simp only [List.length_append, List.length_cons, List.length_nil]; omega) ?_
        unfold AM.stepT
        rw [if_neg h0, he]
        simp [List.append_assoc, sX]
    rw [trig_Print_l8_eq, if_pos (dT (by omega)), if_pos ⟨by omega, by omega⟩, hgd]
    by_cases hk : k = 0
    · rw [if_neg (dF (by omega))]
      exact l13 acc (by omega) (by rw [if_pos hk, List.append_nil])
    · rw [if_pos (dT (by omega)), tmark_b]
      simp only [Option.bind_some]
      rw [if_pos ⟨by omega, by decide⟩]
      exact l13 _ (by rw [List.length_append]; simp only [List.length_cons, List.length_nil]; omega) (by rw [if_neg hk])

theorem tprint_b (t : TTrigger) (hl : t.2.length ≤ 1048576) : trig_Print t = some ((strB (printT t).1, (printT t).2, ()), ()) := by
  unfold trig_Print
  rw [wrong_eq t hl]
  simp only [Option.bind_some]
  by_cases hc : wrongE t = 0
  · rw [if_neg (nF hc), tname_b, tname_b, tmark_b]
    simp only [Option.bind_some]
    have ho := wrongE_zero.1 hc
    have hf := ho.few
    have e : printT t = textV (trigT t) := by unfold printT; rw [if_pos hc]
    refine (Print_steps t.2 hf (fun s hs => ⟨ho.steps s hs, by have := times_mem t.2 ho.steps s hs; have := ho.times; omega⟩) t.2 0 _ rfl (by simp only [List.length_cons, List.length_nil]; omega) (fun x hx => by
      simp only [List.mem_cons, List.not_mem_nil, or_false] at hx
      rcases hx with rfl | rfl | rfl
      · exact goodG_w (by decide)
      · exact goodG_w ho.name
      · exact goodG_m (by decide))).trans ?_
    rw [e]
    rfl
  · rw [if_pos (nT hc), printT_no hc]

end Go.Proofs.YtgpgpelaabdkhaaDoor
end

section
/-
YtgpgpelaabdkhaaDoor: trig.Parse, as plain functions, comes to the plain reader of triggers. No condition.
-/
set_option maxRecDepth 100000
set_option linter.unusedVariables false
open Go Go.AM
namespace Go.Proofs.YtgpgpelaabdkhaaDoor

structure Ctx (l : List TToken) : Prop where
  len : l.length ≤ 1048576
  good : ∀ t ∈ l, tokGood t

def ixn (l q : List TToken) : Int := ((l.length - q.length : Nat) : Int)
def rd (l q : List TToken) : Treader := (l, ixn l q, false)
def bad (l e : List TToken) : Treader := (l, ixn l e, true)
def zT : TToken := (0, strB [], 0, 0)

theorem suf_drop {l q : List TToken} (h : q <:+ l) : l.drop (l.length - q.length) = q := (List.suffix_iff_eq_drop.1 h).symm
theorem sufk {α : Type} {l q r : List TToken} (h : q <:+ l) {x : PR α} {n : Nat} (g : Goes n q x) {a : α} (e : x = .ok (a, r)) : r <:+ l := by
  subst e
  exact List.IsSuffix.trans g.1 h
theorem sufe {α : Type} {l q r : List TToken} (h : q <:+ l) {x : PR α} {n : Nat} (g : Goes n q x) (e : x = .error r) : r <:+ l := by
  subst e
  exact List.IsSuffix.trans g h
theorem okLen {α : Type} {q r : List TToken} {x : PR α} {n : Nat} (g : Goes n q x) {a : α} (e : x = .ok (a, r)) : r.length + n ≤ q.length := by
  subst e
  exact g.2

theorem at_cons {l r : List TToken} {t : TToken} (h : (t :: r) <:+ l) : l.length - (t :: r).length < l.length ∧ l.getD (ixn l (t :: r)).toNat dToken = t ∧ l.length - r.length = l.length - (t :: r).length + 1 := by
  have h1 := suf_drop h
  have h2 := drop_lt h1
  have h3 := h.length_le
  refine ⟨h2, getD_drop h1, ?_⟩
  simp only [List.length_cons] at h3 ⊢
  omega

theorem ixn_nil (l : List TToken) : ixn l [] = (l.length : Int) := by unfold ixn; simp
theorem ixn_in {l r : List TToken} {t : TToken} (h : (t :: r) <:+ l) : 0 ≤ ixn l (t :: r) ∧ ixn l (t :: r) < (l.length : Int) := by
  have := (at_cons h).1
  unfold ixn
  omega
theorem ixn_next {l r : List TToken} {t : TToken} (c : Ctx l) (h : (t :: r) <:+ l) : IntKind.i64.wrap (ixn l (t :: r) + 1) = ixn l r := by
  obtain ⟨h1, _, h3⟩ := at_cons h
  have := c.len
  unfold ixn
  rw [w64a _ (by omega), h3]
theorem ixn_back {l r : List TToken} {t : TToken} (c : Ctx l) (h : (t :: r) <:+ l) : IntKind.i64.wrap (ixn l r - 1) = ixn l (t :: r) := by
  obtain ⟨h1, _, h3⟩ := at_cons h
  have := c.len
  unfold ixn
  rw [w64 (by omega) (by omega)]
  omega

theorem next_bad (l e : List TToken) (k : Int) (x : ByteArray) : trig_reader_next k x (bad l e) = some ((false, ()), (bad l e, ())) := rfl
theorem want_bad (l e : List TToken) (k : Int) (x : ByteArray) : trig_reader_want k x (bad l e) = some ((), (bad l e, ())) := rfl
theorem take_bad (l e : List TToken) (k : Int) : trig_reader_take k (bad l e) = some ((zT, ()), (bad l e, ())) := rfl
theorem word_bad (l e : List TToken) (w : List ByteArray) : trig_reader_word w (bad l e) = some (((-1), ()), (bad l e, ())) := rfl

theorem next_rd {l q : List TToken} (c : Ctx l) (h : q <:+ l) (k : Int) (text : ByteArray) {x : List UInt8} (hx : L text = x) (hne : x.isEmpty = false) :
    trig_reader_next k text (rd l q) = if hdT k x q = true then some ((true, ()), (rd l q.tail, ())) else some ((false, ()), (rd l q, ())) := by
  subst hx
  unfold trig_reader_next
  refine (if_neg (by show ¬ false = true; simp)).trans ?_
  cases q with
  | nil =>
    have c1 : (rd l []).2.1 ≥ ((rd l []).1.length : Int) := by show ixn l [] ≥ (l.length : Int); rw [ixn_nil]; omega
    rw [if_pos (dT c1)]
    rfl
  | cons t r =>
    obtain ⟨_, h2, _⟩ := at_cons h
    have hin := ixn_in h
    have c1 : ¬ (rd l (t :: r)).2.1 ≥ ((rd l (t :: r)).1.length : Int) := by show ¬ ixn l (t :: r) ≥ (l.length : Int); omega
    have c2 : 0 ≤ (rd l (t :: r)).2.1 ∧ (rd l (t :: r)).2.1 < ((rd l (t :: r)).1.length : Int) := hin
    have h2' : (rd l (t :: r)).1.getD (rd l (t :: r)).2.1.toNat dToken = t := h2
    have hv : hdT k (L text) (t :: r) = (decide (t.1 = k) && (L t.2.1 == L text)) := by
      show (decide (t.1 = k) && (_ || _)) = _
      rw [hne, Bool.false_or]
    rw [if_neg (dF c1), if_pos c2, h2', hv]
    by_cases hk : t.1 = k
    · rw [if_neg (nF hk), if_pos c2, decide_eq_true hk, Bool.true_and, toL, toL]
      by_cases he : L t.2.1 = L text
      · rw [if_neg (by simpa using he), if_pos (by simpa using he)]
        show some ((true, ()), ((l, IntKind.i64.wrap (ixn l (t :: r) + 1), false), ())) = _
        rw [ixn_next c h]
        rfl
      · rw [if_pos (by simpa using he), if_neg (by simpa using he)]
    · rw [if_pos (nT hk), decide_eq_false hk, Bool.false_and, if_neg (by simp)]

theorem want_ok {l q r : List TToken} {t : TToken} (c : Ctx l) (h : q <:+ l) {k : Int} {text : ByteArray} {x : List UInt8} (hx : L text = x) (hne : x.isEmpty = false) (hp : pNeed k x q = .ok (t, r)) : trig_reader_want k text (rd l q) = some ((), (rd l r, ())) := by
  obtain ⟨rfl, hy⟩ := need_ok_inv hp
  unfold trig_reader_want
  rw [next_rd c h k text hx hne, if_pos hy]
  rfl

theorem want_err {l q e : List TToken} (c : Ctx l) (h : q <:+ l) {k : Int} {text : ByteArray} {x : List UInt8} (hx : L text = x) (hne : x.isEmpty = false) (hp : pNeed k x q = .error e) : trig_reader_want k text (rd l q) = some ((), (bad l e, ())) := by
  obtain ⟨rfl, hy⟩ := need_err_inv hp
  unfold trig_reader_want
  rw [next_rd c h k text hx hne, if_neg (by rw [hy]; simp)]
  rfl

theorem rtake_ok {l q r : List TToken} {t : TToken} (c : Ctx l) (h : q <:+ l) {k : Int} (hp : pNeed k [] q = .ok (t, r)) : trig_reader_take k (rd l q) = some ((t, ()), (rd l r, ())) := by
  obtain ⟨rfl, hy⟩ := need_ok_inv hp
  obtain ⟨_, h2, _⟩ := at_cons h
  have hin := ixn_in h
  have hk : t.1 = k := by
    have : (decide (t.1 = k) && (true || _)) = true := hy
    simpa using this
  unfold trig_reader_take
  refine (if_neg (by show ¬ false = true; simp)).trans ?_
  have c1 : ¬ (rd l (t :: r)).2.1 ≥ ((rd l (t :: r)).1.length : Int) := by show ¬ ixn l (t :: r) ≥ (l.length : Int); omega
  have c2 : 0 ≤ (rd l (t :: r)).2.1 ∧ (rd l (t :: r)).2.1 < ((rd l (t :: r)).1.length : Int) := hin
  have h2' : (rd l (t :: r)).1.getD (rd l (t :: r)).2.1.toNat dToken = t := h2
  have e1 : IntKind.i64.wrap ((rd l (t :: r)).2.1 + 1) = ixn l r := ixn_next c h
  have e2 : IntKind.i64.wrap (ixn l r - 1) = (rd l (t :: r)).2.1 := ixn_back c h
  rw [if_neg (dF c1), if_pos c2, h2', if_neg (nF hk), e1, e2, if_pos c2, h2']
  rfl

theorem rtake_err {l q e : List TToken} (c : Ctx l) (h : q <:+ l) {k : Int} (hp : pNeed k [] q = .error e) : trig_reader_take k (rd l q) = some ((zT, ()), (bad l e, ())) := by
  obtain ⟨rfl, hy⟩ := need_err_inv hp
  unfold trig_reader_take
  refine (if_neg (by show ¬ false = true; simp)).trans ?_
  cases e with
  | nil =>
    have c1 : (rd l []).2.1 ≥ ((rd l []).1.length : Int) := by show ixn l [] ≥ (l.length : Int); rw [ixn_nil]; omega
    rw [if_pos (dT c1)]
    rfl
  | cons t r =>
    obtain ⟨_, h2, _⟩ := at_cons h
    have hin := ixn_in h
    have hk : t.1 ≠ k := by
      have : (decide (t.1 = k) && (true || _)) = false := hy
      simpa using this
    have c1 : ¬ (rd l (t :: r)).2.1 ≥ ((rd l (t :: r)).1.length : Int) := by show ¬ ixn l (t :: r) ≥ (l.length : Int); omega
    have c2 : 0 ≤ (rd l (t :: r)).2.1 ∧ (rd l (t :: r)).2.1 < ((rd l (t :: r)).1.length : Int) := hin
    have h2' : (rd l (t :: r)).1.getD (rd l (t :: r)).2.1.toNat dToken = t := h2
    rw [if_neg (dF c1), if_pos c2, h2', if_pos (nT hk)]
    rfl

theorem index_loop (l : List ByteArray) (hl : l.length ≤ 1000) (v : ByteArray) : ∀ (r : List ByteArray) (k : Nat), l.drop k = r → k ≤ l.length → slices_Index_string_string_l3 l v (l.length : Int) k = some ((optI ((r.findIdx? fun b => L b == L v).map (· + k)), ()), ())
  | [], k, h, hk => by
    have h1 := drop_nil h
    rw [slices_Index_string_string_l3_eq, if_neg (dF (by omega))]
    rfl
  | b :: r, k, h, hk => by
    have h1 := drop_lt h
    have hg : l.getD (k : Int).toNat (strB []) = b := getD_drop h
    rw [slices_Index_string_string_l3_eq, if_pos (dT (by omega)), if_pos ⟨by omega, by omega⟩, hg, w64a k (by omega), List.findIdx?_cons, toL, toL]
    by_cases he : L v = L b
    · rw [if_pos (by simpa using he), he]
      simp [optI]
    · rw [if_neg (by simpa using he), index_loop l hl v r (k + 1) (dropS h) (by omega), show (L b == L v) = false from beq_eq_false_iff_ne.2 fun q => he q.symm]
      simp only [Option.map_map, Bool.false_eq_true, if_false]
      congr 4
      cases r.findIdx? (fun b => L b == L v) with
      | none => rfl
      | some i => simp; omega

theorem index_b (l : List ByteArray) (hl : l.length ≤ 1000) (v : ByteArray) : slices_Index_string_string l v = some ((optI (l.findIdx? fun b => L b == L v), ()), ()) := by
  unfold slices_Index_string_string
  have := index_loop l hl v l 0 rfl (by omega)
  simpa using this

theorem word_rd {l q : List TToken} (c : Ctx l) (h : q <:+ l) (tab : List ByteArray) (ht : tab.length ≤ 1000) :
    trig_reader_word tab (rd l q) = match among tab q with
      | some j => some (((j : Int), ()), (rd l q.tail, ()))
      | none => some (((-1), ()), (rd l q, ())) := by
  unfold trig_reader_word
  refine (if_neg (by show ¬ false = true; simp)).trans ?_
  cases q with
  | nil =>
    have c1 : (rd l []).2.1 ≥ ((rd l []).1.length : Int) := by show ixn l [] ≥ (l.length : Int); rw [ixn_nil]; omega
    rw [if_pos (dT c1)]
    rfl
  | cons t r =>
    obtain ⟨_, h2, _⟩ := at_cons h
    have hin := ixn_in h
    have c1 : ¬ (rd l (t :: r)).2.1 ≥ ((rd l (t :: r)).1.length : Int) := by show ¬ ixn l (t :: r) ≥ (l.length : Int); omega
    have c2 : 0 ≤ (rd l (t :: r)).2.1 ∧ (rd l (t :: r)).2.1 < ((rd l (t :: r)).1.length : Int) := hin
    have h2' : (rd l (t :: r)).1.getD (rd l (t :: r)).2.1.toNat dToken = t := h2
    have hv : among tab (t :: r) = if t.1 = 1 then tab.findIdx? (fun b => L b == L t.2.1) else none := rfl
    rw [if_neg (dF c1), if_pos c2, h2', hv]
    by_cases hk : t.1 = 1
    · rw [if_neg (nF hk), if_pos c2, if_pos hk, index_b tab ht]
      simp only [Option.bind_some]
      cases tab.findIdx? (fun b => L b == L t.2.1) with
      | none => rfl
      | some j =>
        refine (if_pos (dT (by show (j : Int) ≥ 0; omega))).trans ?_
        show some (((j : Int), ()), ((l, IntKind.i64.wrap (ixn l (t :: r) + 1), false), ())) = _
        rw [ixn_next c h]
        rfl
    · rw [if_pos (nT hk), if_neg hk]

def Out {α : Type} (l : List TToken) (o : Option ((α × Unit) × (Treader × Unit))) : PR α → Prop
  | .ok (a, q) => o = some ((a, ()), (rd l q, ()))
  | .error e => ∃ z, o = some ((z, ()), (bad l e, ()))

/-! ### conditions -/
theorem cond14_bad (l e : List TToken) (a b : TCond) : trig_reader_cond_l14 (bad l e) a b = some (((b.1, b.2.1, b.2.2.1, b.2.2.2.1, 0), ()), (bad l e, ())) := by
  rw [trig_reader_cond_l14_eq, take_bad]
  rfl

theorem tcond_bad (l e : List TToken) : trig_reader_cond (bad l e) = some (((strB [], 0, 0, 0, 0), ()), (bad l e, ())) := rfl

theorem cond14_rd {l q : List TToken} (c : Ctx l) (h : q <:+ l) (a : TCond) (n : ByteArray) (k f op z : Int) : Out l (trig_reader_cond_l14 (rd l q) a (n, k, f, op, z)) (andP (pNeed 2 [] q) fun v q => .ok ((n, k, f, op, v.2.2.1), q)) := by
  rw [trig_reader_cond_l14_eq]
  cases hp : pNeed 2 [] q with
  | ok p =>
    obtain ⟨t, r⟩ := p
    rw [rtake_ok c h hp]
    rfl
  | error e =>
    rw [rtake_err c h hp]
    exact ⟨_, rfl⟩

theorem rest_rd {l q : List TToken} (c : Ctx l) (h : q <:+ l) (n : ByteArray) (k : Nat) : Out l ((trig_reader_word fieldTab (rd l q)).bind fun y6 =>
                if (decide (y6.1.1 < 0)) = true then
                  some (((n, (k : Int), 0, 0, 0), ()), (y6.2.1, ()))
                else
                  (trig_reader_next 4 (strB [61]) y6.2.1).bind fun y7 =>
                    if y7.1.1 = true then
                      trig_reader_cond_l14 y7.2.1 ((strB []), 0, 0, 0, 0) (n, (k : Int), IntKind.i64.wrap (y6.1.1 + 1), 1, 0)
                    else
                      (trig_reader_next 4 (strB [60]) y7.2.1).bind fun y8 =>
                        if y8.1.1 = true then
                          trig_reader_cond_l14 y8.2.1 ((strB []), 0, 0, 0, 0) (n, (k : Int), IntKind.i64.wrap (y6.1.1 + 1), 3, 0)
                        else
                          (trig_reader_next 4 (strB [62]) y8.2.1).bind fun y9 =>
                            if y9.1.1 = true then
                              trig_reader_cond_l14 y9.2.1 ((strB []), 0, 0, 0, 0) (n, (k : Int), IntKind.i64.wrap (y6.1.1 + 1), 4, 0)
                            else
                              (trig_reader_next 4 (strB [38]) y9.2.1).bind fun y10 =>
                                if y10.1.1 = true then
                                  trig_reader_cond_l14 y10.2.1 ((strB []), 0, 0, 0, 0) (n, (k : Int), IntKind.i64.wrap (y6.1.1 + 1), 5, 0)
                                else
                                  (trig_reader_want 4 (strB [33]) y10.2.1).bind fun y11 =>
                                    (trig_reader_want 4 (strB [61]) y11.2.1).bind fun y12 =>
                                      trig_reader_cond_l14 y12.2.1 ((strB []), 0, 0, 0, 0) (n, (k : Int), IntKind.i64.wrap (y6.1.1 + 1), 2, 0)) (pRest n k q) := by
  rw [word_rd c h fieldTab (by decide)]
  unfold pRest
  cases hf : among fieldTab q with
  | none => rfl
  | some j =>
    obtain ⟨t, r, rfl⟩ := among_cons hf
    have hr : r <:+ l := (List.suffix_cons t r).trans h
    simp only [Option.bind_some, List.tail_cons]
    have hj : j < 6 := by
      have hv : among fieldTab (t :: r) = if t.1 = 1 then fieldTab.findIdx? (fun b => L b == L t.2.1) else none := rfl
      rw [hv] at hf
      by_cases ht : t.1 = 1
      · rw [if_pos ht] at hf
        obtain ⟨hlt, _⟩ := List.findIdx?_eq_some_iff_getElem.1 hf
        exact hlt
      · rw [if_neg ht] at hf
        cases hf
    refine Eq.subst (motive := fun o => Out l o _) (if_neg (dF (by omega))).symm ?_
    rw [w64a j (by omega)]
    unfold pOp
    rw [next_rd c hr 4 (strB [61]) (L_strB _) rfl]
    by_cases h1 : hdT 4 [61] r = true
    · rw [if_pos h1, if_pos h1]
      exact cond14_rd c ((List.tail_suffix r).trans hr) _ _ _ _ _ _
    rw [if_neg h1, if_neg h1]
    simp only [Option.bind_some]
    refine Eq.subst (motive := fun o => Out l o _) (if_neg (by simp)).symm ?_
    rw [next_rd c hr 4 (strB [60]) (L_strB _) rfl]
    by_cases h2 : hdT 4 [60] r = true
    · rw [if_pos h2, if_pos h2]
      exact cond14_rd c ((List.tail_suffix r).trans hr) _ _ _ _ _ _
    rw [if_neg h2, if_neg h2]
    simp only [Option.bind_some]
    refine Eq.subst (motive := fun o => Out l o _) (if_neg (by simp)).symm ?_
    rw [next_rd c hr 4 (strB [62]) (L_strB _) rfl]
    by_cases h3 : hdT 4 [62] r = true
    · rw [if_pos h3, if_pos h3]
      exact cond14_rd c ((List.tail_suffix r).trans hr) _ _ _ _ _ _
    rw [if_neg h3, if_neg h3]
    simp only [Option.bind_some]
    refine Eq.subst (motive := fun o => Out l o _) (if_neg (by simp)).symm ?_
    rw [next_rd c hr 4 (strB [38]) (L_strB _) rfl]
    by_cases h4 : hdT 4 [38] r = true
    · rw [if_pos h4, if_pos h4]
      exact cond14_rd c ((List.tail_suffix r).trans hr) _ _ _ _ _ _
    rw [if_neg h4, if_neg h4]
    simp only [Option.bind_some]
    refine Eq.subst (motive := fun o => Out l o _) (if_neg (by simp)).symm ?_
    cases h5 : pNeed 4 [33] r with
    | error e =>
      rw [want_err c hr (L_strB _) rfl h5]
      simp only [Option.bind_some]
      rw [want_bad]
      simp only [Option.bind_some]
      rw [cond14_bad]
      exact ⟨_, rfl⟩
    | ok p =>
      obtain ⟨t5, q5⟩ := p
      have g5 := sufk hr (goes_need 4 [33] r) h5
      rw [want_ok c hr (L_strB _) rfl h5]
      simp only [Option.bind_some, andP_ok']
      cases h6 : pNeed 4 [61] q5 with
      | error e =>
        rw [want_err c g5 (L_strB _) rfl h6]
        simp only [Option.bind_some]
        rw [cond14_bad]
        exact ⟨_, rfl⟩
      | ok p =>
        obtain ⟨t6, q6⟩ := p
        have g6 := sufk g5 (goes_need 4 [61] q5) h6
        rw [want_ok c g5 (L_strB _) rfl h6]
        simp only [Option.bind_some, andP_ok']
        exact cond14_rd c g6 _ _ _ _ _ _

theorem tcond_rd {l q : List TToken} (c : Ctx l) (h : q <:+ l) : Out l (trig_reader_cond (rd l q)) (pCond q) := by
  unfold trig_reader_cond pCond
  cases h1 : pNeed 1 [] q with
  | error e =>
    rw [rtake_err c h h1]
    simp only [Option.bind_some]
    rw [want_bad]
    simp only [Option.bind_some]
    rw [kinds_b]
    simp only [Option.bind_some]
    rw [word_bad]
    exact ⟨_, rfl⟩
  | ok p =>
    obtain ⟨t1, q1⟩ := p
    have g1 := sufk h (goes_need 1 [] q) h1
    rw [rtake_ok c h h1]
    simp only [Option.bind_some, andP_ok']
    cases h2 : pNeed 4 [46] q1 with
    | error e =>
      rw [want_err c g1 (L_strB _) rfl h2]
      simp only [Option.bind_some]
      rw [kinds_b]
      simp only [Option.bind_some]
      rw [word_bad]
      exact ⟨_, rfl⟩
    | ok p =>
      obtain ⟨t2, q2⟩ := p
      have g2 := sufk g1 (goes_need 4 [46] q1) h2
      rw [want_ok c g1 (L_strB _) rfl h2]
      simp only [Option.bind_some, andP_ok']
      rw [kinds_b]
      simp only [Option.bind_some]
      rw [word_rd c g2 kindTab (by decide)]
      unfold pAmong
      cases hf : among kindTab q2 with
      | none =>
        simp only [Option.bind_some]
        exact ⟨_, rfl⟩
      | some j =>
        simp only [Option.bind_some, andP_ok']
        refine Eq.subst (motive := fun o => Out l o _) (if_neg (dF (by omega))).symm ?_
        rw [fields_b]
        simp only [Option.bind_some]
        exact rest_rd c ((List.tail_suffix q2).trans g2) t1.2.1 j

/-! ### the parts of a step -/
inductive Pt where
  | t (n : Int) | w (n : Int) | u (c : CondT)
def Pt.val : Pt → Value
  | .t n => Value.iface 102 (Value.int .i64 n)
  | .w n => Value.iface 103 (Value.int .i64 n)
  | .u c => Value.iface 104 (Value.agg ⟨[Value.string c.1, Value.int .i64 c.2.1, Value.int .i64 c.2.2.1, Value.int .i64 c.2.2.2.1, Value.int .i64 c.2.2.2.2]⟩)
def Pt.app (s : StepT) : Pt → StepT
  | .t n => (s.1, n, s.2.2)
  | .w n => (s.1, s.2.1, n, s.2.2.2)
  | .u c => (s.1, s.2.1, s.2.2.1, true, c)

theorem as_t (p : Pt) : asT 102 false (.int .i64) p.val = some (match p with | .t n => some n | _ => none) := by cases p <;> rfl
theorem as_w (p : Pt) : asT 103 false (.int .i64) p.val = some (match p with | .w n => some n | _ => none) := by cases p <;> rfl
theorem as_u (p : Pt) : asT 104 true uCond p.val = some (match p with | .u c => some c | _ => none) := by cases p <;> rfl

theorem step_loop (l0 : List Pt) (hl : l0.length ≤ 1000) (h0 : Treader) (h1 : TTrigStep) : ∀ (r : List Pt) (k : Nat) (x : TTrigStep), l0.drop k = r → trig_reader_step_l4 (l0.map Pt.val) ((l0.map Pt.val).length : Int) k h0 h1 x = some ((r.foldl Pt.app x, ()), (h0, ()))
  | [], k, x, h => by
    have h2 := drop_nil h
    rw [trig_reader_step_l4_eq, List.length_map, if_neg (dF (by omega))]
    rfl
  | p :: r, k, x, h => by
    have h2 := drop_lt h
    have hg : (l0.map Pt.val).getD (k : Int).toNat Value.nilIface = p.val := by
      have : (l0.map Pt.val).drop k = p.val :: r.map Pt.val := by rw [← List.map_drop, h]; rfl
      exact getD_drop this
    have ih := fun x => step_loop l0 hl h0 h1 r (k + 1) x (dropS h)
    rw [trig_reader_step_l4_eq, if_pos (dT (by rw [List.length_map]; omega)), if_pos ⟨by omega, by rw [List.length_map]; omega⟩, hg, as_t, as_w, as_u, w64a k (by omega)]
    cases p with
    | t n => exact ih _
    | w n => exact ih _
    | u c => exact ih _

def pPart (w : List UInt8) (f : List TokT → PR Pt) (q : List TokT) : PR (List Pt) := if hdT 1 w q = true then andP (f q.tail) fun p q => .ok ([p], q) else .ok ([], q)
def pTn (q : List TokT) : PR Pt := andP (pNeed 2 [] q) fun t q => .ok (.t t.2.2.1, q)
def pWn (q : List TokT) : PR Pt := andP (pNeed 2 [] q) fun t q => .ok (.w t.2.2.1, q)
def pUn (q : List TokT) : PR Pt := andP (pCond q) fun c q => .ok (.u c, q)
def pPartsU (acc : List Pt) (q : List TokT) : PR (List Pt) := andP (pPart (L sUnless) pUn q) fun c q => .ok (acc ++ c, q)
def pPartsW (acc : List Pt) (q : List TokT) : PR (List Pt) := andP (pPart (L sWithin) pWn q) fun b q => pPartsU (acc ++ b) q
def pParts (q : List TokT) : PR (List Pt) := andP (pPart (L sX) pTn q) fun a q => pPartsW a q

def OutP (l : List TToken) (o : Option (((List Value) × Unit) × (Treader × Unit))) : PR (List Pt) → Prop
  | .ok (a, q) => o = some ((a.map Pt.val, ()), (rd l q, ())) ∧ a.length ≤ 3
  | .error e => ∃ z : List Pt, o = some ((z.map Pt.val, ()), (bad l e, ())) ∧ z.length ≤ 3

theorem partsU_rd {l q : List TToken} (c : Ctx l) (h : q <:+ l) (acc : List Pt) (ha : acc.length ≤ 2) : OutP l (trig_reader_parts_l4 (rd l q) (acc.map Pt.val)) (pPartsU acc q) := by
  rw [trig_reader_parts_l4_eq, next_rd c h 1 (strB [117, 110, 108, 101, 115, 115]) (x := L sUnless) rfl rfl]
  unfold pPartsU pPart
  by_cases h1 : hdT 1 (L sUnless) q = true
  · rw [if_pos h1, if_pos h1]
    have ht := tcond_rd c ((List.tail_suffix q).trans h)
    simp only [Option.bind_some, if_true]
    unfold pUn
    cases hp : pCond q.tail with
    | ok p =>
      obtain ⟨x, q1⟩ := p
      rw [hp] at ht
      rw [show trig_reader_cond (rd l q.tail) = some ((x, ()), (rd l q1, ())) from ht]
      simp only [Option.bind_some, andP_ok']
      rw [if_pos ⟨by rw [List.length_map]; omega, by decide⟩]
      exact ⟨by rw [List.map_append]; rfl, by rw [List.length_append]; simp only [List.length_cons, List.length_nil]; omega⟩
    | error e =>
      rw [hp] at ht
      obtain ⟨z, hz⟩ := ht
      rw [hz]
      simp only [Option.bind_some]
      rw [if_pos ⟨by rw [List.length_map]; omega, by decide⟩]
      exact ⟨acc ++ [.u z], by rw [List.map_append]; rfl, by rw [List.length_append]; simp only [List.length_cons, List.length_nil]; omega⟩
  · rw [if_neg h1, if_neg h1]
    simp only [Option.bind_some, andP_ok', List.append_nil]
    exact ⟨if_neg (by simp), by omega⟩

theorem partsU_bad (l e : List TToken) (acc : List Pt) : trig_reader_parts_l4 (bad l e) (acc.map Pt.val) = some ((acc.map Pt.val, ()), (bad l e, ())) := by
  rw [trig_reader_parts_l4_eq, next_bad]
  rfl
theorem partsW_bad (l e : List TToken) (acc : List Pt) : trig_reader_parts_l2 (bad l e) (acc.map Pt.val) = some ((acc.map Pt.val, ()), (bad l e, ())) := by
  rw [trig_reader_parts_l2_eq, next_bad]
  simp only [Option.bind_some]
  refine (if_neg (by simp)).trans ?_
  exact partsU_bad l e acc
theorem parts_bad (l e : List TToken) : trig_reader_parts (bad l e) = some (([], ()), (bad l e, ())) := by
  unfold trig_reader_parts
  rw [next_bad]
  simp only [Option.bind_some]
  refine (if_neg (by simp)).trans ?_
  exact partsW_bad l e []

theorem partsW_rd {l q : List TToken} (c : Ctx l) (h : q <:+ l) (acc : List Pt) (ha : acc.length ≤ 1) : OutP l (trig_reader_parts_l2 (rd l q) (acc.map Pt.val)) (pPartsW acc q) := by
  rw [trig_reader_parts_l2_eq, next_rd c h 1 (strB [119, 105, 116, 104, 105, 110]) (x := L sWithin) rfl rfl]
  unfold pPartsW pPart
  by_cases h1 : hdT 1 (L sWithin) q = true
  · rw [if_pos h1, if_pos h1]
    have ht := (List.tail_suffix q).trans h
    simp only [Option.bind_some, if_true]
    unfold pWn
    cases hp : pNeed 2 [] q.tail with
    | ok p =>
      obtain ⟨x, q1⟩ := p
      rw [rtake_ok c ht hp]
      simp only [Option.bind_some, andP_ok']
      rw [if_pos ⟨by rw [List.length_map]; omega, by decide⟩]
      have := partsU_rd c (sufk ht (goes_need 2 [] q.tail) hp) (acc ++ [.w x.2.2.1]) (by rw [List.length_append]; simp only [List.length_cons, List.length_nil]; omega)
      rw [List.map_append] at this
      exact this
    | error e =>
      rw [rtake_err c ht hp]
      simp only [Option.bind_some]
      rw [if_pos ⟨by rw [List.length_map]; omega, by decide⟩]
      refine ⟨acc ++ [.w 0], ?_, by rw [List.length_append]; simp only [List.length_cons, List.length_nil]; omega⟩
      have := partsU_bad l e (acc ++ [.w 0])
      rw [List.map_append] at this ⊢
      exact this
  · rw [if_neg h1, if_neg h1]
    simp only [Option.bind_some, andP_ok', List.append_nil]
    refine Eq.subst (motive := fun o => OutP l o _) (if_neg (by simp)).symm ?_
    exact partsU_rd c h acc (by omega)

theorem parts_rd {l q : List TToken} (c : Ctx l) (h : q <:+ l) : OutP l (trig_reader_parts (rd l q)) (pParts q) := by
  unfold trig_reader_parts pParts pPart
  rw [next_rd c h 1 (strB [120]) (x := L sX) rfl rfl]
  by_cases h1 : hdT 1 (L sX) q = true
  · rw [if_pos h1, if_pos h1]
    have ht := (List.tail_suffix q).trans h
    simp only [Option.bind_some, if_true]
    unfold pTn
    cases hp : pNeed 2 [] q.tail with
    | ok p =>
      obtain ⟨x, q1⟩ := p
      rw [rtake_ok c ht hp]
      simp only [Option.bind_some, andP_ok']
      exact partsW_rd c (sufk ht (goes_need 2 [] q.tail) hp) [.t x.2.2.1] (by simp)
    | error e =>
      rw [rtake_err c ht hp]
      simp only [Option.bind_some]
      exact ⟨[.t 0], partsW_bad l e [.t 0], by simp⟩
  · rw [if_neg h1, if_neg h1]
    simp only [Option.bind_some, andP_ok']
    refine Eq.subst (motive := fun o => OutP l o _) (if_neg (by simp)).symm ?_
    exact partsW_rd c h [] (by simp)

theorem pStep_eq (q : List TokT) : pStep q = andP (pCond q) fun c q => andP (pParts q) fun ps q => .ok (ps.foldl Pt.app (c, 1, 0, false, noCond), q) := by
  unfold pStep pParts pPartsW pPartsU pPart pNum pUnless pTn pWn pUn
  cases pCond q with
  | error e => rfl
  | ok p =>
    obtain ⟨c, q1⟩ := p
    simp only [andP_ok']
    by_cases h1 : hdT 1 (L sX) q1 = true
    · rw [if_pos h1, if_pos h1]
      cases pNeed 2 [] q1.tail with
      | error e => rfl
      | ok p =>
        obtain ⟨t1, q2⟩ := p
        simp only [andP_ok']
        by_cases h2 : hdT 1 (L sWithin) q2 = true
        · rw [if_pos h2, if_pos h2]
          cases pNeed 2 [] q2.tail with
          | error e => rfl
          | ok p =>
            obtain ⟨t2, q3⟩ := p
            simp only [andP_ok']
            by_cases h3 : hdT 1 (L sUnless) q3 = true
            · rw [if_pos h3, if_pos h3]
              cases pCond q3.tail with
              | error e => rfl
              | ok p => rfl
            · rw [if_neg h3, if_neg h3]
              rfl
        · rw [if_neg h2, if_neg h2]
          simp only [andP_ok']
          by_cases h3 : hdT 1 (L sUnless) q2 = true
          · rw [if_pos h3, if_pos h3]
            cases pCond q2.tail with
            | error e => rfl
            | ok p => rfl
          · rw [if_neg h3, if_neg h3]
            rfl
    · rw [if_neg h1, if_neg h1]
      simp only [andP_ok']
      by_cases h2 : hdT 1 (L sWithin) q1 = true
      · rw [if_pos h2, if_pos h2]
        cases pNeed 2 [] q1.tail with
        | error e => rfl
        | ok p =>
          obtain ⟨t2, q3⟩ := p
          simp only [andP_ok']
          by_cases h3 : hdT 1 (L sUnless) q3 = true
          · rw [if_pos h3, if_pos h3]
            cases pCond q3.tail with
            | error e => rfl
            | ok p => rfl
          · rw [if_neg h3, if_neg h3]
            rfl
      · rw [if_neg h2, if_neg h2]
        simp only [andP_ok']
        by_cases h3 : hdT 1 (L sUnless) q1 = true
        · rw [if_pos h3, if_pos h3]
          cases pCond q1.tail with
          | error e => rfl
          | ok p => rfl
        · rw [if_neg h3, if_neg h3]
          rfl

theorem step_bad (l e : List TToken) : ∃ z, trig_reader_step (bad l e) = some ((z, ()), (bad l e, ())) := by
  unfold trig_reader_step
  rw [tcond_bad]
  simp only [Option.bind_some]
  rw [parts_bad]
  simp only [Option.bind_some]
  exact ⟨_, step_loop [] (by simp) _ _ [] 0 _ rfl⟩

theorem tstep_rd {l q : List TToken} (c : Ctx l) (h : q <:+ l) : Out l (trig_reader_step (rd l q)) (pStep q) := by
  rw [pStep_eq]
  unfold trig_reader_step
  have ho := tcond_rd c h
  cases hp : pCond q with
  | error e =>
    rw [hp] at ho
    obtain ⟨z, hz⟩ := ho
    rw [hz]
    simp only [Option.bind_some]
    rw [parts_bad]
    simp only [Option.bind_some]
    exact ⟨_, step_loop [] (by simp) _ _ [] 0 _ rfl⟩
  | ok p =>
    obtain ⟨x, q1⟩ := p
    rw [hp] at ho
    have g1 := sufk h (goes_cond q) hp
    rw [show trig_reader_cond (rd l q) = some ((x, ()), (rd l q1, ())) from ho]
    simp only [Option.bind_some, andP_ok']
    have hq := parts_rd c g1
    cases hp2 : pParts q1 with
    | error e =>
      rw [hp2] at hq
      obtain ⟨z, hz, hl⟩ := hq
      rw [hz]
      simp only [Option.bind_some]
      exact ⟨_, step_loop z (by omega) _ _ z 0 _ rfl⟩
    | ok p =>
      obtain ⟨ps, q2⟩ := p
      rw [hp2] at hq
      obtain ⟨hz, hl⟩ := hq
      rw [hz]
      simp only [Option.bind_some, andP_ok']
      exact step_loop ps (by omega) _ _ ps 0 _ rfl

/-! ### triggers -/
theorem end_bad {l e : List TToken} (c : Ctx l) (h : e <:+ l) : (if ((l.length : Int) == 0) = true then
        some ((((strB [], []) : TTrigger), (1 : Int), (4 : Int), ()), ())
      else
        if (decide (ixn l e ≥ (l.length : Int))) = true then
          if 0 ≤ IntKind.i64.wrap ((l.length : Int) - 1) ∧ IntKind.i64.wrap ((l.length : Int) - 1) < (l.length : Int) then
            some ((((strB []), []), (l.getD (IntKind.i64.wrap ((l.length : Int) - 1)).toNat dToken).2.2.2, 4, ()), ())
          else
            none
        else
          if 0 ≤ ixn l e ∧ ixn l e < (l.length : Int) then
            some ((((strB []), []), (l.getD (ixn l e).toNat dToken).2.2.2, 4, ()), ())
          else
            none) = some (((strB [], []), lineV l e, 4, ()), ()) := by
  have hl := c.len
  cases e with
  | nil =>
    by_cases h0 : l.length = 0
    · have : l = [] := List.length_eq_zero_iff.1 h0
      subst this
      rfl
    · have e1 : IntKind.i64.wrap ((l.length : Int) - 1) = ((l.length - 1 : Nat) : Int) := by rw [w64 (by omega) (by omega)]; omega
      rw [if_neg (eF (by omega)), if_pos (dT (by rw [ixn_nil]; omega)), e1, if_pos ⟨by omega, by omega⟩, Int.toNat_natCast, getD_in dToken (by omega)]
      unfold lineV
      have : l.getLast? = some l[l.length - 1] := by rw [List.getLast?_eq_getElem?, List.getElem?_eq_getElem (by omega)]
      rw [this]
  | cons t r =>
    obtain ⟨h1, h2, h3⟩ := at_cons h
    have hin := ixn_in h
    rw [if_neg (eF (by omega)), if_neg (dF (by omega)), if_pos hin, h2]
    rfl

theorem l11_bad {l e : List TToken} (c : Ctx l) (h : e <:+ l) (a n : ByteArray) (x acc : List TTrigStep) : trig_Parse_l11 l a (bad l e) n x acc = some (((strB [], []), lineV l e, 4, ()), ()) := by
  rw [trig_Parse_l11_eq]
  refine (if_neg (by show ¬ (!true) = true; simp)).trans ?_
  refine (if_pos rfl).trans ?_
  exact end_bad c h

def OutT (o : Option ((TTrigger × Int × Int × Unit) × Unit)) (l : List TToken) (n : ByteArray) : PR (List StepT) → Prop
  | .ok (ss, _) => o = some ((if wrongE (n, ss) = 0 then ((n, ss), 0, 0, ()) else ((strB [], []), 0, wrongE (n, ss), ())), ())
  | .error e => o = some (((strB [], []), lineV l e, 4, ()), ())

theorem l11_rd {l : List TToken} (c : Ctx l) (a n : ByteArray) (x : List TTrigStep) : ∀ (k : Nat) (acc : List TTrigStep) (q : List TToken), q <:+ l → q.length ≤ k → acc.length + k ≤ 1048577 →
    OutT (trig_Parse_l11 l a (rd l q) n x acc) l n (pSteps k acc q) := by
  have endk : ∀ (acc : List TTrigStep), acc.length ≤ 1048577 → trig_Parse_l11 l a (rd l []) n x acc = some ((if wrongE (n, acc) = 0 then ((n, acc), 0, 0, ()) else ((strB [], []), 0, wrongE (n, acc), ())), ()) := fun acc ha => by
    rw [trig_Parse_l11_eq]
    refine (if_pos (by show (!false) = true; rfl)).trans ?_
    refine (if_neg (dF (by show ¬ ixn l [] < (l.length : Int); rw [ixn_nil]; omega))).trans ?_
    refine (if_neg (by show ¬ false = true; simp)).trans ?_
    rw [wrong_eq' (n, acc) ha]
    simp only [Option.bind_some]
    by_cases he : wrongE (n, acc) = 0
    · rw [if_neg (nF he), if_pos he]
    · rw [if_pos (nT he), if_neg he]
  intro k
  induction k with
  | zero =>
    intro acc q h hk hb
    have : q = [] := List.length_eq_zero_iff.1 (by omega)
    subst this
    exact endk acc (by omega)
  | succ k ih =>
    intro acc q h hk hb
    unfold pSteps
    cases q with
    | nil =>
      rw [if_pos rfl]
      exact endk acc (by omega)
    | cons t r =>
      rw [if_neg (by simp), trig_Parse_l11_eq]
      have hin := ixn_in h
      refine Eq.subst (motive := fun o => OutT o l n _) (if_pos (by show (!false) = true; rfl)).symm ?_
      refine Eq.subst (motive := fun o => OutT o l n _) (if_pos (dT (by show ixn l (t :: r) < (l.length : Int); omega))).symm ?_
      cases h1 : pNeed 4 [59] (t :: r) with
      | error e =>
        have he := sufe h (goes_need 4 [59] (t :: r)) h1
        rw [want_err c h (L_strB _) rfl h1]
        simp only [Option.bind_some]
        obtain ⟨z, hz⟩ := step_bad l e
        rw [hz]
        simp only [Option.bind_some]
        rw [if_pos ⟨by omega, by decide⟩]
        exact l11_bad c he _ _ _ _
      | ok p =>
        obtain ⟨t1, q1⟩ := p
        have g1 := sufk h (goes_need 4 [59] (t :: r)) h1
        have o1 := okLen (goes_need 4 [59] (t :: r)) h1
        rw [want_ok c h (L_strB _) rfl h1]
        simp only [Option.bind_some, andP_ok']
        have ho := tstep_rd c g1
        cases h2 : pStep q1 with
        | error e =>
          have he := sufe g1 (goes_step q1) h2
          rw [h2] at ho
          obtain ⟨z, hz⟩ := ho
          rw [hz]
          simp only [Option.bind_some]
          rw [if_pos ⟨by omega, by decide⟩]
          exact l11_bad c he _ _ _ _
        | ok p =>
          obtain ⟨s, q2⟩ := p
          have g2 := sufk g1 (goes_step q1) h2
          have o2 := okLen (goes_step q1) h2
          rw [h2] at ho
          rw [show trig_reader_step (rd l q1) = some ((s, ()), (rd l q2, ())) from ho]
          simp only [Option.bind_some, andP_ok']
          rw [if_pos ⟨by omega, by decide⟩]
          exact ih (acc ++ [s]) q2 g2 (by omega) (by rw [List.length_append]; simp only [List.length_cons, List.length_nil]; omega)

def OutTT (o : Option ((TTrigger × Int × Int × Unit) × Unit)) (l : List TToken) : PR TrigT → Prop
  | .ok (t, _) => o = some ((if wrongE t = 0 then (t, 0, 0, ()) else ((strB [], []), 0, wrongE t, ())), ())
  | .error e => o = some (((strB [], []), lineV l e, 4, ()), ())

theorem outT_of {o : Option ((TTrigger × Int × Int × Unit) × Unit)} {l : List TToken} {n : ByteArray} {x : PR (List StepT)} (h : OutT o l n x) : OutTT o l (andP x fun ss q => .ok ((n, ss), q)) := by
  cases x with
  | error e => exact h
  | ok p => exact h

theorem tparse_l {l : List TToken} (c : Ctx l) : OutTT ((trig_reader_want 1 (strB [116, 114, 105, 103, 103, 101, 114]) (l, 0, false)).bind fun y2 =>
        (trig_reader_take 1 y2.2.1).bind fun y3 =>
          (trig_reader_want 4 (strB [58]) y3.2.1).bind fun y4 =>
            (trig_reader_step y4.2.1).bind fun y5 =>
              trig_Parse_l11 l (strB []) y5.2.1 y3.1.1.2.1 [] [y5.1.1]) l (pTrig l) := by
  have e0 : ((l, 0, false) : Treader) = rd l l := by unfold rd ixn; simp
  have h0 : l <:+ l := List.suffix_refl l
  have fin : ∀ {e : List TToken}, e <:+ l → ∀ (n : ByteArray), ((trig_reader_step (bad l e)).bind fun y5 => trig_Parse_l11 l (strB []) y5.2.1 n [] [y5.1.1]) = some (((strB [], []), lineV l e, 4, ()), ()) := fun he n => by
    obtain ⟨z, hz⟩ := step_bad l _
    rw [hz]
    simp only [Option.bind_some]
    exact l11_bad c he _ _ _ _
  rw [e0]
  unfold pTrig
  cases h1 : pNeed 1 (L sTrigger) l with
  | error e =>
    have he := sufe h0 (goes_need 1 (L sTrigger) l) h1
    rw [want_err c h0 (text := strB [116, 114, 105, 103, 103, 101, 114]) rfl rfl h1]
    simp only [Option.bind_some]
    rw [take_bad]
    simp only [Option.bind_some]
    rw [want_bad]
    simp only [Option.bind_some]
    exact fin he _
  | ok p =>
    obtain ⟨t1, q1⟩ := p
    have g1 := sufk h0 (goes_need 1 (L sTrigger) l) h1
    rw [want_ok c h0 (text := strB [116, 114, 105, 103, 103, 101, 114]) rfl rfl h1]
    simp only [Option.bind_some, andP_ok']
    cases h2 : pNeed 1 [] q1 with
    | error e =>
      have he := sufe g1 (goes_need 1 [] q1) h2
      rw [rtake_err c g1 h2]
      simp only [Option.bind_some]
      rw [want_bad]
      simp only [Option.bind_some]
      exact fin he _
    | ok p =>
      obtain ⟨t2, q2⟩ := p
      have g2 := sufk g1 (goes_need 1 [] q1) h2
      rw [rtake_ok c g1 h2]
      simp only [Option.bind_some, andP_ok']
      cases h3 : pNeed 4 [58] q2 with
      | error e =>
        have he := sufe g2 (goes_need 4 [58] q2) h3
        rw [want_err c g2 (L_strB _) rfl h3]
        simp only [Option.bind_some]
        exact fin he _
      | ok p =>
        obtain ⟨t3, q3⟩ := p
        have g3 := sufk g2 (goes_need 4 [58] q2) h3
        rw [want_ok c g2 (L_strB _) rfl h3]
        simp only [Option.bind_some, andP_ok']
        have ho := tstep_rd c g3
        cases h4 : pStep q3 with
        | error e =>
          have he := sufe g3 (goes_step q3) h4
          rw [h4] at ho
          obtain ⟨z, hz⟩ := ho
          rw [hz]
          simp only [Option.bind_some]
          exact l11_bad c he _ _ _ _
        | ok p =>
          obtain ⟨s, q4⟩ := p
          have g4 := sufk g3 (goes_step q3) h4
          rw [h4] at ho
          rw [show trig_reader_step (rd l q3) = some ((s, ()), (rd l q4, ())) from ho]
          simp only [Option.bind_some, andP_ok']
          have := g4.length_le
          have := c.len
          exact outT_of (l11_rd c _ _ _ q4.length [s] q4 g4 (Nat.le_refl _) (by simp only [List.length_cons, List.length_nil]; omega))

theorem tparse_b (s : ByteArray) : trig_Parse s = some (((parseT (L s)).1, (parseT (L s)).2.1, (parseT (L s)).2.2, ()), ()) := by
  unfold trig_Parse parseT
  have hlen := tokOut_length s
  rw [lex_Tokens_b]
  simp only [Option.bind_some]
  cases h : tokV (L s) with
  | error e =>
    simp only [tokOut]
    by_cases he : e.2 = 0
    · exact absurd he (tokV_err h)
    · refine (if_pos (nT he)).trans ?_
      rfl
  | ok l =>
    rw [h] at hlen
    simp only [tokOut, List.nil_append] at hlen ⊢
    refine (if_neg (nF rfl)).trans ?_
    have c : Ctx l := ⟨hlen, tokV_good h⟩
    have ho := tparse_l c
    cases ha : pTrig l with
    | error e =>
      rw [ha] at ho
      exact ho
    | ok d =>
      obtain ⟨t, q⟩ := d
      rw [ha] at ho
      refine Eq.trans ho ?_
      simp only
      split <;> rfl

end Go.Proofs.YtgpgpelaabdkhaaDoor
end

section
/-
YtgpgpelaabdkhaaDoor: the bounds of the laws of triggers, equal triggers, the chapter's examples, as plain functions. No condition.
-/
set_option maxRecDepth 100000
set_option linter.unusedVariables false
open Go Go.AM
namespace Go.Proofs.YtgpgpelaabdkhaaDoor

theorem brief43_b (s : ByteArray) : law43_brief s = some ((decide ((s.size : Int) ≤ 20), ()), ()) := rfl

theorem tsmall_loop (t : TTrigger) (hl : t.2.length ≤ 1048576) : ∀ (r : List TTrigStep) (k : Nat), t.2.drop k = r → ∃ b, law43_small_l6 k t = some ((b, ()), ())
  | [], k, h => by
    have h1 := drop_nil h
    rw [law43_small_l6_eq, if_neg (dF (by omega))]
    exact ⟨_, rfl⟩
  | s :: r, k, h => by
    have h1 := drop_lt h
    rw [law43_small_l6_eq, if_pos (dT (by omega)), if_pos ⟨by omega, by omega⟩, brief43_b, brief43_b, w64a k (by omega)]
    simp only [Option.bind_some]
    split
    · exact ⟨_, rfl⟩
    · rw [if_pos ⟨by omega, by omega⟩]
      split
      · exact ⟨_, rfl⟩
      · exact tsmall_loop t hl r (k + 1) (dropS h)

theorem tsmall_ex (t : TTrigger) (hl : t.2.length ≤ 1048576) : ∃ b, law43_small t = some ((b, ()), ()) := by
  unfold law43_small
  rw [brief43_b]
  simp only [Option.bind_some]
  split
  · exact ⟨_, rfl⟩
  · split
    · exact ⟨_, rfl⟩
    · exact tsmall_loop t hl t.2 0 rfl

theorem few_loop (st : TStack) (hl : st.2.length ≤ 1048576) : ∀ (r : List TNode) (k : Nat), st.2.drop k = r → ∃ b, law43_few_l6 k st = some ((b, ()), ())
  | [], k, h => by
    have h1 := drop_nil h
    rw [law43_few_l6_eq, if_neg (dF (by omega))]
    exact ⟨_, rfl⟩
  | s :: r, k, h => by
    have h1 := drop_lt h
    have c1 : 0 ≤ (k : Int) ∧ (k : Int) < (st.2.length : Int) := ⟨by omega, by omega⟩
    rw [law43_few_l6_eq, if_pos (dT (by omega)), if_pos c1, brief43_b, brief43_b, w64a k (by omega)]
    simp only [Option.bind_some]
    split
    · exact ⟨_, rfl⟩
    split
    · exact ⟨_, rfl⟩
    split
    · exact ⟨_, rfl⟩
    split
    · exact ⟨_, rfl⟩
    · exact few_loop st hl r (k + 1) (dropS h)

theorem few_ex (st : TStack) (hl : st.2.length ≤ 1048576) : ∃ b, law43_few st = some ((b, ()), ()) := by
  unfold law43_few
  split
  · exact ⟨_, rfl⟩
  · split
    · exact ⟨_, rfl⟩
    · exact few_loop st hl st.2 0 rfl

theorem sameT_loop (t : TTrigger) (hl : t.2.length ≤ 1048576) : ∀ (r : List TTrigStep) (k : Nat), t.2.drop k = r → ref43_Same_l6 k t t = some ((true, ()), ())
  | [], k, h => by
    have h1 := drop_nil h
    rw [ref43_Same_l6_eq, if_neg (dF (by omega))]
  | s :: r, k, h => by
    have h1 := drop_lt h
    have c1 : 0 ≤ (k : Int) ∧ (k : Int) < (t.2.length : Int) := ⟨by omega, by omega⟩
    rw [ref43_Same_l6_eq, if_pos (dT (by omega)), if_pos c1, if_pos c1, (eqU_iff uTrigStep rfl _ _).2 rfl, if_neg (by simp), w64a k (by omega)]
    exact sameT_loop t hl r (k + 1) (dropS h)

theorem sameT_refl (t : TTrigger) (hl : t.2.length ≤ 1048576) : ref43_Same t t = some ((true, ()), ()) := by
  unfold ref43_Same
  rw [if_neg (by simp), if_neg (nF rfl)]
  exact sameT_loop t hl t.2 0 rfl

def exT : TTrigger := ((strB [116]), [(((strB [117]), 3, 1, 1, 85), 2, 100, false, (strB []), 0, 0, 0, 0)])
theorem wrong_ex : wrongE exT = 0 := by kernel_rfl
def exS : List UInt8 := [116, 114, 105, 103, 103, 101, 114, 32, 116, 32, 58, 32, 117, 32, 46, 32, 98, 121, 116, 101, 32, 118, 97, 108, 117, 101, 32, 61, 32, 56, 53, 32, 120, 32, 50, 32, 119, 105, 116, 104, 105, 110, 32, 49, 48, 48]
theorem print_ex : printT exT = (exS, 0) := by kernel_rfl
theorem parse_ex : parseT [116, 114, 105, 103, 103, 101, 114, 32, 116, 58, 32, 117, 46, 98, 121, 116, 101, 32, 118, 97, 108, 117, 101] = (noTrig, 1, 4) := by kernel_rfl

theorem awake43_b : law43_awake = some ((true, ()), ()) := by
  unfold law43_awake
  have hp := parse_printT wrong_ex
  rw [show ((strB [116]), [(((strB [117]), 3, 1, 1, 85), 2, 100, false, (strB []), 0, 0, 0, 0)]) = exT from rfl, tprint_b exT (by decide)]
  simp only [Option.bind_some]
  rw [tparse_b, L_strB, hp.2, tparse_b, L_strB, parse_ex, tcheck_eq exT _ (by decide) (by decide), tcheck_eq exT _ (by decide) (by decide), holds_eq _ _ _ (by decide), holds_eq _ _ _ (by decide), print_ex]
  simp only [Option.bind_some]
  rw [sameT_refl exT (by decide)]
  show _ = some ((true, ()), ())
  kernel_rfl

end Go.Proofs.YtgpgpelaabdkhaaDoor
end

section
/-
YtgpgpelaabdkhaaDoor: the laws of triggers, as plain functions, come to true. No condition.
-/
set_option maxRecDepth 100000
set_option linter.unusedVariables false
open Go Go.AM
namespace Go.Proofs.YtgpgpelaabdkhaaDoor

theorem trig_len (t : TTrigger) {n : Nat} (h : bk uTrigger t ≤ n) : t.2.length ≤ n := by
  obtain ⟨a, l⟩ := t
  have h1 := len_le_bk (e := uTrigStep) (fun x => by simp only [bk]; omega) l
  have e1 : bk uTrigger (a, l) = a.size + 1 + ((l.map (bk uTrigStep)).sum + 1) := rfl
  rw [e1] at h
  show l.length ≤ n
  omega
theorem stack_len (st : TStack) {n : Nat} (h : bk uStack st ≤ n) : st.2.length ≤ n := by
  obtain ⟨a, l⟩ := st
  have h1 := len_le_bk (e := uNode) (fun x => by simp only [bk]; omega) l
  have e1 : bk uStack (a, l) = bk (.sl uDecl) a + ((l.map (bk uNode)).sum + 1) := rfl
  rw [e1] at h
  show l.length ≤ n
  omega

theorem TrigChecks_true (t : TTrigger) (st : TStack) (hl : t.2.length ≤ 1048576) (hs : st.2.length ≤ 1048576) : law43_TrigChecks t st = some ((true, ()), ()) := by
  obtain ⟨b, hb⟩ := tsmall_ex t hl
  obtain ⟨b2, hb2⟩ := few_ex st hs
  unfold law43_TrigChecks
  rw [hb, hb2, awake43_b, tcheck_eq t st hl hs, rtcheck_eq t st hl hs]
  cases b <;> cases b2 <;> simp

theorem TrigHolds_true (c : TCond) (st : TStack) (o : TOut) (hs : st.2.length ≤ 1048576) : law43_TrigHolds c st o = some ((true, ()), ()) := by
  obtain ⟨b2, hb2⟩ := few_ex st hs
  unfold law43_TrigHolds
  rw [brief43_b, brief43_b, hb2, awake43_b, holds_eq c st o hs, rholds_eq c st o hs]
  simp only [Option.bind_some]
  cases b2 <;> (repeat' split) <;> simp_all

theorem okTrig_len {t : TTrigger} (h : wrongE t = 0) : t.2.length ≤ 1048576 := by have := (wrongE_zero.1 h).few; omega

theorem TrigRoundTrips_true (t : TTrigger) (hl : t.2.length ≤ 1048576) : law43_TrigRoundTrips t = some ((true, ()), ()) := by
  obtain ⟨b, hb⟩ := tsmall_ex t hl
  unfold law43_TrigRoundTrips
  rw [hb, awake43_b, tprint_b t hl]
  simp only [Option.bind_some]
  cases b with
  | false => simp
  | true =>
    refine (if_neg (by simp)).trans ?_
    by_cases hc : wrongE t = 0
    · obtain ⟨h1, h2⟩ := parse_printT hc
      refine (if_neg (nF h1)).trans ?_
      rw [tparse_b, L_strB, h2]
      simp only [Option.bind_some]
      rw [sameT_refl t hl]
      simp
    · refine (if_pos (nT (by rw [printT_err t]; exact hc))).trans ?_
      rw [printT_no hc]
      simp

theorem TrigTexts_true (s : ByteArray) : law43_TrigTexts s = some ((true, ()), ()) := by
  unfold law43_TrigTexts
  rw [awake43_b]
  simp only [Option.bind_some]
  split
  · rfl
  · rw [tparse_b]
    simp only [Option.bind_some]
    rcases parseT_cases (L s) with ⟨h1, h2⟩ | ⟨he, hc⟩
    · refine (if_pos (nT h1)).trans ?_
      rw [h2]
      rfl
    · have hl := okTrig_len hc
      obtain ⟨h1, h2⟩ := parse_printT hc
      refine (if_neg (nF he)).trans ?_
      rw [tprint_b _ hl]
      simp only [Option.bind_some]
      rw [tparse_b, L_strB, h2]
      simp only [Option.bind_some]
      rw [tprint_b _ hl, h1, sameT_refl _ hl]
      simp

/-! ### comparisons -/
theorem condE_ops (n : ByteArray) (k f v o p : Int) (ho : 1 ≤ o ∧ o ≤ 5) (hp : 1 ≤ p ∧ p ≤ 5) : condE (n, k, f, o, v) = condE (n, k, f, p, v) := by
  have : condOk (n, k, f, o, v) = condOk (n, k, f, p, v) := by
    rw [Bool.eq_iff_iff]
    unfold condOk
    simp only [Bool.and_eq_true, decide_eq_true_eq]
    constructor <;> intro h <;> omega
  unfold condE
  rw [this]

theorem node_own (ns : List TNode) (k : Nat) (hk : k < ns.length) (h : ∀ j, j < k → L (ns.getD j dNode).1 ≠ L (ns.getD k dNode).1) : nodeI ns (ns.getD k dNode).1 = k := by
  unfold nodeI
  have : ns.findIdx? (fun n => L n.1 == L (ns.getD k dNode).1) = some k := by
    rw [List.findIdx?_eq_some_iff_getElem]
    refine ⟨hk, by rw [getD_in dNode hk]; simp, fun j hj => ?_⟩
    have := h j hj
    rw [getD_in dNode (by omega)] at this
    simpa using this
  rw [this]
  rfl

theorem cmp_loop (st : TStack) (hs : st.2.length ≤ 1048576) (o : TOut) (k : Nat) (ho : o.1 = k) (hk : k < st.2.length) (hv : validE o.2.2 = true) (n : ByteArray) (kd f v : Int) (hn : n = (st.2.getD k dNode).1) (hkd : kd = 0 ∨ kd = o.2.2.1)
    (hown : nodeI st.2 n = k) : ∀ op0 : Int, law43_TrigCompares_l19 0 1 st o (n, kd, f, op0, v) (false, false, false, false, false, false) = some ((true, ()), ()) := by
  have H : ∀ (op : Int), holdsV (n, kd, f, op, v) st.2 o = (decide (condE (n, kd, f, op, v) = 0) && cmpV (fieldV o.2.2 f) op v) := fun op => by
    unfold holdsV
    simp only
    rw [hv, decide_eq_true (show 0 ≤ nodeI st.2 n ∧ nodeI st.2 n = o.1 by rw [hown, ho]; omega), decide_eq_true hkd]
    simp
  have F : ∀ (op : Int), holdsV (n, kd, f, op, v) st.2 (IntKind.i64.wrap (o.1 + 1), o.2) = false := fun op => by
    unfold holdsV
    simp only
    rw [ho, w64a k (by omega), decide_eq_false (show ¬ (0 ≤ nodeI st.2 n ∧ nodeI st.2 n = ((k + 1 : Nat) : Int)) by rw [hown]; omega)]
    simp
  have l28 : ∀ (m op : Int) (h3 : Bool × Bool × Bool × Bool × Bool × Bool), law43_TrigCompares_l28 m op st o (n, kd, f, op, v) h3 = law43_TrigCompares_l19 m (IntKind.i64.wrap (op + 1)) st o (n, kd, f, op, v) h3 := fun m op h3 => by
    rw [law43_TrigCompares_l28_eq, holds_eq _ st _ hs, F]
    rfl
  intro op0
  by_cases he : condE (n, kd, f, 1, v) = 0
  · have hz : ∀ op : Int, 1 ≤ op ∧ op ≤ 5 → condE (n, kd, f, op, v) = 0 := fun op h => by rw [condE_ops n kd f v op 1 h (by omega)]; exact he
    have HH : ∀ op : Int, 1 ≤ op ∧ op ≤ 5 → trig_Holds (n, kd, f, op, v) st o = some ((cmpV (fieldV o.2.2 f) op v, ()), ()) := fun op h => by
      rw [holds_eq _ st o hs, H, decide_eq_true (hz op h), Bool.true_and]
    have c1 : cmpV (fieldV o.2.2 f) 1 v = decide (fieldV o.2.2 f = v) := by show (fieldV o.2.2 f == v) = _; rw [Bool.eq_iff_iff]; simp
    have c2 : cmpV (fieldV o.2.2 f) 2 v = decide (fieldV o.2.2 f ≠ v) := by show (fieldV o.2.2 f != v) = _; rw [Bool.eq_iff_iff]; simp
    have c3 : cmpV (fieldV o.2.2 f) 3 v = decide (fieldV o.2.2 f < v) := rfl
    have c4 : cmpV (fieldV o.2.2 f) 4 v = decide (fieldV o.2.2 f > v) := rfl
    have w2 : IntKind.i64.wrap (1 + 1) = 2 := by decide
    have w3 : IntKind.i64.wrap (2 + 1) = 3 := by decide
    have w4 : IntKind.i64.wrap (3 + 1) = 4 := by decide
    have w5 : IntKind.i64.wrap (4 + 1) = 5 := by decide
    have w1 : IntKind.i64.wrap (0 + 1) = 1 := by decide
    have S1 : ∀ op0, law43_TrigCompares_l19 0 1 st o (n, kd, f, op0, v) (false, false, false, false, false, false) = law43_TrigCompares_l19 (if fieldV o.2.2 f = v then 1 else 0) 2 st o (n, kd, f, 1, v) (false, decide (fieldV o.2.2 f = v), false, false, false, false) := fun op0 => by
      rw [law43_TrigCompares_l19_eq, rWrongCond_eq, hz 1 (by omega), HH 1 (by omega), c1]
      simp only [Option.bind_some]
      by_cases hq : fieldV o.2.2 f = v
      · rw [decide_eq_true hq, if_pos hq]
        exact (l28 _ _ _).trans (by rw [w1, w2])
      · rw [decide_eq_false hq, if_neg hq]
        exact (l28 _ _ _).trans (by rw [w2])
    have S2 : ∀ (m op0 : Int) (b : Bool), law43_TrigCompares_l19 m 2 st o (n, kd, f, op0, v) (false, b, false, false, false, false) = law43_TrigCompares_l19 m 3 st o (n, kd, f, 2, v) (false, b, decide (fieldV o.2.2 f ≠ v), false, false, false) := fun m op0 b => by
      rw [law43_TrigCompares_l19_eq, rWrongCond_eq, hz 2 (by omega), HH 2 (by omega), c2]
      simp only [Option.bind_some]
      exact (l28 _ _ _).trans (by rw [w3])
    have S3 : ∀ (m op0 : Int) (b b2 : Bool), m = 0 ∨ m = 1 → law43_TrigCompares_l19 m 3 st o (n, kd, f, op0, v) (false, b, b2, false, false, false) = law43_TrigCompares_l19 (if fieldV o.2.2 f < v then m + 1 else m) 4 st o (n, kd, f, 3, v) (false, b, b2, decide (fieldV o.2.2 f < v), false, false) := fun m op0 b b2 hm => by
      rw [law43_TrigCompares_l19_eq, rWrongCond_eq, hz 3 (by omega), HH 3 (by omega), c3]
      simp only [Option.bind_some]
      by_cases hq : fieldV o.2.2 f < v
      · rw [decide_eq_true hq, if_pos hq]
        exact (l28 _ _ _).trans (by rw [w64 (by omega) (by omega), w4])
      · rw [decide_eq_false hq, if_neg hq]
        exact (l28 _ _ _).trans (by rw [w4])
    have S4 : ∀ (m op0 : Int) (b b2 b3 : Bool), 0 ≤ m ∧ m ≤ 2 → law43_TrigCompares_l19 m 4 st o (n, kd, f, op0, v) (false, b, b2, b3, false, false) = law43_TrigCompares_l19 (if fieldV o.2.2 f > v then m + 1 else m) 5 st o (n, kd, f, 4, v) (false, b, b2, b3, decide (fieldV o.2.2 f > v), false) := fun m op0 b b2 b3 hm => by
      rw [law43_TrigCompares_l19_eq, rWrongCond_eq, hz 4 (by omega), HH 4 (by omega), c4]
      simp only [Option.bind_some]
      by_cases hq : fieldV o.2.2 f > v
      · rw [decide_eq_true hq, if_pos hq]
        exact (l28 _ _ _).trans (by rw [w64 (by omega) (by omega), w5])
      · rw [decide_eq_false hq, if_neg hq]
        exact (l28 _ _ _).trans (by rw [w5])
    have S5 : ∀ (op0 : Int) (b b2 b3 b4 : Bool), b2 = !b → law43_TrigCompares_l19 1 5 st o (n, kd, f, op0, v) (false, b, b2, b3, b4, false) = some ((true, ()), ()) := fun op0 b b2 b3 b4 hb => by
      subst hb
      rw [law43_TrigCompares_l19_eq, awake43_b]
      cases b <;> rfl
    rw [S1, S2, S3 _ _ _ _ (by split <;> omega), S4 _ _ _ _ _ (by split <;> split <;> omega)]
    have key : (if fieldV o.2.2 f > v then (if fieldV o.2.2 f < v then (if fieldV o.2.2 f = v then (1 : Int) else 0) + 1 else (if fieldV o.2.2 f = v then 1 else 0)) + 1 else (if fieldV o.2.2 f < v then (if fieldV o.2.2 f = v then 1 else 0) + 1 else (if fieldV o.2.2 f = v then 1 else 0))) = 1 := by
      split <;> split <;> split <;> omega
    rw [key]
    refine S5 _ _ _ _ _ ?_
    by_cases hq : fieldV o.2.2 f = v
    · rw [decide_eq_true hq, decide_eq_false (by simpa using hq)]; rfl
    · rw [decide_eq_false hq, decide_eq_true hq]; rfl
  · rw [law43_TrigCompares_l19_eq, rWrongCond_eq, holds_eq _ st o hs, H, decide_eq_false he, awake43_b]
    simp only [Option.bind_some, Bool.false_and]
    refine (if_pos (by decide)).trans ?_
    refine (if_pos (nT he)).trans ?_
    rfl

theorem cmp_names (st : TStack) (hs : st.2.length ≤ 1048576) (o : TOut) (k : Nat) (ho : o.1 = k) (hk : k < st.2.length) (hv : validE o.2.2 = true) (n : ByteArray) (kd f op v : Int) (hn : n = (st.2.getD k dNode).1) (hkd : kd = 0 ∨ kd = o.2.2.1) :
    ∀ (c i : Nat), c = k - i → i ≤ k → (∀ j, j < i → L (st.2.getD j dNode).1 ≠ L n) → law43_TrigCompares_l9 i st o (n, kd, f, op, v) = some ((true, ()), ())
  | 0, i, hc, hi, hj => by
    have : i = k := by omega
    subst this
    rw [law43_TrigCompares_l9_eq, if_neg (dF (by omega))]
    exact cmp_loop st hs o i ho hk hv n kd f v hn hkd (by rw [hn]; exact node_own st.2 i hk (fun j q => by have := hj j q; rw [hn] at this; exact this)) op
  | c + 1, i, hc, hi, hj => by
    rw [law43_TrigCompares_l9_eq, if_pos (dT (by omega)), if_pos ⟨by omega, by omega⟩, Int.toNat_natCast, w64a i (by omega)]
    by_cases hq : L (st.2.getD i dNode).1 = L n
    · rw [if_pos (by rw [toL, toL]; simpa using hq), awake43_b]
      rfl
    · rw [if_neg (by rw [toL, toL]; simpa using hq)]
      exact cmp_names st hs o k ho hk hv n kd f op v hn hkd c (i + 1) (by omega) (by omega) (fun j q => by
        by_cases e : j = i
        · subst e; exact hq
        · exact hj j (by omega))

theorem TrigCompares_true (st : TStack) (o : TOut) (c : TCond) (hs : st.2.length ≤ 1048576) : law43_TrigCompares st o c = some ((true, ()), ()) := by
  obtain ⟨b2, hb2⟩ := few_ex st hs
  unfold law43_TrigCompares
  rw [brief43_b, hb2, awake43_b, rvalid_eq]
  simp only [Option.bind_some]
  cases b2 with
  | false => rfl
  | true =>
    refine (if_neg (by simp)).trans ?_
    split
    · rfl
    cases hv : validE o.2.2 with
    | false => rfl
    | true =>
      refine (if_neg (by simp)).trans ?_
      by_cases h1 : o.1 < 0
      · rw [if_pos (dT h1)]
      rw [if_neg (dF h1)]
      by_cases h2 : o.1 ≥ (st.2.length : Int)
      · rw [if_pos (dT h2)]
      rw [if_neg (dF h2), if_pos ⟨by omega, by omega⟩]
      have hk : o.1.toNat < st.2.length := by omega
      have ho : o.1 = ((o.1.toNat : Nat) : Int) := by omega
      obtain ⟨n, kd, f, op, v⟩ := c
      by_cases h3 : kd = 0
      · rw [if_neg (nF h3), law43_TrigCompares_l5_eq]
        exact cmp_names st hs o o.1.toNat ho hk hv _ kd f op v rfl (.inl h3) o.1.toNat 0 (by omega) (by omega) (fun j q => by omega)
      · rw [if_pos (nT h3), law43_TrigCompares_l5_eq]
        exact cmp_names st hs o o.1.toNat ho hk hv _ o.2.2.1 f op v rfl (.inr rfl) o.1.toNat 0 (by omega) (by omega) (fun j q => by omega)

end Go.Proofs.YtgpgpelaabdkhaaDoor
end
