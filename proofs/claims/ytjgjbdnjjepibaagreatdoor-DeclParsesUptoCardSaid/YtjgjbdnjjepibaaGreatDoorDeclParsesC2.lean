/-
The plain functions of the program that the law DeclParses reaches, that the program computes them, and what they come to. No condition.
-/
import Derived.Test.YtjgjbdnjjepibaaGreatDoorChecked
import Derived.Test.YtjgjbdnjjepibaaGreatDoorAm1
import Derived.Test.YtjgjbdnjjepibaaGreatDoorAm2
import Derived.Test.YtjgjbdnjjepibaaGreatDoorAm3
import Derived.Test.YtjgjbdnjjepibaaGreatDoorDeclParsesC1
set_option linter.unusedVariables false
set_option linter.unusedSimpArgs false
set_option linter.unusedSectionVars false

section
/-
YtjgjbdnjjepibaaGreatDoor: signalbench.signalbenchref05.Decimal, as one plain function, its equations, its contract. No condition.
-/
set_option maxRecDepth 100000
set_option linter.unusedVariables false
set_option maxHeartbeats 4000000
open Go Go.AM
namespace Go.Proofs.YtjgjbdnjjepibaaGreatDoor
noncomputable section
def ref05_Decimal_F8 : FSh := ⟨[(0, .one (.int .i64)), (3, .one .str), (4, .one (.int .i64)), (5, .one .str)], []⟩
def ref05_Decimal_F12 : FSh := ⟨[(0, .one (.int .i64)), (3, .one .str), (4, .one (.int .i64)), (5, .one .str), (6, .one (.int .i64))], []⟩
def ref05_Decimal_D : FD := ⟨T, lookC [], [12], (Tryz.f77.body.getD .skip), Tryz.f77.results.toList, ⟨[.one (.int .i64)], []⟩, ⟨[.one .str], []⟩, [(8, ref05_Decimal_F8), (12, ref05_Decimal_F12)]⟩
def ref05_Decimal_l8 (n : Int) (digits : ByteArray) (rest : Int) (out : ByteArray) : (Option ((ByteArray × Unit) × Unit)) := ref05_Decimal_D.lab 8 ref05_Decimal_F8 ((n, digits, rest, out, ()), ())
def ref05_Decimal_l12 (n : Int) (digits : ByteArray) (rest : Int) (out : ByteArray) (d : Int) : (Option ((ByteArray × Unit) × Unit)) := ref05_Decimal_D.lab 12 ref05_Decimal_F12 ((n, digits, rest, out, d, ()), ())
theorem ref05_Decimal_l8_eq (n : Int) (digits : ByteArray) (rest : Int) (out : ByteArray) : ref05_Decimal_l8 n digits rest out =
  if (rest != 0) = true then
    if (decide ((rest.tmod 10) < 0)) = true then
      ref05_Decimal_l12 n digits rest out (IntKind.i64.wrap (0 - (rest.tmod 10)))
    else
      ref05_Decimal_l12 n digits rest out (rest.tmod 10)
  else
    if (decide (n < 0)) = true then
      if (strB [45]).size + out.size ≤ 9223372036854775807 then
        some (((strB [45]) ++ out, ()), ())
      else
        none
    else
      some ((out, ()), ()) := (FD.lab_eq _ _ _ _).trans (by kernel_rfl)
theorem ref05_Decimal_l12_eq (n : Int) (digits : ByteArray) (rest : Int) (out : ByteArray) (d : Int) : ref05_Decimal_l12 n digits rest out d =
  if 0 ≤ d ∧ d ≤ IntKind.i64.wrap (d + 1) ∧ IntKind.i64.wrap (d + 1) ≤ (digits.size : Int) then
    if (digits.extract d.toNat (IntKind.i64.wrap (d + 1)).toNat).size + out.size ≤ 9223372036854775807 then
      ref05_Decimal_l8 n digits (IntKind.i64.wrap (rest.tdiv 10)) ((digits.extract d.toNat (IntKind.i64.wrap (d + 1)).toNat) ++ out)
    else
      none
  else
    none := (FD.lab_eq _ _ _ _).trans (by kernel_rfl)
def ref05_Decimal (n : Int) : (Option ((ByteArray × Unit) × Unit)) :=
  if (n == 0) = true then
    some (((strB [48]), ()), ())
  else
    ref05_Decimal_l8 n (strB [48, 49, 50, 51, 52, 53, 54, 55, 56, 57]) n (strB [])
def fc77 : FC := ⟨⟨[.one (.int .i64)], []⟩, ⟨[.one .str], []⟩, fun x => ref05_Decimal x.1.1⟩
theorem con77 : Contract Tryz.prog 77 fc77 :=
  ref05_Decimal_D.contract tok (cok_of (l := []) trivial) mixed (fn' := Tryz.f77) (by kernel_rfl) (by kernel_rfl) rfl (by kernel_rfl) (fun x => (FD.fn_eq _ _).trans (by kernel_rfl))
end
end Go.Proofs.YtjgjbdnjjepibaaGreatDoor
end

section
/-
YtjgjbdnjjepibaaGreatDoor: signalbench.signalbenchref05.Quote, as one plain function, its equations, its contract. No condition.
-/
set_option maxRecDepth 100000
set_option linter.unusedVariables false
set_option maxHeartbeats 4000000
open Go Go.AM
namespace Go.Proofs.YtjgjbdnjjepibaaGreatDoor
noncomputable section
def ref05_Quote_F5 : FSh := ⟨[(0, .one .str), (3, .one .str), (4, .one (.own 0)), (5, .one (.int .i64))], [.arr 5 (.int .u8) true]⟩
def ref05_Quote_D : FD := ⟨T, lookC [], [], (Tryz.f78.body.getD .skip), Tryz.f78.results.toList, ⟨[.one .str], []⟩, ⟨[.one .str], []⟩, [(5, ref05_Quote_F5)]⟩
def ref05_Quote_l5 (s : ByteArray) (digits : ByteArray) (i : Int) (l0 : (List Int)) : (Option ((ByteArray × Unit) × Unit)) := ref05_Quote_D.lab 5 ref05_Quote_F5 ((s, digits, (), i, ()), (l0, ()))
theorem ref05_Quote_l5_eq (s : ByteArray) (digits : ByteArray) (i : Int) (l0 : (List Int)) : ref05_Quote_l5 s digits i l0 =
  if (decide (i < (s.size : Int))) = true then
    if 0 ≤ i ∧ i < (s.size : Int) then
      if ((bt s i) == 34) = true then
        if (l0.length + 2) * 1 ≤ 140737488355328 ∧ 0 < 1 then
          ref05_Quote_l5 s digits (IntKind.i64.wrap (i + 1)) (l0 ++ [92, bt s i])
        else
          none
      else
        if ((bt s i) == 92) = true then
          if (l0.length + 2) * 1 ≤ 140737488355328 ∧ 0 < 1 then
            ref05_Quote_l5 s digits (IntKind.i64.wrap (i + 1)) (l0 ++ [92, bt s i])
          else
            none
        else
          if ((bt s i) == 10) = true then
            if (l0.length + 2) * 1 ≤ 140737488355328 ∧ 0 < 1 then
              ref05_Quote_l5 s digits (IntKind.i64.wrap (i + 1)) (l0 ++ [92, 110])
            else
              none
          else
            if (decide ((bt s i) < 32)) = true then
              if 0 ≤ IntKind.u8.wrap ((bt s i).tdiv 16) ∧ IntKind.u8.wrap ((bt s i).tdiv 16) < (digits.size : Int) then
                if 0 ≤ (bt s i).tmod 16 ∧ (bt s i).tmod 16 < (digits.size : Int) then
                  if (l0.length + 4) * 1 ≤ 140737488355328 ∧ 0 < 1 then
                    ref05_Quote_l5 s digits (IntKind.i64.wrap (i + 1)) (l0 ++ [92, 120, bt digits (IntKind.u8.wrap ((bt s i).tdiv 16)), bt digits ((bt s i).tmod 16)])
                  else
                    none
                else
                  none
              else
                none
            else
              if (decide ((bt s i) > 126)) = true then
                if 0 ≤ IntKind.u8.wrap ((bt s i).tdiv 16) ∧ IntKind.u8.wrap ((bt s i).tdiv 16) < (digits.size : Int) then
                  if 0 ≤ (bt s i).tmod 16 ∧ (bt s i).tmod 16 < (digits.size : Int) then
                    if (l0.length + 4) * 1 ≤ 140737488355328 ∧ 0 < 1 then
                      ref05_Quote_l5 s digits (IntKind.i64.wrap (i + 1)) (l0 ++ [92, 120, bt digits (IntKind.u8.wrap ((bt s i).tdiv 16)), bt digits ((bt s i).tmod 16)])
                    else
                      none
                  else
                    none
                else
                  none
              else
                if (l0.length + 1) * 1 ≤ 140737488355328 ∧ 0 < 1 then
                  ref05_Quote_l5 s digits (IntKind.i64.wrap (i + 1)) (l0 ++ [bt s i])
                else
                  none
    else
      none
  else
    if (l0.length + 1) * 1 ≤ 140737488355328 ∧ 0 < 1 then
      some ((strOfBytes (l0 ++ [34]), ()), ())
    else
      none := (FD.lab_eq _ _ _ _).trans (by kernel_rfl)
def ref05_Quote (s : ByteArray) : (Option ((ByteArray × Unit) × Unit)) :=
  ref05_Quote_l5 s (strB [48, 49, 50, 51, 52, 53, 54, 55, 56, 57, 97, 98, 99, 100, 101, 102]) 0 [34]
def fc78 : FC := ⟨⟨[.one .str], []⟩, ⟨[.one .str], []⟩, fun x => ref05_Quote x.1.1⟩
theorem con78 : Contract Tryz.prog 78 fc78 :=
  ref05_Quote_D.contract tok (cok_of (l := []) trivial) mixed (fn' := Tryz.f78) (by kernel_rfl) (by kernel_rfl) rfl (by kernel_rfl) (fun x => (FD.fn_eq _ _).trans (by kernel_rfl))
end
end Go.Proofs.YtjgjbdnjjepibaaGreatDoor
end

section
/-
YtjgjbdnjjepibaaGreatDoor: signalbench.signalbenchref05.written, as one plain function, its equations, its contract. No condition.
-/
set_option maxRecDepth 100000
set_option linter.unusedVariables false
set_option maxHeartbeats 4000000
open Go Go.AM
namespace Go.Proofs.YtjgjbdnjjepibaaGreatDoor
noncomputable section
def ref05_written_D : FD := ⟨T, lookC [(77, fc77), (78, fc78)], [], (Tryz.f49.body.getD .skip), Tryz.f49.results.toList, ⟨[.row (.cons (.int .i64) (.cons .str (.cons (.int .i64) (.int .i64))))], []⟩, ⟨[.one .str], []⟩, []⟩
def ref05_written (t : TToken) : (Option ((ByteArray × Unit) × Unit)) :=
  if (t.1 == 2) = true then
    (ref05_Decimal t.2.2.1).bind fun y1 =>
      some ((y1.1.1, ()), ())
  else
    if (t.1 == 3) = true then
      (ref05_Quote t.2.1).bind fun y2 =>
        some ((y2.1.1, ()), ())
    else
      some ((t.2.1, ()), ())
def fc49 : FC := ⟨⟨[.row (.cons (.int .i64) (.cons .str (.cons (.int .i64) (.int .i64))))], []⟩, ⟨[.one .str], []⟩, fun x => ref05_written x.1.1⟩
theorem con49 : Contract Tryz.prog 49 fc49 :=
  ref05_written_D.contract tok (cok_of (l := [(77, fc77), (78, fc78)]) ⟨con77, con78, trivial⟩) mixed (fn' := Tryz.f49) (by kernel_rfl) (by kernel_rfl) rfl (by kernel_rfl) (fun x => (FD.fn_eq _ _).trans (by kernel_rfl))
end
end Go.Proofs.YtjgjbdnjjepibaaGreatDoor
end

section
/-
YtjgjbdnjjepibaaGreatDoor: signalbench.signalbenchref05.Text, as one plain function, its equations, its contract. No condition.
-/
set_option maxRecDepth 100000
set_option linter.unusedVariables false
set_option maxHeartbeats 4000000
open Go Go.AM
namespace Go.Proofs.YtjgjbdnjjepibaaGreatDoor
noncomputable section
def ref05_Text_F3 : FSh := ⟨[(0, .one (.sl (.cons (.int .i64) (.cons .str (.cons (.int .i64) (.int .i64)))))), (4, .one (.int .i64))], []⟩
def ref05_Text_F12 : FSh := ⟨[(0, .one (.sl (.cons (.int .i64) (.cons .str (.cons (.int .i64) (.int .i64)))))), (5, .one (.own 0)), (6, .one (.int .i64))], [.arr 5 (.int .u8) true]⟩
def ref05_Text_F16 : FSh := ⟨[(0, .one (.sl (.cons (.int .i64) (.cons .str (.cons (.int .i64) (.int .i64)))))), (5, .one (.own 0)), (6, .one (.int .i64))], [.arr 5 (.int .u8) true]⟩
def ref05_Text_D : FD := ⟨T, lookC [(48, fc48), (49, fc49)], [16], (Tryz.f24.body.getD .skip), Tryz.f24.results.toList, ⟨[.one (.sl (.cons (.int .i64) (.cons .str (.cons (.int .i64) (.int .i64)))))], []⟩, ⟨[.one .str, .one (.int .i64)], []⟩, [(3, ref05_Text_F3), (12, ref05_Text_F12), (16, ref05_Text_F16)]⟩
def ref05_Text_l3 (l : (List TToken)) (i : Int) : (Option ((ByteArray × Int × Unit) × Unit)) := ref05_Text_D.lab 3 ref05_Text_F3 ((l, i, ()), ())
def ref05_Text_l12 (l : (List TToken)) (i : Int) (l0 : (List Int)) : (Option ((ByteArray × Int × Unit) × Unit)) := ref05_Text_D.lab 12 ref05_Text_F12 ((l, (), i, ()), (l0, ()))
def ref05_Text_l16 (l : (List TToken)) (i : Int) (l0 : (List Int)) : (Option ((ByteArray × Int × Unit) × Unit)) := ref05_Text_D.lab 16 ref05_Text_F16 ((l, (), i, ()), (l0, ()))
theorem ref05_Text_l3_eq (l : (List TToken)) (i : Int) : ref05_Text_l3 l i =
  if (decide (i < (l.length : Int))) = true then
    if 0 ≤ i ∧ i < (l.length : Int) then
      (ref05_Right (l.getD i.toNat dToken)).bind fun y1 =>
        if (!y1.1.1) = true then
          some (((strB []), 1, ()), ())
        else
          ref05_Text_l3 l (IntKind.i64.wrap (i + 1))
    else
      none
  else
    ref05_Text_l12 l 0 [] := (FD.lab_eq _ _ _ _).trans (by kernel_rfl)
theorem ref05_Text_l12_eq (l : (List TToken)) (i : Int) (l0 : (List Int)) : ref05_Text_l12 l i l0 =
  if (decide (i < (l.length : Int))) = true then
    if (decide (i > 0)) = true then
      if (l0.length + 1) * 1 ≤ 140737488355328 ∧ 0 < 1 then
        ref05_Text_l16 l i (l0 ++ [32])
      else
        none
    else
      ref05_Text_l16 l i l0
  else
    some ((strOfBytes l0, 0, ()), ()) := (FD.lab_eq _ _ _ _).trans (by kernel_rfl)
theorem ref05_Text_l16_eq (l : (List TToken)) (i : Int) (l0 : (List Int)) : ref05_Text_l16 l i l0 =
  if 0 ≤ i ∧ i < (l.length : Int) then
    (ref05_written (l.getD i.toNat dToken)).bind fun y1 =>
      if (l0.length + (bytesOfStr y1.1.1).length) * 1 ≤ 140737488355328 ∧ 0 < 1 then
        if (decide (((l0 ++ (bytesOfStr y1.1.1)).length : Int) > 1048576)) = true then
          some (((strB []), 6, ()), ())
        else
          ref05_Text_l12 l (IntKind.i64.wrap (i + 1)) (l0 ++ (bytesOfStr y1.1.1))
      else
        none
  else
    none := (FD.lab_eq _ _ _ _).trans (by kernel_rfl)
def ref05_Text (l : (List TToken)) : (Option ((ByteArray × Int × Unit) × Unit)) :=
  ref05_Text_l3 l 0
def fc24 : FC := ⟨⟨[.one (.sl (.cons (.int .i64) (.cons .str (.cons (.int .i64) (.int .i64)))))], []⟩, ⟨[.one .str, .one (.int .i64)], []⟩, fun x => ref05_Text x.1.1⟩
theorem con24 : Contract Tryz.prog 24 fc24 :=
  ref05_Text_D.contract tok (cok_of (l := [(48, fc48), (49, fc49)]) ⟨con48, con49, trivial⟩) mixed (fn' := Tryz.f24) (by kernel_rfl) (by kernel_rfl) rfl (by kernel_rfl) (fun x => (FD.fn_eq _ _).trans (by kernel_rfl))
end
end Go.Proofs.YtjgjbdnjjepibaaGreatDoor
end

section
/-
YtjgjbdnjjepibaaGreatDoor: signalbench.signalbenchref34.word, as one plain function, its equations, its contract. No condition.
-/
set_option maxRecDepth 100000
set_option linter.unusedVariables false
set_option maxHeartbeats 4000000
open Go Go.AM
namespace Go.Proofs.YtjgjbdnjjepibaaGreatDoor
noncomputable section
def ref34_word_D : FD := ⟨T, lookC [], [], (Tryz.f50.body.getD .skip), Tryz.f50.results.toList, ⟨[.one .str], []⟩, ⟨[.row (.cons (.int .i64) (.cons .str (.cons (.int .i64) (.int .i64))))], []⟩, []⟩
def ref34_word (s : ByteArray) : (Option ((TToken × Unit) × Unit)) :=
  some (((1, s, 0, 0), ()), ())
def fc50 : FC := ⟨⟨[.one .str], []⟩, ⟨[.row (.cons (.int .i64) (.cons .str (.cons (.int .i64) (.int .i64))))], []⟩, fun x => ref34_word x.1.1⟩
theorem con50 : Contract Tryz.prog 50 fc50 :=
  ref34_word_D.contract tok (cok_of (l := []) trivial) mixed (fn' := Tryz.f50) (by kernel_rfl) (by kernel_rfl) rfl (by kernel_rfl) (fun x => (FD.fn_eq _ _).trans (by kernel_rfl))
end
end Go.Proofs.YtjgjbdnjjepibaaGreatDoor
end

section
/-
YtjgjbdnjjepibaaGreatDoor: signalbench.signalbenchref34.mark, as one plain function, its equations, its contract. No condition.
-/
set_option maxRecDepth 100000
set_option linter.unusedVariables false
set_option maxHeartbeats 4000000
open Go Go.AM
namespace Go.Proofs.YtjgjbdnjjepibaaGreatDoor
noncomputable section
def ref34_mark_D : FD := ⟨T, lookC [], [], (Tryz.f51.body.getD .skip), Tryz.f51.results.toList, ⟨[.one .str], []⟩, ⟨[.row (.cons (.int .i64) (.cons .str (.cons (.int .i64) (.int .i64))))], []⟩, []⟩
def ref34_mark (s : ByteArray) : (Option ((TToken × Unit) × Unit)) :=
  some (((4, s, 0, 0), ()), ())
def fc51 : FC := ⟨⟨[.one .str], []⟩, ⟨[.row (.cons (.int .i64) (.cons .str (.cons (.int .i64) (.int .i64))))], []⟩, fun x => ref34_mark x.1.1⟩
theorem con51 : Contract Tryz.prog 51 fc51 :=
  ref34_mark_D.contract tok (cok_of (l := []) trivial) mixed (fn' := Tryz.f51) (by kernel_rfl) (by kernel_rfl) rfl (by kernel_rfl) (fun x => (FD.fn_eq _ _).trans (by kernel_rfl))
end
end Go.Proofs.YtjgjbdnjjepibaaGreatDoor
end

section
/-
YtjgjbdnjjepibaaGreatDoor: signalbench.signalbenchref34.number, as one plain function, its equations, its contract. No condition.
-/
set_option maxRecDepth 100000
set_option linter.unusedVariables false
set_option maxHeartbeats 4000000
open Go Go.AM
namespace Go.Proofs.YtjgjbdnjjepibaaGreatDoor
noncomputable section
def ref34_number_D : FD := ⟨T, lookC [(102, fc102)], [], (Tryz.f79.body.getD .skip), Tryz.f79.results.toList, ⟨[.one (.int .i64)], []⟩, ⟨[.row (.cons (.int .i64) (.cons .str (.cons (.int .i64) (.int .i64))))], []⟩, []⟩
def ref34_number (n : Int) : (Option ((TToken × Unit) × Unit)) :=
  (ref34_digits n).bind fun y1 =>
    some (((2, y1.1.1, n, 0), ()), ())
def fc79 : FC := ⟨⟨[.one (.int .i64)], []⟩, ⟨[.row (.cons (.int .i64) (.cons .str (.cons (.int .i64) (.int .i64))))], []⟩, fun x => ref34_number x.1.1⟩
theorem con79 : Contract Tryz.prog 79 fc79 :=
  ref34_number_D.contract tok (cok_of (l := [(102, fc102)]) ⟨con102, trivial⟩) mixed (fn' := Tryz.f79) (by kernel_rfl) (by kernel_rfl) rfl (by kernel_rfl) (fun x => (FD.fn_eq _ _).trans (by kernel_rfl))
end
end Go.Proofs.YtjgjbdnjjepibaaGreatDoor
end

section
/-
YtjgjbdnjjepibaaGreatDoor: signalbench.signalbenchref34.target, as one plain function, its equations, its contract. No condition.
-/
set_option maxRecDepth 100000
set_option linter.unusedVariables false
set_option maxHeartbeats 4000000
open Go Go.AM
namespace Go.Proofs.YtjgjbdnjjepibaaGreatDoor
noncomputable section
def ref34_target_F2 : FSh := ⟨[(1, .one (.ptr 0 0)), (3, .one (.own 1))], [.boxr 37 (.cons (.int .i64) (.cons (.int .i64) (.cons .str (.cons .bool (.sl (.cons (.int .i64) (.int .i64))))))), .arr 62 (.cons (.int .i64) (.cons .str (.cons (.int .i64) (.int .i64)))) true]⟩
def ref34_target_F6 : FSh := ⟨[(1, .one (.ptr 0 0)), (3, .one (.own 1)), (4, .one (.int .i64))], [.boxr 37 (.cons (.int .i64) (.cons (.int .i64) (.cons .str (.cons .bool (.sl (.cons (.int .i64) (.int .i64))))))), .arr 62 (.cons (.int .i64) (.cons .str (.cons (.int .i64) (.int .i64)))) true]⟩
def ref34_target_F10 : FSh := ⟨[(1, .one (.ptr 0 0)), (3, .one (.own 1)), (4, .one (.int .i64))], [.boxr 37 (.cons (.int .i64) (.cons (.int .i64) (.cons .str (.cons .bool (.sl (.cons (.int .i64) (.int .i64))))))), .arr 62 (.cons (.int .i64) (.cons .str (.cons (.int .i64) (.int .i64)))) true]⟩
def ref34_target_D : FD := ⟨T, lookC [(50, fc50), (51, fc51), (79, fc79), (103, fc103)], [10, 2], (Tryz.f80.body.getD .skip), Tryz.f80.results.toList, ⟨[.row (.cons (.int .i64) (.cons (.int .i64) (.cons .str (.cons .bool (.sl (.cons (.int .i64) (.int .i64)))))))], []⟩, ⟨[.one (.sl (.cons (.int .i64) (.cons .str (.cons (.int .i64) (.int .i64)))))], []⟩, [(2, ref34_target_F2), (6, ref34_target_F6), (10, ref34_target_F10)]⟩
def ref34_target_l2 (h0 : TRule) (l1 : (List TToken)) : (Option (((List TToken) × Unit) × Unit)) := ref34_target_D.lab 2 ref34_target_F2 (((), (), ()), (h0, l1, ()))
def ref34_target_l6 (i : Int) (h0 : TRule) (l1 : (List TToken)) : (Option (((List TToken) × Unit) × Unit)) := ref34_target_D.lab 6 ref34_target_F6 (((), (), i, ()), (h0, l1, ()))
def ref34_target_l10 (i : Int) (h0 : TRule) (l1 : (List TToken)) : (Option (((List TToken) × Unit) × Unit)) := ref34_target_D.lab 10 ref34_target_F10 (((), (), i, ()), (h0, l1, ()))
theorem ref34_target_l2_eq (h0 : TRule) (l1 : (List TToken)) : ref34_target_l2 h0 l1 =
  ref34_target_l6 0 h0 l1 := (FD.lab_eq _ _ _ _).trans (by kernel_rfl)
theorem ref34_target_l6_eq (i : Int) (h0 : TRule) (l1 : (List TToken)) : ref34_target_l6 i h0 l1 =
  if (decide (i < (h0.2.2.2.2.length : Int))) = true then
    if (i == 0) = true then
      (ref34_mark (strB [58])).bind fun y1 =>
        if (l1.length + 1) * 40 ≤ 140737488355328 ∧ 0 < 40 then
          ref34_target_l10 i h0 (l1 ++ [y1.1.1])
        else
          none
    else
      (ref34_mark (strB [44])).bind fun y2 =>
        if (l1.length + 1) * 40 ≤ 140737488355328 ∧ 0 < 40 then
          ref34_target_l10 i h0 (l1 ++ [y2.1.1])
        else
          none
  else
    (ref34_mark (strB [59])).bind fun y3 =>
      if (l1.length + 1) * 40 ≤ 140737488355328 ∧ 0 < 40 then
        some ((l1 ++ [y3.1.1], ()), ())
      else
        none := (FD.lab_eq _ _ _ _).trans (by kernel_rfl)
theorem ref34_target_l10_eq (i : Int) (h0 : TRule) (l1 : (List TToken)) : ref34_target_l10 i h0 l1 =
  (ref34_ops).bind fun y1 =>
    if 0 ≤ i ∧ i < (h0.2.2.2.2.length : Int) then
      if 0 ≤ IntKind.i64.wrap ((h0.2.2.2.2.getD i.toNat dAct).1 - 1) ∧ IntKind.i64.wrap ((h0.2.2.2.2.getD i.toNat dAct).1 - 1) < (y1.1.1.length : Int) then
        (ref34_word (y1.1.1.getD (IntKind.i64.wrap ((h0.2.2.2.2.getD i.toNat dAct).1 - 1)).toNat (strB []))).bind fun y2 =>
          if (l1.length + 1) * 40 ≤ 140737488355328 ∧ 0 < 40 then
            if 0 ≤ i ∧ i < (h0.2.2.2.2.length : Int) then
              if (decide ((h0.2.2.2.2.getD i.toNat dAct).1 > 2)) = true then
                if 0 ≤ i ∧ i < (h0.2.2.2.2.length : Int) then
                  (ref34_number (h0.2.2.2.2.getD i.toNat dAct).2).bind fun y3 =>
                    if ((l1 ++ [y2.1.1]).length + 1) * 40 ≤ 140737488355328 ∧ 0 < 40 then
                      ref34_target_l6 (IntKind.i64.wrap (i + 1)) h0 ((l1 ++ [y2.1.1]) ++ [y3.1.1])
                    else
                      none
                else
                  none
              else
                ref34_target_l6 (IntKind.i64.wrap (i + 1)) h0 (l1 ++ [y2.1.1])
            else
              none
          else
            none
      else
        none
    else
      none := (FD.lab_eq _ _ _ _).trans (by kernel_rfl)
def ref34_target (r : TRule) : (Option (((List TToken) × Unit) × Unit)) :=
  (ref34_mark (strB [62])).bind fun y1 =>
    (ref34_word r.2.2.1).bind fun y2 =>
      if r.2.2.2.1 = true then
        (ref34_word (strB [97, 103, 97, 105, 110])).bind fun y3 =>
          ref34_target_l2 r [y1.1.1, y2.1.1, y3.1.1]
      else
        ref34_target_l2 r [y1.1.1, y2.1.1]
def fc80 : FC := ⟨⟨[.row (.cons (.int .i64) (.cons (.int .i64) (.cons .str (.cons .bool (.sl (.cons (.int .i64) (.int .i64)))))))], []⟩, ⟨[.one (.sl (.cons (.int .i64) (.cons .str (.cons (.int .i64) (.int .i64)))))], []⟩, fun x => ref34_target x.1.1⟩
theorem con80 : Contract Tryz.prog 80 fc80 :=
  ref34_target_D.contract tok (cok_of (l := [(50, fc50), (51, fc51), (79, fc79), (103, fc103)]) ⟨con50, con51, con79, con103, trivial⟩) mixed (fn' := Tryz.f80) (by kernel_rfl) (by kernel_rfl) rfl (by kernel_rfl) (fun x => (FD.fn_eq _ _).trans (by kernel_rfl))
end
end Go.Proofs.YtjgjbdnjjepibaaGreatDoor
end

section
/-
YtjgjbdnjjepibaaGreatDoor: signalbench.signalbenchref34.state, as one plain function, its equations, its contract. No condition.
-/
set_option maxRecDepth 100000
set_option linter.unusedVariables false
set_option maxHeartbeats 4000000
open Go Go.AM
namespace Go.Proofs.YtjgjbdnjjepibaaGreatDoor
noncomputable section
def ref34_state_F4 : FSh := ⟨[(1, .one (.ptr 0 0)), (3, .one (.own 1)), (4, .one (.int .i64))], [.boxr 39 (.cons .str (.cons (.sl (.cons (.int .i64) (.cons (.int .i64) (.cons .str (.cons .bool (.sl (.cons (.int .i64) (.int .i64)))))))) (.cons .bool (.cons (.int .i64) (.cons (.int .i64) (.cons .str (.cons .bool (.sl (.cons (.int .i64) (.int .i64)))))))))), .arr 62 (.cons (.int .i64) (.cons .str (.cons (.int .i64) (.int .i64)))) true]⟩
def ref34_state_F9 : FSh := ⟨[(1, .one (.ptr 0 0)), (3, .one (.own 1)), (4, .one (.int .i64))], [.boxr 39 (.cons .str (.cons (.sl (.cons (.int .i64) (.cons (.int .i64) (.cons .str (.cons .bool (.sl (.cons (.int .i64) (.int .i64)))))))) (.cons .bool (.cons (.int .i64) (.cons (.int .i64) (.cons .str (.cons .bool (.sl (.cons (.int .i64) (.int .i64)))))))))), .arr 62 (.cons (.int .i64) (.cons .str (.cons (.int .i64) (.int .i64)))) true]⟩
def ref34_state_D : FD := ⟨T, lookC [(50, fc50), (51, fc51), (79, fc79), (80, fc80)], [9], (Tryz.f52.body.getD .skip), Tryz.f52.results.toList, ⟨[.row (.cons .str (.cons (.sl (.cons (.int .i64) (.cons (.int .i64) (.cons .str (.cons .bool (.sl (.cons (.int .i64) (.int .i64)))))))) (.cons .bool (.cons (.int .i64) (.cons (.int .i64) (.cons .str (.cons .bool (.sl (.cons (.int .i64) (.int .i64))))))))))], []⟩, ⟨[.one (.sl (.cons (.int .i64) (.cons .str (.cons (.int .i64) (.int .i64)))))], []⟩, [(4, ref34_state_F4), (9, ref34_state_F9)]⟩
def ref34_state_l4 (i : Int) (h0 : TDeclState) (l1 : (List TToken)) : (Option (((List TToken) × Unit) × Unit)) := ref34_state_D.lab 4 ref34_state_F4 (((), (), i, ()), (h0, l1, ()))
def ref34_state_l9 (i : Int) (h0 : TDeclState) (l1 : (List TToken)) : (Option (((List TToken) × Unit) × Unit)) := ref34_state_D.lab 9 ref34_state_F9 (((), (), i, ()), (h0, l1, ()))
theorem ref34_state_l4_eq (i : Int) (h0 : TDeclState) (l1 : (List TToken)) : ref34_state_l4 i h0 l1 =
  if (decide (i < (h0.2.1.length : Int))) = true then
    if 0 ≤ i ∧ i < (h0.2.1.length : Int) then
      (ref34_number (h0.2.1.getD i.toNat dRule).1).bind fun y1 =>
        if (l1.length + 1) * 40 ≤ 140737488355328 ∧ 0 < 40 then
          if 0 ≤ i ∧ i < (h0.2.1.length : Int) then
            if 0 ≤ i ∧ i < (h0.2.1.length : Int) then
              if ((h0.2.1.getD i.toNat dRule).2.1 != (h0.2.1.getD i.toNat dRule).1) = true then
                (ref34_mark (strB [46])).bind fun y2 =>
                  (ref34_mark (strB [46])).bind fun y3 =>
                    if 0 ≤ i ∧ i < (h0.2.1.length : Int) then
                      (ref34_number (h0.2.1.getD i.toNat dRule).2.1).bind fun y4 =>
                        if ((l1 ++ [y1.1.1]).length + 3) * 40 ≤ 140737488355328 ∧ 0 < 40 then
                          ref34_state_l9 i h0 ((l1 ++ [y1.1.1]) ++ [y2.1.1, y3.1.1, y4.1.1])
                        else
                          none
                    else
                      none
              else
                ref34_state_l9 i h0 (l1 ++ [y1.1.1])
            else
              none
          else
            none
        else
          none
    else
      none
  else
    if h0.2.2.1 = true then
      (ref34_mark (strB [42])).bind fun y5 =>
        if (l1.length + 1) * 40 ≤ 140737488355328 ∧ 0 < 40 then
          (ref34_target h0.2.2.2).bind fun y6 =>
            if ((l1 ++ [y5.1.1]).length + y6.1.1.length) * 40 ≤ 140737488355328 ∧ 0 < 40 then
              (ref34_mark (strB [125])).bind fun y7 =>
                if (((l1 ++ [y5.1.1]) ++ y6.1.1).length + 1) * 40 ≤ 140737488355328 ∧ 0 < 40 then
                  some ((((l1 ++ [y5.1.1]) ++ y6.1.1) ++ [y7.1.1], ()), ())
                else
                  none
            else
              none
        else
          none
    else
      (ref34_mark (strB [125])).bind fun y8 =>
        if (l1.length + 1) * 40 ≤ 140737488355328 ∧ 0 < 40 then
          some ((l1 ++ [y8.1.1], ()), ())
        else
          none := (FD.lab_eq _ _ _ _).trans (by kernel_rfl)
theorem ref34_state_l9_eq (i : Int) (h0 : TDeclState) (l1 : (List TToken)) : ref34_state_l9 i h0 l1 =
  if 0 ≤ i ∧ i < (h0.2.1.length : Int) then
    (ref34_target (h0.2.1.getD i.toNat dRule)).bind fun y1 =>
      if (l1.length + y1.1.1.length) * 40 ≤ 140737488355328 ∧ 0 < 40 then
        ref34_state_l4 (IntKind.i64.wrap (i + 1)) h0 (l1 ++ y1.1.1)
      else
        none
  else
    none := (FD.lab_eq _ _ _ _).trans (by kernel_rfl)
def ref34_state (s : TDeclState) : (Option (((List TToken) × Unit) × Unit)) :=
  (ref34_word (strB [115, 116, 97, 116, 101])).bind fun y1 =>
    (ref34_word s.1).bind fun y2 =>
      (ref34_mark (strB [123])).bind fun y3 =>
        ref34_state_l4 0 s [y1.1.1, y2.1.1, y3.1.1]
def fc52 : FC := ⟨⟨[.row (.cons .str (.cons (.sl (.cons (.int .i64) (.cons (.int .i64) (.cons .str (.cons .bool (.sl (.cons (.int .i64) (.int .i64)))))))) (.cons .bool (.cons (.int .i64) (.cons (.int .i64) (.cons .str (.cons .bool (.sl (.cons (.int .i64) (.int .i64))))))))))], []⟩, ⟨[.one (.sl (.cons (.int .i64) (.cons .str (.cons (.int .i64) (.int .i64)))))], []⟩, fun x => ref34_state x.1.1⟩
theorem con52 : Contract Tryz.prog 52 fc52 :=
  ref34_state_D.contract tok (cok_of (l := [(50, fc50), (51, fc51), (79, fc79), (80, fc80)]) ⟨con50, con51, con79, con80, trivial⟩) mixed (fn' := Tryz.f52) (by kernel_rfl) (by kernel_rfl) rfl (by kernel_rfl) (fun x => (FD.fn_eq _ _).trans (by kernel_rfl))
end
end Go.Proofs.YtjgjbdnjjepibaaGreatDoor
end

section
/-
YtjgjbdnjjepibaaGreatDoor: signalbench.signalbenchref34.Tokens, as one plain function, its equations, its contract. No condition.
-/
set_option maxRecDepth 100000
set_option linter.unusedVariables false
set_option maxHeartbeats 4000000
open Go Go.AM
namespace Go.Proofs.YtjgjbdnjjepibaaGreatDoor
noncomputable section
def ref34_Tokens_F2 : FSh := ⟨[(1, .one (.ptr 0 0)), (3, .one .str), (4, .one .str)], [.boxr 24 (.cons .str (.cons (.int .i64) (.cons (.int .i64) (.sl (.cons .str (.cons (.sl (.cons (.int .i64) (.cons (.int .i64) (.cons .str (.cons .bool (.sl (.cons (.int .i64) (.int .i64)))))))) (.cons .bool (.cons (.int .i64) (.cons (.int .i64) (.cons .str (.cons .bool (.sl (.cons (.int .i64) (.int .i64))))))))))))))]⟩
def ref34_Tokens_F4 : FSh := ⟨[(1, .one (.ptr 0 0)), (3, .one .str), (4, .one .str)], [.boxr 24 (.cons .str (.cons (.int .i64) (.cons (.int .i64) (.sl (.cons .str (.cons (.sl (.cons (.int .i64) (.cons (.int .i64) (.cons .str (.cons .bool (.sl (.cons (.int .i64) (.int .i64)))))))) (.cons .bool (.cons (.int .i64) (.cons (.int .i64) (.cons .str (.cons .bool (.sl (.cons (.int .i64) (.int .i64))))))))))))))]⟩
def ref34_Tokens_F9 : FSh := ⟨[(1, .one (.ptr 0 0)), (5, .one (.own 1)), (6, .one (.int .i64))], [.boxr 24 (.cons .str (.cons (.int .i64) (.cons (.int .i64) (.sl (.cons .str (.cons (.sl (.cons (.int .i64) (.cons (.int .i64) (.cons .str (.cons .bool (.sl (.cons (.int .i64) (.int .i64)))))))) (.cons .bool (.cons (.int .i64) (.cons (.int .i64) (.cons .str (.cons .bool (.sl (.cons (.int .i64) (.int .i64)))))))))))))), .arr 62 (.cons (.int .i64) (.cons .str (.cons (.int .i64) (.int .i64)))) true]⟩
def ref34_Tokens_D : FD := ⟨T, lookC [(50, fc50), (51, fc51), (52, fc52)], [4, 2], (Tryz.f25.body.getD .skip), Tryz.f25.results.toList, ⟨[.row (.cons .str (.cons (.int .i64) (.cons (.int .i64) (.sl (.cons .str (.cons (.sl (.cons (.int .i64) (.cons (.int .i64) (.cons .str (.cons .bool (.sl (.cons (.int .i64) (.int .i64)))))))) (.cons .bool (.cons (.int .i64) (.cons (.int .i64) (.cons .str (.cons .bool (.sl (.cons (.int .i64) (.int .i64))))))))))))))], []⟩, ⟨[.one (.sl (.cons (.int .i64) (.cons .str (.cons (.int .i64) (.int .i64)))))], []⟩, [(2, ref34_Tokens_F2), (4, ref34_Tokens_F4), (9, ref34_Tokens_F9)]⟩
def ref34_Tokens_l2 (input : ByteArray) (output : ByteArray) (h0 : TDecl) : (Option (((List TToken) × Unit) × Unit)) := ref34_Tokens_D.lab 2 ref34_Tokens_F2 (((), input, output, ()), (h0, ()))
def ref34_Tokens_l4 (input : ByteArray) (output : ByteArray) (h0 : TDecl) : (Option (((List TToken) × Unit) × Unit)) := ref34_Tokens_D.lab 4 ref34_Tokens_F4 (((), input, output, ()), (h0, ()))
def ref34_Tokens_l9 (k0 : Int) (h0 : TDecl) (l1 : (List TToken)) : (Option (((List TToken) × Unit) × Unit)) := ref34_Tokens_D.lab 9 ref34_Tokens_F9 (((), (), k0, ()), (h0, l1, ()))
theorem ref34_Tokens_l2_eq (input : ByteArray) (output : ByteArray) (h0 : TDecl) : ref34_Tokens_l2 input output h0 =
  if (h0.2.2.1 == 5) = true then
    ref34_Tokens_l4 input (strB [102, 114, 97, 109, 101]) h0
  else
    ref34_Tokens_l4 input output h0 := (FD.lab_eq _ _ _ _).trans (by kernel_rfl)
theorem ref34_Tokens_l4_eq (input : ByteArray) (output : ByteArray) (h0 : TDecl) : ref34_Tokens_l4 input output h0 =
  (ref34_word (strB [100, 101, 99, 111, 100, 101, 114])).bind fun y1 =>
    (ref34_word h0.1).bind fun y2 =>
      (ref34_word (strB [105, 110, 112, 117, 116])).bind fun y3 =>
        (ref34_word input).bind fun y4 =>
          (ref34_word (strB [111, 117, 116, 112, 117, 116])).bind fun y5 =>
            (ref34_word output).bind fun y6 =>
              (ref34_mark (strB [123])).bind fun y7 =>
                ref34_Tokens_l9 0 h0 [y1.1.1, y2.1.1, y3.1.1, y4.1.1, y5.1.1, y6.1.1, y7.1.1] := (FD.lab_eq _ _ _ _).trans (by kernel_rfl)
theorem ref34_Tokens_l9_eq (k0 : Int) (h0 : TDecl) (l1 : (List TToken)) : ref34_Tokens_l9 k0 h0 l1 =
  if (decide (k0 < (h0.2.2.2.length : Int))) = true then
    if 0 ≤ k0 ∧ k0 < (h0.2.2.2.length : Int) then
      (ref34_state (h0.2.2.2.getD k0.toNat dDeclState)).bind fun y1 =>
        if (l1.length + y1.1.1.length) * 40 ≤ 140737488355328 ∧ 0 < 40 then
          ref34_Tokens_l9 (IntKind.i64.wrap (k0 + 1)) h0 (l1 ++ y1.1.1)
        else
          none
    else
      none
  else
    (ref34_mark (strB [125])).bind fun y2 =>
      if (l1.length + 1) * 40 ≤ 140737488355328 ∧ 0 < 40 then
        some ((l1 ++ [y2.1.1], ()), ())
      else
        none := (FD.lab_eq _ _ _ _).trans (by kernel_rfl)
def ref34_Tokens (d : TDecl) : (Option (((List TToken) × Unit) × Unit)) :=
  if (d.2.1 == 2) = true then
    ref34_Tokens_l2 (strB [98, 105, 116]) (strB [112, 97, 99, 107, 101, 116]) d
  else
    ref34_Tokens_l2 (strB [98, 121, 116, 101]) (strB [112, 97, 99, 107, 101, 116]) d
def fc25 : FC := ⟨⟨[.row (.cons .str (.cons (.int .i64) (.cons (.int .i64) (.sl (.cons .str (.cons (.sl (.cons (.int .i64) (.cons (.int .i64) (.cons .str (.cons .bool (.sl (.cons (.int .i64) (.int .i64)))))))) (.cons .bool (.cons (.int .i64) (.cons (.int .i64) (.cons .str (.cons .bool (.sl (.cons (.int .i64) (.int .i64))))))))))))))], []⟩, ⟨[.one (.sl (.cons (.int .i64) (.cons .str (.cons (.int .i64) (.int .i64)))))], []⟩, fun x => ref34_Tokens x.1.1⟩
theorem con25 : Contract Tryz.prog 25 fc25 :=
  ref34_Tokens_D.contract tok (cok_of (l := [(50, fc50), (51, fc51), (52, fc52)]) ⟨con50, con51, con52, trivial⟩) mixed (fn' := Tryz.f25) (by kernel_rfl) (by kernel_rfl) rfl (by kernel_rfl) (fun x => (FD.fn_eq _ _).trans (by kernel_rfl))
end
end Go.Proofs.YtjgjbdnjjepibaaGreatDoor
end

section
/-
YtjgjbdnjjepibaaGreatDoor: signalbench.lex.words, as one plain function, its equations, its contract. No condition.
-/
set_option maxRecDepth 100000
set_option linter.unusedVariables false
set_option maxHeartbeats 4000000
open Go Go.AM
namespace Go.Proofs.YtjgjbdnjjepibaaGreatDoor
noncomputable section
def lex_words_F3 : FSh := ⟨[(0, .one .str), (3, .one (.int .i64))], []⟩
def lex_words_D : FD := ⟨T, lookC [(95, fc95)], [], (Tryz.f83.body.getD .skip), Tryz.f83.results.toList, ⟨[.one .str], []⟩, ⟨[.one (.int .i64)], []⟩, [(3, lex_words_F3)]⟩
def lex_words_l3 (s : ByteArray) (n : Int) : (Option ((Int × Unit) × Unit)) := lex_words_D.lab 3 lex_words_F3 ((s, n, ()), ())
theorem lex_words_l3_eq (s : ByteArray) (n : Int) : lex_words_l3 s n =
  if (decide (n < (s.size : Int))) = true then
    if 0 ≤ n ∧ n < (s.size : Int) then
      (lex_word (IntKind.i32.wrap (bt s n))).bind fun y1 =>
        if y1.1.1 = true then
          lex_words_l3 s (IntKind.i64.wrap (n + 1))
        else
          some ((n, ()), ())
    else
      none
  else
    some ((n, ()), ()) := (FD.lab_eq _ _ _ _).trans (by kernel_rfl)
def lex_words (s : ByteArray) : (Option ((Int × Unit) × Unit)) :=
  lex_words_l3 s 0
def fc83 : FC := ⟨⟨[.one .str], []⟩, ⟨[.one (.int .i64)], []⟩, fun x => lex_words x.1.1⟩
theorem con83 : Contract Tryz.prog 83 fc83 :=
  lex_words_D.contract tok (cok_of (l := [(95, fc95)]) ⟨con95, trivial⟩) mixed (fn' := Tryz.f83) (by kernel_rfl) (by kernel_rfl) rfl (by kernel_rfl) (fun x => (FD.fn_eq _ _).trans (by kernel_rfl))
end
end Go.Proofs.YtjgjbdnjjepibaaGreatDoor
end

section
/-
YtjgjbdnjjepibaaGreatDoor: signalbench.lex.quoted, as one plain function, its equations, its contract. No condition.
-/
set_option maxRecDepth 100000
set_option linter.unusedVariables false
set_option maxHeartbeats 4000000
open Go Go.AM
namespace Go.Proofs.YtjgjbdnjjepibaaGreatDoor
noncomputable section
def lex_quoted_F3 : FSh := ⟨[(0, .one .str), (3, .one (.int .i64))], []⟩
def lex_quoted_D : FD := ⟨T, lookC [], [], (Tryz.f85.body.getD .skip), Tryz.f85.results.toList, ⟨[.one .str], []⟩, ⟨[.one (.int .i64)], []⟩, [(3, lex_quoted_F3)]⟩
def lex_quoted_l3 (s : ByteArray) (i : Int) : (Option ((Int × Unit) × Unit)) := lex_quoted_D.lab 3 lex_quoted_F3 ((s, i, ()), ())
theorem lex_quoted_l3_eq (s : ByteArray) (i : Int) : lex_quoted_l3 s i =
  if (decide (i < (s.size : Int))) = true then
    if 0 ≤ i ∧ i < (s.size : Int) then
      if ((bt s i) == 34) = true then
        some ((IntKind.i64.wrap (i + 1), ()), ())
      else
        if ((bt s i) == 92) = true then
          lex_quoted_l3 s (IntKind.i64.wrap ((IntKind.i64.wrap (i + 1)) + 1))
        else
          lex_quoted_l3 s (IntKind.i64.wrap (i + 1))
    else
      none
  else
    some ((0, ()), ()) := (FD.lab_eq _ _ _ _).trans (by kernel_rfl)
def lex_quoted (s : ByteArray) : (Option ((Int × Unit) × Unit)) :=
  lex_quoted_l3 s 1
def fc85 : FC := ⟨⟨[.one .str], []⟩, ⟨[.one (.int .i64)], []⟩, fun x => lex_quoted x.1.1⟩
theorem con85 : Contract Tryz.prog 85 fc85 :=
  lex_quoted_D.contract tok (cok_of (l := []) trivial) mixed (fn' := Tryz.f85) (by kernel_rfl) (by kernel_rfl) rfl (by kernel_rfl) (fun x => (FD.fn_eq _ _).trans (by kernel_rfl))
end
end Go.Proofs.YtjgjbdnjjepibaaGreatDoor
end

section
/-
YtjgjbdnjjepibaaGreatDoor: signalbench.lex.Unquote, as one plain function, its equations, its contract. No condition.
-/
set_option maxRecDepth 100000
set_option linter.unusedVariables false
set_option maxHeartbeats 4000000
open Go Go.AM
namespace Go.Proofs.YtjgjbdnjjepibaaGreatDoor
noncomputable section
def lex_Unquote_F7 : FSh := ⟨[(0, .one .str), (4, .one (.own 0))], [.arr 5 (.int .u8) true]⟩
def lex_Unquote_F14 : FSh := ⟨[(0, .one .str), (4, .one (.own 0)), (5, .one (.int .u8)), (6, .one (.int .i64))], [.arr 5 (.int .u8) true]⟩
def lex_Unquote_D : FD := ⟨T, lookC [(98, fc98), (105, fc105)], [14], (Tryz.f86.body.getD .skip), Tryz.f86.results.toList, ⟨[.one .str], []⟩, ⟨[.one .str, .one (.int .i64)], []⟩, [(7, lex_Unquote_F7), (14, lex_Unquote_F14)]⟩
def lex_Unquote_l7 (s : ByteArray) (l0 : (List Int)) : (Option ((ByteArray × Int × Unit) × Unit)) := lex_Unquote_D.lab 7 lex_Unquote_F7 ((s, (), ()), (l0, ()))
def lex_Unquote_l14 (s : ByteArray) (c : Int) (n : Int) (l0 : (List Int)) : (Option ((ByteArray × Int × Unit) × Unit)) := lex_Unquote_D.lab 14 lex_Unquote_F14 ((s, (), c, n, ()), (l0, ()))
theorem lex_Unquote_l7_eq (s : ByteArray) (l0 : (List Int)) : lex_Unquote_l7 s l0 =
  if (!(s.toList == (strB []).toList)) = true then
    if 0 ≤ (0 : Int) ∧ 0 < (s.size : Int) then
      (lex_plain (IntKind.i32.wrap (bt s 0))).bind fun y1 =>
        if y1.1.1 = true then
          if 0 ≤ (0 : Int) ∧ 0 < (s.size : Int) then
            if (l0.length + 1) * 1 ≤ 140737488355328 ∧ 0 < 1 then
              if 0 ≤ (1 : Int) ∧ 1 ≤ (s.size : Int) then
                lex_Unquote_l7 (s.extract 1 s.size) (l0 ++ [bt s 0])
              else
                none
            else
              none
          else
            none
        else
          if 0 ≤ (0 : Int) ∧ 0 < (s.size : Int) then
            if ((bt s 0) == 92) = true then
              (lex_escape s).bind fun y2 =>
                lex_Unquote_l14 s y2.1.1 y2.1.2.1 l0
            else
              lex_Unquote_l14 s 0 0 l0
          else
            none
    else
      none
  else
    some ((strOfBytes l0, 0, ()), ()) := (FD.lab_eq _ _ _ _).trans (by kernel_rfl)
theorem lex_Unquote_l14_eq (s : ByteArray) (c : Int) (n : Int) (l0 : (List Int)) : lex_Unquote_l14 s c n l0 =
  if (n == 0) = true then
    some (((strB []), 4, ()), ())
  else
    if (l0.length + 1) * 1 ≤ 140737488355328 ∧ 0 < 1 then
      if 0 ≤ n ∧ n ≤ (s.size : Int) then
        lex_Unquote_l7 (s.extract n.toNat s.size) (l0 ++ [c])
      else
        none
    else
      none := (FD.lab_eq _ _ _ _).trans (by kernel_rfl)
def lex_Unquote (s : ByteArray) : (Option ((ByteArray × Int × Unit) × Unit)) :=
  if (decide ((s.size : Int) < 2)) = true then
    some (((strB []), 4, ()), ())
  else
    if 0 ≤ (0 : Int) ∧ 0 < (s.size : Int) then
      if ((bt s 0) != 34) = true then
        some (((strB []), 4, ()), ())
      else
        if 0 ≤ IntKind.i64.wrap ((s.size : Int) - 1) ∧ IntKind.i64.wrap ((s.size : Int) - 1) < (s.size : Int) then
          if ((bt s (IntKind.i64.wrap ((s.size : Int) - 1))) != 34) = true then
            some (((strB []), 4, ()), ())
          else
            if 0 ≤ (1 : Int) ∧ (1 : Int) ≤ IntKind.i64.wrap ((s.size : Int) - 1) ∧ IntKind.i64.wrap ((s.size : Int) - 1) ≤ (s.size : Int) then
              lex_Unquote_l7 (s.extract 1 (IntKind.i64.wrap ((s.size : Int) - 1)).toNat) []
            else
              none
        else
          none
    else
      none
def fc86 : FC := ⟨⟨[.one .str], []⟩, ⟨[.one .str, .one (.int .i64)], []⟩, fun x => lex_Unquote x.1.1⟩
theorem con86 : Contract Tryz.prog 86 fc86 :=
  lex_Unquote_D.contract tok (cok_of (l := [(98, fc98), (105, fc105)]) ⟨con98, con105, trivial⟩) mixed (fn' := Tryz.f86) (by kernel_rfl) (by kernel_rfl) rfl (by kernel_rfl) (fun x => (FD.fn_eq _ _).trans (by kernel_rfl))
end
end Go.Proofs.YtjgjbdnjjepibaaGreatDoor
end

section
/-
YtjgjbdnjjepibaaGreatDoor: signalbench.lex.take, as one plain function, its equations, its contract. No condition.
-/
set_option maxRecDepth 100000
set_option linter.unusedVariables false
set_option maxHeartbeats 4000000
open Go Go.AM
namespace Go.Proofs.YtjgjbdnjjepibaaGreatDoor
noncomputable section
def lex_take_D : FD := ⟨T, lookC [(65, fc65), (66, fc66), (68, fc68), (82, fc82), (83, fc83), (84, fc84), (85, fc85), (86, fc86)], [], (Tryz.f54.body.getD .skip), Tryz.f54.results.toList, ⟨[.one .str], []⟩, ⟨[.row (.cons (.int .i64) (.cons .str (.cons (.int .i64) (.int .i64)))), .one (.int .i64), .one (.int .i64)], []⟩, []⟩
def lex_take (s : ByteArray) : (Option ((TToken × Int × Int × Unit) × Unit)) :=
  if 0 ≤ (0 : Int) ∧ 0 < (s.size : Int) then
    (lex_letter (IntKind.i32.wrap (bt s 0))).bind fun y1 =>
      if y1.1.1 = true then
        (lex_words s).bind fun y2 =>
          if 0 ≤ (0 : Int) ∧ (0 : Int) ≤ y2.1.1 ∧ y2.1.1 ≤ (s.size : Int) then
            (lex_Name (s.extract 0 y2.1.1.toNat)).bind fun y3 =>
              if (!y3.1.1) = true then
                some (((0, (strB []), 0, 0), 0, 4, ()), ())
              else
                if 0 ≤ (0 : Int) ∧ (0 : Int) ≤ y2.1.1 ∧ y2.1.1 ≤ (s.size : Int) then
                  some (((1, s.extract 0 y2.1.1.toNat, 0, 0), y2.1.1, 0, ()), ())
                else
                  none
          else
            none
      else
        (lex_digit (IntKind.i32.wrap (bt s 0))).bind fun y4 =>
          if y4.1.1 = true then
            if 0 ≤ (1 : Int) ∧ 1 ≤ (s.size : Int) then
              (lex_words (s.extract 1 s.size)).bind fun y5 =>
                if 0 ≤ (0 : Int) ∧ (0 : Int) ≤ IntKind.i64.wrap (1 + y5.1.1) ∧ IntKind.i64.wrap (1 + y5.1.1) ≤ (s.size : Int) then
                  (lex_Number (s.extract 0 (IntKind.i64.wrap (1 + y5.1.1)).toNat)).bind fun y6 =>
                    if 0 ≤ (0 : Int) ∧ (0 : Int) ≤ IntKind.i64.wrap (1 + y5.1.1) ∧ IntKind.i64.wrap (1 + y5.1.1) ≤ (s.size : Int) then
                      some (((2, s.extract 0 (IntKind.i64.wrap (1 + y5.1.1)).toNat, y6.1.1, 0), IntKind.i64.wrap (1 + y5.1.1), y6.1.2.1, ()), ())
                    else
                      none
                else
                  none
            else
              none
          else
            if ((IntKind.i32.wrap (bt s 0)) == 45) = true then
              if 0 ≤ (1 : Int) ∧ 1 ≤ (s.size : Int) then
                (lex_words (s.extract 1 s.size)).bind fun y7 =>
                  if 0 ≤ (0 : Int) ∧ (0 : Int) ≤ IntKind.i64.wrap (1 + y7.1.1) ∧ IntKind.i64.wrap (1 + y7.1.1) ≤ (s.size : Int) then
                    (lex_Number (s.extract 0 (IntKind.i64.wrap (1 + y7.1.1)).toNat)).bind fun y8 =>
                      if 0 ≤ (0 : Int) ∧ (0 : Int) ≤ IntKind.i64.wrap (1 + y7.1.1) ∧ IntKind.i64.wrap (1 + y7.1.1) ≤ (s.size : Int) then
                        some (((2, s.extract 0 (IntKind.i64.wrap (1 + y7.1.1)).toNat, y8.1.1, 0), IntKind.i64.wrap (1 + y7.1.1), y8.1.2.1, ()), ())
                      else
                        none
                  else
                    none
              else
                none
            else
              if ((IntKind.i32.wrap (bt s 0)) == 34) = true then
                (lex_quoted s).bind fun y9 =>
                  if 0 ≤ (0 : Int) ∧ (0 : Int) ≤ y9.1.1 ∧ y9.1.1 ≤ (s.size : Int) then
                    (lex_Unquote (s.extract 0 y9.1.1.toNat)).bind fun y10 =>
                      some (((3, y10.1.1, 0, 0), y9.1.1, y10.1.2.1, ()), ())
                  else
                    none
              else
                (lex_mark (IntKind.i32.wrap (bt s 0))).bind fun y11 =>
                  if y11.1.1 = true then
                    if 0 ≤ (0 : Int) ∧ (0 : Int) ≤ 1 ∧ 1 ≤ (s.size : Int) then
                      some (((4, s.extract 0 1, 0, 0), 1, 0, ()), ())
                    else
                      none
                  else
                    some (((0, (strB []), 0, 0), 0, 4, ()), ())
  else
    none
def fc54 : FC := ⟨⟨[.one .str], []⟩, ⟨[.row (.cons (.int .i64) (.cons .str (.cons (.int .i64) (.int .i64)))), .one (.int .i64), .one (.int .i64)], []⟩, fun x => lex_take x.1.1⟩
theorem con54 : Contract Tryz.prog 54 fc54 :=
  lex_take_D.contract tok (cok_of (l := [(65, fc65), (66, fc66), (68, fc68), (82, fc82), (83, fc83), (84, fc84), (85, fc85), (86, fc86)]) ⟨con65, con66, con68, con82, con83, con84, con85, con86, trivial⟩) mixed (fn' := Tryz.f54) (by kernel_rfl) (by kernel_rfl) rfl (by kernel_rfl) (fun x => (FD.fn_eq _ _).trans (by kernel_rfl))
end
end Go.Proofs.YtjgjbdnjjepibaaGreatDoor
end

section
/-
YtjgjbdnjjepibaaGreatDoor: strings.IndexByte, by the shelf. No condition.
-/
open Go Go.AM
variable [Inhabited ZMem]
namespace Go.Proofs.YtjgjbdnjjepibaaGreatDoor
noncomputable section
def strings_IndexByte (s : ByteArray) (c : Int) : Option ((Int × Unit) × Unit) := some ((Lib.indexByte s.data.toList c.toNat.toUInt8, ()), ())
def fc53 : FC := ⟨⟨[.one .str, .one (.int .u8)], []⟩, ⟨[.one (.int .i64)], []⟩, fun x => strings_IndexByte x.1.1 x.1.2.1⟩
theorem con53 : Contract Tryz.prog 53 fc53 :=
  Contract.still (P := Tryz.prog) (f := 53) (sa := [.one .str, .one (.int .u8)]) (sr := [.one (.int .i64)]) (fn := Tryz.f53) (c := Tryz.f53.body.getD .skip) (by kernel_rfl) (by kernel_rfl) (by kernel_rfl) (g := fun x => some (Lib.indexByte x.1.data.toList x.2.1.toNat.toUInt8, ())) (fun w M G x y vals hI hv hg => by
    obtain ⟨s, c, u⟩ := x
    obtain ⟨vs⟩ := vals
    match vs, hv with
    | [v1, v2], hv =>
      obtain ⟨⟨rfl, _⟩, ⟨rfl, _⟩, _⟩ := hv
      cases hg
      refine (Tryz.strings_IndexByte s c w).mono ?_
      rintro e w' ⟨rfl, rfl⟩
      exact ⟨_, rfl, rfl, rfl, rfl⟩)
end
end Go.Proofs.YtjgjbdnjjepibaaGreatDoor
end

section
/-
YtjgjbdnjjepibaaGreatDoor: signalbench.lex.Tokens, as one plain function, its equations, its contract. No condition.
-/
set_option maxRecDepth 100000
set_option linter.unusedVariables false
set_option maxHeartbeats 4000000
open Go Go.AM
namespace Go.Proofs.YtjgjbdnjjepibaaGreatDoor
noncomputable section
def lex_Tokens_F7 : FSh := ⟨[(0, .one .str), (5, .one (.own 0)), (6, .one (.int .i64))], [.arr 62 (.cons (.int .i64) (.cons .str (.cons (.int .i64) (.int .i64)))) true]⟩
def lex_Tokens_F15 : FSh := ⟨[(0, .one .str), (5, .one (.own 0)), (6, .one (.int .i64)), (17, .one (.int .u8)), (24, .one .bool)], [.arr 62 (.cons (.int .i64) (.cons .str (.cons (.int .i64) (.int .i64)))) true]⟩
def lex_Tokens_D : FD := ⟨T, lookC [(53, fc53), (54, fc54)], [15], (Tryz.f26.body.getD .skip), Tryz.f26.results.toList, ⟨[.one .str], []⟩, ⟨[.one (.sl (.cons (.int .i64) (.cons .str (.cons (.int .i64) (.int .i64))))), .one (.int .i64), .one (.int .i64)], []⟩, [(7, lex_Tokens_F7), (15, lex_Tokens_F15)]⟩
def lex_Tokens_l7 (s : ByteArray) (line : Int) (l0 : (List TToken)) : (Option (((List TToken) × Int × Int × Unit) × Unit)) := lex_Tokens_D.lab 7 lex_Tokens_F7 ((s, (), line, ()), (l0, ()))
def lex_Tokens_l15 (s : ByteArray) (line : Int) (t17 : Int) (t24 : Bool) (l0 : (List TToken)) : (Option (((List TToken) × Int × Int × Unit) × Unit)) := lex_Tokens_D.lab 15 lex_Tokens_F15 ((s, (), line, t17, t24, ()), (l0, ()))
theorem lex_Tokens_l7_eq (s : ByteArray) (line : Int) (l0 : (List TToken)) : lex_Tokens_l7 s line l0 =
  if (!(s.toList == (strB []).toList)) = true then
    if 0 ≤ (0 : Int) ∧ 0 < (s.size : Int) then
      if ((bt s 0) == 10) = true then
        if 0 ≤ (1 : Int) ∧ 1 ≤ (s.size : Int) then
          lex_Tokens_l7 (s.extract 1 s.size) (IntKind.i64.wrap (line + 1)) l0
        else
          none
      else
        if ((bt s 0) == 32) = true then
          lex_Tokens_l15 s line (bt s 0) true l0
        else
          lex_Tokens_l15 s line (bt s 0) ((bt s 0) == 9) l0
    else
      none
  else
    some ((l0, 0, 0, ()), ()) := (FD.lab_eq _ _ _ _).trans (by kernel_rfl)
theorem lex_Tokens_l15_eq (s : ByteArray) (line : Int) (t17 : Int) (t24 : Bool) (l0 : (List TToken)) : lex_Tokens_l15 s line t17 t24 l0 =
  if t24 = true then
    if 0 ≤ (1 : Int) ∧ 1 ≤ (s.size : Int) then
      lex_Tokens_l7 (s.extract 1 s.size) line l0
    else
      none
  else
    if (t17 == 35) = true then
      (strings_IndexByte s 10).bind fun y1 =>
        if (decide (y1.1.1 < 0)) = true then
          if 0 ≤ (s.size : Int) ∧ (s.size : Int) ≤ (s.size : Int) then
            lex_Tokens_l7 (s.extract (s.size : Int).toNat s.size) line l0
          else
            none
        else
          if 0 ≤ y1.1.1 ∧ y1.1.1 ≤ (s.size : Int) then
            lex_Tokens_l7 (s.extract y1.1.1.toNat s.size) line l0
          else
            none
    else
      (lex_take s).bind fun y2 =>
        if (y2.1.2.2.1 != 0) = true then
          some (([], line, y2.1.2.2.1, ()), ())
        else
          if (l0.length + 1) * 40 ≤ 140737488355328 ∧ 0 < 40 then
            if 0 ≤ y2.1.2.1 ∧ y2.1.2.1 ≤ (s.size : Int) then
              lex_Tokens_l7 (s.extract y2.1.2.1.toNat s.size) line (l0 ++ [(y2.1.1.1, y2.1.1.2.1, y2.1.1.2.2.1, line)])
            else
              none
          else
            none := (FD.lab_eq _ _ _ _).trans (by kernel_rfl)
def lex_Tokens (s : ByteArray) : (Option (((List TToken) × Int × Int × Unit) × Unit)) :=
  if (decide ((s.size : Int) > 1048576)) = true then
    some (([], 0, 6, ()), ())
  else
    lex_Tokens_l7 s 1 []
def fc26 : FC := ⟨⟨[.one .str], []⟩, ⟨[.one (.sl (.cons (.int .i64) (.cons .str (.cons (.int .i64) (.int .i64))))), .one (.int .i64), .one (.int .i64)], []⟩, fun x => lex_Tokens x.1.1⟩
theorem con26 : Contract Tryz.prog 26 fc26 :=
  lex_Tokens_D.contract tok (cok_of (l := [(53, fc53), (54, fc54)]) ⟨con53, con54, trivial⟩) mixed (fn' := Tryz.f26) (by kernel_rfl) (by kernel_rfl) rfl (by kernel_rfl) (fun x => (FD.fn_eq _ _).trans (by kernel_rfl))
end
end Go.Proofs.YtjgjbdnjjepibaaGreatDoor
end

section
/-
YtjgjbdnjjepibaaGreatDoor: (*signalbench.decl.reader).is, as one plain function, its equations, its contract. No condition.
-/
set_option maxRecDepth 100000
set_option linter.unusedVariables false
set_option maxHeartbeats 4000000
open Go Go.AM
namespace Go.Proofs.YtjgjbdnjjepibaaGreatDoor
noncomputable section
def decl_reader_is_D : FD := ⟨T, lookC [], [], (Tryz.f55.body.getD .skip), Tryz.f55.results.toList, ⟨[.one (.ptr 0 0), .one (.int .i64), .one .str], [.boxr 60 (.cons (.sl (.cons (.int .i64) (.cons .str (.cons (.int .i64) (.int .i64))))) (.cons (.int .i64) (.int .i64)))]⟩, ⟨[.one .bool], [.boxr 60 (.cons (.sl (.cons (.int .i64) (.cons .str (.cons (.int .i64) (.int .i64))))) (.cons (.int .i64) (.int .i64)))]⟩, []⟩
def decl_reader_is (kind : Int) (text : ByteArray) (h0 : Treader) : (Option ((Bool × Unit) × (Treader × Unit))) :=
  if (decide (h0.2.2 > 0)) = true then
    some ((false, ()), (h0, ()))
  else
    if (decide (h0.2.1 ≥ (h0.1.length : Int))) = true then
      some ((false, ()), (h0, ()))
    else
      if 0 ≤ h0.2.1 ∧ h0.2.1 < (h0.1.length : Int) then
        if ((h0.1.getD h0.2.1.toNat dToken).1 == kind) = true then
          if (text.toList == (strB []).toList) = true then
            some ((true, ()), (h0, ()))
          else
            some (((h0.1.getD h0.2.1.toNat dToken).2.1.toList == text.toList, ()), (h0, ()))
        else
          some ((false, ()), (h0, ()))
      else
        none
def fc55 : FC := ⟨⟨[.one (.ptr 0 0), .one (.int .i64), .one .str], [.boxr 60 (.cons (.sl (.cons (.int .i64) (.cons .str (.cons (.int .i64) (.int .i64))))) (.cons (.int .i64) (.int .i64)))]⟩, ⟨[.one .bool], [.boxr 60 (.cons (.sl (.cons (.int .i64) (.cons .str (.cons (.int .i64) (.int .i64))))) (.cons (.int .i64) (.int .i64)))]⟩, fun x => decl_reader_is x.1.2.1 x.1.2.2.1 x.2.1⟩
theorem con55 : Contract Tryz.prog 55 fc55 :=
  decl_reader_is_D.contract tok (cok_of (l := []) trivial) mixed (fn' := Tryz.f55) (by kernel_rfl) (by kernel_rfl) rfl (by kernel_rfl) (fun x => (FD.fn_eq _ _).trans (by kernel_rfl))
end
end Go.Proofs.YtjgjbdnjjepibaaGreatDoor
end

section
/-
YtjgjbdnjjepibaaGreatDoor: (*signalbench.decl.reader).take, as one plain function, its equations, its contract. No condition.
-/
set_option maxRecDepth 100000
set_option linter.unusedVariables false
set_option maxHeartbeats 4000000
open Go Go.AM
namespace Go.Proofs.YtjgjbdnjjepibaaGreatDoor
noncomputable section
def decl_reader_take_D : FD := ⟨T, lookC [(55, fc55)], [], (Tryz.f29.body.getD .skip), Tryz.f29.results.toList, ⟨[.one (.ptr 0 0), .one (.int .i64), .one .str], [.boxr 60 (.cons (.sl (.cons (.int .i64) (.cons .str (.cons (.int .i64) (.int .i64))))) (.cons (.int .i64) (.int .i64)))]⟩, ⟨[.row (.cons (.int .i64) (.cons .str (.cons (.int .i64) (.int .i64)))), .one .bool], [.boxr 60 (.cons (.sl (.cons (.int .i64) (.cons .str (.cons (.int .i64) (.int .i64))))) (.cons (.int .i64) (.int .i64)))]⟩, []⟩
def decl_reader_take (kind : Int) (text : ByteArray) (h0 : Treader) : (Option ((TToken × Bool × Unit) × (Treader × Unit))) :=
  (decl_reader_is kind text h0).bind fun y1 =>
    if (!y1.1.1) = true then
      some (((0, (strB []), 0, 0), false, ()), (y1.2.1, ()))
    else
      if 0 ≤ IntKind.i64.wrap ((IntKind.i64.wrap (y1.2.1.2.1 + 1)) - 1) ∧ IntKind.i64.wrap ((IntKind.i64.wrap (y1.2.1.2.1 + 1)) - 1) < (y1.2.1.1.length : Int) then
        some (((y1.2.1.1.getD (IntKind.i64.wrap ((IntKind.i64.wrap (y1.2.1.2.1 + 1)) - 1)).toNat dToken), true, ()), ((y1.2.1.1, IntKind.i64.wrap (y1.2.1.2.1 + 1), y1.2.1.2.2), ()))
      else
        none
def fc29 : FC := ⟨⟨[.one (.ptr 0 0), .one (.int .i64), .one .str], [.boxr 60 (.cons (.sl (.cons (.int .i64) (.cons .str (.cons (.int .i64) (.int .i64))))) (.cons (.int .i64) (.int .i64)))]⟩, ⟨[.row (.cons (.int .i64) (.cons .str (.cons (.int .i64) (.int .i64)))), .one .bool], [.boxr 60 (.cons (.sl (.cons (.int .i64) (.cons .str (.cons (.int .i64) (.int .i64))))) (.cons (.int .i64) (.int .i64)))]⟩, fun x => decl_reader_take x.1.2.1 x.1.2.2.1 x.2.1⟩
theorem con29 : Contract Tryz.prog 29 fc29 :=
  decl_reader_take_D.contract tok (cok_of (l := [(55, fc55)]) ⟨con55, trivial⟩) mixed (fn' := Tryz.f29) (by kernel_rfl) (by kernel_rfl) rfl (by kernel_rfl) (fun x => (FD.fn_eq _ _).trans (by kernel_rfl))
end
end Go.Proofs.YtjgjbdnjjepibaaGreatDoor
end

section
/-
YtjgjbdnjjepibaaGreatDoor: (*signalbench.decl.reader).fail, as one plain function, its equations, its contract. No condition.
-/
set_option maxRecDepth 100000
set_option linter.unusedVariables false
set_option maxHeartbeats 4000000
open Go Go.AM
namespace Go.Proofs.YtjgjbdnjjepibaaGreatDoor
noncomputable section
def decl_reader_fail_D : FD := ⟨T, lookC [], [], (Tryz.f31.body.getD .skip), Tryz.f31.results.toList, ⟨[.one (.ptr 0 0)], [.boxr 60 (.cons (.sl (.cons (.int .i64) (.cons .str (.cons (.int .i64) (.int .i64))))) (.cons (.int .i64) (.int .i64)))]⟩, ⟨[], [.boxr 60 (.cons (.sl (.cons (.int .i64) (.cons .str (.cons (.int .i64) (.int .i64))))) (.cons (.int .i64) (.int .i64)))]⟩, []⟩
def decl_reader_fail (h0 : Treader) : (Option (Unit × (Treader × Unit))) :=
  if (decide (h0.2.2 > 0)) = true then
    some ((), (h0, ()))
  else
    if (decide (h0.2.1 < (h0.1.length : Int))) = true then
      if 0 ≤ h0.2.1 ∧ h0.2.1 < (h0.1.length : Int) then
        some ((), ((h0.1, h0.2.1, (h0.1.getD h0.2.1.toNat dToken).2.2.2), ()))
      else
        none
    else
      if (decide ((h0.1.length : Int) > 0)) = true then
        if 0 ≤ IntKind.i64.wrap ((h0.1.length : Int) - 1) ∧ IntKind.i64.wrap ((h0.1.length : Int) - 1) < (h0.1.length : Int) then
          some ((), ((h0.1, h0.2.1, (h0.1.getD (IntKind.i64.wrap ((h0.1.length : Int) - 1)).toNat dToken).2.2.2), ()))
        else
          none
      else
        some ((), ((h0.1, h0.2.1, 1), ()))
def fc31 : FC := ⟨⟨[.one (.ptr 0 0)], [.boxr 60 (.cons (.sl (.cons (.int .i64) (.cons .str (.cons (.int .i64) (.int .i64))))) (.cons (.int .i64) (.int .i64)))]⟩, ⟨[], [.boxr 60 (.cons (.sl (.cons (.int .i64) (.cons .str (.cons (.int .i64) (.int .i64))))) (.cons (.int .i64) (.int .i64)))]⟩, fun x => decl_reader_fail x.2.1⟩
theorem con31 : Contract Tryz.prog 31 fc31 :=
  decl_reader_fail_D.contract tok (cok_of (l := []) trivial) mixed (fn' := Tryz.f31) (by kernel_rfl) (by kernel_rfl) rfl (by kernel_rfl) (fun x => (FD.fn_eq _ _).trans (by kernel_rfl))
end
end Go.Proofs.YtjgjbdnjjepibaaGreatDoor
end

section
/-
YtjgjbdnjjepibaaGreatDoor: (*signalbench.decl.reader).need, as one plain function, its equations, its contract. No condition.
-/
set_option maxRecDepth 100000
set_option linter.unusedVariables false
set_option maxHeartbeats 4000000
open Go Go.AM
namespace Go.Proofs.YtjgjbdnjjepibaaGreatDoor
noncomputable section
def decl_reader_need_D : FD := ⟨T, lookC [(29, fc29), (31, fc31)], [], (Tryz.f27.body.getD .skip), Tryz.f27.results.toList, ⟨[.one (.ptr 0 0), .one (.int .i64), .one .str], [.boxr 60 (.cons (.sl (.cons (.int .i64) (.cons .str (.cons (.int .i64) (.int .i64))))) (.cons (.int .i64) (.int .i64)))]⟩, ⟨[.row (.cons (.int .i64) (.cons .str (.cons (.int .i64) (.int .i64))))], [.boxr 60 (.cons (.sl (.cons (.int .i64) (.cons .str (.cons (.int .i64) (.int .i64))))) (.cons (.int .i64) (.int .i64)))]⟩, []⟩
def decl_reader_need (kind : Int) (text : ByteArray) (h0 : Treader) : (Option ((TToken × Unit) × (Treader × Unit))) :=
  (decl_reader_take kind text h0).bind fun y1 =>
    if (!y1.1.2.1) = true then
      (decl_reader_fail y1.2.1).bind fun y2 =>
        some ((y1.1.1, ()), (y2.2.1, ()))
    else
      some ((y1.1.1, ()), (y1.2.1, ()))
def fc27 : FC := ⟨⟨[.one (.ptr 0 0), .one (.int .i64), .one .str], [.boxr 60 (.cons (.sl (.cons (.int .i64) (.cons .str (.cons (.int .i64) (.int .i64))))) (.cons (.int .i64) (.int .i64)))]⟩, ⟨[.row (.cons (.int .i64) (.cons .str (.cons (.int .i64) (.int .i64))))], [.boxr 60 (.cons (.sl (.cons (.int .i64) (.cons .str (.cons (.int .i64) (.int .i64))))) (.cons (.int .i64) (.int .i64)))]⟩, fun x => decl_reader_need x.1.2.1 x.1.2.2.1 x.2.1⟩
theorem con27 : Contract Tryz.prog 27 fc27 :=
  decl_reader_need_D.contract tok (cok_of (l := [(29, fc29), (31, fc31)]) ⟨con29, con31, trivial⟩) mixed (fn' := Tryz.f27) (by kernel_rfl) (by kernel_rfl) rfl (by kernel_rfl) (fun x => (FD.fn_eq _ _).trans (by kernel_rfl))
end
end Go.Proofs.YtjgjbdnjjepibaaGreatDoor
end

section
/-
YtjgjbdnjjepibaaGreatDoor: (*signalbench.decl.reader).either, as one plain function, its equations, its contract. No condition.
-/
set_option maxRecDepth 100000
set_option linter.unusedVariables false
set_option maxHeartbeats 4000000
open Go Go.AM
namespace Go.Proofs.YtjgjbdnjjepibaaGreatDoor
noncomputable section
def decl_reader_either_D : FD := ⟨T, lookC [(27, fc27), (29, fc29)], [], (Tryz.f28.body.getD .skip), Tryz.f28.results.toList, ⟨[.one (.ptr 0 0), .one .str, .one (.int .i64), .one .str, .one (.int .i64)], [.boxr 60 (.cons (.sl (.cons (.int .i64) (.cons .str (.cons (.int .i64) (.int .i64))))) (.cons (.int .i64) (.int .i64)))]⟩, ⟨[.one (.int .i64)], [.boxr 60 (.cons (.sl (.cons (.int .i64) (.cons .str (.cons (.int .i64) (.int .i64))))) (.cons (.int .i64) (.int .i64)))]⟩, []⟩
def decl_reader_either (a : ByteArray) (na : Int) (b : ByteArray) (nb : Int) (h0 : Treader) : (Option ((Int × Unit) × (Treader × Unit))) :=
  (decl_reader_take 1 a h0).bind fun y1 =>
    if y1.1.2.1 = true then
      some ((na, ()), (y1.2.1, ()))
    else
      (decl_reader_need 1 b y1.2.1).bind fun y2 =>
        some ((nb, ()), (y2.2.1, ()))
def fc28 : FC := ⟨⟨[.one (.ptr 0 0), .one .str, .one (.int .i64), .one .str, .one (.int .i64)], [.boxr 60 (.cons (.sl (.cons (.int .i64) (.cons .str (.cons (.int .i64) (.int .i64))))) (.cons (.int .i64) (.int .i64)))]⟩, ⟨[.one (.int .i64)], [.boxr 60 (.cons (.sl (.cons (.int .i64) (.cons .str (.cons (.int .i64) (.int .i64))))) (.cons (.int .i64) (.int .i64)))]⟩, fun x => decl_reader_either x.1.2.1 x.1.2.2.1 x.1.2.2.2.1 x.1.2.2.2.2.1 x.2.1⟩
theorem con28 : Contract Tryz.prog 28 fc28 :=
  decl_reader_either_D.contract tok (cok_of (l := [(27, fc27), (29, fc29)]) ⟨con27, con29, trivial⟩) mixed (fn' := Tryz.f28) (by kernel_rfl) (by kernel_rfl) rfl (by kernel_rfl) (fun x => (FD.fn_eq _ _).trans (by kernel_rfl))
end
end Go.Proofs.YtjgjbdnjjepibaaGreatDoor
end

section
/-
YtjgjbdnjjepibaaGreatDoor: signalbench.signalbenchlaw34.small, as one plain function, its equations, its contract. No condition.
-/
set_option maxRecDepth 100000
set_option linter.unusedVariables false
set_option maxHeartbeats 4000000
open Go Go.AM
namespace Go.Proofs.YtjgjbdnjjepibaaGreatDoor
noncomputable section
def law34_small_F7 : FSh := ⟨[(1, .one (.ptr 0 0)), (3, .one (.int .i64)), (4, .one (.int .i64))], [.boxr 24 (.cons .str (.cons (.int .i64) (.cons (.int .i64) (.sl (.cons .str (.cons (.sl (.cons (.int .i64) (.cons (.int .i64) (.cons .str (.cons .bool (.sl (.cons (.int .i64) (.int .i64)))))))) (.cons .bool (.cons (.int .i64) (.cons (.int .i64) (.cons .str (.cons .bool (.sl (.cons (.int .i64) (.int .i64))))))))))))))]⟩
def law34_small_F17 : FSh := ⟨[(1, .one (.ptr 0 0)), (3, .one (.int .i64)), (4, .one (.int .i64)), (5, .one (.ptr 1 0)), (6, .one (.int .i64))], [.boxr 24 (.cons .str (.cons (.int .i64) (.cons (.int .i64) (.sl (.cons .str (.cons (.sl (.cons (.int .i64) (.cons (.int .i64) (.cons .str (.cons .bool (.sl (.cons (.int .i64) (.int .i64)))))))) (.cons .bool (.cons (.int .i64) (.cons (.int .i64) (.cons .str (.cons .bool (.sl (.cons (.int .i64) (.int .i64)))))))))))))), .boxr 39 (.cons .str (.cons (.sl (.cons (.int .i64) (.cons (.int .i64) (.cons .str (.cons .bool (.sl (.cons (.int .i64) (.int .i64)))))))) (.cons .bool (.cons (.int .i64) (.cons (.int .i64) (.cons .str (.cons .bool (.sl (.cons (.int .i64) (.int .i64))))))))))]⟩
def law34_small_D : FD := ⟨T, lookC [(12, fc12), (13, fc13)], [], (Tryz.f5.body.getD .skip), Tryz.f5.results.toList, ⟨[.row (.cons .str (.cons (.int .i64) (.cons (.int .i64) (.sl (.cons .str (.cons (.sl (.cons (.int .i64) (.cons (.int .i64) (.cons .str (.cons .bool (.sl (.cons (.int .i64) (.int .i64)))))))) (.cons .bool (.cons (.int .i64) (.cons (.int .i64) (.cons .str (.cons .bool (.sl (.cons (.int .i64) (.int .i64))))))))))))))], []⟩, ⟨[.one .bool], []⟩, [(7, law34_small_F7), (17, law34_small_F17)]⟩
def law34_small_l7 (n : Int) (k0 : Int) (h0 : TDecl) : (Option ((Bool × Unit) × Unit)) := law34_small_D.lab 7 law34_small_F7 (((), n, k0, ()), (h0, ()))
def law34_small_l17 (n : Int) (k0 : Int) (i : Int) (h0 : TDecl) (h1 : TDeclState) : (Option ((Bool × Unit) × Unit)) := law34_small_D.lab 17 law34_small_F17 (((), n, k0, (), i, ()), (h0, h1, ()))
theorem law34_small_l7_eq (n : Int) (k0 : Int) (h0 : TDecl) : law34_small_l7 n k0 h0 =
  if (decide (k0 < (h0.2.2.2.length : Int))) = true then
    if 0 ≤ k0 ∧ k0 < (h0.2.2.2.length : Int) then
      if (decide ((IntKind.i64.wrap (n + ((h0.2.2.2.getD k0.toNat dDeclState).2.1.length : Int))) > 67)) = true then
        some ((false, ()), ())
      else
        (law34_named (h0.2.2.2.getD k0.toNat dDeclState).1).bind fun y1 =>
          if (!y1.1.1) = true then
            some ((false, ()), ())
          else
            (law34_short (h0.2.2.2.getD k0.toNat dDeclState).2.2.2).bind fun y2 =>
              if (!y2.1.1) = true then
                some ((false, ()), ())
              else
                law34_small_l17 (IntKind.i64.wrap (n + ((h0.2.2.2.getD k0.toNat dDeclState).2.1.length : Int))) k0 0 h0 (h0.2.2.2.getD k0.toNat dDeclState)
    else
      none
  else
    some ((true, ()), ()) := (FD.lab_eq _ _ _ _).trans (by kernel_rfl)
theorem law34_small_l17_eq (n : Int) (k0 : Int) (i : Int) (h0 : TDecl) (h1 : TDeclState) : law34_small_l17 n k0 i h0 h1 =
  if (decide (i < (h1.2.1.length : Int))) = true then
    if 0 ≤ i ∧ i < (h1.2.1.length : Int) then
      (law34_short (h1.2.1.getD i.toNat dRule)).bind fun y1 =>
        if (!y1.1.1) = true then
          some ((false, ()), ())
        else
          law34_small_l17 n k0 (IntKind.i64.wrap (i + 1)) h0 h1
    else
      none
  else
    law34_small_l7 n (IntKind.i64.wrap (k0 + 1)) h0 := (FD.lab_eq _ _ _ _).trans (by kernel_rfl)
def law34_small (d : TDecl) : (Option ((Bool × Unit) × Unit)) :=
  (law34_named d.1).bind fun y1 =>
    if (!y1.1.1) = true then
      some ((false, ()), ())
    else
      if (decide ((d.2.2.2.length : Int) > 34)) = true then
        some ((false, ()), ())
      else
        law34_small_l7 0 0 d
def fc5 : FC := ⟨⟨[.row (.cons .str (.cons (.int .i64) (.cons (.int .i64) (.sl (.cons .str (.cons (.sl (.cons (.int .i64) (.cons (.int .i64) (.cons .str (.cons .bool (.sl (.cons (.int .i64) (.int .i64)))))))) (.cons .bool (.cons (.int .i64) (.cons (.int .i64) (.cons .str (.cons .bool (.sl (.cons (.int .i64) (.int .i64))))))))))))))], []⟩, ⟨[.one .bool], []⟩, fun x => law34_small x.1.1⟩
theorem con5 : Contract Tryz.prog 5 fc5 :=
  law34_small_D.contract tok (cok_of (l := [(12, fc12), (13, fc13)]) ⟨con12, con13, trivial⟩) mixed (fn' := Tryz.f5) (by kernel_rfl) (by kernel_rfl) rfl (by kernel_rfl) (fun x => (FD.fn_eq _ _).trans (by kernel_rfl))
end
end Go.Proofs.YtjgjbdnjjepibaaGreatDoor
end

section
/-
YtjgjbdnjjepibaaGreatDoor: signalbench.decl.Print, as one plain function, its equations, its contract. No condition.
-/
set_option maxRecDepth 100000
set_option linter.unusedVariables false
set_option maxHeartbeats 4000000
open Go Go.AM
namespace Go.Proofs.YtjgjbdnjjepibaaGreatDoor
noncomputable section
def decl_Print_F6 : FSh := ⟨[(1, .one (.ptr 0 0)), (5, .one .str), (6, .one .str)], [.boxr 24 (.cons .str (.cons (.int .i64) (.cons (.int .i64) (.sl (.cons .str (.cons (.sl (.cons (.int .i64) (.cons (.int .i64) (.cons .str (.cons .bool (.sl (.cons (.int .i64) (.int .i64)))))))) (.cons .bool (.cons (.int .i64) (.cons (.int .i64) (.cons .str (.cons .bool (.sl (.cons (.int .i64) (.int .i64))))))))))))))]⟩
def decl_Print_F8 : FSh := ⟨[(1, .one (.ptr 0 0)), (5, .one .str), (6, .one .str)], [.boxr 24 (.cons .str (.cons (.int .i64) (.cons (.int .i64) (.sl (.cons .str (.cons (.sl (.cons (.int .i64) (.cons (.int .i64) (.cons .str (.cons .bool (.sl (.cons (.int .i64) (.int .i64)))))))) (.cons .bool (.cons (.int .i64) (.cons (.int .i64) (.cons .str (.cons .bool (.sl (.cons (.int .i64) (.int .i64))))))))))))))]⟩
def decl_Print_F15 : FSh := ⟨[(7, .one (.ptr 0 0)), (35, .one (.sl (.cons .str (.cons (.sl (.cons (.int .i64) (.cons (.int .i64) (.cons .str (.cons .bool (.sl (.cons (.int .i64) (.int .i64)))))))) (.cons .bool (.cons (.int .i64) (.cons (.int .i64) (.cons .str (.cons .bool (.sl (.cons (.int .i64) (.int .i64)))))))))))), (36, .one (.int .i64)), (37, .one (.int .i64))], [.box 49 [(.own 1)], .arr 62 (.cons (.int .i64) (.cons .str (.cons (.int .i64) (.int .i64)))) true]⟩
def decl_Print_F24 : FSh := ⟨[(7, .one (.ptr 0 0)), (9, .one (.ptr 1 0)), (35, .one (.sl (.cons .str (.cons (.sl (.cons (.int .i64) (.cons (.int .i64) (.cons .str (.cons .bool (.sl (.cons (.int .i64) (.int .i64)))))))) (.cons .bool (.cons (.int .i64) (.cons (.int .i64) (.cons .str (.cons .bool (.sl (.cons (.int .i64) (.int .i64)))))))))))), (36, .one (.int .i64)), (37, .one (.int .i64)), (49, .one (.sl (.cons (.int .i64) (.cons (.int .i64) (.cons .str (.cons .bool (.sl (.cons (.int .i64) (.int .i64))))))))), (50, .one (.int .i64)), (51, .one (.int .i64))], [.box 49 [(.own 2)], .boxr 39 (.cons .str (.cons (.sl (.cons (.int .i64) (.cons (.int .i64) (.cons .str (.cons .bool (.sl (.cons (.int .i64) (.int .i64)))))))) (.cons .bool (.cons (.int .i64) (.cons (.int .i64) (.cons .str (.cons .bool (.sl (.cons (.int .i64) (.int .i64)))))))))), .arr 62 (.cons (.int .i64) (.cons .str (.cons (.int .i64) (.int .i64)))) true]⟩
def decl_Print_D : FD := ⟨T, lookC [(16, fc16), (18, fc18), (19, fc19), (20, fc20), (21, fc21), (22, fc22)], [8, 6], (Tryz.f7.body.getD .skip), Tryz.f7.results.toList, ⟨[.row (.cons .str (.cons (.int .i64) (.cons (.int .i64) (.sl (.cons .str (.cons (.sl (.cons (.int .i64) (.cons (.int .i64) (.cons .str (.cons .bool (.sl (.cons (.int .i64) (.int .i64)))))))) (.cons .bool (.cons (.int .i64) (.cons (.int .i64) (.cons .str (.cons .bool (.sl (.cons (.int .i64) (.int .i64))))))))))))))], []⟩, ⟨[.one .str, .one (.int .i64)], []⟩, [(6, decl_Print_F6), (8, decl_Print_F8), (15, decl_Print_F15), (24, decl_Print_F24)]⟩
def decl_Print_l6 (in_ : ByteArray) (out : ByteArray) (h0 : TDecl) : (Option ((ByteArray × Int × Unit) × Unit)) := decl_Print_D.lab 6 decl_Print_F6 (((), in_, out, ()), (h0, ()))
def decl_Print_l8 (in_ : ByteArray) (out : ByteArray) (h0 : TDecl) : (Option ((ByteArray × Int × Unit) × Unit)) := decl_Print_D.lab 8 decl_Print_F8 (((), in_, out, ()), (h0, ()))
def decl_Print_l15 (t35 : (List TDeclState)) (t36 : Int) (t37 : Int) (l1 : (List TToken)) : (Option ((ByteArray × Int × Unit) × Unit)) := decl_Print_D.lab 15 decl_Print_F15 (((), t35, t36, t37, ()), (((), ()), l1, ()))
def decl_Print_l24 (t35 : (List TDeclState)) (t36 : Int) (t37 : Int) (t49 : (List TRule)) (t50 : Int) (t51 : Int) (h1 : TDeclState) (l2 : (List TToken)) : (Option ((ByteArray × Int × Unit) × Unit)) := decl_Print_D.lab 24 decl_Print_F24 (((), (), t35, t36, t37, t49, t50, t51, ()), (((), ()), h1, l2, ()))
theorem decl_Print_l6_eq (in_ : ByteArray) (out : ByteArray) (h0 : TDecl) : decl_Print_l6 in_ out h0 =
  if (h0.2.2.1 == 5) = true then
    decl_Print_l8 in_ (strB [102, 114, 97, 109, 101]) h0
  else
    decl_Print_l8 in_ out h0 := (FD.lab_eq _ _ _ _).trans (by kernel_rfl)
theorem decl_Print_l8_eq (in_ : ByteArray) (out : ByteArray) (h0 : TDecl) : decl_Print_l8 in_ out h0 =
  (decl_writer_words [(strB [100, 101, 99, 111, 100, 101, 114]), h0.1, (strB [105, 110, 112, 117, 116]), in_, (strB [111, 117, 116, 112, 117, 116]), out] []).bind fun y1 =>
    (decl_writer_marks (strB [123]) y1.2.2.2.1).bind fun y2 =>
      decl_Print_l15 h0.2.2.2 (h0.2.2.2.length : Int) 0 y2.2.2.2.1 := (FD.lab_eq _ _ _ _).trans (by kernel_rfl)
theorem decl_Print_l15_eq (t35 : (List TDeclState)) (t36 : Int) (t37 : Int) (l1 : (List TToken)) : decl_Print_l15 t35 t36 t37 l1 =
  if (decide (t37 < t36)) = true then
    if 0 ≤ t37 ∧ t37 < (t35.length : Int) then
      (decl_writer_words [(strB [115, 116, 97, 116, 101]), (t35.getD t37.toNat dDeclState).1] l1).bind fun y1 =>
        (decl_writer_marks (strB [123]) y1.2.2.2.1).bind fun y2 =>
          decl_Print_l24 t35 t36 t37 (t35.getD t37.toNat dDeclState).2.1 ((t35.getD t37.toNat dDeclState).2.1.length : Int) 0 (t35.getD t37.toNat dDeclState) y2.2.2.2.1
    else
      none
  else
    (decl_writer_marks (strB [125]) l1).bind fun y3 =>
      (lex_Text y3.2.2.2.1).bind fun y4 =>
        some ((y4.1.1, y4.1.2.1, ()), ()) := (FD.lab_eq _ _ _ _).trans (by kernel_rfl)
theorem decl_Print_l24_eq (t35 : (List TDeclState)) (t36 : Int) (t37 : Int) (t49 : (List TRule)) (t50 : Int) (t51 : Int) (h1 : TDeclState) (l2 : (List TToken)) : decl_Print_l24 t35 t36 t37 t49 t50 t51 h1 l2 =
  if (decide (t51 < t50)) = true then
    if 0 ≤ t51 ∧ t51 < (t49.length : Int) then
      (decl_writer_number (t49.getD t51.toNat dRule).1 l2).bind fun y1 =>
        if ((t49.getD t51.toNat dRule).2.1 != (t49.getD t51.toNat dRule).1) = true then
          (decl_writer_marks (strB [46, 46]) y1.2.2.2.1).bind fun y2 =>
            (decl_writer_number (t49.getD t51.toNat dRule).2.1 y2.2.2.2.1).bind fun y3 =>
              (decl_writer_target (t49.getD t51.toNat dRule) y3.2.2.2.1).bind fun y4 =>
                decl_Print_l24 t35 t36 t37 t49 t50 (IntKind.i64.wrap (t51 + 1)) h1 y4.2.2.2.1
        else
          (decl_writer_target (t49.getD t51.toNat dRule) y1.2.2.2.1).bind fun y5 =>
            decl_Print_l24 t35 t36 t37 t49 t50 (IntKind.i64.wrap (t51 + 1)) h1 y5.2.2.2.1
    else
      none
  else
    if h1.2.2.1 = true then
      (decl_writer_marks (strB [42]) l2).bind fun y6 =>
        (decl_writer_target h1.2.2.2 y6.2.2.2.1).bind fun y7 =>
          (decl_writer_marks (strB [125]) y7.2.2.2.1).bind fun y8 =>
            decl_Print_l15 t35 t36 (IntKind.i64.wrap (t37 + 1)) y8.2.2.2.1
    else
      (decl_writer_marks (strB [125]) l2).bind fun y9 =>
        decl_Print_l15 t35 t36 (IntKind.i64.wrap (t37 + 1)) y9.2.2.2.1 := (FD.lab_eq _ _ _ _).trans (by kernel_rfl)
def decl_Print (d : TDecl) : (Option ((ByteArray × Int × Unit) × Unit)) :=
  (decl_Check d).bind fun y1 =>
    if (y1.1.1 != 0) = true then
      some (((strB []), y1.1.1, ()), ())
    else
      if (d.2.1 == 2) = true then
        decl_Print_l6 (strB [98, 105, 116]) (strB [112, 97, 99, 107, 101, 116]) d
      else
        decl_Print_l6 (strB [98, 121, 116, 101]) (strB [112, 97, 99, 107, 101, 116]) d
def fc7 : FC := ⟨⟨[.row (.cons .str (.cons (.int .i64) (.cons (.int .i64) (.sl (.cons .str (.cons (.sl (.cons (.int .i64) (.cons (.int .i64) (.cons .str (.cons .bool (.sl (.cons (.int .i64) (.int .i64)))))))) (.cons .bool (.cons (.int .i64) (.cons (.int .i64) (.cons .str (.cons .bool (.sl (.cons (.int .i64) (.int .i64))))))))))))))], []⟩, ⟨[.one .str, .one (.int .i64)], []⟩, fun x => decl_Print x.1.1⟩
theorem con7 : Contract Tryz.prog 7 fc7 :=
  decl_Print_D.contract tok (cok_of (l := [(16, fc16), (18, fc18), (19, fc19), (20, fc20), (21, fc21), (22, fc22)]) ⟨con16, con18, con19, con20, con21, con22, trivial⟩) mixed (fn' := Tryz.f7) (by kernel_rfl) (by kernel_rfl) rfl (by kernel_rfl) (fun x => (FD.fn_eq _ _).trans (by kernel_rfl))
end
end Go.Proofs.YtjgjbdnjjepibaaGreatDoor
end

section
/-
YtjgjbdnjjepibaaGreatDoor: (*signalbench.decl.reader).act, as one plain function, its equations, its contract. No condition.
-/
set_option maxRecDepth 100000
set_option linter.unusedVariables false
set_option maxHeartbeats 4000000
open Go Go.AM
namespace Go.Proofs.YtjgjbdnjjepibaaGreatDoor
noncomputable section
def decl_reader_act_F3 : FSh := ⟨[(0, .one (.ptr 0 0)), (2, .one (.ptr 1 0)), (3, .one (.int .i64))], [.boxr 60 (.cons (.sl (.cons (.int .i64) (.cons .str (.cons (.int .i64) (.int .i64))))) (.cons (.int .i64) (.int .i64))), .boxr 73 (.cons (.int .i64) (.int .i64))]⟩
def decl_reader_act_D : FD := ⟨T, lookC [(27, fc27), (29, fc29), (31, fc31), (40, fc40)], [], (Tryz.f87.body.getD .skip), Tryz.f87.results.toList, ⟨[.one (.ptr 0 0)], [.boxr 60 (.cons (.sl (.cons (.int .i64) (.cons .str (.cons (.int .i64) (.int .i64))))) (.cons (.int .i64) (.int .i64)))]⟩, ⟨[.row (.cons (.int .i64) (.int .i64))], [.boxr 60 (.cons (.sl (.cons (.int .i64) (.cons .str (.cons (.int .i64) (.int .i64))))) (.cons (.int .i64) (.int .i64)))]⟩, [(3, decl_reader_act_F3)]⟩
def decl_reader_act_l3 (op : Int) (h0 : Treader) (h1 : TAct) : (Option ((TAct × Unit) × (Treader × Unit))) := decl_reader_act_D.lab 3 decl_reader_act_F3 (((), (), op, ()), (h0, h1, ()))
theorem decl_reader_act_l3_eq (op : Int) (h0 : Treader) (h1 : TAct) : decl_reader_act_l3 op h0 h1 =
  if (decide (op ≤ 6)) = true then
    (decl_word op).bind fun y1 =>
      (decl_reader_take 1 y1.1.1 h0).bind fun y2 =>
        if y2.1.2.1 = true then
          if (decide (op > 2)) = true then
            (decl_reader_need 2 (strB []) y2.2.1).bind fun y3 =>
              some (((op, y3.1.1.2.2.1), ()), (y3.2.1, ()))
          else
            some (((op, 0), ()), (y2.2.1, ()))
        else
          decl_reader_act_l3 (IntKind.i64.wrap (op + 1)) y2.2.1 h1
  else
    (decl_reader_fail h0).bind fun y4 =>
      some (((0, 0), ()), (y4.2.1, ())) := (FD.lab_eq _ _ _ _).trans (by kernel_rfl)
def decl_reader_act (h0 : Treader) : (Option ((TAct × Unit) × (Treader × Unit))) :=
  decl_reader_act_l3 1 h0 (0, 0)
def fc87 : FC := ⟨⟨[.one (.ptr 0 0)], [.boxr 60 (.cons (.sl (.cons (.int .i64) (.cons .str (.cons (.int .i64) (.int .i64))))) (.cons (.int .i64) (.int .i64)))]⟩, ⟨[.row (.cons (.int .i64) (.int .i64))], [.boxr 60 (.cons (.sl (.cons (.int .i64) (.cons .str (.cons (.int .i64) (.int .i64))))) (.cons (.int .i64) (.int .i64)))]⟩, fun x => decl_reader_act x.2.1⟩
theorem con87 : Contract Tryz.prog 87 fc87 :=
  decl_reader_act_D.contract tok (cok_of (l := [(27, fc27), (29, fc29), (31, fc31), (40, fc40)]) ⟨con27, con29, con31, con40, trivial⟩) mixed (fn' := Tryz.f87) (by kernel_rfl) (by kernel_rfl) rfl (by kernel_rfl) (fun x => (FD.fn_eq _ _).trans (by kernel_rfl))
end
end Go.Proofs.YtjgjbdnjjepibaaGreatDoor
end

section
/-
YtjgjbdnjjepibaaGreatDoor: (*signalbench.decl.reader).target, as one plain function, its equations, its contract. No condition.
-/
set_option maxRecDepth 100000
set_option linter.unusedVariables false
set_option maxHeartbeats 4000000
open Go Go.AM
namespace Go.Proofs.YtjgjbdnjjepibaaGreatDoor
noncomputable section
def decl_reader_target_F8 : FSh := ⟨[(0, .one (.ptr 0 0)), (3, .one (.ptr 2 0)), (4, .one (.ptr 3 0))], [.boxr 60 (.cons (.sl (.cons (.int .i64) (.cons .str (.cons (.int .i64) (.int .i64))))) (.cons (.int .i64) (.int .i64))), .dead, .box 37 [(.int .i64), (.int .i64), .str, .bool, (.own 4)], .box 37 [(.int .i64), (.int .i64), .str, .bool, (.own 5)], .arr 73 (.cons (.int .i64) (.int .i64)) true, .arr 73 (.cons (.int .i64) (.int .i64)) true]⟩
def decl_reader_target_D : FD := ⟨T, lookC [(27, fc27), (29, fc29), (87, fc87)], [], (Tryz.f56.body.getD .skip), Tryz.f56.results.toList, ⟨[.one (.ptr 0 0), .agg [(.int .i64), (.int .i64), .str, .bool, (.own 1)]], [.boxr 60 (.cons (.sl (.cons (.int .i64) (.cons .str (.cons (.int .i64) (.int .i64))))) (.cons (.int .i64) (.int .i64))), .arr 73 (.cons (.int .i64) (.int .i64)) true]⟩, ⟨[.row (.cons (.int .i64) (.cons (.int .i64) (.cons .str (.cons .bool (.sl (.cons (.int .i64) (.int .i64)))))))], [.boxr 60 (.cons (.sl (.cons (.int .i64) (.cons .str (.cons (.int .i64) (.int .i64))))) (.cons (.int .i64) (.int .i64))), .dead]⟩, [(8, decl_reader_target_F8)]⟩
def decl_reader_target_l8 (h0 : Treader) (h2_0 : Int) (h2_1 : Int) (h2_2 : ByteArray) (h2_3 : Bool) (h3_0 : Int) (h3_1 : Int) (h3_2 : ByteArray) (h3_3 : Bool) (l4 : (List TAct)) (l5 : (List TAct)) : (Option ((TRule × Unit) × (Treader × Unit × Unit))) := decl_reader_target_D.lab 8 decl_reader_target_F8 (((), (), (), ()), (h0, (), (h2_0, h2_1, h2_2, h2_3, (), ()), (h3_0, h3_1, h3_2, h3_3, (), ()), l4, l5, ()))
theorem decl_reader_target_l8_eq (h0 : Treader) (h2_0 : Int) (h2_1 : Int) (h2_2 : ByteArray) (h2_3 : Bool) (h3_0 : Int) (h3_1 : Int) (h3_2 : ByteArray) (h3_3 : Bool) (l4 : (List TAct)) (l5 : (List TAct)) : decl_reader_target_l8 h0 h2_0 h2_1 h2_2 h2_3 h3_0 h3_1 h3_2 h3_3 l4 l5 =
  (decl_reader_take 4 (strB [44]) h0).bind fun y1 =>
    if (!y1.1.2.1) = true then
      (decl_reader_need 4 (strB [59]) y1.2.1).bind fun y2 =>
        some (((h2_0, h2_1, h2_2, h2_3, l4), ()), (y2.2.1, (), ()))
    else
      (decl_reader_act y1.2.1).bind fun y3 =>
        if (l4.length + 1) * 16 ≤ 140737488355328 ∧ 0 < 16 then
          decl_reader_target_l8 y3.2.1 h2_0 h2_1 h2_2 h2_3 h3_0 h3_1 h3_2 h3_3 (l4 ++ [y3.1.1]) l5
        else
          none := (FD.lab_eq _ _ _ _).trans (by kernel_rfl)
def decl_reader_target (x_0 : Int) (x_1 : Int) (x_2 : ByteArray) (x_3 : Bool) (h0 : Treader) (l1 : (List TAct)) : (Option ((TRule × Unit) × (Treader × Unit × Unit))) :=
  (decl_reader_need 4 (strB [62]) h0).bind fun y1 =>
    (decl_reader_need 1 (strB []) y1.2.1).bind fun y2 =>
      (decl_reader_take 1 (strB [97, 103, 97, 105, 110]) y2.2.1).bind fun y3 =>
        (decl_reader_take 4 (strB [58]) y3.2.1).bind fun y4 =>
          if y4.1.2.1 = true then
            (decl_reader_act y4.2.1).bind fun y5 =>
              if (l1.length + 1) * 16 ≤ 140737488355328 ∧ 0 < 16 then
                decl_reader_target_l8 y5.2.1 x_0 x_1 y2.1.1.2.1 y3.1.2.1 0 0 (strB []) false (l1 ++ [y5.1.1]) []
              else
                none
          else
            (decl_reader_need 4 (strB [59]) y4.2.1).bind fun y6 =>
              some (((x_0, x_1, y2.1.1.2.1, y3.1.2.1, l1), ()), (y6.2.1, (), ()))
def fc56 : FC := ⟨⟨[.one (.ptr 0 0), .agg [(.int .i64), (.int .i64), .str, .bool, (.own 1)]], [.boxr 60 (.cons (.sl (.cons (.int .i64) (.cons .str (.cons (.int .i64) (.int .i64))))) (.cons (.int .i64) (.int .i64))), .arr 73 (.cons (.int .i64) (.int .i64)) true]⟩, ⟨[.row (.cons (.int .i64) (.cons (.int .i64) (.cons .str (.cons .bool (.sl (.cons (.int .i64) (.int .i64)))))))], [.boxr 60 (.cons (.sl (.cons (.int .i64) (.cons .str (.cons (.int .i64) (.int .i64))))) (.cons (.int .i64) (.int .i64))), .dead]⟩, fun x => decl_reader_target x.1.2.1.1 x.1.2.1.2.1 x.1.2.1.2.2.1 x.1.2.1.2.2.2.1 x.2.1 x.2.2.1⟩
theorem con56 : Contract Tryz.prog 56 fc56 :=
  decl_reader_target_D.contract tok (cok_of (l := [(27, fc27), (29, fc29), (87, fc87)]) ⟨con27, con29, con87, trivial⟩) mixed (fn' := Tryz.f56) (by kernel_rfl) (by kernel_rfl) rfl (by kernel_rfl) (fun x => (FD.fn_eq _ _).trans (by kernel_rfl))
end
end Go.Proofs.YtjgjbdnjjepibaaGreatDoor
end

section
/-
YtjgjbdnjjepibaaGreatDoor: (*signalbench.decl.reader).state, as one plain function, its equations, its contract. No condition.
-/
set_option maxRecDepth 100000
set_option linter.unusedVariables false
set_option maxHeartbeats 4000000
open Go Go.AM
namespace Go.Proofs.YtjgjbdnjjepibaaGreatDoor
noncomputable section
def decl_reader_state_F4 : FSh := ⟨[(0, .one (.ptr 0 0)), (2, .one (.ptr 1 0)), (3, .one (.ptr 2 0))], [.boxr 60 (.cons (.sl (.cons (.int .i64) (.cons .str (.cons (.int .i64) (.int .i64))))) (.cons (.int .i64) (.int .i64))), .box 39 [.str, (.own 3), .bool, (.int .i64), (.int .i64), .str, .bool, (.sl (.cons (.int .i64) (.int .i64)))], .box 39 [.str, (.own 4), .bool, (.int .i64), (.int .i64), .str, .bool, (.sl (.cons (.int .i64) (.int .i64)))], .arr 37 (.cons (.int .i64) (.cons (.int .i64) (.cons .str (.cons .bool (.sl (.cons (.int .i64) (.int .i64))))))) true, .arr 37 (.cons (.int .i64) (.cons (.int .i64) (.cons .str (.cons .bool (.sl (.cons (.int .i64) (.int .i64))))))) true]⟩
def decl_reader_state_F9 : FSh := ⟨[(0, .one (.ptr 0 0)), (2, .one (.ptr 1 0)), (3, .one (.ptr 2 0)), (5, .one (.ptr 3 0))], [.boxr 60 (.cons (.sl (.cons (.int .i64) (.cons .str (.cons (.int .i64) (.int .i64))))) (.cons (.int .i64) (.int .i64))), .box 39 [.str, (.own 4), .bool, (.int .i64), (.int .i64), .str, .bool, (.sl (.cons (.int .i64) (.int .i64)))], .box 39 [.str, (.own 5), .bool, (.int .i64), (.int .i64), .str, .bool, (.sl (.cons (.int .i64) (.int .i64)))], .box 37 [(.int .i64), (.int .i64), .str, .bool, (.own 6)], .arr 37 (.cons (.int .i64) (.cons (.int .i64) (.cons .str (.cons .bool (.sl (.cons (.int .i64) (.int .i64))))))) true, .arr 37 (.cons (.int .i64) (.cons (.int .i64) (.cons .str (.cons .bool (.sl (.cons (.int .i64) (.int .i64))))))) true, .arr 73 (.cons (.int .i64) (.int .i64)) true]⟩
def decl_reader_state_D : FD := ⟨T, lookC [(27, fc27), (29, fc29), (55, fc55), (56, fc56)], [9], (Tryz.f30.body.getD .skip), Tryz.f30.results.toList, ⟨[.one (.ptr 0 0)], [.boxr 60 (.cons (.sl (.cons (.int .i64) (.cons .str (.cons (.int .i64) (.int .i64))))) (.cons (.int .i64) (.int .i64)))]⟩, ⟨[.row (.cons .str (.cons (.sl (.cons (.int .i64) (.cons (.int .i64) (.cons .str (.cons .bool (.sl (.cons (.int .i64) (.int .i64)))))))) (.cons .bool (.cons (.int .i64) (.cons (.int .i64) (.cons .str (.cons .bool (.sl (.cons (.int .i64) (.int .i64))))))))))], [.boxr 60 (.cons (.sl (.cons (.int .i64) (.cons .str (.cons (.int .i64) (.int .i64))))) (.cons (.int .i64) (.int .i64)))]⟩, [(4, decl_reader_state_F4), (9, decl_reader_state_F9)]⟩
def decl_reader_state_l4 (h0 : Treader) (h1_0 : ByteArray) (h1_2 : Bool) (h1_3 : Int) (h1_4 : Int) (h1_5 : ByteArray) (h1_6 : Bool) (h1_7 : (List TAct)) (h2_0 : ByteArray) (h2_2 : Bool) (h2_3 : Int) (h2_4 : Int) (h2_5 : ByteArray) (h2_6 : Bool) (h2_7 : (List TAct)) (l3 : (List TRule)) (l4 : (List TRule)) : (Option ((TDeclState × Unit) × (Treader × Unit))) := decl_reader_state_D.lab 4 decl_reader_state_F4 (((), (), (), ()), (h0, (h1_0, (), h1_2, h1_3, h1_4, h1_5, h1_6, h1_7, ()), (h2_0, (), h2_2, h2_3, h2_4, h2_5, h2_6, h2_7, ()), l3, l4, ()))
def decl_reader_state_l9 (h0 : Treader) (h1_0 : ByteArray) (h1_2 : Bool) (h1_3 : Int) (h1_4 : Int) (h1_5 : ByteArray) (h1_6 : Bool) (h1_7 : (List TAct)) (h2_0 : ByteArray) (h2_2 : Bool) (h2_3 : Int) (h2_4 : Int) (h2_5 : ByteArray) (h2_6 : Bool) (h2_7 : (List TAct)) (h3_0 : Int) (h3_1 : Int) (h3_2 : ByteArray) (h3_3 : Bool) (l4 : (List TRule)) (l5 : (List TRule)) (l6 : (List TAct)) : (Option ((TDeclState × Unit) × (Treader × Unit))) := decl_reader_state_D.lab 9 decl_reader_state_F9 (((), (), (), (), ()), (h0, (h1_0, (), h1_2, h1_3, h1_4, h1_5, h1_6, h1_7, ()), (h2_0, (), h2_2, h2_3, h2_4, h2_5, h2_6, h2_7, ()), (h3_0, h3_1, h3_2, h3_3, (), ()), l4, l5, l6, ()))
theorem decl_reader_state_l4_eq (h0 : Treader) (h1_0 : ByteArray) (h1_2 : Bool) (h1_3 : Int) (h1_4 : Int) (h1_5 : ByteArray) (h1_6 : Bool) (h1_7 : (List TAct)) (h2_0 : ByteArray) (h2_2 : Bool) (h2_3 : Int) (h2_4 : Int) (h2_5 : ByteArray) (h2_6 : Bool) (h2_7 : (List TAct)) (l3 : (List TRule)) (l4 : (List TRule)) : decl_reader_state_l4 h0 h1_0 h1_2 h1_3 h1_4 h1_5 h1_6 h1_7 h2_0 h2_2 h2_3 h2_4 h2_5 h2_6 h2_7 l3 l4 =
  (decl_reader_is 2 (strB []) h0).bind fun y1 =>
    if y1.1.1 = true then
      (decl_reader_need 2 (strB []) y1.2.1).bind fun y2 =>
        (decl_reader_take 4 (strB [46]) y2.2.1).bind fun y3 =>
          if y3.1.2.1 = true then
            (decl_reader_need 4 (strB [46]) y3.2.1).bind fun y4 =>
              (decl_reader_need 2 (strB []) y4.2.1).bind fun y5 =>
                decl_reader_state_l9 y5.2.1 h1_0 h1_2 h1_3 h1_4 h1_5 h1_6 h1_7 h2_0 h2_2 h2_3 h2_4 h2_5 h2_6 h2_7 y2.1.1.2.2.1 y5.1.1.2.2.1 (strB []) false l3 l4 []
          else
            decl_reader_state_l9 y3.2.1 h1_0 h1_2 h1_3 h1_4 h1_5 h1_6 h1_7 h2_0 h2_2 h2_3 h2_4 h2_5 h2_6 h2_7 y2.1.1.2.2.1 y2.1.1.2.2.1 (strB []) false l3 l4 []
    else
      (decl_reader_take 4 (strB [42]) y1.2.1).bind fun y6 =>
        if y6.1.2.1 = true then
          (decl_reader_target 0 0 (strB []) false y6.2.1 []).bind fun y7 =>
            (decl_reader_need 4 (strB [125]) y7.2.1).bind fun y8 =>
              some (((h2_0, l4, true, y7.1.1), ()), (y8.2.1, ()))
        else
          (decl_reader_need 4 (strB [125]) y6.2.1).bind fun y9 =>
            some (((h2_0, l4, h2_2, h2_3, h2_4, h2_5, h2_6, h2_7), ()), (y9.2.1, ())) := (FD.lab_eq _ _ _ _).trans (by kernel_rfl)
theorem decl_reader_state_l9_eq (h0 : Treader) (h1_0 : ByteArray) (h1_2 : Bool) (h1_3 : Int) (h1_4 : Int) (h1_5 : ByteArray) (h1_6 : Bool) (h1_7 : (List TAct)) (h2_0 : ByteArray) (h2_2 : Bool) (h2_3 : Int) (h2_4 : Int) (h2_5 : ByteArray) (h2_6 : Bool) (h2_7 : (List TAct)) (h3_0 : Int) (h3_1 : Int) (h3_2 : ByteArray) (h3_3 : Bool) (l4 : (List TRule)) (l5 : (List TRule)) (l6 : (List TAct)) : decl_reader_state_l9 h0 h1_0 h1_2 h1_3 h1_4 h1_5 h1_6 h1_7 h2_0 h2_2 h2_3 h2_4 h2_5 h2_6 h2_7 h3_0 h3_1 h3_2 h3_3 l4 l5 l6 =
  (decl_reader_target h3_0 h3_1 h3_2 h3_3 h0 l6).bind fun y1 =>
    if (l5.length + 1) * 64 ≤ 140737488355328 ∧ 0 < 64 then
      decl_reader_state_l4 y1.2.1 h1_0 h1_2 h1_3 h1_4 h1_5 h1_6 h1_7 h2_0 h2_2 h2_3 h2_4 h2_5 h2_6 h2_7 l4 (l5 ++ [y1.1.1])
    else
      none := (FD.lab_eq _ _ _ _).trans (by kernel_rfl)
def decl_reader_state (h0 : Treader) : (Option ((TDeclState × Unit) × (Treader × Unit))) :=
  (decl_reader_need 1 (strB []) h0).bind fun y1 =>
    (decl_reader_need 4 (strB [123]) y1.2.1).bind fun y2 =>
      decl_reader_state_l4 y2.2.1 (strB []) false 0 0 (strB []) false [] y1.1.1.2.1 false 0 0 (strB []) false [] [] []
def fc30 : FC := ⟨⟨[.one (.ptr 0 0)], [.boxr 60 (.cons (.sl (.cons (.int .i64) (.cons .str (.cons (.int .i64) (.int .i64))))) (.cons (.int .i64) (.int .i64)))]⟩, ⟨[.row (.cons .str (.cons (.sl (.cons (.int .i64) (.cons (.int .i64) (.cons .str (.cons .bool (.sl (.cons (.int .i64) (.int .i64)))))))) (.cons .bool (.cons (.int .i64) (.cons (.int .i64) (.cons .str (.cons .bool (.sl (.cons (.int .i64) (.int .i64))))))))))], [.boxr 60 (.cons (.sl (.cons (.int .i64) (.cons .str (.cons (.int .i64) (.int .i64))))) (.cons (.int .i64) (.int .i64)))]⟩, fun x => decl_reader_state x.2.1⟩
theorem con30 : Contract Tryz.prog 30 fc30 :=
  decl_reader_state_D.contract tok (cok_of (l := [(27, fc27), (29, fc29), (55, fc55), (56, fc56)]) ⟨con27, con29, con55, con56, trivial⟩) mixed (fn' := Tryz.f30) (by kernel_rfl) (by kernel_rfl) rfl (by kernel_rfl) (fun x => (FD.fn_eq _ _).trans (by kernel_rfl))
end
end Go.Proofs.YtjgjbdnjjepibaaGreatDoor
end

section
/-
YtjgjbdnjjepibaaGreatDoor: signalbench.decl.Parse, as one plain function, its equations, its contract. No condition.
-/
set_option maxRecDepth 100000
set_option linter.unusedVariables false
set_option maxHeartbeats 4000000
open Go Go.AM
namespace Go.Proofs.YtjgjbdnjjepibaaGreatDoor
noncomputable section
def decl_Parse_F14 : FSh := ⟨[(2, .one (.ptr 0 0)), (8, .one (.ptr 1 0)), (9, .one (.ptr 2 0))], [.box 24 [.str, (.int .i64), (.int .i64), (.own 3)], .boxr 60 (.cons (.sl (.cons (.int .i64) (.cons .str (.cons (.int .i64) (.int .i64))))) (.cons (.int .i64) (.int .i64))), .box 24 [.str, (.int .i64), (.int .i64), (.own 4)], .arr 39 (.cons .str (.cons (.sl (.cons (.int .i64) (.cons (.int .i64) (.cons .str (.cons .bool (.sl (.cons (.int .i64) (.int .i64)))))))) (.cons .bool (.cons (.int .i64) (.cons (.int .i64) (.cons .str (.cons .bool (.sl (.cons (.int .i64) (.int .i64)))))))))) true, .arr 39 (.cons .str (.cons (.sl (.cons (.int .i64) (.cons (.int .i64) (.cons .str (.cons .bool (.sl (.cons (.int .i64) (.int .i64)))))))) (.cons .bool (.cons (.int .i64) (.cons (.int .i64) (.cons .str (.cons .bool (.sl (.cons (.int .i64) (.int .i64)))))))))) true]⟩
def decl_Parse_F19 : FSh := ⟨[(2, .one (.ptr 0 0)), (8, .one (.ptr 1 0)), (9, .one (.ptr 2 0))], [.box 24 [.str, (.int .i64), (.int .i64), (.own 3)], .boxr 60 (.cons (.sl (.cons (.int .i64) (.cons .str (.cons (.int .i64) (.int .i64))))) (.cons (.int .i64) (.int .i64))), .box 24 [.str, (.int .i64), (.int .i64), (.own 4)], .arr 39 (.cons .str (.cons (.sl (.cons (.int .i64) (.cons (.int .i64) (.cons .str (.cons .bool (.sl (.cons (.int .i64) (.int .i64)))))))) (.cons .bool (.cons (.int .i64) (.cons (.int .i64) (.cons .str (.cons .bool (.sl (.cons (.int .i64) (.int .i64)))))))))) true, .arr 39 (.cons .str (.cons (.sl (.cons (.int .i64) (.cons (.int .i64) (.cons .str (.cons .bool (.sl (.cons (.int .i64) (.int .i64)))))))) (.cons .bool (.cons (.int .i64) (.cons (.int .i64) (.cons .str (.cons .bool (.sl (.cons (.int .i64) (.int .i64)))))))))) true]⟩
def decl_Parse_D : FD := ⟨T, lookC [(16, fc16), (26, fc26), (27, fc27), (28, fc28), (29, fc29), (30, fc30), (31, fc31)], [19], (Tryz.f9.body.getD .skip), Tryz.f9.results.toList, ⟨[.one .str], []⟩, ⟨[.row (.cons .str (.cons (.int .i64) (.cons (.int .i64) (.sl (.cons .str (.cons (.sl (.cons (.int .i64) (.cons (.int .i64) (.cons .str (.cons .bool (.sl (.cons (.int .i64) (.int .i64)))))))) (.cons .bool (.cons (.int .i64) (.cons (.int .i64) (.cons .str (.cons .bool (.sl (.cons (.int .i64) (.int .i64)))))))))))))), .one (.int .i64), .one (.int .i64)], []⟩, [(14, decl_Parse_F14), (19, decl_Parse_F19)]⟩
def decl_Parse_l14 (h0_0 : ByteArray) (h0_1 : Int) (h0_2 : Int) (h1 : Treader) (h2_0 : ByteArray) (h2_1 : Int) (h2_2 : Int) (l3 : (List TDeclState)) (l4 : (List TDeclState)) : (Option ((TDecl × Int × Int × Unit) × Unit)) := decl_Parse_D.lab 14 decl_Parse_F14 (((), (), (), ()), ((h0_0, h0_1, h0_2, (), ()), h1, (h2_0, h2_1, h2_2, (), ()), l3, l4, ()))
def decl_Parse_l19 (h0_0 : ByteArray) (h0_1 : Int) (h0_2 : Int) (h1 : Treader) (h2_0 : ByteArray) (h2_1 : Int) (h2_2 : Int) (l3 : (List TDeclState)) (l4 : (List TDeclState)) : (Option ((TDecl × Int × Int × Unit) × Unit)) := decl_Parse_D.lab 19 decl_Parse_F19 (((), (), (), ()), ((h0_0, h0_1, h0_2, (), ()), h1, (h2_0, h2_1, h2_2, (), ()), l3, l4, ()))
theorem decl_Parse_l14_eq (h0_0 : ByteArray) (h0_1 : Int) (h0_2 : Int) (h1 : Treader) (h2_0 : ByteArray) (h2_1 : Int) (h2_2 : Int) (l3 : (List TDeclState)) (l4 : (List TDeclState)) : decl_Parse_l14 h0_0 h0_1 h0_2 h1 h2_0 h2_1 h2_2 l3 l4 =
  (decl_reader_take 1 (strB [115, 116, 97, 116, 101]) h1).bind fun y1 =>
    if (!y1.1.2.1) = true then
      (decl_reader_need 4 (strB [125]) y1.2.1).bind fun y2 =>
        if (decide (y2.2.1.2.1 < (y2.2.1.1.length : Int))) = true then
          (decl_reader_fail y2.2.1).bind fun y3 =>
            decl_Parse_l19 h0_0 h0_1 h0_2 y3.2.1 h2_0 h2_1 h2_2 l3 l4
        else
          decl_Parse_l19 h0_0 h0_1 h0_2 y2.2.1 h2_0 h2_1 h2_2 l3 l4
    else
      (decl_reader_state y1.2.1).bind fun y4 =>
        if (l4.length + 1) * 112 ≤ 140737488355328 ∧ 0 < 112 then
          decl_Parse_l14 h0_0 h0_1 h0_2 y4.2.1 h2_0 h2_1 h2_2 l3 (l4 ++ [y4.1.1])
        else
          none := (FD.lab_eq _ _ _ _).trans (by kernel_rfl)
theorem decl_Parse_l19_eq (h0_0 : ByteArray) (h0_1 : Int) (h0_2 : Int) (h1 : Treader) (h2_0 : ByteArray) (h2_1 : Int) (h2_2 : Int) (l3 : (List TDeclState)) (l4 : (List TDeclState)) : decl_Parse_l19 h0_0 h0_1 h0_2 h1 h2_0 h2_1 h2_2 l3 l4 =
  if (decide (h1.2.2 > 0)) = true then
    some ((((strB []), 0, 0, []), h1.2.2, 4, ()), ())
  else
    (decl_Check (h2_0, h2_1, h2_2, l4)).bind fun y1 =>
      if (y1.1.1 != 0) = true then
        some ((((strB []), 0, 0, []), 0, y1.1.1, ()), ())
      else
        some (((h2_0, h2_1, h2_2, l4), 0, 0, ()), ()) := (FD.lab_eq _ _ _ _).trans (by kernel_rfl)
def decl_Parse (s : ByteArray) : (Option ((TDecl × Int × Int × Unit) × Unit)) :=
  (lex_Tokens s).bind fun y1 =>
    if (y1.1.2.2.1 != 0) = true then
      some ((((strB []), 0, 0, []), y1.1.2.1, y1.1.2.2.1, ()), ())
    else
      (decl_reader_need 1 (strB [100, 101, 99, 111, 100, 101, 114]) (y1.1.1, 0, 0)).bind fun y2 =>
        (decl_reader_need 1 (strB []) y2.2.1).bind fun y3 =>
          (decl_reader_need 1 (strB [105, 110, 112, 117, 116]) y3.2.1).bind fun y4 =>
            (decl_reader_either (strB [98, 105, 116]) 2 (strB [98, 121, 116, 101]) 3 y4.2.1).bind fun y5 =>
              (decl_reader_need 1 (strB [111, 117, 116, 112, 117, 116]) y5.2.1).bind fun y6 =>
                (decl_reader_either (strB [102, 114, 97, 109, 101]) 5 (strB [112, 97, 99, 107, 101, 116]) 6 y6.2.1).bind fun y7 =>
                  (decl_reader_need 4 (strB [123]) y7.2.1).bind fun y8 =>
                    decl_Parse_l14 (strB []) 0 0 y8.2.1 y3.1.1.2.1 y5.1.1 y7.1.1 [] []
def fc9 : FC := ⟨⟨[.one .str], []⟩, ⟨[.row (.cons .str (.cons (.int .i64) (.cons (.int .i64) (.sl (.cons .str (.cons (.sl (.cons (.int .i64) (.cons (.int .i64) (.cons .str (.cons .bool (.sl (.cons (.int .i64) (.int .i64)))))))) (.cons .bool (.cons (.int .i64) (.cons (.int .i64) (.cons .str (.cons .bool (.sl (.cons (.int .i64) (.int .i64)))))))))))))), .one (.int .i64), .one (.int .i64)], []⟩, fun x => decl_Parse x.1.1⟩
theorem con9 : Contract Tryz.prog 9 fc9 :=
  decl_Parse_D.contract tok (cok_of (l := [(16, fc16), (26, fc26), (27, fc27), (28, fc28), (29, fc29), (30, fc30), (31, fc31)]) ⟨con16, con26, con27, con28, con29, con30, con31, trivial⟩) mixed (fn' := Tryz.f9) (by kernel_rfl) (by kernel_rfl) rfl (by kernel_rfl) (fun x => (FD.fn_eq _ _).trans (by kernel_rfl))
end
end Go.Proofs.YtjgjbdnjjepibaaGreatDoor
end

section
/-
YtjgjbdnjjepibaaGreatDoor: signalbench.signalbenchlaw34.awake, as one plain function, its equations, its contract. No condition.
-/
set_option maxRecDepth 100000
set_option linter.unusedVariables false
set_option maxHeartbeats 4000000
open Go Go.AM
namespace Go.Proofs.YtjgjbdnjjepibaaGreatDoor
noncomputable section
def law34_awake_D : FD := ⟨T, lookC [(7, fc7), (9, fc9), (11, fc11), (14, fc14), (15, fc15), (16, fc16), (17, fc17)], [], (Tryz.f6.body.getD .skip), Tryz.f6.results.toList, ⟨[], []⟩, ⟨[.one .bool], []⟩, []⟩
def law34_awake : (Option ((Bool × Unit) × Unit)) :=
  (law34_lines).bind fun y1 =>
    (decl_Print y1.1.1).bind fun y2 =>
      (decl_Parse y2.1.1).bind fun y3 =>
        (decl_Parse (strB [100, 101, 99, 111, 100, 101, 114, 32, 120])).bind fun y4 =>
          (decl_Match y1.1.1 0 10).bind fun y5 =>
            if (y2.1.2.1 != 0) = true then
              some ((false, ()), ())
            else
              if (y3.1.2.2.1 != 0) = true then
                some ((false, ()), ())
              else
                if (y4.1.2.2.1 != 4) = true then
                  some ((false, ()), ())
                else
                  if (y4.1.2.1 != 1) = true then
                    some ((false, ()), ())
                  else
                    if (y3.1.2.1 != 0) = true then
                      some ((false, ()), ())
                    else
                      if (!y5.1.2.1) = true then
                        some ((false, ()), ())
                      else
                        (decl_Check y1.1.1).bind fun y6 =>
                          if (y6.1.1 != 0) = true then
                            some ((false, ()), ())
                          else
                            (decl_Find y1.1.1 (strB [98])).bind fun y7 =>
                              if (y7.1.1 != (-1)) = true then
                                some ((false, ()), ())
                              else
                                if (y2.1.1.toList == (strB [100, 101, 99, 111, 100, 101, 114, 32, 108, 105, 110, 101, 115, 32, 105, 110, 112, 117, 116, 32, 98, 121, 116, 101, 32, 111, 117, 116, 112, 117, 116, 32, 112, 97, 99, 107, 101, 116, 32, 123, 32, 115, 116, 97, 116, 101, 32, 97, 32, 123, 32, 49, 48, 32, 62, 32, 97, 32, 58, 32, 101, 109, 105, 116, 32, 48, 32, 59, 32, 42, 32, 62, 32, 97, 32, 58, 32, 112, 117, 115, 104, 32, 59, 32, 125, 32, 125]).toList) = true then
                                  (ref34_Same y3.1.1 y1.1.1).bind fun y8 =>
                                    if y8.1.1 = true then
                                      if ((y5.1.1.2.2.2.2.length : Int) == 1) = true then
                                        some ((y5.1.1.1 == 10, ()), ())
                                      else
                                        some ((false, ()), ())
                                    else
                                      some ((false, ()), ())
                                else
                                  some ((false, ()), ())
def fc6 : FC := ⟨⟨[], []⟩, ⟨[.one .bool], []⟩, fun x => law34_awake⟩
theorem con6 : Contract Tryz.prog 6 fc6 :=
  law34_awake_D.contract tok (cok_of (l := [(7, fc7), (9, fc9), (11, fc11), (14, fc14), (15, fc15), (16, fc16), (17, fc17)]) ⟨con7, con9, con11, con14, con15, con16, con17, trivial⟩) mixed (fn' := Tryz.f6) (by kernel_rfl) (by kernel_rfl) rfl (by kernel_rfl) (fun x => (FD.fn_eq _ _).trans (by kernel_rfl))
end
end Go.Proofs.YtjgjbdnjjepibaaGreatDoor
end

section
/-
YtjgjbdnjjepibaaGreatDoor: signalbench.signalbenchref34.Print, as one plain function, its equations, its contract. No condition.
-/
set_option maxRecDepth 100000
set_option linter.unusedVariables false
set_option maxHeartbeats 4000000
open Go Go.AM
namespace Go.Proofs.YtjgjbdnjjepibaaGreatDoor
noncomputable section
def ref34_Print_D : FD := ⟨T, lookC [(23, fc23), (24, fc24), (25, fc25)], [], (Tryz.f8.body.getD .skip), Tryz.f8.results.toList, ⟨[.row (.cons .str (.cons (.int .i64) (.cons (.int .i64) (.sl (.cons .str (.cons (.sl (.cons (.int .i64) (.cons (.int .i64) (.cons .str (.cons .bool (.sl (.cons (.int .i64) (.int .i64)))))))) (.cons .bool (.cons (.int .i64) (.cons (.int .i64) (.cons .str (.cons .bool (.sl (.cons (.int .i64) (.int .i64))))))))))))))], []⟩, ⟨[.one .str, .one (.int .i64)], []⟩, []⟩
def ref34_Print (d : TDecl) : (Option ((ByteArray × Int × Unit) × Unit)) :=
  (ref34_Check d).bind fun y1 =>
    if (y1.1.1 != 0) = true then
      some (((strB []), y1.1.1, ()), ())
    else
      (ref34_Tokens d).bind fun y2 =>
        (ref05_Text y2.1.1).bind fun y3 =>
          some ((y3.1.1, y3.1.2.1, ()), ())
def fc8 : FC := ⟨⟨[.row (.cons .str (.cons (.int .i64) (.cons (.int .i64) (.sl (.cons .str (.cons (.sl (.cons (.int .i64) (.cons (.int .i64) (.cons .str (.cons .bool (.sl (.cons (.int .i64) (.int .i64)))))))) (.cons .bool (.cons (.int .i64) (.cons (.int .i64) (.cons .str (.cons .bool (.sl (.cons (.int .i64) (.int .i64))))))))))))))], []⟩, ⟨[.one .str, .one (.int .i64)], []⟩, fun x => ref34_Print x.1.1⟩
theorem con8 : Contract Tryz.prog 8 fc8 :=
  ref34_Print_D.contract tok (cok_of (l := [(23, fc23), (24, fc24), (25, fc25)]) ⟨con23, con24, con25, trivial⟩) mixed (fn' := Tryz.f8) (by kernel_rfl) (by kernel_rfl) rfl (by kernel_rfl) (fun x => (FD.fn_eq _ _).trans (by kernel_rfl))
end
end Go.Proofs.YtjgjbdnjjepibaaGreatDoor
end

section
/-
YtjgjbdnjjepibaaGreatDoor: signalbench.signalbenchlaw34.DeclPrints, as one plain function, its equations, its contract. No condition.
-/
set_option maxRecDepth 100000
set_option linter.unusedVariables false
set_option maxHeartbeats 4000000
open Go Go.AM
namespace Go.Proofs.YtjgjbdnjjepibaaGreatDoor
noncomputable section
def law34_DeclPrints_D : FD := ⟨T, lookC [(5, fc5), (6, fc6), (7, fc7), (8, fc8)], [], (Tryz.f3.body.getD .skip), Tryz.f3.results.toList, ⟨[.row (.cons .str (.cons (.int .i64) (.cons (.int .i64) (.sl (.cons .str (.cons (.sl (.cons (.int .i64) (.cons (.int .i64) (.cons .str (.cons .bool (.sl (.cons (.int .i64) (.int .i64)))))))) (.cons .bool (.cons (.int .i64) (.cons (.int .i64) (.cons .str (.cons .bool (.sl (.cons (.int .i64) (.int .i64))))))))))))))], []⟩, ⟨[.one .bool], []⟩, []⟩
def law34_DeclPrints (d : TDecl) : (Option ((Bool × Unit) × Unit)) :=
  (law34_small d).bind fun y1 =>
    if (!y1.1.1) = true then
      (law34_awake).bind fun y2 =>
        some ((y2.1.1, ()), ())
    else
      (decl_Print d).bind fun y3 =>
        (ref34_Print d).bind fun y4 =>
          if (y3.1.1.toList == y4.1.1.toList) = true then
            if (y3.1.2.1 == y4.1.2.1) = true then
              (law34_awake).bind fun y5 =>
                some ((y5.1.1, ()), ())
            else
              some ((false, ()), ())
          else
            some ((false, ()), ())
def fc3 : FC := ⟨⟨[.row (.cons .str (.cons (.int .i64) (.cons (.int .i64) (.sl (.cons .str (.cons (.sl (.cons (.int .i64) (.cons (.int .i64) (.cons .str (.cons .bool (.sl (.cons (.int .i64) (.int .i64)))))))) (.cons .bool (.cons (.int .i64) (.cons (.int .i64) (.cons .str (.cons .bool (.sl (.cons (.int .i64) (.int .i64))))))))))))))], []⟩, ⟨[.one .bool], []⟩, fun x => law34_DeclPrints x.1.1⟩
theorem con3 : Contract Tryz.prog 3 fc3 :=
  law34_DeclPrints_D.contract tok (cok_of (l := [(5, fc5), (6, fc6), (7, fc7), (8, fc8)]) ⟨con5, con6, con7, con8, trivial⟩) mixed (fn' := Tryz.f3) (by kernel_rfl) (by kernel_rfl) rfl (by kernel_rfl) (fun x => (FD.fn_eq _ _).trans (by kernel_rfl))
end
end Go.Proofs.YtjgjbdnjjepibaaGreatDoor
end

section
/-
YtjgjbdnjjepibaaGreatDoor: signalbench.signalbenchlaw34.DeclParses, as one plain function, its equations, its contract. No condition.
-/
set_option maxRecDepth 100000
set_option linter.unusedVariables false
set_option maxHeartbeats 4000000
open Go Go.AM
namespace Go.Proofs.YtjgjbdnjjepibaaGreatDoor
noncomputable section
def law34_DeclParses_D : FD := ⟨T, lookC [(6, fc6), (9, fc9), (10, fc10), (11, fc11)], [], (Tryz.f4.body.getD .skip), Tryz.f4.results.toList, ⟨[.one .str], []⟩, ⟨[.one .bool], []⟩, []⟩
def law34_DeclParses (s : ByteArray) : (Option ((Bool × Unit) × Unit)) :=
  if (decide ((s.size : Int) > 600)) = true then
    (law34_awake).bind fun y1 =>
      some ((y1.1.1, ()), ())
  else
    (decl_Parse s).bind fun y2 =>
      (ref34_Parse s).bind fun y3 =>
        (ref34_Same y2.1.1 y3.1.1).bind fun y4 =>
          if y4.1.1 = true then
            if (y2.1.2.1 == y3.1.2.1) = true then
              if (y2.1.2.2.1 == y3.1.2.2.1) = true then
                (law34_awake).bind fun y5 =>
                  some ((y5.1.1, ()), ())
              else
                some ((false, ()), ())
            else
              some ((false, ()), ())
          else
            some ((false, ()), ())
def fc4 : FC := ⟨⟨[.one .str], []⟩, ⟨[.one .bool], []⟩, fun x => law34_DeclParses x.1.1⟩
theorem con4 : Contract Tryz.prog 4 fc4 :=
  law34_DeclParses_D.contract tok (cok_of (l := [(6, fc6), (9, fc9), (10, fc10), (11, fc11)]) ⟨con6, con9, con10, con11, trivial⟩) mixed (fn' := Tryz.f4) (by kernel_rfl) (by kernel_rfl) rfl (by kernel_rfl) (fun x => (FD.fn_eq _ _).trans (by kernel_rfl))
end
end Go.Proofs.YtjgjbdnjjepibaaGreatDoor
end

section
/-
YtjgjbdnjjepibaaGreatDoor: the plain functions of names and numbers come to what they should. No condition.
-/
set_option maxRecDepth 100000
open Go Go.AM
namespace Go.Proofs.YtjgjbdnjjepibaaGreatDoor

theorem lex_letter_b (c : UInt8) : lex_letter c.toNat = some ((letterB c, ()), ()) := by
  unfold lex_letter letterB
  by_cases h : 97 ≤ c.toNat
  · rw [if_pos (decide_eq_true (by omega)), decide_eq_true h, Bool.true_and]
    by_cases h2 : c.toNat ≤ 122
    · rw [decide_eq_true h2, decide_eq_true (by omega)]
    · rw [decide_eq_false h2, decide_eq_false (by omega)]
  · rw [if_neg (dF (by omega)), decide_eq_false h, Bool.false_and]

theorem lex_digit_b (c : UInt8) : lex_digit c.toNat = some ((digitB c, ()), ()) := by
  unfold lex_digit digitB
  by_cases h : 48 ≤ c.toNat
  · rw [if_pos (decide_eq_true (by omega)), decide_eq_true h, Bool.true_and]
    by_cases h2 : c.toNat ≤ 57
    · rw [decide_eq_true h2, decide_eq_true (by omega)]
    · rw [decide_eq_false h2, decide_eq_false (by omega)]
  · rw [if_neg (dF (by omega)), decide_eq_false h, Bool.false_and]

theorem int_beq (c d : UInt8) : ((c.toNat : Int) == (d.toNat : Int)) = (c == d) := by
  rw [Bool.eq_iff_iff, beq_iff_eq, beq_iff_eq, u8_eq]

theorem lex_word_b (c : UInt8) : lex_word c.toNat = some ((wordB c, ()), ()) := by
  unfold lex_word wordB
  rw [lex_letter_b, lex_digit_b]
  have := int_beq c 95
  cases letterB c <;> cases digitB c <;> simp <;> exact this

theorem ref05_letter_b (c : UInt8) : ref05_letter c.toNat = some ((letterB c, ()), ()) := lex_letter_b c
theorem ref05_digit_b (c : UInt8) : ref05_digit c.toNat = some ((digitB c, ()), ()) := lex_digit_b c
theorem ref05_inner_b (c : UInt8) : ref05_inner c.toNat = some ((wordB c, ()), ()) := lex_word_b c

theorem lex_hex_b (c : UInt8) : lex_hex c.toNat = some ((hexI c, ()), ()) := by
  have hc := c.toNat_lt
  unfold lex_hex hexI hexv
  by_cases h : 48 ≤ c.toNat ∧ c.toNat ≤ 57
  · rw [if_pos (decide_eq_true (by omega)), if_pos (decide_eq_true (by omega)), if_pos h, w8 (by omega) (by omega), w64 (by omega) (by omega)]
    simp only [Option.some.injEq, Prod.mk.injEq, and_true]; omega
  · rw [if_neg h]
    by_cases h2 : 97 ≤ c.toNat ∧ c.toNat ≤ 102
    · have e1 : IntKind.u8.wrap ((c.toNat : Int) - 97) = c.toNat - 97 := w8 (by omega) (by omega)
      have e2 : IntKind.i64.wrap ((c.toNat : Int) - 97) = c.toNat - 97 := w64 (by omega) (by omega)
      have e3 : IntKind.i64.wrap ((c.toNat : Int) - 97 + 10) = c.toNat - 97 + 10 := w64 (by omega) (by omega)
      rw [if_pos (decide_eq_true (by omega)), if_neg (dF (by omega)), if_pos (decide_eq_true (by omega)), if_pos (decide_eq_true (by omega)), if_pos h2, e1, e2, e3]
      simp only [Option.some.injEq, Prod.mk.injEq, and_true]; omega
    · rw [if_neg h2]
      simp only [decide_eq_true_eq]
      repeat' split
      all_goals first | rfl | (exfalso; omega)

theorem ref05_hexa_b (c : UInt8) : ref05_hexa c.toNat = some ((hexI c, ()), ()) := by
  have hc := c.toNat_lt
  unfold ref05_hexa
  rw [ref05_digit_b]
  simp only [Option.bind_some]
  unfold hexI hexv digitB
  by_cases h : 48 ≤ c.toNat ∧ c.toNat ≤ 57
  · rw [if_pos (by simp; omega), if_pos h, w64 (x := (c.toNat : Int)) (by omega) (by omega), w64 (by omega) (by omega)]
    simp only [Option.some.injEq, Prod.mk.injEq, and_true]; omega
  · rw [if_neg h, if_neg (by simp; omega)]
    by_cases h2 : 97 ≤ c.toNat ∧ c.toNat ≤ 102
    · have e1 : IntKind.i64.wrap (c.toNat : Int) = c.toNat := w64 (by omega) (by omega)
      have e2 : IntKind.i64.wrap ((c.toNat : Int) - 97) = c.toNat - 97 := w64 (by omega) (by omega)
      have e3 : IntKind.i64.wrap ((c.toNat : Int) - 97 + 10) = c.toNat - 97 + 10 := w64 (by omega) (by omega)
      rw [if_pos (decide_eq_true (by omega)), if_pos (decide_eq_true (by omega)), if_pos h2, e1, e2, e3]
      simp only [Option.some.injEq, Prod.mk.injEq, and_true]; omega
    · rw [if_neg h2]
      simp only [decide_eq_true_eq]
      repeat' split
      all_goals first | rfl | (exfalso; omega)

theorem hasPrefix_b (s p : ByteArray) : strings_HasPrefix s p = some ((decide (L s = L p ++ (L s).drop (L p).length), ()), ()) := by
  unfold strings_HasPrefix stringslite_HasPrefix
  by_cases h : p.size ≤ s.size
  · rw [if_pos (decide_eq_true (by omega)), if_pos ⟨by omega, by omega, by omega⟩]
    simp only [Option.bind_some, Option.some.injEq, Prod.mk.injEq, and_true]
    rw [Bool.eq_iff_iff, beq_iff_eq, decide_eq_true_eq, toL, toL, L_ext]
    simp only [Int.toNat_natCast, List.drop_zero]
    rw [← L_len p]
    constructor
    · intro e
      conv => lhs; rw [← List.take_append_drop (L p).length (L s), e]
    · intro e
      rw [e, List.take_left]
  · rw [if_neg (dF (by omega))]
    simp only [Option.bind_some, Option.some.injEq, Prod.mk.injEq, and_true]
    symm
    rw [decide_eq_false_iff_not]
    intro e
    have := congrArg List.length e
    simp only [List.length_append, L_len] at this
    omega

theorem lex_Name_loop (s : ByteArray) (hs : s.size ≤ 4611686018427387904) : ∀ (r : List UInt8) (n : Nat), (L s).drop n = r → lex_Name_l6 s s.size n = some ((r.all wordB, ()), ())
  | [], n, h => by
    have := drop_nil h
    rw [L_len] at this
    rw [lex_Name_l6_eq, if_neg (dF (by omega))]
    rfl
  | c :: r, n, h => by
    have h1 := drop_lt h
    rw [L_len] at h1
    rw [lex_Name_l6_eq, if_pos (decide_eq_true (by omega)), if_pos ⟨by omega, by omega⟩, bt_drop h, w32c, lex_word_b]
    simp only [Option.bind_some, List.all_cons]
    cases hw : wordB c
    · rfl
    · simp only [Bool.not_true, Bool.false_eq_true, if_false, Bool.true_and]
      rw [w64 (by omega) (by omega)]
      exact lex_Name_loop s hs r (n + 1) (drop_succ h)

theorem ref05_Name_loop (s : ByteArray) (hs : s.size ≤ 4611686018427387904) : ∀ (r : List UInt8) (n : Nat), (L s).drop n = r → ref05_Name_l6 s n = some ((r.all wordB, ()), ())
  | [], n, h => by
    have := drop_nil h
    rw [L_len] at this
    rw [ref05_Name_l6_eq, if_neg (dF (by omega))]
    rfl
  | c :: r, n, h => by
    have h1 := drop_lt h
    rw [L_len] at h1
    rw [ref05_Name_l6_eq, if_pos (decide_eq_true (by omega)), if_pos ⟨by omega, by omega⟩, bt_drop h, ref05_inner_b]
    simp only [Option.bind_some, List.all_cons]
    cases hw : wordB c
    · rfl
    · simp only [Bool.not_true, Bool.false_eq_true, if_false, Bool.true_and]
      rw [w64 (by omega) (by omega)]
      exact ref05_Name_loop s hs r (n + 1) (drop_succ h)

theorem lex_Name_b (s : ByteArray) : lex_Name s = some ((nameB (L s), ()), ()) := by
  unfold lex_Name
  have hl := L_len s
  cases hL : L s with
  | nil => rw [if_pos (by rw [toL, toL, hL, L_strB]; rfl)]; rfl
  | cons c r =>
    rw [hL] at hl
    simp only [List.length_cons] at hl
    rw [if_neg (by rw [toL, toL, hL, L_strB]; simp)]
    rw [nameB_cons]
    by_cases h : s.size ≤ 16
    · rw [if_neg (dF (by omega)), if_pos ⟨by omega, by omega⟩, bt_cons hL, w32c, lex_letter_b, decide_eq_true (by omega : r.length + 1 ≤ 16)]
      simp only [Option.bind_some, Bool.true_and]
      cases letterB c
      · rfl
      · simp only [Bool.not_true, Bool.false_eq_true, if_false, Bool.true_and]
        exact lex_Name_loop s (by omega) (c :: r) 0 (by rw [hL]; rfl)
    · rw [if_pos (decide_eq_true (by omega)), decide_eq_false (by omega : ¬ r.length + 1 ≤ 16)]
      rfl

theorem ref05_Name_b (s : ByteArray) : ref05_Name s = some ((nameB (L s), ()), ()) := by
  unfold ref05_Name
  have hl := L_len s
  cases hL : L s with
  | nil =>
    rw [hL] at hl
    simp only [List.length_nil] at hl
    rw [if_pos (decide_eq_true (by omega))]; rfl
  | cons c r =>
    rw [hL] at hl
    simp only [List.length_cons] at hl
    rw [if_neg (dF (by omega))]
    rw [nameB_cons]
    by_cases h : s.size ≤ 16
    · rw [if_neg (dF (by omega)), if_pos ⟨by omega, by omega⟩, bt_cons hL, ref05_letter_b, decide_eq_true (by omega : r.length + 1 ≤ 16)]
      simp only [Option.bind_some, Bool.true_and]
      cases letterB c
      · rfl
      · simp only [Bool.not_true, Bool.false_eq_true, if_false, Bool.true_and]
        exact ref05_Name_loop s (by omega) (c :: r) 0 (by rw [hL]; rfl)
    · rw [if_pos (decide_eq_true (by omega)), decide_eq_false (by omega : ¬ r.length + 1 ≤ 16)]
      rfl

theorem hexI_cases (c : UInt8) : (hexv c = none ∧ hexI c = -1) ∨ ∃ d : Nat, hexv c = some d ∧ hexI c = d ∧ d < 16 := by
  unfold hexI
  cases h : hexv c with
  | none => exact .inl ⟨rfl, rfl⟩
  | some d => exact .inr ⟨d, rfl, rfl, hexv_lt h⟩

/-- What the loop over the digits comes to. -/
def numEnd (minus : Bool) : Option Nat → Int × Int
  | none => (0, 4)
  | some n => if n > 9007199254740992 then (0, 2) else (if minus = true then -(n : Int) else n, 0)

theorem lex_Number_loop (s : ByteArray) (hs : s.size ≤ 4611686018427387904) (minus : Bool) (base : Nat) (hb : base ≤ 16) : ∀ (r : List UInt8) (i n : Nat), (L s).drop i = r → n ≤ 9007199254740993 →
    lex_Number_l13 s minus base n s.size i = some (((numEnd minus (digs base r n)).1, (numEnd minus (digs base r n)).2, ()), ())
  | [], i, n, h, hn => by
    have := drop_nil h
    rw [L_len] at this
    rw [lex_Number_l13_eq, if_neg (dF (by omega))]
    simp only [digs, numEnd]
    by_cases h2 : n > 9007199254740992
    · rw [if_pos (decide_eq_true (by omega)), if_pos h2]
    · rw [if_neg (dF (by omega)), if_neg h2]
      cases minus
      · rfl
      · simp only [if_true, Option.some.injEq, Prod.mk.injEq, and_true]
        rw [w64 (by omega) (by omega)]; omega
  | c :: r, i, n, h, hn => by
    have h1 := drop_lt h
    rw [L_len] at h1
    rw [lex_Number_l13_eq, if_pos (decide_eq_true (by omega)), if_pos ⟨by omega, by omega⟩, bt_drop h, lex_hex_b]
    simp only [Option.bind_some, digs]
    rcases hexI_cases c with ⟨e1, e2⟩ | ⟨d, e1, e2, e3⟩
    · rw [e1, e2, if_pos (by decide)]
      try rfl
    · rw [e1, e2, if_neg (dF (by omega))]
      simp only
      by_cases hd : d < base
      · rw [if_neg (dF (by omega)), if_pos hd]
        have b1 : base * n ≤ 16 * 9007199254740993 := Nat.mul_le_mul hb hn
        have e4 : IntKind.i64.wrap ((base : Int) * n) = ((base * n : Nat) : Int) := by rw [← Int.natCast_mul, w64 (by omega) (by omega)]
        have e5 : IntKind.i64.wrap (((base * n : Nat) : Int) + d) = ((base * n + d : Nat) : Int) := by rw [w64 (by omega) (by omega)]; omega
        have e6 : IntKind.i64.wrap ((i : Int) + 1) = ((i + 1 : Nat) : Int) := by rw [w64 (by omega) (by omega)]; omega
        rw [e4, e5, e6, show (if (9007199254740993 : Int) < ((base * n + d : Nat) : Int) then (9007199254740993 : Int) else ((base * n + d : Nat) : Int)) = ((min (base * n + d) 9007199254740993 : Nat) : Int) by
          split <;> omega]
        exact lex_Number_loop s hs minus base hb r (i + 1) _ (drop_succ h) (by omega)
      · rw [if_pos (decide_eq_true (by omega)), if_neg hd]
        try rfl

theorem ref05_plain_loop (s : ByteArray) (hs : s.size ≤ 4611686018427387904) (base : Nat) (hb : base ≤ 16) : ∀ (r : List UInt8) (i n : Nat), (L s).drop i = r → n ≤ 9007199254740993 →
    ref05_plain_l7 s base n i = some ((match digs base r n with | some m => ((m : Int), true, ()) | none => (0, false, ())), ())
  | [], i, n, h, hn => by
    have := drop_nil h
    rw [L_len] at this
    rw [ref05_plain_l7_eq, if_neg (dF (by omega))]
    rfl
  | c :: r, i, n, h, hn => by
    have h1 := drop_lt h
    rw [L_len] at h1
    rw [ref05_plain_l7_eq, if_pos (decide_eq_true (by omega)), if_pos ⟨by omega, by omega⟩, bt_drop h, ref05_hexa_b]
    simp only [Option.bind_some, digs]
    rcases hexI_cases c with ⟨e1, e2⟩ | ⟨d, e1, e2, e3⟩
    · rw [e1, e2, if_pos (by decide)]
    · rw [e1, e2, if_neg (dF (by omega))]
      simp only
      by_cases hd : d < base
      · rw [if_neg (dF (by omega)), if_pos hd]
        have b1 : base * n ≤ 16 * 9007199254740993 := Nat.mul_le_mul hb hn
        have e4 : IntKind.i64.wrap ((n : Int) * base) = ((base * n : Nat) : Int) := by rw [show (n : Int) * base = ((base * n : Nat) : Int) by rw [Int.natCast_mul, Int.mul_comm], w64 (by omega) (by omega)]
        have e5 : IntKind.i64.wrap (((base * n : Nat) : Int) + d) = ((base * n + d : Nat) : Int) := by rw [w64 (by omega) (by omega)]; omega
        have e6 : IntKind.i64.wrap ((i : Int) + 1) = ((i + 1 : Nat) : Int) := by rw [w64 (by omega) (by omega)]; omega
        rw [e4, e5, e6]
        by_cases h7 : base * n + d > 9007199254740992
        · rw [if_pos (decide_eq_true (by omega)), show min (base * n + d) 9007199254740993 = 9007199254740993 by omega]
          exact ref05_plain_loop s hs base hb r (i + 1) 9007199254740993 (drop_succ h) (by omega)
        · rw [if_neg (dF (by omega)), show min (base * n + d) 9007199254740993 = base * n + d by omega]
          exact ref05_plain_loop s hs base hb r (i + 1) _ (drop_succ h) (by omega)
      · rw [if_pos (decide_eq_true (by omega)), if_neg hd]

theorem ref05_plain_b (s : ByteArray) (hs : s.size ≤ 4611686018427387904) (base : Nat) (hb : base ≤ 16) : ref05_plain s base = some ((match natV (L s) base with | some m => ((m : Int), true, ()) | none => (0, false, ())), ()) := by
  unfold ref05_plain
  have hl := L_len s
  cases hL : L s with
  | nil =>
    rw [hL] at hl
    simp only [List.length_nil] at hl
    rw [if_pos (by rw [beq_iff_eq]; omega)]
    rfl
  | cons c r =>
    rw [hL] at hl
    simp only [List.length_cons] at hl
    rw [if_neg (eF (by omega))]
    have hc := int_beq c 48
    simp only [natV]
    by_cases h1 : r = []
    · subst h1
      have hl' : s.size = 1 := hl.symm
      rw [if_neg (dF (by omega)), if_neg (by simp)]
      exact ref05_plain_loop s hs base hb [c] 0 0 (by rw [hL]; rfl) (by omega)
    · have : 0 < r.length := List.length_pos_iff.2 h1
      rw [if_pos (decide_eq_true (by omega)), if_pos ⟨by omega, by omega⟩, bt_cons hL]
      by_cases h2 : c = 48
      · rw [if_pos (by rw [h2]; rfl), if_pos ⟨h2, h1⟩]
      · rw [if_neg (by rw [show ((c.toNat : Int) == 48) = _ from hc]; simpa using h2), if_neg (by simp [h2])]
        exact ref05_plain_loop s hs base hb (c :: r) 0 0 (by rw [hL]; rfl) (by omega)

end Go.Proofs.YtjgjbdnjjepibaaGreatDoor
end

section
/-
YtjgjbdnjjepibaaGreatDoor: the plain functions of numbers and quoted strings come to what they should. No condition.
-/
set_option maxRecDepth 100000
open Go Go.AM
namespace Go.Proofs.YtjgjbdnjjepibaaGreatDoor

def l5V (minus : Bool) (base : Nat) (l : List UInt8) : Int × Int := match l with
  | [] => (0, 4)
  | c :: r => if c = 48 ∧ (minus = true ∨ r ≠ []) then (0, 4) else numEnd minus (digs base (c :: r) 0)

theorem lex_Number_l5_b (s : ByteArray) (hs : s.size ≤ 4611686018427387904) (minus : Bool) (base : Nat) (hb : base ≤ 16) : lex_Number_l5 s minus base = some (((l5V minus base (L s)).1, (l5V minus base (L s)).2, ()), ()) := by
  rw [lex_Number_l5_eq]
  cases hL : L s with
  | nil => rw [if_pos (is_nil hL)]; rfl
  | cons c r =>
    have hl := size_of hL
    simp only [List.length_cons] at hl
    rw [if_neg (not_nil hL), if_pos ⟨by omega, by omega⟩, bt_cons hL]
    have loop := lex_Number_loop s hs minus base hb (c :: r) 0 0 (by rw [hL]; rfl) (by omega)
    simp only [l5V]
    by_cases h1 : c = 48
    · subst h1
      rw [if_pos (by decide)]
      cases minus with
      | true => simp
      | false =>
        simp only [Bool.false_eq_true, if_false, false_or, true_and]
        by_cases h2 : r = []
        · subst h2
          simp only [List.length_nil] at hl
          rw [if_neg (dF (by omega)), if_neg (by simp)]
          exact loop
        · have := List.length_pos_iff.2 h2
          rw [if_pos (dT (by omega)), if_pos h2]
    · rw [if_neg (show ¬ ((c.toNat : Int) == 48) = true from byte_ne h1), if_neg (by simp [h1])]
      exact loop

theorem numN_natV (neg : Bool) (base : Nat) (hb : 0 < base) (l : List UInt8) : numN neg (natV l base) = l5V neg base l := by
  cases l with
  | nil => rfl
  | cons c r =>
    simp only [natV, l5V]
    by_cases h1 : c = 48
    · subst h1
      by_cases h2 : r = []
      · subst h2
        have e : digs base [48] 0 = some 0 := by
          have : hexv 48 = some 0 := by decide
          simp [digs, this, hb]
        rw [if_neg (by simp), e]
        cases neg <;> simp [numN, numEnd]
      · rw [if_pos ⟨rfl, h2⟩, if_pos ⟨rfl, .inr h2⟩]
        rfl
    · rw [if_neg (by simp [h1]), if_neg (by simp [h1])]
      cases hd : digs base (c :: r) 0 with
      | none => rfl
      | some m =>
        have := digs_first hb hd h1
        simp only [numN, numEnd]
        rw [if_neg (by omega)]

theorem body_l5 (neg : Bool) (b : List UInt8) : numN neg (bodyV b) = match b with
    | 48 :: 120 :: t => l5V neg 16 t
    | b => l5V neg 10 b := by
  match b with
  | [] => exact numN_natV neg 10 (by omega) []
  | [c] =>
    have : bodyV [c] = natV [c] 10 := by unfold bodyV; split <;> simp_all
    rw [this, numN_natV neg 10 (by omega)]
    split <;> simp_all
  | c :: d :: r =>
    by_cases h : c = 48 ∧ d = 120
    · obtain ⟨rfl, rfl⟩ := h
      cases r with
      | nil =>
        have : bodyV [48, 120] = none := by rfl
        rw [this]; rfl
      | cons e r => exact numN_natV neg 16 (by omega) (e :: r)
    · have : bodyV (c :: d :: r) = natV (c :: d :: r) 10 := by
        unfold bodyV
        split
        · rename_i e; simp only [List.cons.injEq] at e; exact absurd ⟨e.1, e.2.1⟩ h
        · rfl
      rw [this, numN_natV neg 10 (by omega)]
      split
      · rename_i e; simp only [List.cons.injEq] at e; exact absurd ⟨e.1, e.2.1⟩ h
      · rfl

theorem prefix_minus_yes {s : ByteArray} {r : List UInt8} (h : L s = 45 :: r) : strings_HasPrefix s (strB [45]) = some ((true, ()), ()) := by
  rw [hasPrefix_b, L_strB, h]
  simp

theorem prefix_minus_no {s : ByteArray} (h : ∀ r, L s ≠ 45 :: r) : strings_HasPrefix s (strB [45]) = some ((false, ()), ()) := by
  rw [hasPrefix_b, L_strB]
  simp only [Option.some.injEq, Prod.mk.injEq, and_true, decide_eq_false_iff_not]
  exact fun e => h _ e

theorem prefix_hex (s : ByteArray) : strings_HasPrefix s (strB [48, 120]) = some ((match L s with
    | 48 :: 120 :: _ => true
    | _ => false, ()), ()) := by
  rw [hasPrefix_b]
  simp only [Option.some.injEq, Prod.mk.injEq, and_true]
  rw [L_strB]
  match L s with
  | [] => rfl
  | [c] => simp
  | c :: d :: r =>
    simp only [List.length_cons, List.length_nil, List.drop_succ_cons, List.drop_zero, List.cons_append, List.nil_append, List.cons.injEq, and_true]
    by_cases h : c = 48 ∧ d = 120
    · obtain ⟨rfl, rfl⟩ := h; simp
    · rw [decide_eq_false h]
      split
      · rename_i e; cases e; exact absurd ⟨rfl, rfl⟩ h
      · rfl

theorem lex_Number_l2_b (s : ByteArray) (hs : s.size ≤ 4611686018427387904) (minus : Bool) : lex_Number_l2 s minus = some (((numN minus (bodyV (L s))).1, (numN minus (bodyV (L s))).2, ()), ()) := by
  rw [lex_Number_l2_eq, prefix_hex, body_l5]
  simp only [Option.bind_some]
  split
  · rename_i t hL
    have hl := size_of hL
    simp only [List.length_cons] at hl
    rw [if_pos rfl, if_pos ⟨by omega, by omega⟩]
    have := lex_Number_l5_b (s.extract 2 s.size) (by rw [size_drop]; omega) minus 16 (by omega)
    rw [L_ext', hL] at this
    exact this
  · rw [if_neg (by simp)]
    exact lex_Number_l5_b s hs minus 10 (by omega)

theorem lex_Number_b (s : ByteArray) (hs : s.size ≤ 4611686018427387904) : lex_Number s = some (((numV (L s)).1, (numV (L s)).2, ()), ()) := by
  unfold lex_Number
  have no : (∀ r, L s ≠ 45 :: r) → numV (L s) = numN false (bodyV (L s)) → ((strings_HasPrefix s (strB [45])).bind fun y1 =>
      if y1.1.1 = true then
        if 0 ≤ (1 : Int) ∧ 1 ≤ (s.size : Int) then lex_Number_l2 (s.extract 1 s.size) y1.1.1 else none
      else lex_Number_l2 s y1.1.1) = some (((numV (L s)).1, (numV (L s)).2, ()), ()) := by
    intro h e
    rw [prefix_minus_no h, e]
    exact lex_Number_l2_b s hs false
  cases hL : L s with
  | nil =>
    rw [hL] at no
    exact no (fun r e => by cases e) rfl
  | cons c r =>
    by_cases h : c = 45
    · subst h
      have hl := size_of hL
      simp only [List.length_cons] at hl
      rw [prefix_minus_yes hL, numV_minus]
      simp only [Option.bind_some, if_true]
      rw [if_pos ⟨by omega, by omega⟩]
      have := lex_Number_l2_b (s.extract 1 s.size) (by rw [size_drop]; omega) true
      rw [L_ext', hL] at this
      exact this
    · rw [hL] at no
      exact no (fun r e => by cases e; exact h rfl) (numV_other h)

theorem ref05_Number_l7_b (neg : Bool) (o : Option Nat) (ho : ∀ n, o = some n → n ≤ 9007199254740993) : ref05_Number_l7 (if neg = true then -1 else 1) (match o with | some m => (m : Int) | none => 0) (match o with | some _ => true | none => false) = some (((numN neg o).1, (numN neg o).2, ()), ()) := by
  rw [ref05_Number_l7_eq]
  cases o with
  | none => rfl
  | some m =>
    have := ho m rfl
    simp only [Bool.not_true, Bool.false_eq_true, if_false, numN]
    cases neg with
    | true =>
      simp only [if_true, true_and]
      rw [if_pos (dT (by omega))]
      by_cases h1 : m = 0
      · subst h1; rfl
      · rw [if_neg (eF (by omega)), if_neg h1]
        by_cases h2 : m > 9007199254740992
        · rw [if_pos (dT (by omega)), if_pos h2]
        · rw [if_neg (dF (by omega)), if_neg h2, w64 (by omega) (by omega)]
          simp only [Option.some.injEq, Prod.mk.injEq, and_true]; omega
    | false =>
      simp only [Bool.false_eq_true, if_false, false_and]
      rw [if_neg (dF (by omega))]
      by_cases h2 : m > 9007199254740992
      · rw [if_pos (dT (by omega)), if_pos h2]
      · rw [if_neg (dF (by omega)), if_neg h2, w64 (by omega) (by omega)]
        simp only [Option.some.injEq, Prod.mk.injEq, and_true]; omega

theorem ref05_Number_l7_c (neg : Bool) (o : Option Nat) (ho : ∀ n, o = some n → n ≤ 9007199254740993) : ref05_Number_l7 (if neg = true then -1 else 1) (match o with | some m => ((m : Int), true, ()) | none => (0, false, ())).1 (match o with | some m => ((m : Int), true, ()) | none => (0, false, ())).2.1 = some (((numN neg o).1, (numN neg o).2, ()), ()) := by
  rw [← ref05_Number_l7_b neg o ho]
  cases o <;> rfl

theorem natV_le {l : List UInt8} {base n : Nat} (h : natV l base = some n) : n ≤ 9007199254740993 := by
  unfold natV at h
  split at h
  · cases h
  · split at h
    · cases h
    · exact digs_le _ _ _ h (by omega)

theorem bodyV_le {l : List UInt8} {n : Nat} (h : bodyV l = some n) : n ≤ 9007199254740993 := by
  unfold bodyV at h
  split at h <;> exact natV_le h

theorem ref05_Number_l3_b (s : ByteArray) (hs : s.size ≤ 4611686018427387904) (neg : Bool) : ref05_Number_l3 s (if neg = true then -1 else 1) = some (((numN neg (bodyV (L s))).1, (numN neg (bodyV (L s))).2, ()), ()) := by
  rw [ref05_Number_l3_eq]
  have ten : (ref05_plain s 10).bind (fun y3 => ref05_Number_l7 (if neg = true then -1 else 1) y3.1.1 y3.1.2.1) = some (((numN neg (natV (L s) 10)).1, (numN neg (natV (L s) 10)).2, ()), ()) := by
    have := ref05_plain_b s hs 10 (by omega)
    rw [show ref05_plain s 10 = _ from this]
    exact ref05_Number_l7_c neg (natV (L s) 10) (fun n h => natV_le h)
  by_cases h2 : s.size > 2
  · rw [if_pos (dT (by omega)), if_pos ⟨by omega, by omega, by omega⟩]
    match hL : L s with
    | [] => have := size_of hL; simp only [List.length_nil] at this; omega
    | [c] => have := size_of hL; simp only [List.length_cons, List.length_nil] at this; omega
    | [c, d] => have := size_of hL; simp only [List.length_cons, List.length_nil] at this; omega
    | c :: d :: e :: r =>
      by_cases h : c = 48 ∧ d = 120
      · obtain ⟨rfl, rfl⟩ := h
        rw [if_pos (by rw [toL, toL, L_take, hL, L_strB]; rfl), if_pos ⟨by omega, by omega⟩]
        have := ref05_plain_b (s.extract 2 s.size) (by rw [size_drop]; omega) 16 (by omega)
        rw [L_ext', hL] at this
        rw [show ref05_plain (s.extract 2 s.size) 16 = _ from this]
        rw [show bodyV (48 :: 120 :: e :: r) = natV (e :: r) 16 from rfl]
        exact ref05_Number_l7_c neg (natV (e :: r) 16) (fun n h => natV_le h)
      · rw [if_neg (by rw [toL, toL, L_take, hL, L_strB]; simp only [List.take_succ_cons, List.take_zero, beq_iff_eq, List.cons.injEq, and_true]; exact h), ten, hL]
        have : bodyV (c :: d :: e :: r) = natV (c :: d :: e :: r) 10 := by
          unfold bodyV
          split
          · rename_i q; simp only [List.cons.injEq] at q; exact absurd ⟨q.1, q.2.1⟩ h
          · rfl
        rw [this]
  · rw [if_neg (dF (by omega)), ten]
    have : bodyV (L s) = natV (L s) 10 := by
      unfold bodyV
      split
      · rename_i q; have := size_of q; simp only [List.length_cons] at this; omega
      · rfl
    rw [this]

theorem ref05_Number_b (s : ByteArray) (hs : s.size ≤ 4611686018427387904) : ref05_Number s = some (((numV (L s)).1, (numV (L s)).2, ()), ()) := by
  unfold ref05_Number
  cases hL : L s with
  | nil =>
    have hl := size_of hL
    simp only [List.length_nil] at hl
    rw [if_neg (dF (by omega))]
    have := ref05_Number_l3_b s hs false
    rw [hL] at this
    exact this
  | cons c r =>
    have hl := size_of hL
    simp only [List.length_cons] at hl
    rw [if_pos (dT (by omega)), if_pos ⟨by omega, by omega⟩, bt_cons hL]
    by_cases h : c = 45
    · subst h
      rw [if_pos (by decide), if_pos ⟨by omega, by omega⟩, numV_minus]
      have := ref05_Number_l3_b (s.extract 1 s.size) (by rw [size_drop]; omega) true
      rw [L_ext', hL] at this
      exact this
    · rw [if_neg (show ¬ ((c.toNat : Int) == 45) = true from byte_ne h), numV_other h]
      have := ref05_Number_l3_b s hs false
      rw [hL] at this
      exact this

end Go.Proofs.YtjgjbdnjjepibaaGreatDoor
end

section
/-
YtjgjbdnjjepibaaGreatDoor: the plain functions of quoted strings come to what they should. No condition.
-/
set_option maxRecDepth 100000
open Go Go.AM
namespace Go.Proofs.YtjgjbdnjjepibaaGreatDoor

theorem lex_plain_b (c : UInt8) : lex_plain c.toNat = some ((plainB c, ()), ()) := by
  unfold lex_plain plainB
  by_cases h : 32 ≤ c.toNat
  · rw [if_pos (dT (by omega)), decide_eq_true h]
    by_cases h2 : c.toNat ≤ 126
    · rw [if_pos (dT (by omega)), decide_eq_true h2]
      by_cases h3 : c = 34
      · subst h3; rfl
      · rw [if_pos (show ((c.toNat : Int) != 34) = true from byte_bne h3), bne_iff_ne.2 h3]
        by_cases h4 : c = 92
        · subst h4; rfl
        · rw [show ((c.toNat : Int) != 92) = true from byte_bne h4, bne_iff_ne.2 h4]; rfl
    · rw [if_neg (dF (by omega)), decide_eq_false h2]
      simp
  · rw [if_neg (dF (by omega)), decide_eq_false h]
    simp

theorem hex_pair {x y : Nat} (hx : x < 16) (hy : y < 16) : IntKind.u8.wrap (IntKind.i64.wrap (IntKind.i64.wrap (16 * (x : Int)) + y)) = ((UInt8.ofNat (16 * x + y)).toNat : Int) := by
  have e1 : IntKind.i64.wrap (16 * (x : Int)) = 16 * x := w64 (by omega) (by omega)
  have e2 : IntKind.i64.wrap (16 * (x : Int) + y) = 16 * x + y := w64 (by omega) (by omega)
  rw [e1, e2, w8 (by omega) (by omega), UInt8.toNat_ofNat', Nat.mod_eq_of_lt (by omega)]
  omega

theorem hex_pair' {x y : Nat} (hx : x < 16) (hy : y < 16) : IntKind.u8.wrap (IntKind.i64.wrap (IntKind.i64.wrap ((x : Int) * 16) + y)) = ((UInt8.ofNat (16 * x + y)).toNat : Int) := by
  rw [Int.mul_comm]; exact hex_pair hx hy

theorem bt_at {s : ByteArray} {i : Nat} {c : UInt8} {r : List UInt8} (h : (L s).drop i = c :: r) (x : Int) (hx : x = i) : bt s x = (c.toNat : Int) := by
  subst hx; exact bt_drop h

theorem lex_escape_b (s : ByteArray) (c : UInt8) (r : List UInt8) (hL : L s = c :: r) : lex_escape s = some ((match escV r with
    | some (b, n) => ((b.toNat : Int), (n : Int), ())
    | none => (0, 0, ())), ()) := by
  unfold lex_escape
  have hl := size_of hL
  cases r with
  | nil =>
    simp only [List.length_cons, List.length_nil] at hl
    rw [if_pos (dT (by omega))]; rfl
  | cons e r =>
    simp only [List.length_cons] at hl
    have b1 : bt s 1 = (e.toNat : Int) := bt_at (i := 1) (r := r) (by rw [hL]; rfl) 1 rfl
    rw [if_neg (dF (by omega)), if_pos ⟨by omega, by omega⟩, b1]
    have yes : ∀ x, lex_escape_l6 s x true = some (((e.toNat : Int), 2, ()), ()) := fun x => by
      rw [lex_escape_l6_eq, if_pos rfl, if_pos ⟨by omega, by omega⟩, b1]
    by_cases h1 : e = 34
    · subst h1
      rw [if_pos (by decide), yes]; rfl
    · rw [if_neg (show ¬ ((e.toNat : Int) == 34) = true from byte_ne h1)]
      by_cases h2 : e = 92
      · subst h2
        rw [show (((92 : UInt8).toNat : Int) == 92) = true from by decide, yes]; rfl
      · rw [show ((e.toNat : Int) == 92) = false from by simpa using byte_ne h2, lex_escape_l6_eq, if_neg Bool.false_ne_true]
        simp only [escV]
        rw [if_neg (show ¬ (e = 34 ∨ e = 92) by simp [h1, h2])]
        by_cases h3 : e = 110
        · subst h3
          rw [if_pos (by decide), if_pos rfl]; rfl
        · rw [if_neg (show ¬ ((e.toNat : Int) == 110) = true from byte_ne h3), if_neg h3]
          by_cases h4 : e = 120
          · subst h4
            rw [if_pos (by decide), if_pos rfl]
            match r, hl, hL with
            | [], hl, _ => simp only [List.length_nil] at hl; rw [if_pos (dT (by omega))]
            | [a], hl, _ => simp only [List.length_cons, List.length_nil] at hl; rw [if_pos (dT (by omega))]
            | a :: b :: r, hl, hL =>
              simp only [List.length_cons] at hl
              have b2 : bt s 2 = (a.toNat : Int) := bt_at (i := 2) (r := b :: r) (by rw [hL]; rfl) 2 rfl
              have b3 : bt s 3 = (b.toNat : Int) := bt_at (i := 3) (r := r) (by rw [hL]; rfl) 3 rfl
              rw [if_neg (dF (by omega)), if_pos ⟨by omega, by omega⟩, b2, b3, lex_hex_b, lex_hex_b]
              simp only [Option.bind_some]
              rcases hexI_cases a with ⟨e1, e2⟩ | ⟨x, e1, e2, e3⟩
              · rw [e1, e2, if_pos (by decide)]
              · rw [e1, e2, if_neg (dF (by omega)), if_pos ⟨by omega, by omega⟩]
                rcases hexI_cases b with ⟨f1, f2⟩ | ⟨y, f1, f2, f3⟩
                · rw [f1, f2, if_pos (by decide)]
                · rw [f1, f2, if_neg (dF (by omega)), if_pos ⟨by omega, by omega⟩, if_pos ⟨by omega, by omega⟩, hex_pair e3 f3]
                  rfl
          · rw [if_neg (show ¬ ((e.toNat : Int) == 120) = true from byte_ne h4), if_neg h4]

theorem lex_Unquote_loop : ∀ (k : Nat) (s : ByteArray) (acc : List UInt8), (L s).length ≤ k → acc.length + (L s).length ≤ 1099511627776 → lex_Unquote_l7 s (bI acc) = some ((match unqI k (L s) with
    | some o => (strB (acc ++ o), 0, ())
    | none => (strB [], 4, ())), ()) := by
  intro k
  induction k using Nat.strongRecOn with
  | _ k ih =>
    intro s acc hk ha
    rw [lex_Unquote_l7_eq]
    cases hL : L s with
    | nil =>
      rw [if_neg (cond_nil hL), strOf_bI]
      have : unqI k [] = some [] := by cases k <;> rfl
      rw [this]
      simp
    | cons c r =>
      have hl := size_of hL
      rw [hL] at hk ha
      simp only [List.length_cons] at hk ha hl
      obtain ⟨k, rfl⟩ : ∃ j, k = j + 1 := ⟨k - 1, by omega⟩
      rw [if_pos (cond_not_nil hL), if_pos ⟨by omega, by omega⟩, bt_cons hL, w32c, lex_plain_b]
      simp only [Option.bind_some, unqI]
      by_cases hp : plainB c = true
      · rw [if_pos hp, if_pos hp, if_pos ⟨by omega, by omega⟩, if_pos (by rw [bI_len]; omega), if_pos ⟨by omega, by omega⟩, bI_snoc]
        have e := L_ext' s 1
        rw [hL] at e
        rw [ih k (by omega) (s.extract 1 s.size) (acc ++ [c]) (by rw [e]; simpa using by omega) (by rw [e]; simp; omega), e]
        simp only [List.drop_succ_cons, List.drop_zero]
        cases unqI k r <;> simp
      · rw [if_neg hp, if_neg hp, if_pos ⟨by omega, by omega⟩]
        have bad : ∀ x : Int, lex_Unquote_l14 s x 0 (bI acc) = some ((strB [], 4, ()), ()) := fun x => by rw [lex_Unquote_l14_eq, if_pos (eT rfl)]
        by_cases hc : c = 92
        · subst hc
          rw [if_pos (by decide), if_pos rfl, lex_escape_b s 92 r hL]
          simp only [Option.bind_some]
          cases he : escV r with
          | none => exact bad 0
          | some p =>
            obtain ⟨b, n⟩ := p
            have hn := escV_len he
            simp only
            rw [lex_Unquote_l14_eq, if_neg (eF (by omega)), if_pos (by rw [bI_len]; omega), if_pos ⟨by omega, by omega⟩, bI_snoc, Int.toNat_natCast]
            have e := L_ext' s n
            rw [hL, show n = (n - 1) + 1 by omega, List.drop_succ_cons] at e
            rw [show n - 1 + 1 = n by omega] at e
            rw [ih k (by omega) (s.extract n s.size) (acc ++ [b]) (by rw [e, List.length_drop]; omega) (by rw [e, List.length_drop]; simp; omega), e]
            cases unqI k (r.drop (n - 1)) <;> simp
        · rw [if_neg (show ¬ ((c.toNat : Int) == 92) = true from byte_ne hc), if_neg hc]
          exact bad 0

theorem lex_Unquote_b (s : ByteArray) (hs : s.size ≤ 1099511627776) : lex_Unquote s = some ((match unqV (L s) with
    | some o => (strB o, 0, ())
    | none => (strB [], 4, ())), ()) := by
  unfold lex_Unquote
  match hL : L s with
  | [] =>
    have hl := size_of hL
    simp only [List.length_nil] at hl
    rw [if_pos (dT (by omega))]; rfl
  | [c] =>
    have hl := size_of hL
    simp only [List.length_cons, List.length_nil] at hl
    rw [if_pos (dT (by omega))]
    by_cases h : c = 34
    · subst h; rfl
    · have : unqV [c] = none := by
        unfold unqV
        split
        · rename_i e; cases e; exact absurd rfl h
        · rfl
      rw [this]
  | c :: d :: r =>
    have hl := size_of hL
    simp only [List.length_cons] at hl
    rw [if_neg (dF (by omega)), if_pos ⟨by omega, by omega⟩, bt_cons hL]
    by_cases h : c = 34
    · subst h
      rw [if_neg (by decide)]
      have e1 : IntKind.i64.wrap ((s.size : Int) - 1) = ((r.length + 1 : Nat) : Int) := by rw [w64 (by omega) (by omega)]; omega
      rw [e1, if_pos ⟨by omega, by omega⟩]
      obtain ⟨i, z, hi⟩ : ∃ i z, d :: r = i ++ [z] := ⟨(d :: r).dropLast, (d :: r).getLast (by simp), (List.dropLast_concat_getLast (by simp)).symm⟩
      have hil : i.length = r.length := by
        have := congrArg List.length hi
        simp at this
        omega
      have hz : bt s ((r.length + 1 : Nat) : Int) = (z.toNat : Int) := bt_at (i := r.length + 1) (r := []) (by rw [hL, hi, List.drop_succ_cons, ← hil]; simp) _ rfl
      rw [hz]
      unfold unqV
      simp only
      rw [hi, List.getLast?_concat, List.dropLast_concat]
      by_cases h2 : z = 34
      · subst h2
        rw [if_neg (by decide), if_pos rfl, if_pos ⟨by omega, by omega, by omega⟩, Int.toNat_natCast]
        have e2 : L (s.extract 1 (r.length + 1)) = i := by
          rw [L_ext, hL, hi, ← hil]
          simp
        have := lex_Unquote_loop (i ++ [34]).length (s.extract 1 (r.length + 1)) [] (by rw [e2]; simp) (by rw [e2]; simp; omega)
        rw [e2] at this
        simp only [List.nil_append] at this
        exact this
      · rw [if_pos (show ((z.toNat : Int) != 34) = true from byte_bne h2), if_neg (by simpa using h2)]
    · rw [if_pos (show ((c.toNat : Int) != 34) = true from byte_bne h)]
      have : unqV (c :: d :: r) = none := by
        unfold unqV
        split
        · rename_i e; cases e; exact absurd rfl h
        · rfl
      rw [this]

theorem ref05_quoted_loop (s : ByteArray) (hs : s.size ≤ 1099511627776) : ∀ (k : Nat) (r : List UInt8) (i : Nat) (acc : List UInt8), (L s).drop i = r → r.length ≤ k → acc.length ≤ i → i ≤ s.size → ref05_quoted_l7 s i (bI acc) = some ((match unqL k r with
    | some (o, rest) => (strB (acc ++ o), ((s.size - rest.length : Nat) : Int), true, ())
    | none => (strB [], 0, false, ())), ()) := by
  intro k
  induction k using Nat.strongRecOn with
  | _ k ih =>
    intro r i acc hr hk ha hi
    have hrl : r.length = s.size - i := by rw [← hr, List.length_drop, L_len]
    rw [ref05_quoted_l7_eq]
    cases r with
    | nil =>
      simp only [List.length_nil] at hrl
      rw [if_neg (dF (by omega))]
      have : unqL k [] = none := by cases k <;> rfl
      rw [this]
    | cons c r =>
      simp only [List.length_cons] at hk hrl
      obtain ⟨k, rfl⟩ : ∃ j, k = j + 1 := ⟨k - 1, by omega⟩
      rw [if_pos (dT (by omega)), if_pos ⟨by omega, by omega⟩, bt_drop hr]
      have d1 := drop_succ hr
      by_cases h1 : c = 34
      · subst h1
        rw [if_pos (by decide), strOf_bI, w64a i (by omega)]
        simp only [unqL, if_true]
        simp only [List.append_nil, Option.some.injEq, Prod.mk.injEq, and_true, true_and]
        omega
      · rw [if_neg (show ¬ ((c.toNat : Int) == 34) = true from byte_ne h1)]
        rw [unqL, if_neg h1]
        by_cases h2 : c.toNat < 32
        · rw [if_pos (dT (by omega)), if_pos (.inl h2)]
        · rw [if_neg (dF (by omega))]
          by_cases h3 : 126 < c.toNat
          · rw [if_pos (dT (by omega)), if_pos (.inr h3)]
          · rw [if_neg (dF (by omega)), if_neg (show ¬ (c.toNat < 32 ∨ 126 < c.toNat) by omega)]
            by_cases h4 : c = 92
            · subst h4
              rw [if_neg (show ¬ (((92 : UInt8).toNat : Int) != 92) = true by decide), if_neg (show ¬ ((92 : UInt8) ≠ 92) by simp), w64a i (by omega), w64b i (by omega), w64c i (by omega), w64d i (by omega)]
              cases r with
              | nil =>
                simp only [List.length_nil] at hrl
                rw [if_pos (dT (by omega))]; rfl
              | cons e r =>
                simp only [List.length_cons] at hrl hk
                have d2 := drop_succ d1
                rw [if_neg (dF (by omega)), if_pos ⟨by omega, by omega⟩, bt_drop d1]
                have room : ∀ x : List Int, x.length = acc.length → (x.length + 1) * 1 ≤ 140737488355328 ∧ 0 < 1 := fun x hx => by omega
                have two : ∀ b : UInt8, (if ((bI acc).length + 1) * 1 ≤ 140737488355328 ∧ 0 < 1 then ref05_quoted_l7 s ((i + 2 : Nat) : Int) (bI acc ++ [(b.toNat : Int)]) else none) = some ((match (unqL k r).map fun p => (b :: p.1, p.2) with
                    | some (o, rest) => (strB (acc ++ o), ((s.size - rest.length : Nat) : Int), true, ())
                    | none => (strB [], 0, false, ())), ()) := by
                  intro b
                  rw [if_pos (room _ (bI_len _)), bI_snoc, ih k (by omega) r (i + 2) (acc ++ [b]) d2 (by omega) (by simp; omega) (by omega)]
                  cases unqL k r with
                  | none => rfl
                  | some p => simp
                simp only [escV]
                by_cases g1 : e = 34
                · subst g1
                  rw [if_pos (by decide), if_pos (show (34 : UInt8) = 34 ∨ (34 : UInt8) = 92 from .inl rfl)]
                  exact two 34
                · rw [if_neg (show ¬ ((e.toNat : Int) == 34) = true from byte_ne g1)]
                  by_cases g2 : e = 92
                  · subst g2
                    rw [if_pos (by decide), if_pos (show (92 : UInt8) = 34 ∨ (92 : UInt8) = 92 from .inr rfl)]
                    exact two 92
                  · rw [if_neg (show ¬ ((e.toNat : Int) == 92) = true from byte_ne g2), if_neg (show ¬ (e = 34 ∨ e = 92) by simp [g1, g2])]
                    by_cases g3 : e = 110
                    · subst g3
                      rw [if_pos (by decide), if_pos (show (110 : UInt8) = 110 from rfl)]
                      exact two 10
                    · rw [if_neg (show ¬ ((e.toNat : Int) == 110) = true from byte_ne g3), if_neg g3]
                      by_cases g4 : e = 120
                      · subst g4
                        rw [if_pos (by decide), if_pos (show (120 : UInt8) = 120 from rfl)]
                        match r, hrl, hk, d2 with
                        | [], hrl, _, _ => simp only [List.length_nil] at hrl; rw [if_neg (dF (by omega))]
                        | [a], hrl, _, _ => simp only [List.length_cons, List.length_nil] at hrl; rw [if_neg (dF (by omega))]
                        | a :: b :: r, hrl, hk, d2 =>
                          simp only [List.length_cons] at hrl hk
                          have d3 := drop_succ d2
                          have d4 := drop_succ d3
                          rw [if_pos (dT (by omega)), if_pos ⟨by omega, by omega⟩, bt_drop d2, bt_drop d3, ref05_hexa_b, ref05_hexa_b]
                          simp only [Option.bind_some]
                          rcases hexI_cases a with ⟨e1, e2⟩ | ⟨x, e1, e2, e3⟩
                          · rw [e1, e2, if_neg (by decide)]
                          · rw [e1, e2, if_pos (dT (by omega)), if_pos ⟨by omega, by omega⟩]
                            rcases hexI_cases b with ⟨f1, f2⟩ | ⟨y, f1, f2, f3⟩
                            · rw [f1, f2, if_neg (by decide)]
                            · rw [f1, f2, if_pos (dT (by omega)), if_pos ⟨by omega, by omega⟩, if_pos ⟨by omega, by omega⟩, if_pos (room _ (bI_len _)), hex_pair' e3 f3, bI_snoc,
                                ih k (by omega) r (i + 4) _ d4 (by omega) (by simp; omega) (by omega)]
                              simp only [Nat.add_one_sub_one, List.drop_succ_cons, List.drop_zero]
                              cases unqL k r with
                              | none => rfl
                              | some p => simp
                      · rw [if_neg (show ¬ ((e.toNat : Int) == 120) = true from byte_ne g4), if_neg g4]
            · rw [if_pos (show ((c.toNat : Int) != 92) = true from byte_bne h4), if_pos h4, if_pos (by rw [bI_len]; omega), w64a i (by omega), bI_snoc,
                ih k (by omega) r (i + 1) _ d1 (by omega) (by simp; omega) (by omega)]
              cases unqL k r with
              | none => rfl
              | some p => simp

theorem ref05_quoted_b (s : ByteArray) (hs : s.size ≤ 1099511627776) (i : Nat) (r : List UInt8) (h : (L s).drop i = 34 :: r) : ref05_quoted s i = some ((match unqL r.length r with
    | some (o, rest) => (strB o, ((s.size - rest.length : Nat) : Int), true, ())
    | none => (strB [], 0, false, ())), ()) := by
  have h1 := drop_lt h
  rw [L_len] at h1
  unfold ref05_quoted
  rw [if_neg (dF (by omega)), if_pos ⟨by omega, by omega⟩, bt_drop h, if_neg (by decide), w64a i (by omega)]
  exact ref05_quoted_loop s hs r.length r (i + 1) [] (drop_succ h) (Nat.le_refl _) (by simp) (by omega)

theorem ref05_quoted_no (s : ByteArray) (h : ∀ r, L s ≠ 34 :: r) : ref05_quoted s 0 = some ((strB [], 0, false, ()), ()) := by
  unfold ref05_quoted
  cases hL : L s with
  | nil =>
    have hl := size_of hL
    simp only [List.length_nil] at hl
    rw [if_pos (dT (by omega))]
  | cons c r =>
    have hl := size_of hL
    simp only [List.length_cons] at hl
    rw [if_neg (dF (by omega)), if_pos ⟨by omega, by omega⟩, bt_cons hL]
    have hc : c ≠ 34 := fun e => h r (by rw [← e]; exact hL)
    rw [if_pos (show ((c.toNat : Int) != 34) = true from byte_bne hc)]

end Go.Proofs.YtjgjbdnjjepibaaGreatDoor
end

section
/-
YtjgjbdnjjepibaaGreatDoor: the plain functions of tokens come to what they should. No condition.
-/
set_option maxRecDepth 100000
open Go Go.AM
namespace Go.Proofs.YtjgjbdnjjepibaaGreatDoor

theorem lex_words_loop (s : ByteArray) (hs : s.size ≤ 1099511627776) : ∀ (r : List UInt8) (n : Nat), (L s).drop n = r → n ≤ s.size → lex_words_l3 s n = some ((((n + (r.takeWhile wordB).length : Nat) : Int), ()), ())
  | [], n, h, hn => by
    have := drop_nil h
    rw [L_len] at this
    rw [lex_words_l3_eq, if_neg (dF (by omega))]
    rfl
  | c :: r, n, h, hn => by
    have h1 := drop_lt h
    rw [L_len] at h1
    rw [lex_words_l3_eq, if_pos (dT (by omega)), if_pos ⟨by omega, by omega⟩, bt_drop h, w32c, lex_word_b]
    simp only [Option.bind_some, List.takeWhile_cons]
    cases hw : wordB c
    · simp
    · rw [if_pos rfl, w64a n (by omega), lex_words_loop s hs r (n + 1) (drop_succ h) (by omega)]
      simp only [if_true, List.length_cons]
      rw [show n + 1 + (r.takeWhile wordB).length = n + ((r.takeWhile wordB).length + 1) by omega]

theorem lex_words_b (s : ByteArray) (hs : s.size ≤ 1099511627776) : lex_words s = some (((((L s).takeWhile wordB).length : Int), ()), ()) := by
  have := lex_words_loop s hs (L s) 0 rfl (by omega)
  rw [Nat.zero_add] at this
  exact this

theorem ref05_word_loop (s : ByteArray) (hs : s.size ≤ 1099511627776) : ∀ (r : List UInt8) (n : Nat), (L s).drop n = r → n ≤ s.size → ref05_word_l3 s n = some ((((n + (r.takeWhile wordB).length : Nat) : Int), ()), ())
  | [], n, h, hn => by
    have := drop_nil h
    rw [L_len] at this
    rw [ref05_word_l3_eq, if_neg (dF (by omega))]
    rfl
  | c :: r, n, h, hn => by
    have h1 := drop_lt h
    rw [L_len] at h1
    rw [ref05_word_l3_eq, if_pos (dT (by omega)), if_pos ⟨by omega, by omega⟩, bt_drop h, ref05_inner_b]
    simp only [Option.bind_some, List.takeWhile_cons]
    cases hw : wordB c
    · simp
    · rw [if_pos rfl, w64a n (by omega), ref05_word_loop s hs r (n + 1) (drop_succ h) (by omega)]
      simp only [if_true, List.length_cons]
      rw [show n + 1 + (r.takeWhile wordB).length = n + ((r.takeWhile wordB).length + 1) by omega]

theorem ref05_word_b (s : ByteArray) (hs : s.size ≤ 1099511627776) (i : Nat) (c : UInt8) (r : List UInt8) (h : (L s).drop i = c :: r) : ref05_word s i = some ((((i + (1 + (r.takeWhile wordB).length) : Nat) : Int), ()), ()) := by
  have h1 := drop_lt h
  rw [L_len] at h1
  unfold ref05_word
  rw [w64a i (by omega), ref05_word_loop s hs r (i + 1) (drop_succ h) (by omega), Nat.add_assoc]

theorem lex_quoted_loop (s : ByteArray) (hs : s.size ≤ 1099511627776) : ∀ (k : Nat) (r : List UInt8) (i : Nat), (L s).drop i = r → r.length ≤ k → i ≤ s.size + 2 → lex_quoted_l3 s i = some ((match scanQ r with
    | some m => ((i + m + 1 : Nat) : Int)
    | none => 0, ()), ()) := by
  intro k
  induction k using Nat.strongRecOn with
  | _ k ih =>
    intro r i hr hk hi
    rw [lex_quoted_l3_eq]
    cases r with
    | nil =>
      have := drop_nil hr
      rw [L_len] at this
      rw [if_neg (dF (by omega))]; rfl
    | cons c r =>
      have h1 := drop_lt hr
      rw [L_len] at h1
      simp only [List.length_cons] at hk
      rw [if_pos (dT (by omega)), if_pos ⟨by omega, by omega⟩, bt_drop hr, scanQ_cons, w64a i (by omega)]
      have d1 := drop_succ hr
      by_cases g1 : c = 34
      · subst g1
        rw [if_pos (by decide), if_pos rfl]
      · rw [if_neg (show ¬ ((c.toNat : Int) == 34) = true from byte_ne g1), if_neg g1]
        by_cases g2 : c = 92
        · subst g2
          rw [if_pos (by decide), if_pos rfl, w64a (i + 1) (by omega)]
          cases r with
          | nil =>
            have := drop_nil d1
            rw [L_len] at this
            exact ih (k - 1) (by omega) [] (i + 1 + 1) (by rw [List.drop_of_length_le]; rw [L_len]; omega) (by simp) (by omega)
          | cons d r =>
            simp only [List.length_cons] at hk
            dsimp only
            rw [ih (k - 1) (by omega) r (i + 1 + 1) (drop_succ d1) (by omega) (by omega)]
            cases scanQ r with
            | none => rfl
            | some m => simp only [Option.map_some]; rw [show i + 1 + 1 + m + 1 = i + (m + 2) + 1 by omega]
        · rw [if_neg (show ¬ ((c.toNat : Int) == 92) = true from byte_ne g2), if_neg g2, ih (k - 1) (by omega) r (i + 1) d1 (by omega) (by omega)]
          cases scanQ r with
          | none => rfl
          | some m => simp only [Option.map_some]; rw [show i + 1 + m + 1 = i + (m + 1) + 1 by omega]

theorem or_if (b x : Bool) : (if b = true then some ((true, ()), ()) else some ((x, ()), ())) = some ((b || x, ()), ()) := by cases b <;> rfl

theorem lex_mark_b (c : UInt8) : lex_mark c.toNat = some ((markB c, ()), ()) := by
  unfold lex_mark markB marks
  simp only [or_if]
  simp only [show ((c.toNat : Int) == 40) = (c == 40) from int_beq c 40, show ((c.toNat : Int) == 41) = (c == 41) from int_beq c 41, show ((c.toNat : Int) == 91) = (c == 91) from int_beq c 91, show ((c.toNat : Int) == 93) = (c == 93) from int_beq c 93,
    show ((c.toNat : Int) == 123) = (c == 123) from int_beq c 123, show ((c.toNat : Int) == 125) = (c == 125) from int_beq c 125, show ((c.toNat : Int) == 60) = (c == 60) from int_beq c 60, show ((c.toNat : Int) == 62) = (c == 62) from int_beq c 62,
    show ((c.toNat : Int) == 61) = (c == 61) from int_beq c 61, show ((c.toNat : Int) == 44) = (c == 44) from int_beq c 44, show ((c.toNat : Int) == 59) = (c == 59) from int_beq c 59, show ((c.toNat : Int) == 58) = (c == 58) from int_beq c 58,
    show ((c.toNat : Int) == 46) = (c == 46) from int_beq c 46, show ((c.toNat : Int) == 47) = (c == 47) from int_beq c 47, show ((c.toNat : Int) == 42) = (c == 42) from int_beq c 42, show ((c.toNat : Int) == 43) = (c == 43) from int_beq c 43,
    show ((c.toNat : Int) == 33) = (c == 33) from int_beq c 33, show ((c.toNat : Int) == 38) = (c == 38) from int_beq c 38, show ((c.toNat : Int) == 124) = (c == 124) from int_beq c 124, List.contains_cons, List.contains_nil]

theorem ref05_Mark_loop (c : UInt8) (s : ByteArray) (hs : s.size ≤ 1000) : ∀ (r : List UInt8) (n : Nat), (L s).drop n = r → ref05_Mark_l4 c.toNat s n = some ((r.contains c, ()), ())
  | [], n, h => by
    have := drop_nil h
    rw [L_len] at this
    rw [ref05_Mark_l4_eq, if_neg (dF (by omega))]; rfl
  | d :: r, n, h => by
    have h1 := drop_lt h
    rw [L_len] at h1
    rw [ref05_Mark_l4_eq, if_pos (dT (by omega)), if_pos ⟨by omega, by omega⟩, bt_drop h, w64a n (by omega), ref05_Mark_loop c s hs r (n + 1) (drop_succ h), int_beq, or_if, List.contains_cons]
    rw [show (d == c) = (c == d) from by rw [Bool.eq_iff_iff, beq_iff_eq, beq_iff_eq]; exact eq_comm]

theorem ref05_Mark_b (c : UInt8) : ref05_Mark c.toNat = some ((markB c, ()), ()) := ref05_Mark_loop c _ (by decide) marks 0 rfl

theorem takeWhile_le (p : UInt8 → Bool) (l : List UInt8) : (l.takeWhile p).length ≤ l.length := (List.takeWhile_sublist p).length_le

theorem takeV_len {c : UInt8} {r : List UInt8} {t : Int × List UInt8 × Int} {n : Nat} (h : takeV (c :: r) = .ok (t, n)) : 1 ≤ n ∧ n ≤ r.length + 1 := by
  simp only [takeV] at h
  split at h
  · rename_i hc
    split at h
    · cases h
      have hw : wordB c = true := by simp [wordB, hc]
      rw [List.takeWhile_cons, if_pos hw]
      have := takeWhile_le wordB r
      simp only [List.length_cons]
      omega
    · cases h
  · split at h
    · split at h
      · cases h
        have := takeWhile_le wordB r
        omega
      · cases h
    · split at h
      · split at h
        · rename_i o rest hu
          cases h
          rw [unqL_scan _ _ (Nat.le_refl _)] at hu
          split at hu
          · cases hu
          · rename_i m hs
            have := scanQ_lt _ _ (Nat.le_refl _) m hs
            cases hi : unqI r.length (r.take m) with
            | none => rw [hi] at hu; cases hu
            | some o' =>
              rw [hi] at hu
              cases hu
              simp only [List.length_cons, List.length_drop]
              omega
        · cases h
      · split at h
        · cases h; omega
        · cases h

theorem numV_err (l : List UInt8) : (numV l).2 = 0 ∨ (numV l).2 = 4 ∨ (numV l).2 = 2 := by
  have key : ∀ b o, (numN b o).2 = 0 ∨ (numN b o).2 = 4 ∨ (numN b o).2 = 2 := by
    intro b o
    unfold numN
    split
    · simp
    · split
      · simp
      · split <;> simp
  unfold numV
  split <;> exact key _ _

theorem takeV_err {l : List UInt8} {e : Int} (h : takeV l = .error e) : e ≠ 0 := by
  cases l with
  | nil => cases h; decide
  | cons c r =>
    simp only [takeV] at h
    split at h
    · split at h
      · cases h
      · cases h; decide
    · split at h
      · split at h
        · cases h
        · rename_i hv
          cases h
          exact hv
      · split at h
        · split at h
          · cases h
          · cases h; decide
        · split at h
          · cases h
          · cases h; decide

/-- Numbers, as both functions take them. -/
theorem lex_take_num (s : ByteArray) (hs : s.size ≤ 1099511627776) (c : UInt8) (r : List UInt8) (hL : L s = c :: r) : (if 0 ≤ (1 : Int) ∧ 1 ≤ (s.size : Int) then
      (lex_words (s.extract 1 s.size)).bind fun y5 =>
        if 0 ≤ (0 : Int) ∧ (0 : Int) ≤ IntKind.i64.wrap (1 + y5.1.1) ∧ IntKind.i64.wrap (1 + y5.1.1) ≤ (s.size : Int) then
          (lex_Number (s.extract 0 (IntKind.i64.wrap (1 + y5.1.1)).toNat)).bind fun y6 =>
            if 0 ≤ (0 : Int) ∧ (0 : Int) ≤ IntKind.i64.wrap (1 + y5.1.1) ∧ IntKind.i64.wrap (1 + y5.1.1) ≤ (s.size : Int) then
              some ((((2 : Int), s.extract 0 (IntKind.i64.wrap (1 + y5.1.1)).toNat, y6.1.1, (0 : Int)), IntKind.i64.wrap (1 + y5.1.1), y6.1.2.1, ()), ())
            else
              none
        else
          none
    else
      none) = some (((2, strB ((c :: r).take (1 + (r.takeWhile wordB).length)), (numV ((c :: r).take (1 + (r.takeWhile wordB).length))).1, 0), ((1 + (r.takeWhile wordB).length : Nat) : Int), (numV ((c :: r).take (1 + (r.takeWhile wordB).length))).2, ()), ()) := by
  have hl := size_of hL
  simp only [List.length_cons] at hl
  have e := L_ext' s 1
  rw [hL, List.drop_succ_cons, List.drop_zero] at e
  have hw := takeWhile_le wordB r
  rw [if_pos ⟨by omega, by omega⟩, lex_words_b _ (by rw [size_drop]; omega), e]
  simp only [Option.bind_some]
  rw [show (1 : Int) + ((r.takeWhile wordB).length : Int) = (((1 + (r.takeWhile wordB).length : Nat)) : Int) by omega, w64 (by omega) (by omega), Int.toNat_natCast]
  rw [if_pos ⟨by omega, by omega, by omega⟩]
  have e2 : s.extract 0 (1 + (r.takeWhile wordB).length) = strB ((c :: r).take (1 + (r.takeWhile wordB).length)) := L_inj (by rw [L_take, hL, L_strB])
  rw [e2, lex_Number_b _ (by rw [strB_size, List.length_take]; simp only [List.length_cons]; omega), L_strB]
  simp only [Option.bind_some]
  rw [if_pos ⟨by omega, by omega, by omega⟩]

/-- What a function that takes a token comes to. -/
def TakeOk (line : Int) (i : Nat) (o : Option ((TToken × Int × Int × Unit) × Unit)) (v : Except Int ((Int × List UInt8 × Int) × Nat)) : Prop := match v with
  | .ok (t, n) => o = some (((t.1, strB t.2.1, t.2.2, line), ((i + n : Nat) : Int), 0, ()), ())
  | .error e => ∃ x n, o = some ((x, n, e, ()), ())

theorem take_ok {line : Int} {i n : Nat} {t : Int × List UInt8 × Int} {o : Option ((TToken × Int × Int × Unit) × Unit)} (h : o = some (((t.1, strB t.2.1, t.2.2, line), ((i + n : Nat) : Int), 0, ()), ())) : TakeOk line i o (.ok (t, n)) := h
theorem take_err {line : Int} {i : Nat} {e : Int} {x : TToken} {n : Int} : TakeOk line i (some ((x, n, e, ()), ())) (.error e) := ⟨x, n, rfl⟩

theorem lex_take_b (s : ByteArray) (hs : s.size ≤ 1099511627776) (c : UInt8) (r : List UInt8) (hL : L s = c :: r) : TakeOk 0 0 (lex_take s) (takeV (c :: r)) := by
  have hl := size_of hL
  simp only [List.length_cons] at hl
  unfold lex_take
  rw [if_pos ⟨by omega, by omega⟩, bt_cons hL, w32c, lex_letter_b, lex_digit_b]
  simp only [Option.bind_some]
  rw [lex_take_num s hs c r hL]
  simp only [takeV]
  by_cases h1 : letterB c = true
  · rw [if_pos h1, if_pos h1]
    have hw : ((c :: r).takeWhile wordB).length ≤ r.length + 1 := takeWhile_le wordB (c :: r)
    rw [lex_words_b s hs, hL]
    simp only [Option.bind_some, Int.toNat_natCast]
    rw [if_pos ⟨by omega, by omega, by omega⟩, if_pos ⟨by omega, by omega, by omega⟩]
    have e2 : s.extract 0 ((c :: r).takeWhile wordB).length = strB ((c :: r).take ((c :: r).takeWhile wordB).length) := L_inj (by rw [L_take, hL, L_strB])
    rw [e2, lex_Name_b, L_strB]
    simp only [Option.bind_some]
    cases hn : nameB ((c :: r).take ((c :: r).takeWhile wordB).length)
    · exact take_err
    · exact take_ok (by rw [Nat.zero_add]; rfl)
  · rw [if_neg h1, if_neg h1]
    by_cases h2 : digitB c = true ∨ c = 45
    · have e3 : ∀ (x y : Option ((TToken × Int × Int × Unit) × Unit)), (if digitB c = true then x else if ((c.toNat : Int) == 45) = true then x else y) = x := by
        intro x y
        rcases h2 with h2 | h2
        · rw [if_pos h2]
        · subst h2
          rw [if_neg (by decide), if_pos (by decide)]
      rw [e3, if_pos h2]
      by_cases hv : (numV ((c :: r).take (1 + (r.takeWhile wordB).length))).2 = 0
      · rw [if_pos hv, hv]
        exact take_ok (by rw [Nat.zero_add])
      · rw [if_neg hv]
        exact take_err
    · rw [if_neg (fun q => h2 (.inl q)), if_neg (show ¬ ((c.toNat : Int) == 45) = true from byte_ne (fun q => h2 (.inr q))), if_neg h2]
      by_cases h3 : c = 34
      · subst h3
        rw [if_pos (by decide), if_pos rfl]
        have hq := lex_quoted_loop s hs r.length r 1 (by rw [hL]; rfl) (Nat.le_refl _) (by omega)
        unfold lex_quoted
        rw [show (1 : Int) = ((1 : Nat) : Int) from rfl, hq, unqL_scan r.length r (Nat.le_refl _)]
        simp only [Option.bind_some]
        cases hsc : scanQ r with
        | none =>
          simp only
          rw [if_pos ⟨by omega, by omega, by omega⟩, lex_Unquote_b _ (by rw [size_take _ _ (by simp)]; simp), L_take]
          exact take_err
        | some m =>
          have hm := scanQ_lt _ _ (Nat.le_refl _) m hsc
          simp only [Int.toNat_natCast]
          have hm' := hm.1
          rw [if_pos ⟨by omega, by omega, by omega⟩, lex_Unquote_b _ (by rw [size_take _ _ (by omega)]; omega), L_take, hL]
          have e4 : (34 :: r).take (1 + m + 1) = 34 :: (r.take m ++ [34]) := by
            rw [show 1 + m + 1 = (m + 1) + 1 by omega, List.take_succ_cons, List.take_succ_eq_append_getElem hm', (List.getElem?_eq_some_iff.1 hm.2).2]
          rw [e4]
          have e5 : unqV (34 :: (r.take m ++ [34])) = unqI r.length (r.take m) := by
            unfold unqV
            simp only
            rw [List.getLast?_concat, if_pos rfl, List.dropLast_concat, unqI_fuel _ _ (by simp), unqI_fuel r.length _ (by rw [List.length_take]; omega)]
          rw [e5]
          cases hu : unqI r.length (r.take m) with
          | none => exact take_err
          | some o =>
            refine take_ok ?_
            simp only [Option.bind_some, Option.some.injEq, Prod.mk.injEq, and_true, true_and, List.length_cons, List.length_drop]
            omega
      · rw [if_neg (show ¬ ((c.toNat : Int) == 34) = true from byte_ne h3), if_neg h3, lex_mark_b]
        simp only [Option.bind_some]
        by_cases h4 : markB c = true
        · rw [if_pos h4, if_pos ⟨by omega, by omega, by omega⟩, if_pos h4]
          have e6 : s.extract 0 1 = strB [c] := L_inj (by rw [L_take, hL]; rfl)
          rw [e6]
          exact take_ok rfl
        · rw [if_neg h4, if_neg h4]
          exact take_err

theorem ref05_token_b (s : ByteArray) (hs : s.size ≤ 1099511627776) (line : Int) (i : Nat) (c : UInt8) (r : List UInt8) (h : (L s).drop i = c :: r) : TakeOk line i (ref05_token s i line) (takeV (c :: r)) := by
  have hi := drop_lt h
  rw [L_len] at hi
  have hrl : r.length + 1 = s.size - i := by
    have := congrArg List.length h
    rw [List.length_drop, L_len, List.length_cons] at this
    omega
  have hw := takeWhile_le wordB r
  have cut : ∀ n, s.extract i (i + n) = strB ((c :: r).take n) := fun n => L_inj (by rw [L_ext, L_strB, ← h, List.drop_take]; congr 1; omega)
  unfold ref05_token
  rw [if_pos ⟨by omega, by omega⟩, bt_drop h, ref05_letter_b, ref05_digit_b, ref05_word_b s hs i c r h]
  simp only [Option.bind_some, Int.toNat_natCast, takeV]
  rw [cut, ref05_Number_b _ (by rw [strB_size, List.length_take]; simp only [List.length_cons]; omega), L_strB]
  simp only [Option.bind_some]
  by_cases h1 : letterB c = true
  · rw [if_pos h1, if_pos h1]
    have hwc : wordB c = true := by simp [wordB, h1]
    have e1 : ((c :: r).takeWhile wordB).length = 1 + (r.takeWhile wordB).length := by rw [List.takeWhile_cons, if_pos hwc, List.length_cons]; omega
    rw [if_pos ⟨by omega, by omega, by omega⟩, if_pos ⟨by omega, by omega, by omega⟩, ref05_Name_b, L_strB, e1]
    simp only [Option.bind_some]
    cases hn : nameB ((c :: r).take (1 + (r.takeWhile wordB).length))
    · exact take_err
    · exact take_ok rfl
  · rw [if_neg h1, if_neg h1]
    by_cases h2 : digitB c = true ∨ c = 45
    · have e3 : ∀ (x y : Option ((TToken × Int × Int × Unit) × Unit)), (if digitB c = true then x else if ((c.toNat : Int) == 45) = true then x else y) = x := by
        intro x y
        rcases h2 with h2 | h2
        · rw [if_pos h2]
        · subst h2
          rw [if_neg (by decide), if_pos (by decide)]
      rw [e3, if_pos h2, if_pos ⟨by omega, by omega, by omega⟩]
      by_cases hv : (numV ((c :: r).take (1 + (r.takeWhile wordB).length))).2 = 0
      · rw [if_neg (nF hv), if_pos ⟨by omega, by omega, by omega⟩, if_pos hv]
        exact take_ok rfl
      · rw [if_pos (nT hv), if_neg hv]
        exact take_err
    · rw [if_neg (fun q => h2 (.inl q)), if_neg (show ¬ ((c.toNat : Int) == 45) = true from byte_ne (fun q => h2 (.inr q))), if_neg h2]
      by_cases h3 : c = 34
      · subst h3
        rw [if_pos (by decide), if_pos rfl, ref05_quoted_b s hs i r h]
        simp only [Option.bind_some]
        cases hu : unqL r.length r with
        | none => exact take_err
        | some p =>
          obtain ⟨o, rest⟩ := p
          have hrest : rest.length ≤ r.length := by
            rw [unqL_scan _ _ (Nat.le_refl _)] at hu
            split at hu
            · cases hu
            · cases hi' : unqI r.length (r.take _) with
              | none => rw [hi'] at hu; cases hu
              | some o' =>
                rw [hi'] at hu
                cases hu
                rw [List.length_drop]; omega
          refine take_ok ?_
          simp only [Bool.not_true, Bool.false_eq_true, if_false, Option.some.injEq, Prod.mk.injEq, and_true, true_and, List.length_cons]
          omega
      · rw [if_neg (show ¬ ((c.toNat : Int) == 34) = true from byte_ne h3), if_neg h3, ref05_Mark_b]
        simp only [Option.bind_some]
        by_cases h4 : markB c = true
        · rw [if_pos h4, w64a i (by omega), if_pos ⟨by omega, by omega, by omega⟩, if_pos h4, Int.toNat_natCast, cut 1]
          exact take_ok rfl
        · rw [if_neg h4, if_neg h4]
          exact take_err

theorem indexByte_drop : ∀ (l : List UInt8) (c : UInt8), (Lib.indexByte l c = -1 ∧ l.dropWhile (· ≠ c) = []) ∨ ∃ n : Nat, Lib.indexByte l c = n ∧ n ≤ l.length ∧ l.dropWhile (· ≠ c) = l.drop n
  | [], c => .inl ⟨rfl, rfl⟩
  | b :: l, c => by
    simp only [Lib.indexByte]
    by_cases h : b = c
    · subst h
      refine .inr ⟨0, by simp, by simp, by simp⟩
    · rw [if_neg (by simpa using h)]
      have e : (b :: l).dropWhile (· ≠ c) = l.dropWhile (· ≠ c) := by simp [List.dropWhile_cons, h]
      rw [e]
      rcases indexByte_drop l c with ⟨h1, h2⟩ | ⟨n, h1, h2, h3⟩
      · rw [h1]; exact .inl ⟨by decide, h2⟩
      · rw [h1, if_neg (by simp)]
        exact .inr ⟨n + 1, by simp, by simp; omega, by rw [h3]; rfl⟩

/-- What the loops over a text come to. -/
def tokOut (l0 : List TToken) : Except (Int × Int) (List TToken) → (List TToken × Int × Int × Unit)
  | .ok ts => (l0 ++ ts, 0, 0, ())
  | .error e => ([], e.1, e.2, ())

theorem dropWhile_le (p : UInt8 → Bool) (l : List UInt8) : (l.dropWhile p).length ≤ l.length := (List.dropWhile_sublist p).length_le

theorem lex_Tokens_loop : ∀ (k : Nat) (s : ByteArray) (line : Nat) (l0 : List TToken), (L s).length ≤ k → l0.length + (L s).length ≤ 1048576 → line + (L s).length ≤ 2097152 →
    lex_Tokens_l7 s line l0 = some (tokOut l0 (tokF k line (L s)), ()) := by
  intro k
  induction k using Nat.strongRecOn with
  | _ k ih =>
    intro s line l0 hk ha hb
    rw [lex_Tokens_l7_eq]
    cases hL : L s with
    | nil =>
      rw [if_neg (cond_nil hL)]
      have : tokF k line [] = .ok [] := by cases k <;> rfl
      rw [this]
      simp only [tokOut, List.append_nil]
    | cons c r =>
      have hl := size_of hL
      rw [hL] at hk ha hb
      simp only [List.length_cons] at hk ha hb hl
      obtain ⟨k, rfl⟩ : ∃ j, k = j + 1 := ⟨k - 1, by omega⟩
      have e1 := L_ext' s 1
      rw [hL, List.drop_succ_cons, List.drop_zero] at e1
      rw [if_pos (cond_not_nil hL), if_pos ⟨by omega, by omega⟩, bt_cons hL, tokF]
      by_cases h1 : c = 10
      · subst h1
        rw [if_pos (by decide), if_pos rfl, if_pos ⟨by omega, by omega⟩, w64a line (by omega), ih k (by omega) _ (line + 1) l0 (by rw [e1]; omega) (by rw [e1]; omega) (by rw [e1]; omega), e1]
        rfl
      · rw [if_neg (show ¬ ((c.toNat : Int) == 10) = true from byte_ne h1), if_neg h1]
        have blank : ∀ t, lex_Tokens_l15 s line t true l0 = some (tokOut l0 (tokF k line r), ()) := by
          intro t
          rw [lex_Tokens_l15_eq, if_pos rfl, if_pos ⟨by omega, by omega⟩, ih k (by omega) _ line l0 (by rw [e1]; omega) (by rw [e1]; omega) (by rw [e1]; omega), e1]
        by_cases h2 : c = 32
        · subst h2
          rw [if_pos (by decide), if_pos (.inl rfl)]
          exact blank _
        · rw [if_neg (show ¬ ((c.toNat : Int) == 32) = true from byte_ne h2)]
          by_cases h3 : c = 9
          · subst h3
            rw [show (((9 : UInt8).toNat : Int) == 9) = true from by decide, if_pos (.inr rfl)]
            exact blank _
          · rw [show ((c.toNat : Int) == 9) = false from by simpa using byte_ne h3, if_neg (by simp [h2, h3]), lex_Tokens_l15_eq, if_neg Bool.false_ne_true]
            by_cases h4 : c = 35
            · subst h4
              rw [if_pos (by decide), if_pos rfl]
              simp only [strings_IndexByte, Option.bind_some]
              rw [show (10 : Int).toNat.toUInt8 = 10 from rfl, show s.data.toList = L s from rfl, hL]
              have e2 : ((35 : UInt8) :: r).dropWhile (· ≠ 10) = r.dropWhile (· ≠ 10) := by simp [List.dropWhile_cons]
              have hdl := dropWhile_le (· ≠ 10) r
              rcases indexByte_drop (35 :: r) 10 with ⟨f1, f2⟩ | ⟨n, f1, f2, f3⟩
              · rw [f1, if_pos (by decide), if_pos ⟨by omega, by omega⟩, Int.toNat_natCast]
                have e3 := L_ext' s s.size
                rw [List.drop_of_length_le (by rw [L_len]; exact Nat.le_refl _)] at e3
                rw [ih k (by omega) _ line l0 (by rw [e3]; simp) (by rw [e3]; simp; omega) (by rw [e3]; simp; omega), e3, ← e2, f2]
              · simp only [List.length_cons] at f2
                rw [f1, if_neg (dF (by omega)), if_pos ⟨by omega, by omega⟩, Int.toNat_natCast]
                have e3 := L_ext' s n
                rw [hL, ← f3, e2] at e3
                rw [ih k (by omega) _ line l0 (by rw [e3]; omega) (by rw [e3]; omega) (by rw [e3]; omega), e3]
            · rw [if_neg (show ¬ ((c.toNat : Int) == 35) = true from byte_ne h4), if_neg h4]
              have ht := lex_take_b s (by omega) c r hL
              cases hv : takeV (c :: r) with
              | error e =>
                rw [hv] at ht
                obtain ⟨x, n, ht⟩ := ht
                rw [ht]
                simp only [Option.bind_some]
                rw [if_pos (nT (takeV_err hv))]
                rfl
              | ok p =>
                obtain ⟨t, n⟩ := p
                rw [hv] at ht
                have hn := takeV_len hv
                rw [show lex_take s = _ from ht]
                simp only [Option.bind_some]
                have e3 := L_ext' s n
                rw [hL] at e3
                have e4 : (L (s.extract n s.size)).length = r.length + 1 - n := by rw [e3, List.length_drop, List.length_cons]
                rw [if_neg (nF rfl), if_pos ⟨by omega, by omega⟩, if_pos ⟨by omega, by omega⟩, Int.toNat_natCast, Nat.zero_add,
                  ih k (by omega) _ line _ (by rw [e4]; omega) (by rw [e4, List.length_append, List.length_cons, List.length_nil]; omega) (by rw [e4]; omega), e3]
                cases tokF k line ((c :: r).drop n) with
                | error e => rfl
                | ok ts => simp only [tokOut, List.append_assoc, List.cons_append, List.nil_append]

theorem ref05_comment_loop (s : ByteArray) (hs : s.size ≤ 1048576) (line : Int) (l0 : List TToken) : ∀ (r : List UInt8) (i : Nat), (L s).drop i = r → i ≤ s.size → ref05_Tokens_l16 s line i l0 = ref05_Tokens_l8 s line ((s.size - (r.dropWhile (· ≠ 10)).length : Nat) : Int) l0
  | [], i, h, hi => by
    have := drop_nil h
    rw [L_len] at this
    rw [ref05_Tokens_l16_eq, if_neg (dF (by omega)), show i = s.size by omega]
    rfl
  | c :: r, i, h, hi => by
    have h1 := drop_lt h
    rw [L_len] at h1
    rw [ref05_Tokens_l16_eq, if_pos (dT (by omega)), if_pos ⟨by omega, by omega⟩, bt_drop h, w64a i (by omega)]
    by_cases g : c = 10
    · subst g
      rw [if_neg (by decide)]
      have : r.length + 1 = s.size - i := by
        have := congrArg List.length h
        rw [List.length_drop, L_len, List.length_cons] at this
        omega
      have e : ((10 : UInt8) :: r).dropWhile (· ≠ 10) = 10 :: r := by simp [List.dropWhile_cons]
      rw [e, List.length_cons, show s.size - (r.length + 1) = i by omega]
    · rw [if_pos (show ((c.toNat : Int) != 10) = true from byte_bne g), ref05_comment_loop s hs line l0 r (i + 1) (drop_succ h) (by omega)]
      have e : (c :: r).dropWhile (· ≠ 10) = r.dropWhile (· ≠ 10) := by simp [List.dropWhile_cons, g]
      rw [e]

theorem ref05_Tokens_loop (s : ByteArray) (hs : s.size ≤ 1048576) : ∀ (k : Nat) (r : List UInt8) (i line : Nat) (l0 : List TToken), (L s).drop i = r → r.length ≤ k → l0.length ≤ i → i ≤ s.size → line ≤ i + 1 →
    ref05_Tokens_l8 s line i l0 = some (tokOut l0 (tokF k line r), ()) := by
  intro k
  induction k using Nat.strongRecOn with
  | _ k ih =>
    intro r i line l0 hr hk ha hi hb
    rw [ref05_Tokens_l8_eq]
    cases r with
    | nil =>
      have := drop_nil hr
      rw [L_len] at this
      rw [if_neg (dF (by omega))]
      have : tokF k line [] = .ok [] := by cases k <;> rfl
      rw [this]
      simp only [tokOut, List.append_nil]
    | cons c r =>
      have h1 := drop_lt hr
      rw [L_len] at h1
      simp only [List.length_cons] at hk
      obtain ⟨k, rfl⟩ : ∃ j, k = j + 1 := ⟨k - 1, by omega⟩
      have hrl : r.length + 1 = s.size - i := by
        have := congrArg List.length hr
        rw [List.length_drop, L_len, List.length_cons] at this
        omega
      have d1 := drop_succ hr
      rw [if_pos (dT (by omega)), if_pos ⟨by omega, by omega⟩, bt_drop hr, tokF, w64a i (by omega)]
      by_cases g1 : c = 10
      · subst g1
        rw [if_pos (by decide), if_pos rfl, w64a line (by omega), ih k (by omega) r (i + 1) (line + 1) l0 d1 (by omega) (by omega) (by omega) (by omega)]
        rfl
      · rw [if_neg (show ¬ ((c.toNat : Int) == 10) = true from byte_ne g1), if_neg g1]
        by_cases g2 : c = 32
        · subst g2
          rw [if_pos (by decide), if_pos (.inl rfl), ih k (by omega) r (i + 1) line l0 d1 (by omega) (by omega) (by omega) (by omega)]
        · rw [if_neg (show ¬ ((c.toNat : Int) == 32) = true from byte_ne g2)]
          by_cases g3 : c = 9
          · subst g3
            rw [if_pos (by decide), if_pos (.inr rfl), ih k (by omega) r (i + 1) line l0 d1 (by omega) (by omega) (by omega) (by omega)]
          · rw [if_neg (show ¬ ((c.toNat : Int) == 9) = true from byte_ne g3), if_neg (show ¬ (c = 32 ∨ c = 9) by simp [g2, g3])]
            by_cases g4 : c = 35
            · subst g4
              rw [if_pos (by decide), if_pos rfl, ref05_comment_loop s hs line l0 (35 :: r) i hr hi]
              have e2 : ((35 : UInt8) :: r).dropWhile (· ≠ 10) = r.dropWhile (· ≠ 10) := by simp [List.dropWhile_cons]
              have hdl := dropWhile_le (· ≠ 10) r
              rw [e2]
              have e3 : (L s).drop (s.size - (r.dropWhile (· ≠ 10)).length) = r.dropWhile (· ≠ 10) := by
                obtain ⟨t, ht⟩ : ∃ t, t ++ r.dropWhile (· ≠ 10) = r := ⟨_, List.takeWhile_append_dropWhile⟩
                have hlen : t.length + (r.dropWhile (· ≠ 10)).length = r.length := by rw [← List.length_append, ht]
                rw [show s.size - (r.dropWhile (· ≠ 10)).length = (i + 1) + t.length by omega, ← List.drop_drop, d1]
                conv => lhs; rw [← ht]
                rw [List.drop_left]
              rw [ih k (by omega) _ _ line l0 e3 (by omega) (by omega) (by omega) (by omega)]
            · rw [if_neg (show ¬ ((c.toNat : Int) == 35) = true from byte_ne g4), if_neg g4]
              have ht := ref05_token_b s (by omega) line i c r hr
              cases hv : takeV (c :: r) with
              | error e =>
                rw [hv] at ht
                obtain ⟨x, n, ht⟩ := ht
                rw [ht]
                simp only [Option.bind_some]
                rw [if_pos (nT (takeV_err hv))]
                rfl
              | ok p =>
                obtain ⟨t, n⟩ := p
                rw [hv] at ht
                have hn := takeV_len hv
                rw [show ref05_token s i line = _ from ht]
                simp only [Option.bind_some]
                have e3 : (L s).drop (i + n) = (c :: r).drop n := by rw [← hr, List.drop_drop]
                rw [if_neg (nF rfl), if_pos ⟨by omega, by omega⟩,
                  ih k (by omega) _ (i + n) line _ e3 (by rw [List.length_drop, List.length_cons]; omega) (by rw [List.length_append, List.length_cons, List.length_nil]; omega) (by omega) (by omega)]
                cases tokF k line ((c :: r).drop n) with
                | error e => rfl
                | ok ts => simp only [tokOut, List.append_assoc, List.cons_append, List.nil_append]

theorem lex_Tokens_b (s : ByteArray) : lex_Tokens s = some (tokOut [] (tokV (L s)), ()) := by
  unfold lex_Tokens tokV
  rw [L_len]
  by_cases h : s.size > 1048576
  · rw [if_pos (dT (by omega)), if_pos h]; rfl
  · rw [if_neg (dF (by omega)), if_neg h]
    exact lex_Tokens_loop s.size s 1 [] (by rw [L_len]; exact Nat.le_refl _) (by rw [L_len]; simp; omega) (by rw [L_len]; omega)

theorem ref05_Tokens_b (s : ByteArray) : ref05_Tokens s = some (tokOut [] (tokV (L s)), ()) := by
  unfold ref05_Tokens tokV
  rw [L_len]
  by_cases h : s.size > 1048576
  · rw [if_pos (dT (by omega)), if_pos h]; rfl
  · rw [if_neg (dF (by omega)), if_neg h]
    exact ref05_Tokens_loop s (by omega) s.size (L s) 0 1 [] rfl (by rw [L_len]; exact Nat.le_refl _) (by simp) (by omega) (by omega)

end Go.Proofs.YtjgjbdnjjepibaaGreatDoor
end

section
/-
YtjgjbdnjjepibaaGreatDoor: the laws of tokens, numbers and quoted strings, as plain functions, come to true. No condition.
-/
set_option maxRecDepth 100000
open Go Go.AM
namespace Go.Proofs.YtjgjbdnjjepibaaGreatDoor

theorem awake_tokens : tokV [97, 50, 32, 61, 32, 45, 48, 120, 49, 102, 59, 32, 35, 32, 101, 110, 100] = .ok [(1, strB [97, 50], 0, 1), (4, strB [61], 0, 1), (2, strB [45, 48, 120, 49, 102], (-31), 1), (4, strB [59], 0, 1)] := by kernel_rfl

theorem tokF_length : ∀ (k : Nat) (line : Int) (l : List UInt8) (ts : List TToken), tokF k line l = .ok ts → ts.length ≤ l.length := by
  intro k
  induction k with
  | zero => intro line l ts h; cases l <;> cases h <;> simp
  | succ k ih =>
    intro line l ts h
    cases l with
    | nil => cases h; simp
    | cons c r =>
      rw [tokF] at h
      split at h
      · have := ih _ _ _ h; simp only [List.length_cons]; omega
      · split at h
        · have := ih _ _ _ h; simp only [List.length_cons]; omega
        · split at h
          · have := ih _ _ _ h
            have := dropWhile_le (· ≠ 10) r
            simp only [List.length_cons]; omega
          · split at h
            · cases h
            · rename_i t n hv
              have hn := takeV_len hv
              split at h
              · rename_i ts' ht
                cases h
                have := ih _ _ _ ht
                rw [List.length_drop] at this
                simp only [List.length_cons] at this ⊢
                omega
              · cases h

theorem tokOut_length (s : ByteArray) : (tokOut [] (tokV (L s))).1.length ≤ 1048576 := by
  unfold tokV
  split
  · simp [tokOut]
  · cases h : tokF (L s).length 1 (L s) with
    | ok ts =>
      have := tokF_length _ _ _ _ h
      simp only [tokOut, List.nil_append]
      omega
    | error e => simp [tokOut]

end Go.Proofs.YtjgjbdnjjepibaaGreatDoor
end

section
/-
YtjgjbdnjjepibaaGreatDoor: quoting, as plain functions, comes to what the plain law says; quoted strings are read back. No condition.
-/
set_option maxRecDepth 100000
set_option linter.unusedVariables false
open Go Go.AM
namespace Go.Proofs.YtjgjbdnjjepibaaGreatDoor

theorem writeByte_b (c : Int) (l : List Int) (h : l.length ≤ 1099511627776) : strings_Builder_WriteByte c l = some (((), ()), (((), (), ()), (), l ++ [c], ())) := by
  unfold strings_Builder_WriteByte strings_Builder_copyCheck
  simp only [Option.bind_some]
  rw [if_pos ⟨by omega, by decide⟩]

theorem writeString_b (s : ByteArray) (l : List Int) (h : l.length + s.size ≤ 1099511627776) : strings_Builder_WriteString s l = some (((s.size : Int), (), ()), (((), (), ()), (), l ++ bytesOfStr s, ())) := by
  have e : (bytesOfStr s).length = s.size := by unfold bytesOfStr; rw [List.length_map]; exact Array.length_toList
  unfold strings_Builder_WriteString strings_Builder_copyCheck
  simp only [Option.bind_some]
  rw [if_pos ⟨by rw [e]; omega, by decide⟩]

theorem byteL_bI (l : List UInt8) : byteL (bI l) = true := by
  unfold byteL bI
  rw [List.all_eq_true]
  intro x hx
  obtain ⟨c, _, rfl⟩ := List.mem_map.1 hx
  have := c.toNat_lt
  exact decide_eq_true (by omega)

theorem string_b (l : List UInt8) : strings_Builder_String (bI l) = some ((strB l, ()), ((), (), ())) := by
  unfold strings_Builder_String
  rw [if_pos (byteL_bI l), strOf_bI]

theorem lex_Quote_loop (s : ByteArray) (hs : s.size ≤ 4294967296) : ∀ (r : List UInt8) (n : Nat) (acc : List UInt8), (L s).drop n = r → acc.length ≤ 4 * n + 1 → n ≤ s.size → lex_Quote_l5 s s.size n (bI acc) = some ((strB (acc ++ (quoteL r ++ [34])), ()), ())
  | [], n, acc, h, ha, hn => by
    have h1 := drop_nil h
    rw [L_len] at h1
    rw [lex_Quote_l5_eq, if_neg (dF (by omega)), writeByte_b _ _ (by rw [bI_len]; omega)]
    simp only [Option.bind_some]
    rw [show bI acc ++ [34] = bI (acc ++ [34]) from bI_snoc acc 34, string_b]
    rfl
  | c :: r, n, acc, h, ha, hn => by
    have h1 := drop_lt h
    rw [L_len] at h1
    have hc := c.toNat_lt
    have ih : ∀ q : List UInt8, q = quoteC c → lex_Quote_l5 s s.size (n + 1 : Nat) (bI (acc ++ q)) = some ((strB (acc ++ (quoteL (c :: r) ++ [34])), ()), ()) := fun q hq => by
      have hl := quoteC_len c
      rw [lex_Quote_loop s hs r (n + 1) (acc ++ q) (dropS h) (by rw [List.length_append, hq]; omega) (by omega), hq, quoteL_cons]
      simp [List.append_assoc]
    rw [lex_Quote_l5_eq, if_pos (dT (by omega)), if_pos ⟨by omega, by omega⟩, bt_drop h, w32c, lex_plain_b, w64a n (by omega)]
    simp only [Option.bind_some]
    by_cases hp : plainB c = true
    · rw [if_pos hp, writeByte_b _ _ (by rw [bI_len]; omega)]
      simp only [Option.bind_some]
      rw [bI_snoc]
      exact ih [c] (by unfold quoteC; rw [if_pos hp])
    · rw [if_neg hp]
      have two : ∀ k : Nat, k ≤ 4 → (bI acc).length + k ≤ 1099511627776 := fun k hk => by rw [bI_len]; omega
      by_cases h34 : c = 34
      · subst h34
        rw [if_pos (by decide), writeByte_b _ _ (by have := two 0 (by omega); omega)]
        simp only [Option.bind_some]
        rw [writeByte_b _ _ (by rw [List.length_append]; have := two 1 (by omega); simp only [List.length_cons, List.length_nil]; omega)]
        simp only [Option.bind_some]
        have := ih [92, 34] rfl
        rw [← bI_app, show bI [92, 34] = [(92 : Int)] ++ [(34 : Int)] from rfl, ← List.append_assoc] at this
        exact this
      rw [if_neg (show ¬ ((c.toNat : Int) == 34) = true from byte_ne h34)]
      by_cases h92 : c = 92
      · subst h92
        rw [if_pos (by decide), writeByte_b _ _ (by have := two 0 (by omega); omega)]
        simp only [Option.bind_some]
        rw [writeByte_b _ _ (by rw [List.length_append]; have := two 1 (by omega); simp only [List.length_cons, List.length_nil]; omega)]
        simp only [Option.bind_some]
        have := ih [92, 92] rfl
        rw [← bI_app, show bI [92, 92] = [(92 : Int)] ++ [(92 : Int)] from rfl, ← List.append_assoc] at this
        exact this
      rw [if_neg (show ¬ ((c.toNat : Int) == 92) = true from byte_ne h92)]
      by_cases h10 : c = 10
      · subst h10
        rw [if_pos (by decide), writeString_b _ _ (two 2 (by omega))]
        simp only [Option.bind_some]
        have := ih [92, 110] rfl
        rw [← bI_app] at this
        exact this
      rw [if_neg (show ¬ ((c.toNat : Int) == 10) = true from byte_ne h10), writeString_b _ _ (two 2 (by omega))]
      simp only [Option.bind_some]
      obtain ⟨a1, a2, a3⟩ := dig_hi c.toNat hc
      obtain ⟨b1, b2, b3⟩ := dig_lo c.toNat hc
      have e2 : (bytesOfStr (strB [92, 120])) = [92, 120] := rfl
      rw [if_pos ⟨a1, a2⟩, e2, writeByte_b _ _ (by rw [List.length_append]; have := two 2 (by omega); simp only [List.length_cons, List.length_nil]; omega)]
      simp only [Option.bind_some]
      rw [if_pos ⟨b1, b2⟩, writeByte_b _ _ (by simp only [List.length_append, List.length_cons, List.length_nil]; have := two 3 (by omega); omega)]
      simp only [Option.bind_some]
      have := ih [92, 120, hexD (c.toNat / 16), hexD (c.toNat % 16)] (by unfold quoteC; rw [if_neg hp, if_neg (by simp [h34, h92]), if_neg h10])
      rw [← bI_app] at this
      have e3 : bI acc ++ [92, 120] ++ [bt digsB ((c.toNat : Int).fdiv 16)] ++ [bt digsB (IntKind.u8.wrap (BitVec.ofInt 8 (c.toNat : Int) &&& BitVec.ofInt 8 15).toNat)] = bI acc ++ bI [92, 120, hexD (c.toNat / 16), hexD (c.toNat % 16)] := by
        rw [a3, b3]
        simp [bI]
      rw [← e3] at this
      exact this

theorem lex_Quote_b (s : ByteArray) (hs : s.size ≤ 4294967296) : lex_Quote s = some ((strB (quoteV (L s)), ()), ()) := by
  unfold lex_Quote
  rw [writeByte_b _ _ (by simp)]
  simp only [Option.bind_some]
  exact lex_Quote_loop s hs (L s) 0 [34] rfl (by simp) (by omega)

theorem ref05_Quote_loop (s : ByteArray) (hs : s.size ≤ 4294967296) : ∀ (r : List UInt8) (n : Nat) (acc : List UInt8), (L s).drop n = r → acc.length ≤ 4 * n + 1 → n ≤ s.size → ref05_Quote_l5 s digsB n (bI acc) = some ((strB (acc ++ (quoteL r ++ [34])), ()), ())
  | [], n, acc, h, ha, hn => by
    have h1 := drop_nil h
    rw [L_len] at h1
    rw [ref05_Quote_l5_eq, if_neg (dF (by omega)), if_pos ⟨by rw [bI_len]; omega, by decide⟩, show bI acc ++ [34] = bI (acc ++ [34]) from bI_snoc acc 34, strOf_bI]
    rfl
  | c :: r, n, acc, h, ha, hn => by
    have h1 := drop_lt h
    rw [L_len] at h1
    have hc := c.toNat_lt
    have ih : ∀ q : List UInt8, q = quoteC c → ref05_Quote_l5 s digsB (n + 1 : Nat) (bI acc ++ bI q) = some ((strB (acc ++ (quoteL (c :: r) ++ [34])), ()), ()) := fun q hq => by
      have hl := quoteC_len c
      rw [bI_app, ref05_Quote_loop s hs r (n + 1) (acc ++ q) (dropS h) (by rw [List.length_append, hq]; omega) (by omega), hq, quoteL_cons]
      simp [List.append_assoc]
    have np : ∀ x : UInt8, x.toNat < 32 ∨ 126 < x.toNat ∨ x = 34 ∨ x = 92 → plainB x = false := by
      intro x hx
      unfold plainB
      rcases hx with q | q | q | q
      · rw [decide_eq_false (by omega)]; rfl
      · rw [decide_eq_false (show ¬ x.toNat ≤ 126 by omega)]; simp
      · subst q; decide
      · subst q; decide
    rw [ref05_Quote_l5_eq, if_pos (dT (by omega)), if_pos ⟨by omega, by omega⟩, bt_drop h, w64a n (by omega)]
    have two : ∀ k : Nat, k ≤ 4 → ((bI acc).length + k) * 1 ≤ 140737488355328 ∧ 0 < 1 := fun k hk => ⟨by rw [bI_len]; omega, by decide⟩
    by_cases h34 : c = 34
    · subst h34
      rw [if_pos (by decide), if_pos (two 2 (by omega))]
      exact ih [92, 34] rfl
    rw [if_neg (show ¬ ((c.toNat : Int) == 34) = true from byte_ne h34)]
    by_cases h92 : c = 92
    · subst h92
      rw [if_pos (by decide), if_pos (two 2 (by omega))]
      exact ih [92, 92] rfl
    rw [if_neg (show ¬ ((c.toNat : Int) == 92) = true from byte_ne h92)]
    by_cases h10 : c = 10
    · subst h10
      rw [if_pos (by decide), if_pos (two 2 (by omega))]
      exact ih [92, 110] rfl
    rw [if_neg (show ¬ ((c.toNat : Int) == 10) = true from byte_ne h10)]
    obtain ⟨a1, a2, a3⟩ := dig_hi2 c.toNat hc
    obtain ⟨b1, b2, b3⟩ := dig_lo2 c.toNat hc
    have hex : plainB c = false → ref05_Quote_l5 s digsB (n + 1 : Nat) (bI acc ++ [92, 120, bt digsB (IntKind.u8.wrap ((c.toNat : Int).tdiv 16)), bt digsB ((c.toNat : Int).tmod 16)]) = some ((strB (acc ++ (quoteL (c :: r) ++ [34])), ()), ()) := fun hp => by
      have := ih [92, 120, hexD (c.toNat / 16), hexD (c.toNat % 16)] (by unfold quoteC; rw [if_neg (by rw [hp]; simp), if_neg (by simp [h34, h92]), if_neg h10])
      rw [a3, b3]
      exact this
    by_cases h32 : (c.toNat : Int) < 32
    · rw [if_pos (dT h32), if_pos ⟨a1, a2⟩, if_pos ⟨b1, b2⟩, if_pos (two 4 (by omega))]
      exact hex (np c (.inl (by omega)))
    rw [if_neg (dF h32)]
    by_cases h126 : (c.toNat : Int) > 126
    · rw [if_pos (dT h126), if_pos ⟨a1, a2⟩, if_pos ⟨b1, b2⟩, if_pos (two 4 (by omega))]
      exact hex (np c (.inr (.inl (by omega))))
    rw [if_neg (dF h126), if_pos (two 1 (by omega))]
    refine ih [c] ?_
    unfold quoteC
    rw [if_pos]
    unfold plainB
    rw [decide_eq_true (show 32 ≤ c.toNat by omega), decide_eq_true (show c.toNat ≤ 126 by omega)]
    simp [h34, h92]

theorem ref05_Quote_b (s : ByteArray) (hs : s.size ≤ 4294967296) : ref05_Quote s = some ((strB (quoteV (L s)), ()), ()) := by
  unfold ref05_Quote
  exact ref05_Quote_loop s hs (L s) 0 [34] rfl (by simp) (by omega)

end Go.Proofs.YtjgjbdnjjepibaaGreatDoor
end

section
/-
YtjgjbdnjjepibaaGreatDoor: the text of tokens, as plain functions, comes to what the plain law says. No condition.
-/
set_option maxRecDepth 100000
set_option linter.unusedVariables false
open Go Go.AM
namespace Go.Proofs.YtjgjbdnjjepibaaGreatDoor

theorem strB_L (s : ByteArray) : strB (L s) = s := L_inj (L_strB _)
theorem strB_app (a b : List UInt8) : strB a ++ strB b = strB (a ++ b) := L_inj (by rw [L_app]; rfl)
theorem beq_dec (x y : Int) : (x == y) = decide (x = y) := by rw [Bool.eq_iff_iff]; simp
theorem bytesOf_strB (l : List UInt8) : bytesOfStr (strB l) = bI l := rfl

theorem itoa_b (n : Int) (h : -9223372036854775808 ≤ n ∧ n ≤ 9223372036854775807) : strconv_Itoa n = some ((strB (Lib.itoa n), ()), ()) := by
  unfold strconv_Itoa itoaG
  rw [if_pos h]
  rfl

theorem lex_form_b (t : TToken) (hs : t.2.1.size ≤ 1048576) (hv : -9223372036854775808 ≤ t.2.2.1 ∧ t.2.2.1 ≤ 9223372036854775807) : ∃ s, lex_form t = some ((s, formOk t, ()), ()) ∧ (formOk t = true → s = strB (formB t)) := by
  unfold lex_form formOk formB
  by_cases h1 : t.1 = 1
  · have e2 : ¬ t.1 = 2 := by omega
    have e3 : ¬ t.1 = 3 := by omega
    rw [if_pos (eT h1), if_pos h1, if_neg e2, if_neg e3, lex_Name_b, beq_dec]
    simp only [Option.bind_some]
    refine ⟨t.2.1, ?_, fun _ => (strB_L _).symm⟩
    cases nameB (L t.2.1) <;> simp
  rw [if_neg (eF h1), if_neg h1]
  by_cases h2 : t.1 = 2
  · rw [if_pos (eT h2), if_pos h2, if_pos h2, lex_Number_b _ (by omega), itoa_b _ hv]
    simp only [Option.bind_some, beq_dec]
    refine ⟨strB (Lib.itoa t.2.2.1), ?_, fun _ => rfl⟩
    by_cases he : (numV (L t.2.1)).2 = 0
    · rw [if_pos (by simpa using he)]; simp [he]
    · rw [if_neg (by simpa using he)]; simp [he]
  rw [if_neg (eF h2), if_neg h2, if_neg h2]
  by_cases h3 : t.1 = 3
  · rw [if_pos (eT h3), if_pos h3, if_pos h3, lex_Quote_b _ (by omega), beq_dec]
    simp only [Option.bind_some]
    exact ⟨_, rfl, fun _ => rfl⟩
  rw [if_neg (eF h3), if_neg h3, if_neg h3]
  by_cases h4 : t.1 = 4
  · rw [if_pos (eT h4), if_pos h4]
    refine ⟨t.2.1, ?_, fun _ => (strB_L _).symm⟩
    by_cases hz : (t.2.1.size : Int) = 1
    · rw [if_pos (eT hz), if_pos ⟨by omega, by omega⟩]
      have hl : (L t.2.1).length = 1 := by rw [L_len]; omega
      obtain ⟨c, hc⟩ : ∃ c, L t.2.1 = [c] := by
        match L t.2.1, hl with
        | [c], _ => exact ⟨c, rfl⟩
      rw [bt_at (i := 0) (c := c) (r := []) (by rw [hc]; rfl) 0 rfl, w32c, lex_mark_b, hc, beq_dec]
      simp only [Option.bind_some, markL]
      cases markB c <;> simp
    · rw [if_neg (eF hz)]
      have hm : markL (L t.2.1) = false := by
        have hl : (L t.2.1).length ≠ 1 := by rw [L_len]; omega
        match L t.2.1, hl with
        | [], _ => rfl
        | [c], hl => exact absurd rfl hl
        | _ :: _ :: _, _ => rfl
      rw [hm]
      simp
  rw [if_neg (eF h4), if_neg h4]
  exact ⟨strB [], rfl, fun h => by cases h⟩

theorem ref05_Right_b (t : TToken) (hs : t.2.1.size ≤ 1048576) : ref05_Right t = some ((formOk t, ()), ()) := by
  unfold ref05_Right formOk
  by_cases h2 : t.1 = 2
  · rw [if_pos (eT h2), if_neg (show ¬ t.1 = 1 by omega), if_pos h2, ref05_Number_b _ (by omega)]
    simp only [Option.bind_some, beq_dec]
    by_cases he : (numV (L t.2.1)).2 = 0
    · rw [if_pos (by simpa using he)]; simp [he]
    · rw [if_neg (by simpa using he)]; simp [he]
  rw [if_neg (eF h2), if_neg h2]
  by_cases hz : t.2.2.1 = 0
  · rw [if_neg (nF hz)]
    by_cases h1 : t.1 = 1
    · rw [if_pos (eT h1), if_pos h1, ref05_Name_b]
      simp [hz]
    rw [if_neg (eF h1), if_neg h1]
    by_cases h4 : t.1 = 4
    · rw [if_pos (eT h4), if_neg (show ¬ t.1 = 3 by omega), if_pos h4]
      by_cases hy : (t.2.1.size : Int) = 1
      · rw [if_pos (eT hy), if_pos ⟨by omega, by omega⟩]
        have hl : (L t.2.1).length = 1 := by rw [L_len]; omega
        obtain ⟨c, hc⟩ : ∃ c, L t.2.1 = [c] := by
          match L t.2.1, hl with
          | [c], _ => exact ⟨c, rfl⟩
        rw [bt_at (i := 0) (c := c) (r := []) (by rw [hc]; rfl) 0 rfl, ref05_Mark_b, hc]
        simp [hz, markL]
      · rw [if_neg (eF hy)]
        have hm : markL (L t.2.1) = false := by
          have hl : (L t.2.1).length ≠ 1 := by rw [L_len]; omega
          match L t.2.1, hl with
          | [], _ => rfl
          | [c], hl => exact absurd rfl hl
          | _ :: _ :: _, _ => rfl
        rw [hm]
        rfl
    · rw [if_neg (eF h4), if_neg h4, beq_dec]
      by_cases h3 : t.1 = 3
      · rw [if_pos h3, decide_eq_true h3, decide_eq_true hz]
      · rw [if_neg h3, decide_eq_false h3]
  · rw [if_pos (nT hz), decide_eq_false hz]
    simp

theorem digit_b : ∀ d : Nat, d < 10 → (strB [48, 49, 50, 51, 52, 53, 54, 55, 56, 57]).extract d (d + 1) = strB [UInt8.ofNat (48 + d)]
  | 0, _ => by kernel_rfl
  | 1, _ => by kernel_rfl
  | 2, _ => by kernel_rfl
  | 3, _ => by kernel_rfl
  | 4, _ => by kernel_rfl
  | 5, _ => by kernel_rfl
  | 6, _ => by kernel_rfl
  | 7, _ => by kernel_rfl
  | 8, _ => by kernel_rfl
  | 9, _ => by kernel_rfl
  | n + 10, h => by omega

theorem decimal_step (n : Int) (d : Nat) (hd : d < 10) (rest : Int) (o : List UInt8) (ho : o.length ≤ 1000) (hr : -9223372036854775808 ≤ rest.tdiv 10 ∧ rest.tdiv 10 ≤ 9223372036854775807) :
    ref05_Decimal_l12 n (strB [48, 49, 50, 51, 52, 53, 54, 55, 56, 57]) rest (strB o) d = ref05_Decimal_l8 n (strB [48, 49, 50, 51, 52, 53, 54, 55, 56, 57]) (rest.tdiv 10) (strB (UInt8.ofNat (48 + d) :: o)) := by
  rw [ref05_Decimal_l12_eq, w64a d (by omega)]
  have h10 : (((strB [48, 49, 50, 51, 52, 53, 54, 55, 56, 57]).size : Nat) : Int) = 10 := rfl
  rw [if_pos ⟨by omega, by omega, by rw [h10]; omega⟩, Int.toNat_natCast, Int.toNat_natCast, digit_b d hd, if_pos (by rw [strB_size, strB_size]; simp only [List.length_cons, List.length_nil]; omega), w64 hr.1 hr.2, strB_app]
  rfl

theorem decimal_loop (n : Int) (neg : Bool) : ∀ (k u : Nat) (o : List UInt8), u ≤ k → 0 < u → u ≤ 9007199254740992 → o.length + (Lib.decDigits u).length ≤ 500 →
    ref05_Decimal_l8 n (strB [48, 49, 50, 51, 52, 53, 54, 55, 56, 57]) (if neg = true then -(u : Int) else u) (strB o) = ref05_Decimal_l8 n (strB [48, 49, 50, 51, 52, 53, 54, 55, 56, 57]) 0 (strB (Lib.decDigits u ++ o)) := by
  intro k
  induction k with
  | zero => intro u o hk h0; omega
  | succ k ih =>
    intro u o hk h0 hu ho
    have key : ref05_Decimal_l8 n (strB [48, 49, 50, 51, 52, 53, 54, 55, 56, 57]) (if neg = true then -(u : Int) else u) (strB o) =
        ref05_Decimal_l8 n (strB [48, 49, 50, 51, 52, 53, 54, 55, 56, 57]) (if neg = true then -((u / 10 : Nat) : Int) else ((u / 10 : Nat) : Int)) (strB (UInt8.ofNat (48 + u % 10) :: o)) := by
      have hm : u % 10 < 10 := Nat.mod_lt _ (by omega)
      have hq : u / 10 ≤ u := Nat.div_le_self _ _
      have t1 : ((u : Nat) : Int).tmod 10 = ((u % 10 : Nat) : Int) := rfl
      have t2 : ((u : Nat) : Int).tdiv 10 = ((u / 10 : Nat) : Int) := rfl
      rw [ref05_Decimal_l8_eq]
      cases neg with
      | false =>
        rw [if_neg (show ¬ false = true by simp), if_neg (show ¬ false = true by simp), if_pos (nT (by omega)), t1, if_neg (dF (by omega)), decimal_step n (u % 10) hm u o (by omega) (by rw [t2]; omega), t2]
      | true =>
        rw [if_pos rfl, if_pos rfl, if_pos (nT (by omega)), Int.neg_tmod, t1]
        have hs := decimal_step n (u % 10) hm (-(u : Int)) o (by omega) (by rw [Int.neg_tdiv, t2]; omega)
        rw [Int.neg_tdiv, t2] at hs
        rw [show (0 : Int) - -((u % 10 : Nat) : Int) = ((u % 10 : Nat) : Int) by omega, w64 (x := ((u % 10 : Nat) : Int)) (by omega) (by omega)]
        by_cases hz : u % 10 = 0
        · rw [if_neg (dF (by omega)), show -((u % 10 : Nat) : Int) = ((u % 10 : Nat) : Int) by omega]
          exact hs
        · rw [if_pos (dT (by omega))]
          exact hs
    rw [key]
    by_cases h10 : u < 10
    · have e0 : u / 10 = 0 := by omega
      have em : u % 10 = u := by omega
      rw [e0, em, Lib.decDigits, dif_pos h10]
      cases neg <;> rfl
    · have e : Lib.decDigits u = Lib.decDigits (u / 10) ++ [UInt8.ofNat (48 + u % 10)] := by rw [Lib.decDigits, dif_neg h10]
      rw [e, List.length_append] at ho
      simp only [List.length_cons, List.length_nil] at ho
      rw [ih (u / 10) _ (by omega) (by omega) (by omega) (by simp only [List.length_cons]; omega), e]
      simp [List.append_assoc]

theorem decimal_b (v : Int) (h1 : -9007199254740992 ≤ v) (h2 : v ≤ 9007199254740992) : ref05_Decimal v = some ((strB (Lib.itoa v), ()), ()) := by
  unfold ref05_Decimal
  by_cases h0 : v = 0
  · subst h0
    rw [if_pos (by decide)]
    have : Lib.itoa 0 = [48] := by
      unfold Lib.itoa
      rw [if_neg (by decide), Lib.decDigits, dif_pos (by decide)]
      rfl
    rw [this]
  · rw [if_neg (eF h0)]
    by_cases hn : v < 0
    · have hl := decDigits_len 15 v.natAbs (by show _ < 10000000000000000; omega)
      have hd := decimal_loop v true v.natAbs v.natAbs [] (Nat.le_refl _) (by omega) (by omega) (by simp only [List.length_nil]; omega)
      rw [if_pos rfl, show -((v.natAbs : Nat) : Int) = v by omega, List.append_nil] at hd
      rw [hd, ref05_Decimal_l8_eq, if_neg (by decide), if_pos (dT hn), if_pos (by rw [strB_size, strB_size]; simp only [List.length_cons, List.length_nil]; omega), strB_app]
      unfold Lib.itoa
      rw [if_pos hn]
      rfl
    · have hl := decDigits_len 15 v.toNat (by show _ < 10000000000000000; omega)
      have hd := decimal_loop v false v.toNat v.toNat [] (Nat.le_refl _) (by omega) (by omega) (by simp only [List.length_nil]; omega)
      rw [if_neg (by simp), show ((v.toNat : Nat) : Int) = v by omega, List.append_nil] at hd
      rw [hd, ref05_Decimal_l8_eq, if_neg (by decide), if_neg (dF hn)]
      unfold Lib.itoa
      rw [if_neg hn]

theorem ref05_written_b (t : TToken) (hs : t.2.1.size ≤ 1048576) (h : formOk t = true) : ref05_written t = some ((strB (formB t), ()), ()) := by
  unfold ref05_written formB
  by_cases h2 : t.1 = 2
  · have hr : -9007199254740992 ≤ t.2.2.1 ∧ t.2.2.1 ≤ 9007199254740992 := by
      unfold formOk at h
      rw [if_neg (by omega), if_pos h2] at h
      simp only [Bool.and_eq_true, decide_eq_true_eq] at h
      rw [← h.2]
      exact numV_ok h.1
    rw [if_pos (eT h2), if_pos h2, decimal_b _ hr.1 hr.2]
    rfl
  rw [if_neg (eF h2), if_neg h2]
  by_cases h3 : t.1 = 3
  · rw [if_pos (eT h3), if_pos h3, ref05_Quote_b _ (by omega)]
    rfl
  · rw [if_neg (eF h3), if_neg h3, strB_L]

def okTok (t : TToken) : Prop := t.2.1.size ≤ 1048576 ∧ -9223372036854775808 ≤ t.2.2.1 ∧ t.2.2.1 ≤ 9223372036854775807

theorem len_b (l : List Int) : strings_Builder_Len l = some (((l.length : Int), ()), (((), (), ()), (), l, ())) := rfl

theorem lex_Text_loop (l : List TToken) (hl : l.length ≤ 1048576) (ho : ∀ t ∈ l, okTok t) : ∀ (r : List TToken) (n : Nat) (acc : List UInt8), l.drop n = r → acc.length + (r.map wt).sum ≤ 1073741824 →
    lex_Text_l4 l (l.length : Int) n (bI acc) = some (if r.all formOk = true then (if 1048576 < (acc ++ joinB (decide (n = 0)) r).length then (strB [], 6, ()) else (strB (acc ++ joinB (decide (n = 0)) r), 0, ())) else (strB [], 1, ()), ())
  | [], n, acc, h, ha => by
    have h1 := drop_nil h
    have hj : ∀ b, joinB b [] = [] := fun b => by cases b <;> rfl
    rw [lex_Text_l4_eq, if_neg (dF (by omega)), len_b, hj, List.append_nil]
    simp only [Option.bind_some, List.all_nil, if_true]
    by_cases hx : 1048576 < acc.length
    · rw [if_pos (dT (by rw [bI_len]; omega)), if_pos hx]
    · rw [if_neg (dF (by rw [bI_len]; omega)), if_neg hx, string_b]
      rfl
  | t :: r, n, acc, h, ha => by
    have h1 := drop_lt h
    have hg : l.getD (n : Int).toNat dToken = t := getD_drop h
    have ht := ho t (mem_drop h)
    obtain ⟨s, e1, e2⟩ := lex_form_b t ht.1 ht.2
    simp only [List.map_cons, List.sum_cons] at ha
    rw [lex_Text_l4_eq, if_pos (dT (by omega)), if_pos ⟨by omega, by omega⟩, hg, e1, w64a n (by omega)]
    simp only [Option.bind_some]
    by_cases hf : formOk t = true
    · have hs := e2 hf
      have hlen := formB_len hf
      subst hs
      refine (if_neg (by simp [hf])).trans ?_
      rw [show (t :: r).all formOk = r.all formOk by simp [hf]]
      have ih : ∀ p : List UInt8, p.length ≤ wt t → lex_Text_l4 l (l.length : Int) (n + 1 : Nat) (bI acc ++ bI p) = some (if r.all formOk = true then (if 1048576 < (acc ++ (p ++ joinB false r)).length then (strB [], 6, ()) else (strB (acc ++ (p ++ joinB false r)), 0, ())) else (strB [], 1, ()), ()) := fun p hp => by
        rw [bI_app, ← List.append_assoc]
        exact lex_Text_loop l hl ho r (n + 1) (acc ++ p) (dropS h) (by rw [List.length_append]; omega)
      by_cases hn : n = 0
      · subst hn
        rw [if_neg (dF (by omega)), writeString_b _ _ (by rw [bI_len, strB_size]; omega)]
        simp only [Option.bind_some]
        rw [bytesOf_strB]
        exact ih (formB t) (by omega)
      · rw [if_pos (dT (by omega)), writeByte_b _ _ (by rw [bI_len]; omega)]
        simp only [Option.bind_some]
        rw [writeString_b _ _ (by rw [List.length_append, bI_len, strB_size]; simp only [List.length_cons, List.length_nil]; omega)]
        simp only [Option.bind_some]
        rw [bytesOf_strB]
        have := ih (32 :: formB t) (by simp only [List.length_cons]; omega)
        rw [show bI (32 :: formB t) = [(32 : Int)] ++ bI (formB t) from rfl, ← List.append_assoc] at this
        rw [show joinB (decide (n = 0)) (t :: r) = 32 :: formB t ++ joinB false r by rw [decide_eq_false hn]; rfl]
        exact this
    · refine (if_pos (by simpa using hf)).trans ?_
      rw [show (t :: r).all formOk = false by simp [hf]]
      simp

theorem lex_Text_b (l : List TToken) (hl : l.length ≤ 1048576) (ho : ∀ t ∈ l, okTok t) (hw : (l.map wt).sum ≤ 1073741824) : lex_Text l = some ((strB (textV l).1, (textV l).2, ()), ()) := by
  unfold lex_Text textV
  refine (lex_Text_loop l hl ho l 0 [] rfl (by simpa using hw)).trans ?_
  simp only [List.nil_append, decide_true]
  split
  · split <;> rfl
  · rfl

theorem ref05_Text_l3_b (l : List TToken) (hl : l.length ≤ 1048576) (ho : ∀ t ∈ l, okTok t) : ∀ (r : List TToken) (n : Nat), l.drop n = r → ref05_Text_l3 l n = if r.all formOk = true then ref05_Text_l12 l 0 [] else some ((strB [], 1, ()), ())
  | [], n, h => by
    have h1 := drop_nil h
    rw [ref05_Text_l3_eq, if_neg (dF (by omega))]
    rfl
  | t :: r, n, h => by
    have h1 := drop_lt h
    have hg : l.getD (n : Int).toNat dToken = t := getD_drop h
    have ht := ho t (mem_drop h)
    rw [ref05_Text_l3_eq, if_pos (dT (by omega)), if_pos ⟨by omega, by omega⟩, hg, ref05_Right_b t ht.1, w64a n (by omega), ref05_Text_l3_b l hl ho r (n + 1) (dropS h)]
    simp only [Option.bind_some]
    by_cases hf : formOk t = true
    · rw [if_neg (by simp [hf]), show (t :: r).all formOk = r.all formOk by simp [hf]]
    · rw [if_pos (by simpa using hf), show (t :: r).all formOk = false by simp [hf]]
      rfl

theorem ref05_Text_l12_b (l : List TToken) (hl : l.length ≤ 1048576) (ho : ∀ t ∈ l, okTok t) : ∀ (r : List TToken) (n : Nat) (acc : List UInt8), l.drop n = r → r.all formOk = true → acc.length ≤ 1048576 →
    ref05_Text_l12 l n (bI acc) = some (if 1048576 < (acc ++ joinB (decide (n = 0)) r).length then (strB [], 6, ()) else (strB (acc ++ joinB (decide (n = 0)) r), 0, ()), ())
  | [], n, acc, h, hf, ha => by
    have h1 := drop_nil h
    have hj : ∀ b, joinB b [] = [] := fun b => by cases b <;> rfl
    rw [ref05_Text_l12_eq, if_neg (dF (by omega)), hj, List.append_nil, if_neg (by omega), strOf_bI]
  | t :: r, n, acc, h, hf, ha => by
    have h1 := drop_lt h
    have hg : l.getD (n : Int).toNat dToken = t := getD_drop h
    have ht := ho t (mem_drop h)
    simp only [List.all_cons, Bool.and_eq_true] at hf
    have hlen := formB_len hf.1
    have hwt : wt t ≤ 4194368 := by have := ht.1; unfold wt; omega
    have step : ∀ q : List UInt8, q.length ≤ 1048577 → ref05_Text_l16 l n (bI q) = some (if 1048576 < (q ++ (formB t ++ joinB false r)).length then (strB [], 6, ()) else (strB (q ++ (formB t ++ joinB false r)), 0, ()), ()) := by
      intro q hq
      rw [ref05_Text_l16_eq, if_pos ⟨by omega, by omega⟩, hg, ref05_written_b t ht.1 hf.1]
      simp only [Option.bind_some]
      rw [bytesOf_strB, bI_app, if_pos ⟨by rw [bI_len, bI_len]; omega, by decide⟩, w64a n (by omega)]
      by_cases hx : 1048576 < (q ++ formB t).length
      · rw [if_pos (dT (by rw [bI_len]; omega)), if_pos (by rw [← List.append_assoc, List.length_append]; omega)]
      · rw [if_neg (dF (by rw [bI_len]; omega)), ref05_Text_l12_b l hl ho r (n + 1) (q ++ formB t) (dropS h) hf.2 (by omega)]
        rw [show decide (n + 1 = 0) = false from rfl, List.append_assoc]
    rw [ref05_Text_l12_eq, if_pos (dT (by omega))]
    by_cases hn : n = 0
    · subst hn
      rw [if_neg (dF (by omega)), step acc (by omega)]
      rfl
    · rw [if_pos (dT (by omega)), if_pos ⟨by rw [bI_len]; omega, by decide⟩, show bI acc ++ [32] = bI (acc ++ [32]) from bI_snoc acc 32, step (acc ++ [32]) (by rw [List.length_append]; simp only [List.length_cons, List.length_nil]; omega)]
      simp [hn, joinB, List.append_assoc]

theorem ref05_Text_b (l : List TToken) (hl : l.length ≤ 1048576) (ho : ∀ t ∈ l, okTok t) : ref05_Text l = some ((strB (textV l).1, (textV l).2, ()), ()) := by
  unfold ref05_Text textV
  refine (ref05_Text_l3_b l hl ho l 0 rfl).trans ?_
  split
  · rename_i hf
    refine (ref05_Text_l12_b l hl ho l 0 [] rfl hf (by simp)).trans ?_
    simp only [List.nil_append, decide_true]
    split <;> rfl
  · rfl

/-! ### what is read is small -/
abbrev kTok : U := .cons (.int .i64) (.cons .str (.cons (.int .i64) (.int .i64)))

theorem toks_small (l : List TToken) (hb : bk (.sl kTok) l ≤ 1048576) : l.length ≤ 1048576 ∧ (l.map wt).sum ≤ 67108864 ∧ ∀ t ∈ l, t.2.1.size ≤ 1048576 := by
  have e1 : bk (.sl kTok) l = (l.map (bk kTok)).sum + 1 := rfl
  rw [e1] at hb
  have h1 := len_le_bk (e := kTok) (fun x => by simp only [bk]; omega) l
  refine ⟨by omega, ?_, fun t ht => ?_⟩
  · have key : ∀ m : List TToken, (m.map wt).sum ≤ 64 * (m.map (bk kTok)).sum := by
      intro m
      induction m with
      | nil => simp
      | cons t m ih =>
        have e2 : bk kTok t = 1 + ((t.2.1.size + 1) + (1 + 1)) := rfl
        simp only [List.map_cons, List.sum_cons]
        rw [e2]
        unfold wt at ih ⊢
        omega
    have := key l
    omega
  · have h2 := mem_le_bk (e := kTok) ht
    have e2 : bk kTok t = 1 + ((t.2.1.size + 1) + (1 + 1)) := rfl
    omega

theorem toks_ok (l : List TToken) (hw : Wf (.sl kTok) l) (hb : bk (.sl kTok) l ≤ 1048576) : ∀ t ∈ l, okTok t := by
  intro t ht
  have h1 := (toks_small l hb).2.2 t ht
  have h2 : Wf kTok t := hw.2 t ht
  have h3 : IntKind.i64.min ≤ t.2.2.1 ∧ t.2.2.1 ≤ IntKind.i64.max := h2.2.2.1
  exact ⟨h1, h3.1, h3.2⟩

end Go.Proofs.YtjgjbdnjjepibaaGreatDoor
end

section
/-
YtjgjbdnjjepibaaGreatDoor: which rule a symbol has, which state a name has. No condition.
-/
set_option maxRecDepth 100000
open Go Go.AM
namespace Go.Proofs.YtjgjbdnjjepibaaGreatDoor

theorem own_eq (r : TRule) (h : okRule r) : decl_own r = some ((r, ()), ()) := by
  unfold decl_own
  unfold okRule at h
  exact if_pos ⟨by omega, by omega⟩

theorem hit_iff {x : Int} {r : RuleT} : hitB x r = true ↔ r.1 ≤ x ∧ x ≤ r.2.1 := by
  unfold hitB; simp

theorem match_loop (x : Int) (s : TDeclState) (z : TRule) (hl : s.2.1.length ≤ 1048576) (ho : ∀ r ∈ s.2.1, okRule r) (he : okRule s.2.2.2) : ∀ (rs : List TRule) (k : Nat), s.2.1.drop k = rs →
    decl_Match_l7 x s.2.1 (s.2.1.length : Int) k z s = some (((ruleR s x rs).1, (ruleR s x rs).2, ()), ()) := by
  intro rs
  induction rs with
  | nil =>
    intro k hk
    have := drop_nil hk
    rw [decl_Match_l7_eq, if_neg (dF (by omega))]
    unfold ruleR
    by_cases h : s.2.2.1 = true
    · rw [if_pos h, own_eq _ he]
      simp [h]
    · rw [if_neg h]
      simp [h, noRule]
  | cons r rs ih =>
    intro k hk
    have h1 := drop_lt hk
    have ih' := ih (k + 1) (dropS hk)
    have hr : s.2.1.getD (k : Int).toNat dRule = r := getD_drop hk
    rw [decl_Match_l7_eq, if_pos (dT (by omega)), if_pos ⟨by omega, by omega⟩, hr, w64a k (by omega), ih']
    unfold ruleR
    rw [List.find?_cons]
    by_cases ha : r.1 ≤ x
    · rw [if_pos (dT ha)]
      by_cases hb : x ≤ r.2.1
      · rw [if_pos (dT hb), own_eq _ (ho r (mem_drop hk)), hit_iff.2 ⟨ha, hb⟩]
        rfl
      · rw [if_neg (dF hb), show hitB x r = false from Bool.eq_false_iff.2 fun q => hb (hit_iff.1 q).2]
    · rw [if_neg (dF ha), show hitB x r = false from Bool.eq_false_iff.2 fun q => ha (hit_iff.1 q).1]

theorem match_eq (d : TDecl) (i x : Int) (h : okDecl d) : decl_Match d i x = some (((matchV d.2.2.2 i x).1, (matchV d.2.2.2 i x).2, ()), ()) := by
  unfold decl_Match matchV
  by_cases h0 : i < 0
  · rw [if_pos (dT h0), if_pos h0]; rfl
  · rw [if_neg (dF h0), if_neg h0]
    by_cases h1 : i < (d.2.2.2.length : Int)
    · have h2 : i.toNat < d.2.2.2.length := by omega
      obtain ⟨a, b, c⟩ := h.2 _ (List.getElem_mem h2)
      rw [if_neg (dF (by omega)), if_pos ⟨by omega, h1⟩, getD_in _ h2, List.getElem?_eq_getElem h2]
      exact match_loop x _ _ a b c _ 0 rfl
    · rw [if_pos (dT (by omega)), List.getElem?_eq_none (by omega)]; rfl

theorem find_go (b : ByteArray) (ss : List TDeclState) (F : Int → Option ((Int × Unit) × Unit)) (hF : ∀ (k : Nat) (s : TDeclState) (r : List TDeclState), ss.drop k = s :: r → F k = if L s.1 = L b then some (((k : Int), ()), ()) else F ((k + 1 : Nat) : Int))
    (hE : F ss.length = some ((-1, ()), ())) : F 0 = some ((optI (findN ss b), ()), ()) := by
  have key : ∀ (rs : List TDeclState) (k : Nat), ss.drop k = rs → k ≤ ss.length → F k = some ((optI ((rs.findIdx? fun s => L s.1 == L b).map (· + k)), ()), ()) := by
    intro rs
    induction rs with
    | nil =>
      intro k hk hkl
      have h1 := drop_nil hk
      have : k = ss.length := by omega
      subst this
      rw [hE]; rfl
    | cons s rs ih =>
      intro k hk _
      have h1 := drop_lt hk
      rw [hF k s rs hk, List.findIdx?_cons]
      by_cases h : L s.1 = L b
      · rw [if_pos h, beq_iff_eq.2 h]; simp [optI]
      · rw [if_neg h, ih (k + 1) (dropS hk) (by omega), show (L s.1 == L b) = false from beq_eq_false_iff_ne.2 h]
        simp only [Option.map_map, Bool.false_eq_true, if_false]
        congr 4
        cases rs.findIdx? (fun s => L s.1 == L b) with
        | none => rfl
        | some i => simp; omega
  have := key ss 0 (by simp) (by omega)
  simpa [findN] using this

theorem find_eq (d : TDecl) (b : ByteArray) (h : d.2.2.2.length ≤ 1048576) : decl_Find d b = some ((optI (findN d.2.2.2 b), ()), ()) := by
  unfold decl_Find
  refine find_go b d.2.2.2 (fun k => decl_Find_l3 b d.2.2.2 (d.2.2.2.length : Int) k) (fun k s r hk => ?_) ?_
  · have h1 := drop_lt hk
    have hr : d.2.2.2.getD (k : Int).toNat dDeclState = s := getD_drop hk
    show decl_Find_l3 b d.2.2.2 (d.2.2.2.length : Int) k = _
    rw [decl_Find_l3_eq, if_pos (dT (by omega)), if_pos ⟨by omega, by omega⟩, hr, w64a k (by omega), toL, toL]
    by_cases q : L s.1 = L b
    · rw [if_pos q, if_pos (beq_iff_eq.2 q)]
    · rw [if_neg q, if_neg (fun z => q (beq_iff_eq.1 z))]
  · show decl_Find_l3 b d.2.2.2 (d.2.2.2.length : Int) (d.2.2.2.length : Int) = _
    rw [decl_Find_l3_eq, if_neg (dF (by omega))]

theorem rfind_eq (d : TDecl) (b : ByteArray) (h : d.2.2.2.length ≤ 1048576) : ref34_Find d b = some ((optI (findN d.2.2.2 b), ()), ()) := by
  unfold ref34_Find
  refine find_go b d.2.2.2 (fun k => ref34_Find_l3 b k d) (fun k s r hk => ?_) ?_
  · have h1 := drop_lt hk
    have hr : d.2.2.2.getD (k : Int).toNat dDeclState = s := getD_drop hk
    show ref34_Find_l3 b k d = _
    rw [ref34_Find_l3_eq, if_pos (dT (by omega)), if_pos ⟨by omega, by omega⟩, hr, w64a k (by omega), toL, toL]
    by_cases q : L s.1 = L b
    · rw [if_pos q, if_pos (beq_iff_eq.2 q)]
    · rw [if_neg q, if_neg (fun z => q (beq_iff_eq.1 z))]
  · show ref34_Find_l3 b (d.2.2.2.length : Int) d = _
    rw [ref34_Find_l3_eq, if_neg (dF (by omega))]

end Go.Proofs.YtjgjbdnjjepibaaGreatDoor
end

section
/-
YtjgjbdnjjepibaaGreatDoor: the error of a badly formed declaration. No condition.
-/
set_option maxRecDepth 100000
open Go Go.AM
namespace Go.Proofs.YtjgjbdnjjepibaaGreatDoor

theorem act_eq (a : TAct) : decl_act a = some ((actV a, ()), ()) := by
  obtain ⟨p, q⟩ := a
  unfold decl_act actV
  simp only [decl_act_l3_eq, decl_act_l7_eq]
  by_cases h1 : p = 1
  · subst h1
    by_cases hq : q = 0
    · simp [hq]
    · simp [hq]
  by_cases h2 : p = 2
  · subst h2
    by_cases hq : q = 0
    · simp [hq]
    · simp [hq]
  by_cases h3 : p = 3 ∨ p = 4 ∨ p = 5
  · have : (if q < 0 then some (((2 : Int), ()), ()) else if q > 255 then some ((2, ()), ()) else some ((0, ()), ())) = some ((if 0 ≤ q ∧ q ≤ 255 then (0 : Int) else 2, ()), ()) := by
      by_cases a1 : q < 0
      · rw [if_pos a1, if_neg (by omega)]
      · rw [if_neg a1]
        by_cases a2 : q > 255
        · rw [if_pos a2, if_neg (by omega)]
        · rw [if_neg a2, if_pos (by omega)]
    rcases h3 with rfl | rfl | rfl <;> simpa using this
  by_cases h6 : p = 6
  · subst h6
    have : (if q < 1 then some (((2 : Int), ()), ()) else if q > 12 then some ((2, ()), ()) else some ((0, ()), ())) = some ((if 1 ≤ q ∧ q ≤ 12 then (0 : Int) else 2, ()), ()) := by
      by_cases a1 : q < 1
      · rw [if_pos a1, if_neg (by omega)]
      · rw [if_neg a1]
        by_cases a2 : q > 12
        · rw [if_pos a2, if_neg (by omega)]
        · rw [if_neg a2, if_pos (by omega)]
    simpa using this
  · have e3 : p ≠ 3 := fun e => h3 (.inl e)
    have e4 : p ≠ 4 := fun e => h3 (.inr (.inl e))
    have e5 : p ≠ 5 := fun e => h3 (.inr (.inr e))
    simp [h1, h2, e3, e4, e5, h6]

theorem wact_eq (a : TAct) : ref34_wrongAct a = some ((actV a, ()), ()) := by
  obtain ⟨p, q⟩ := a
  unfold ref34_wrongAct actV
  simp only [decide_eq_true_eq, bne_iff_ne, ne_eq, beq_iff_eq]
  by_cases l1 : p < 1
  · rw [if_pos l1, if_neg (by omega), if_neg (by omega), if_neg (by omega)]
  rw [if_neg l1]
  by_cases l2 : p > 6
  · rw [if_pos l2, if_neg (by omega), if_neg (by omega), if_neg (by omega)]
  rw [if_neg l2]
  by_cases l3 : p ≤ 2
  · rw [if_pos l3, if_pos (show p = 1 ∨ p = 2 by omega)]
    by_cases hq : q = 0
    · rw [if_neg (by simpa using hq), if_neg (by omega), if_neg (by omega), if_pos hq]
    · rw [if_pos hq, if_neg hq]
  · rw [if_neg l3, if_neg (show ¬ (p = 1 ∨ p = 2) by omega), if_pos (show p ≥ 3 by omega)]
    by_cases l5 : p ≤ 5
    · rw [if_pos l5, if_pos (show p = 3 ∨ p = 4 ∨ p = 5 by omega), if_neg (show ¬ p = 6 by omega)]
      by_cases a1 : q < 0
      · rw [if_pos a1, if_neg (by omega)]
      · rw [if_neg a1]
        by_cases a2 : q > 255
        · rw [if_pos a2, if_neg (by omega)]
        · rw [if_neg a2, if_pos (by omega)]
    · rw [if_neg l5, if_neg (show ¬ (p = 3 ∨ p = 4 ∨ p = 5) by omega), if_pos (show p = 6 by omega), if_pos (show p = 6 by omega)]
      by_cases a1 : q < 1
      · rw [if_pos a1, if_neg (by omega)]
      · rw [if_neg a1]
        by_cases a2 : q > 12
        · rw [if_pos a2, if_neg (by omega)]
        · rw [if_neg a2, if_pos (by omega)]

theorem errL_cons (e : Int) (r : List Int) : errL (e :: r) = if e = 0 then errL r else e := rfl

theorem acts_loop (l : List TAct) (hl : l.length ≤ 1048576) : ∀ (r : List TAct) (k : Nat), l.drop k = r → decl_target_l9 l (l.length : Int) k = some ((errL (r.map actV), ()), ())
  | [], k, h => by
    have := drop_nil h
    rw [decl_target_l9_eq, if_neg (dF (by omega))]
    rfl
  | a :: r, k, h => by
    have h1 := drop_lt h
    have hr : l.getD (k : Int).toNat dAct = a := getD_drop h
    rw [decl_target_l9_eq, if_pos (dT (by omega)), if_pos ⟨by omega, by omega⟩, hr, act_eq, w64a k (by omega), acts_loop l hl r (k + 1) (dropS h)]
    simp only [Option.bind_some, List.map_cons, errL_cons]
    by_cases q : actV a = 0
    · rw [if_neg (nF q), if_pos q]
    · rw [if_pos (nT q), if_neg q]

theorem wacts_loop (z : TRule) (hl : z.2.2.2.2.length ≤ 1048576) : ∀ (r : List TAct) (k : Nat), z.2.2.2.2.drop k = r → ref34_wrongTarget_l9 k z = some ((errL (r.map actV), ()), ())
  | [], k, h => by
    have := drop_nil h
    rw [ref34_wrongTarget_l9_eq, if_neg (dF (by omega))]
    rfl
  | a :: r, k, h => by
    have h1 := drop_lt h
    have hr : z.2.2.2.2.getD (k : Int).toNat dAct = a := getD_drop h
    rw [ref34_wrongTarget_l9_eq, if_pos (dT (by omega)), if_pos ⟨by omega, by omega⟩, hr, wact_eq, w64a k (by omega), wacts_loop z hl r (k + 1) (dropS h)]
    simp only [Option.bind_some, List.map_cons, errL_cons]
    by_cases q : actV a = 0
    · rw [if_neg (nF q), if_pos q]
    · rw [if_pos (nT q), if_neg q]

theorem target_eq (d : TDecl) (r : TRule) (h : d.2.2.2.length ≤ 1048576) (hr : okRule r) : decl_target d r = some ((targetV d.2.2.2 r, ()), ()) := by
  unfold decl_target targetV
  rw [find_eq d _ h]
  simp only [Option.bind_some]
  cases findN d.2.2.2 r.2.2.1 with
  | none => exact if_pos (dT (by simp [optI]))
  | some j =>
    refine (if_neg (dF (by simp [optI]))).trans ?_
    simp only
    by_cases q : 8 < r.2.2.2.2.length
    · rw [if_pos (dT (by omega)), if_pos q]
    · rw [if_neg (dF (by omega)), if_neg q]
      exact acts_loop _ hr _ 0 rfl

theorem wtarget_eq (d : TDecl) (r : TRule) (h : d.2.2.2.length ≤ 1048576) (hr : okRule r) : ref34_wrongTarget d r = some ((targetV d.2.2.2 r, ()), ()) := by
  unfold ref34_wrongTarget targetV
  rw [rfind_eq d _ h]
  simp only [Option.bind_some]
  cases findN d.2.2.2 r.2.2.1 with
  | none => exact if_pos (dT (by simp [optI]))
  | some j =>
    refine (if_neg (dF (by simp [optI]))).trans ?_
    simp only
    by_cases q : 8 < r.2.2.2.2.length
    · rw [if_pos (dT (by omega)), if_pos q]
    · rw [if_neg (dF (by omega)), if_neg q]
      exact wacts_loop _ hr _ 0 rfl

theorem empty_iff (b : ByteArray) : (b.toList == (strB []).toList) = true ↔ L b = [] := by
  rw [toL, toL, L_strB, beq_iff_eq]

theorem most_eq (d : TDecl) : decl_most d = some (((topV d : Int), ()), ()) := by
  unfold decl_most topV
  by_cases h : d.2.1 = 2
  · rw [if_pos (eT h), if_pos h]; rfl
  · rw [if_neg (eF h), if_neg h]; rfl

/-- The Else of a state without one. -/
theorem noelse_eq (s : TDeclState) : (if (!(s.2.2.2.2.2.1.toList == (strB []).toList)) = true then some (((1 : Int), ()), ()) else if s.2.2.2.2.2.2.1 = true then some ((1, ()), ()) else if (decide ((s.2.2.2.2.2.2.2.length : Int) > 0)) = true then some ((1, ()), ()) else some ((0, ()), ())) =
    some ((if L s.2.2.2.2.2.1 = [] ∧ s.2.2.2.2.2.2.1 = false ∧ s.2.2.2.2.2.2.2.length = 0 then (0 : Int) else 1, ()), ()) := by
  by_cases h1 : L s.2.2.2.2.2.1 = []
  · rw [if_neg (by rw [(empty_iff _).2 h1]; simp)]
    by_cases h2 : s.2.2.2.2.2.2.1 = true
    · rw [if_pos h2, if_neg (by rw [h2]; simp)]
    · rw [if_neg h2]
      by_cases h3 : s.2.2.2.2.2.2.2.length = 0
      · rw [if_neg (dF (by omega)), if_pos ⟨h1, by simpa using h2, h3⟩]
      · rw [if_pos (dT (by omega)), if_neg (fun q => h3 q.2.2)]
  · rw [if_pos (by rw [show (s.2.2.2.2.2.1.toList == (strB []).toList) = false from Bool.eq_false_iff.2 fun q => h1 ((empty_iff _).1 q)]; rfl), if_neg (fun q => h1 q.1)]

theorem rules_loopE (d : TDecl) (h : d.2.2.2.length ≤ 1048576) (s : TDeclState) (hs : okState s) : ∀ (rs : List TRule) (k : Nat), s.2.1.drop k = rs →
    decl_rules_l3 s.2.1 (s.2.1.length : Int) k d s = some ((if errL (rs.map (ruleE d.2.2.2 (topV d))) = 0 then elseE d.2.2.2 s else errL (rs.map (ruleE d.2.2.2 (topV d))), ()), ()) := by
  obtain ⟨hl, hr, he⟩ := hs
  intro rs
  induction rs with
  | nil =>
    intro k hk
    have := drop_nil hk
    rw [decl_rules_l3_eq, if_neg (dF (by omega)), target_eq d _ h he]
    simp only [Option.bind_some, noelse_eq, List.map_nil, errL, if_true]
    unfold elseE
    by_cases h3 : s.2.2.1 = true
    · rw [if_pos h3]
      by_cases h1 : s.2.2.2.1 = 0
      · by_cases h2 : s.2.2.2.2.1 = 0
        · rw [if_neg (nF h1), if_neg (nF h2), if_pos (show s.2.2.2.1 = 0 ∧ s.2.2.2.2.1 = 0 from ⟨h1, h2⟩), if_pos h3]
        · rw [if_neg (nF h1), if_pos (nT h2), if_neg (show ¬ (s.2.2.2.1 = 0 ∧ s.2.2.2.2.1 = 0) from fun q => h2 q.2)]
      · rw [if_pos (nT h1), if_neg (show ¬ (s.2.2.2.1 = 0 ∧ s.2.2.2.2.1 = 0) from fun q => h1 q.1)]
    · rw [if_neg h3]
      by_cases h1 : s.2.2.2.1 = 0
      · by_cases h2 : s.2.2.2.2.1 = 0
        · rw [if_neg (nF h1), if_neg (nF h2), if_pos (show s.2.2.2.1 = 0 ∧ s.2.2.2.2.1 = 0 from ⟨h1, h2⟩), if_neg h3]
        · rw [if_neg (nF h1), if_pos (nT h2), if_neg (show ¬ (s.2.2.2.1 = 0 ∧ s.2.2.2.2.1 = 0) from fun q => h2 q.2)]
      · rw [if_pos (nT h1), if_neg (show ¬ (s.2.2.2.1 = 0 ∧ s.2.2.2.2.1 = 0) from fun q => h1 q.1)]
  | cons r rs ih =>
    intro k hk
    have h1 := drop_lt hk
    have hg : s.2.1.getD (k : Int).toNat dRule = r := getD_drop hk
    rw [decl_rules_l3_eq, if_pos (dT (by omega)), if_pos ⟨by omega, by omega⟩, hg, most_eq, target_eq d _ h (hr r (mem_drop hk)), w64a k (by omega), ih (k + 1) (dropS hk)]
    simp only [Option.bind_some, List.map_cons, errL_cons]
    unfold ruleE
    by_cases a1 : r.1 < 0
    · rw [if_pos (dT a1), if_neg (show ¬ (0 ≤ r.1 ∧ r.1 ≤ r.2.1 ∧ r.2.1 ≤ (topV d : Int)) by omega), if_neg (by omega)]
      simp
    · rw [if_neg (dF a1)]
      by_cases a2 : r.1 > r.2.1
      · rw [if_pos (dT a2), if_neg (show ¬ (0 ≤ r.1 ∧ r.1 ≤ r.2.1 ∧ r.2.1 ≤ (topV d : Int)) by omega), if_neg (by omega)]
        simp
      · rw [if_neg (dF a2)]
        by_cases a3 : r.2.1 > (topV d : Int)
        · rw [if_pos (dT a3), if_neg (show ¬ (0 ≤ r.1 ∧ r.1 ≤ r.2.1 ∧ r.2.1 ≤ (topV d : Int)) by omega), if_neg (by omega)]
          simp
        · rw [if_neg (dF a3), if_pos (show 0 ≤ r.1 ∧ r.1 ≤ r.2.1 ∧ r.2.1 ≤ (topV d : Int) by omega)]
          by_cases q : targetV d.2.2.2 r = 0
          · rw [if_neg (nF q), if_pos q]
          · rw [if_pos (nT q), if_neg q, if_neg q]

theorem wstate_loop (d : TDecl) (h : d.2.2.2.length ≤ 1048576) (s : TDeclState) (hs : okState s) (top : Int) : ∀ (rs : List TRule) (k : Nat), s.2.1.drop k = rs →
    ref34_wrongState_l16 top k d s = some ((if errL (rs.map (ruleE d.2.2.2 top)) = 0 then elseE d.2.2.2 s else errL (rs.map (ruleE d.2.2.2 top)), ()), ()) := by
  obtain ⟨hl, hr, he⟩ := hs
  intro rs
  induction rs with
  | nil =>
    intro k hk
    have := drop_nil hk
    rw [ref34_wrongState_l16_eq, if_neg (dF (by omega))]
    unfold ref34_wrongElse
    rw [wtarget_eq d _ h he]
    simp only [Option.bind_some, noelse_eq, List.map_nil, errL, if_true]
    unfold elseE
    by_cases h3 : s.2.2.1 = true
    · rw [if_neg (show ¬ (!s.2.2.1) = true by rw [h3]; simp)]
      by_cases h1 : s.2.2.2.1 = 0
      · by_cases h2 : s.2.2.2.2.1 = 0
        · rw [if_neg (nF h1), if_neg (nF h2), if_pos (show s.2.2.2.1 = 0 ∧ s.2.2.2.2.1 = 0 from ⟨h1, h2⟩), if_pos h3]; rfl
        · rw [if_neg (nF h1), if_pos (nT h2), if_neg (show ¬ (s.2.2.2.1 = 0 ∧ s.2.2.2.2.1 = 0) from fun q => h2 q.2)]; rfl
      · rw [if_pos (nT h1), if_neg (show ¬ (s.2.2.2.1 = 0 ∧ s.2.2.2.2.1 = 0) from fun q => h1 q.1)]; rfl
    · rw [if_pos (show (!s.2.2.1) = true by simpa using h3)]
      by_cases h1 : s.2.2.2.1 = 0
      · by_cases h2 : s.2.2.2.2.1 = 0
        · rw [if_neg (nF h1), if_neg (nF h2), if_pos (show s.2.2.2.1 = 0 ∧ s.2.2.2.2.1 = 0 from ⟨h1, h2⟩), if_neg h3]; rfl
        · rw [if_neg (nF h1), if_pos (nT h2), if_neg (show ¬ (s.2.2.2.1 = 0 ∧ s.2.2.2.2.1 = 0) from fun q => h2 q.2)]; rfl
      · rw [if_pos (nT h1), if_neg (show ¬ (s.2.2.2.1 = 0 ∧ s.2.2.2.2.1 = 0) from fun q => h1 q.1)]; rfl
  | cons r rs ih =>
    intro k hk
    have h1 := drop_lt hk
    have hg : s.2.1.getD (k : Int).toNat dRule = r := getD_drop hk
    rw [ref34_wrongState_l16_eq, if_pos (dT (by omega)), if_pos ⟨by omega, by omega⟩, hg, wtarget_eq d _ h (hr r (mem_drop hk)), w64a k (by omega), ih (k + 1) (dropS hk)]
    simp only [Option.bind_some, List.map_cons, errL_cons]
    unfold ruleE
    by_cases a1 : r.1 < 0
    · rw [if_pos (dT a1), if_neg (show ¬ (0 ≤ r.1 ∧ r.1 ≤ r.2.1 ∧ r.2.1 ≤ top) by omega), if_neg (by omega)]
      simp
    · rw [if_neg (dF a1)]
      by_cases a2 : r.1 > r.2.1
      · rw [if_pos (dT a2), if_neg (show ¬ (0 ≤ r.1 ∧ r.1 ≤ r.2.1 ∧ r.2.1 ≤ top) by omega), if_neg (by omega)]
        simp
      · rw [if_neg (dF a2)]
        by_cases a3 : r.2.1 > top
        · rw [if_pos (dT a3), if_neg (show ¬ (0 ≤ r.1 ∧ r.1 ≤ r.2.1 ∧ r.2.1 ≤ top) by omega), if_neg (by omega)]
          simp
        · rw [if_neg (dF a3), if_pos (show 0 ≤ r.1 ∧ r.1 ≤ r.2.1 ∧ r.2.1 ≤ top by omega)]
          by_cases q : targetV d.2.2.2 r = 0
          · rw [if_neg (nF q), if_pos q]
          · rw [if_pos (nT q), if_neg q, if_neg q]

theorem states_loop (d : TDecl) (h : okDecl d) : ∀ (rs : List TDeclState) (k : Nat), d.2.2.2.drop k = rs → decl_Check_l12 d.2.2.2 (d.2.2.2.length : Int) k d = some ((statesE d.2.2.2 (topV d) k rs, ()), ()) := by
  have hd := h.1
  intro rs
  induction rs with
  | nil =>
    intro k hk
    have := drop_nil hk
    rw [decl_Check_l12_eq, if_neg (dF (by omega))]
    rfl
  | cons s rs ih =>
    intro k hk
    have h1 := drop_lt hk
    have hg : d.2.2.2.getD (k : Int).toNat dDeclState = s := getD_drop hk
    have hs := h.2 s (mem_drop hk)
    have hru : decl_rules d s = some ((if errL (s.2.1.map (ruleE d.2.2.2 (topV d))) = 0 then elseE d.2.2.2 s else errL (s.2.1.map (ruleE d.2.2.2 (topV d))), ()), ()) := rules_loopE d hd s hs _ 0 rfl
    rw [decl_Check_l12_eq, if_pos (dT (by omega)), if_pos ⟨by omega, by omega⟩, hg, show decl_name s.1 = some ((nameB (L s.1), ()), ()) from rfl, find_eq d _ hd, w64a k (by omega), ih (k + 1) (dropS hk), hru]
    simp only [Option.bind_some, statesE]
    have hE : stateE d.2.2.2 (topV d) k s = if nameB (L s.1) = true then if optI (findN d.2.2.2 s.1) < k then 9 else if 64 < s.2.1.length then 6 else (if errL (s.2.1.map (ruleE d.2.2.2 (topV d))) = 0 then elseE d.2.2.2 s else errL (s.2.1.map (ruleE d.2.2.2 (topV d)))) else 4 := rfl
    generalize (if errL (s.2.1.map (ruleE d.2.2.2 (topV d))) = 0 then elseE d.2.2.2 s else errL (s.2.1.map (ruleE d.2.2.2 (topV d)))) = E at hE ⊢
    rw [hE]
    by_cases q1 : nameB (L s.1) = true
    · rw [if_neg (by rw [q1]; simp), if_pos q1]
      by_cases q2 : optI (findN d.2.2.2 s.1) < (k : Int)
      · rw [if_pos (dT q2), if_pos q2]; rfl
      · rw [if_neg (dF q2), if_neg q2]
        by_cases q3 : 64 < s.2.1.length
        · rw [if_pos (dT (by omega)), if_pos q3]; rfl
        · rw [if_neg (dF (by omega)), if_neg q3]
          by_cases q4 : E = 0
          · rw [if_neg (nF q4), if_pos q4]
          · rw [if_pos (nT q4), if_neg q4]
    · rw [if_pos (by simpa using q1), if_neg q1]; rfl

theorem wstates_loop (d : TDecl) (h : okDecl d) : ∀ (rs : List TDeclState) (k : Nat), d.2.2.2.drop k = rs → ref34_Check_l12 k d = some ((statesE d.2.2.2 (topV d) k rs, ()), ()) := by
  have hd := h.1
  intro rs
  induction rs with
  | nil =>
    intro k hk
    have := drop_nil hk
    rw [ref34_Check_l12_eq, if_neg (dF (by omega))]
    rfl
  | cons s rs ih =>
    intro k hk
    have h1 := drop_lt hk
    have hg : d.2.2.2.getD (k : Int).toNat dDeclState = s := getD_drop hk
    have hs := h.2 s (mem_drop hk)
    have hw : ref34_wrongState d k = some ((stateE d.2.2.2 (topV d) k s, ()), ()) := by
      unfold ref34_wrongState
      rw [if_pos ⟨by omega, by omega⟩, hg, ref05_Name_b, rfind_eq d _ hd]
      simp only [Option.bind_some]
      unfold stateE
      by_cases q1 : nameB (L s.1) = true
      · rw [if_neg (by rw [q1]; simp), if_pos q1]
        by_cases q2 : optI (findN d.2.2.2 s.1) < (k : Int)
        · rw [if_pos (dT q2), if_pos q2]
        · rw [if_neg (dF q2), if_neg q2]
          by_cases q3 : 64 < s.2.1.length
          · rw [if_pos (dT (by omega)), if_pos q3]
          · rw [if_neg (dF (by omega)), if_neg q3, ref34_wrongState_l12_eq, ref34_wrongState_l12_eq]
            unfold topV
            by_cases q4 : d.2.1 = 2
            · rw [if_pos (eT q4), if_pos q4]
              exact wstate_loop d hd s hs 1 _ 0 rfl
            · rw [if_neg (eF q4), if_neg q4]
              exact wstate_loop d hd s hs 255 _ 0 rfl
      · rw [if_pos (by simpa using q1), if_neg q1]
    rw [ref34_Check_l12_eq, if_pos (dT (by omega)), hw, w64a k (by omega), ih (k + 1) (dropS hk)]
    simp only [Option.bind_some, statesE]
    by_cases q4 : stateE d.2.2.2 (topV d) k s = 0
    · rw [if_neg (nF q4), if_pos q4]
    · rw [if_pos (nT q4), if_neg q4]

theorem dcheck_eq (d : TDecl) (h : okDecl d) : decl_Check d = some ((checkV d, ()), ()) := by
  unfold decl_Check checkV
  rw [show decl_name d.1 = some ((nameB (L d.1), ()), ()) from rfl]
  simp only [Option.bind_some, decl_Check_l4_eq]
  have hl := states_loop d h _ 0 rfl
  have hl' : decl_Check_l12 d.2.2.2 (d.2.2.2.length : Int) 0 d = some ((statesE d.2.2.2 (topV d) 0 d.2.2.2, ()), ()) := hl
  rw [hl']
  by_cases q1 : nameB (L d.1) = true
  · rw [if_neg (by rw [q1]; simp), if_pos q1]
    have fin : (if ((d.2.2.2.length : Int) == 0) = true then some (((1 : Int), ()), ()) else if (decide ((d.2.2.2.length : Int) > 32)) = true then some ((6, ()), ()) else some ((statesE d.2.2.2 (topV d) 0 d.2.2.2, ()), ())) =
        some ((if d.2.2.2.length ≠ 0 then if 32 < d.2.2.2.length then (6 : Int) else statesE d.2.2.2 (topV d) 0 d.2.2.2 else 1, ()), ()) := by
      by_cases a : d.2.2.2.length = 0
      · rw [if_pos (eT (by omega)), if_neg (by omega)]
      · rw [if_neg (eF (by omega)), if_pos a]
        by_cases b : 32 < d.2.2.2.length
        · rw [if_pos (dT (by omega)), if_pos b]
        · rw [if_neg (dF (by omega)), if_neg b]
    rw [fin]
    by_cases a2 : d.2.1 = 2 <;> by_cases a3 : d.2.1 = 3 <;> by_cases a5 : d.2.2.1 = 5 <;> by_cases a6 : d.2.2.1 = 6 <;> first | omega | (simp [a2, a3, a5, a6]; done) | (by_cases a7 : d.2.2.2.length = 0 <;> simp [a2, a3, a5, a6, a7])
  · rw [if_pos (by simpa using q1), if_neg q1]

theorem wcheck_eq (d : TDecl) (h : okDecl d) : ref34_Check d = some ((checkV d, ()), ()) := by
  unfold ref34_Check checkV
  rw [ref05_Name_b]
  simp only [Option.bind_some]
  have hl := wstates_loop d h _ 0 rfl
  have hl' : ref34_Check_l12 0 d = some ((statesE d.2.2.2 (topV d) 0 d.2.2.2, ()), ()) := hl
  rw [hl']
  by_cases q1 : nameB (L d.1) = true
  · rw [if_neg (by rw [q1]; simp), if_pos q1]
    have fin : (if ((d.2.2.2.length : Int) == 0) = true then some (((1 : Int), ()), ()) else if (decide ((d.2.2.2.length : Int) > 32)) = true then some ((6, ()), ()) else some ((statesE d.2.2.2 (topV d) 0 d.2.2.2, ()), ())) =
        some ((if d.2.2.2.length ≠ 0 then if 32 < d.2.2.2.length then (6 : Int) else statesE d.2.2.2 (topV d) 0 d.2.2.2 else 1, ()), ()) := by
      by_cases a : d.2.2.2.length = 0
      · rw [if_pos (eT (by omega)), if_neg (by omega)]
      · rw [if_neg (eF (by omega)), if_pos a]
        by_cases b : 32 < d.2.2.2.length
        · rw [if_pos (dT (by omega)), if_pos b]
        · rw [if_neg (dF (by omega)), if_neg b]
    rw [fin]
    by_cases a2 : d.2.1 = 2 <;> by_cases a3 : d.2.1 = 3 <;> by_cases a5 : d.2.2.1 = 5 <;> by_cases a6 : d.2.2.1 = 6 <;> first | omega | (simp [a2, a3, a5, a6]; done) | (by_cases a7 : d.2.2.2.length = 0 <;> simp [a2, a3, a5, a6, a7])
  · rw [if_pos (by simpa using q1), if_neg q1]

end Go.Proofs.YtjgjbdnjjepibaaGreatDoor
end

section
/-
YtjgjbdnjjepibaaGreatDoor: decl.Print, as plain functions, comes to the text of the tokens. No condition.
-/
set_option maxRecDepth 100000
set_option linter.unusedVariables false
open Go Go.AM
namespace Go.Proofs.YtjgjbdnjjepibaaGreatDoor

theorem word_b (n : Int) (h : 0 ≤ n ∧ n < 7) : decl_word n = some ((opW n, ()), ()) := by
  unfold decl_word wordG
  rw [if_pos h]
  rfl

theorem words_loop (l : List ByteArray) (hl : l.length ≤ 1000) : ∀ (r : List ByteArray) (n : Nat) (acc : List TToken), l.drop n = r → acc.length + r.length ≤ 2000000 → decl_writer_words_l1 l (l.length : Int) n acc = some ((), (((), ()), (), acc ++ r.map wTok, ()))
  | [], n, acc, h, ha => by
    have h1 := drop_nil h
    rw [decl_writer_words_l1_eq, if_neg (dF (by omega)), List.map_nil, List.append_nil]
  | b :: r, n, acc, h, ha => by
    have h1 := drop_lt h
    have hg : l.getD (n : Int).toNat (strB []) = b := getD_drop h
    simp only [List.length_cons] at ha
    rw [decl_writer_words_l1_eq, if_pos (dT (by omega)), if_pos ⟨by omega, by omega⟩, if_pos ⟨by omega, by decide⟩, hg, w64a n (by omega),
      words_loop l hl r (n + 1) _ (dropS h) (by rw [List.length_append]; simp only [List.length_cons, List.length_nil]; omega), List.map_cons, List.append_assoc]
    rfl

theorem words_eq (l : List ByteArray) (acc : List TToken) (hl : l.length ≤ 1000) (ha : acc.length ≤ 1000000) : decl_writer_words l acc = some ((), (((), ()), (), acc ++ l.map wTok, ())) :=
  words_loop l hl l 0 acc rfl (by omega)

theorem marks_loop (s : ByteArray) (hl : s.size ≤ 1000) : ∀ (r : List UInt8) (n : Nat) (acc : List TToken), (L s).drop n = r → acc.length + r.length ≤ 2000000 → decl_writer_marks_l1 s (s.size : Int) n acc = some ((), (((), ()), (), acc ++ r.map mTok, ()))
  | [], n, acc, h, ha => by
    have h1 := drop_nil h
    rw [L_len] at h1
    rw [decl_writer_marks_l1_eq, if_neg (dF (by omega)), List.map_nil, List.append_nil]
  | c :: r, n, acc, h, ha => by
    have h1 := drop_lt h
    rw [L_len] at h1
    simp only [List.length_cons] at ha
    have he : s.extract n (n + 1) = strB [c] := by
      refine L_inj ?_
      rw [L_ext, L_strB, List.drop_take, h, show n + 1 - n = 1 by omega]
      rfl
    rw [decl_writer_marks_l1_eq, if_pos (dT (by omega)), w64a n (by omega), if_pos ⟨by omega, by omega, by omega⟩, if_pos ⟨by omega, by decide⟩, Int.toNat_natCast, Int.toNat_natCast, he,
      marks_loop s hl r (n + 1) _ (dropS h) (by rw [List.length_append]; simp only [List.length_cons, List.length_nil]; omega), List.map_cons, List.append_assoc]
    rfl

theorem marks_eq (l : List UInt8) (acc : List TToken) (hl : l.length ≤ 1000) (ha : acc.length ≤ 1000000) : decl_writer_marks (strB l) acc = some ((), (((), ()), (), acc ++ l.map mTok, ())) := by
  unfold decl_writer_marks
  exact marks_loop (strB l) (by rw [strB_size]; exact hl) l 0 acc (by rw [L_strB]; rfl) (by omega)

theorem number_eq (n : Int) (acc : List TToken) (h : 0 ≤ n ∧ n ≤ 255) (ha : acc.length ≤ 1000000) : decl_writer_number n acc = some ((), (((), ()), (), acc ++ [nTok n], ())) := by
  unfold decl_writer_number
  rw [itoa_b n (by omega)]
  simp only [Option.bind_some]
  rw [if_pos ⟨by omega, by decide⟩]
  rfl

theorem tacts_loop (l : List TAct) (hl : l.length ≤ 8) (ho : ∀ a ∈ l, OkAct a) : ∀ (r : List TAct) (n : Nat) (acc : List TToken), l.drop n = r → acc.length + 3 * r.length ≤ 900000 →
    decl_writer_target_l7 l (l.length : Int) n acc = some ((), (((), ()), (), acc ++ (actsT n r ++ [mTok 59]), ()))
  | [], n, acc, h, ha => by
    have h1 := drop_nil h
    rw [decl_writer_target_l7_eq, if_neg (dF (by omega)), marks_eq [59] acc (by decide) (by omega)]
    rfl
  | a :: r, n, acc, h, ha => by
    have h1 := drop_lt h
    have hg : l.getD (n : Int).toNat dAct = a := getD_drop h
    have hoa := ho a (mem_drop h)
    simp only [List.length_cons] at ha
    have rest : ∀ c : UInt8, decl_writer_target_l12 l (l.length : Int) n a (acc ++ [mTok c]) = some ((), (((), ()), (), acc ++ (mTok c :: wTok (opW a.1) :: (if a.1 > 2 then [nTok a.2] else [])) ++ (actsT (n + 1) r ++ [mTok 59]), ())) := fun c => by
      rw [decl_writer_target_l12_eq, word_b a.1 (by have := hoa.1; have := hoa.2.1; omega)]
      simp only [Option.bind_some]
      rw [words_eq [opW a.1] _ (by simp) (by rw [List.length_append]; simp only [List.length_cons, List.length_nil]; omega)]
      simp only [Option.bind_some]
      rw [w64a n (by omega)]
      by_cases h2 : a.1 > 2
      · rw [if_pos (dT h2), number_eq a.2 _ ⟨hoa.2.2.1, hoa.2.2.2.1⟩ (by simp only [List.length_append, List.length_map, List.length_cons, List.length_nil]; omega)]
        simp only [Option.bind_some]
        rw [tacts_loop l hl ho r (n + 1) _ (dropS h) (by simp only [List.length_append, List.length_map, List.length_cons, List.length_nil]; omega), if_pos h2]
        simp [List.append_assoc]
      · rw [if_neg (dF h2), tacts_loop l hl ho r (n + 1) _ (dropS h) (by simp only [List.length_append, List.length_map, List.length_cons, List.length_nil]; omega), if_neg h2]
        simp [List.append_assoc]
    rw [decl_writer_target_l7_eq, if_pos (dT (by omega)), if_pos ⟨by omega, by omega⟩, hg]
    by_cases hn : n = 0
    · subst hn
      rw [if_pos (by decide), marks_eq [58] acc (by decide) (by omega)]
      simp only [Option.bind_some]
      refine (rest 58).trans ?_
      simp [actsT, actT, List.append_assoc]
    · rw [if_neg (eF (by omega)), marks_eq [44] acc (by decide) (by omega)]
      simp only [Option.bind_some]
      refine (rest 44).trans ?_
      simp [actsT, actT, List.append_assoc, hn]

theorem target_w (r : TRule) (acc : List TToken) (h : OkTarget r) (ha : acc.length ≤ 800000) : decl_writer_target r acc = some ((), (((), ()), (), acc ++ targetT r, ())) := by
  unfold decl_writer_target
  rw [marks_eq [62] acc (by decide) (by omega)]
  simp only [Option.bind_some]
  rw [words_eq [r.2.2.1] _ (by simp) (by simp only [List.length_append, List.length_map, List.length_cons, List.length_nil]; omega)]
  simp only [Option.bind_some]
  have hf := h.few
  have key : ∀ q : List TToken, q.length ≤ 800010 → decl_writer_target_l3 r q = some ((), (((), ()), (), q ++ (actsT 0 r.2.2.2.2 ++ [mTok 59]), ())) := fun q hq => by
    rw [decl_writer_target_l3_eq]
    exact tacts_loop r.2.2.2.2 hf h.acts r.2.2.2.2 0 q rfl (by omega)
  by_cases hag : r.2.2.2.1 = true
  · rw [if_pos hag, words_eq [strB [97, 103, 97, 105, 110]] _ (by simp) (by simp only [List.length_append, List.length_map, List.length_cons, List.length_nil]; omega)]
    simp only [Option.bind_some]
    rw [key _ (by simp only [List.length_append, List.length_map, List.length_cons, List.length_nil]; omega)]
    unfold targetT
    rw [if_pos hag]
    simp [List.append_assoc, sAgain]
  · rw [if_neg hag, key _ (by simp only [List.length_append, List.length_map, List.length_cons, List.length_nil]; omega)]
    unfold targetT
    rw [if_neg hag]
    simp [List.append_assoc]

theorem Print_rules (ss : List TDeclState) (k : Nat) (s : TDeclState) (hk : k + 1 ≤ 1048576) (hs : OkState s) : ∀ (r : List TRule) (n : Nat) (acc : List TToken), s.2.1.drop n = r → acc.length + 32 * r.length ≤ 700000 →
    decl_Print_l24 ss (ss.length : Int) k s.2.1 (s.2.1.length : Int) n s acc = decl_Print_l15 ss (ss.length : Int) ((k + 1 : Nat) : Int) (acc ++ (rulesT r ++ (elseT s ++ [mTok 125])))
  | [], n, acc, h, ha => by
    have h1 := drop_nil h
    rw [decl_Print_l24_eq, if_neg (dF (by omega)), w64a k (by omega), rulesT, List.nil_append]
    by_cases he : s.2.2.1 = true
    · rw [if_pos he, marks_eq [42] acc (by decide) (by simp only [List.length_nil] at ha; omega)]
      simp only [Option.bind_some]
      rw [target_w s.2.2.2 _ (hs.some he) (by simp only [List.length_append, List.length_map, List.length_cons, List.length_nil] at ha ⊢; omega)]
      simp only [Option.bind_some]
      have := (jl_target (hs.some he)).2
      rw [marks_eq [125] _ (by decide) (by simp only [List.length_append, List.length_map, List.length_cons, List.length_nil] at ha ⊢; omega)]
      simp only [Option.bind_some]
      unfold elseT
      rw [if_pos he]
      simp [List.append_assoc]
    · rw [if_neg he, marks_eq [125] acc (by decide) (by simp only [List.length_nil] at ha; omega)]
      simp only [Option.bind_some]
      unfold elseT
      rw [if_neg he]
      rfl
  | r :: rs, n, acc, h, ha => by
    have h1 := drop_lt h
    have hg : s.2.1.getD (n : Int).toNat dRule = r := getD_drop h
    have hr := hs.rules r (mem_drop h)
    have hf := hs.few
    simp only [List.length_cons] at ha
    have hlen := (jl_rule hr.1 hr.2).2
    have ih : ∀ q : List TToken, q = acc ++ ruleT r → decl_Print_l24 ss (ss.length : Int) k s.2.1 (s.2.1.length : Int) ((n + 1 : Nat) : Int) s q = decl_Print_l15 ss (ss.length : Int) ((k + 1 : Nat) : Int) (acc ++ (rulesT (r :: rs) ++ (elseT s ++ [mTok 125]))) := fun q hq => by
      subst hq
      rw [Print_rules ss k s hk hs rs (n + 1) _ (dropS h) (by rw [List.length_append]; omega), rulesT]
      simp [List.append_assoc]
    rw [decl_Print_l24_eq, if_pos (dT (by omega)), if_pos ⟨by omega, by omega⟩, hg, number_eq r.1 acc ⟨hr.1.lo, Int.le_trans hr.1.le hr.1.hi⟩ (by omega), w64a n (by omega)]
    simp only [Option.bind_some]
    by_cases he : r.2.1 = r.1
    · rw [if_neg (nF he), target_w r _ hr.2 (by simp only [List.length_append, List.length_cons, List.length_nil]; omega)]
      simp only [Option.bind_some]
      refine ih _ ?_
      unfold ruleT
      rw [if_pos he]
      simp [List.append_assoc]
    · rw [if_pos (nT he), marks_eq [46, 46] _ (by decide) (by simp only [List.length_append, List.length_cons, List.length_nil]; omega)]
      simp only [Option.bind_some]
      rw [number_eq r.2.1 _ ⟨Int.le_trans hr.1.lo hr.1.le, hr.1.hi⟩ (by simp only [List.length_append, List.length_map, List.length_cons, List.length_nil]; omega)]
      simp only [Option.bind_some]
      rw [target_w r _ hr.2 (by simp only [List.length_append, List.length_map, List.length_cons, List.length_nil]; omega)]
      simp only [Option.bind_some]
      refine ih _ ?_
      unfold ruleT
      rw [if_neg he]
      simp [List.append_assoc]

theorem okTok_good {t : TToken} (h : goodT t) : okTok t := ⟨by have := h.2.1; omega, by have := h.2.2.1; omega, by have := h.2.2.2; omega⟩

theorem Print_states (ss : List TDeclState) (hl : ss.length ≤ 32) (ho : ∀ s ∈ ss, OkState s) : ∀ (r : List TDeclState) (n : Nat) (acc : List TToken), ss.drop n = r → acc.length + 2090 * r.length ≤ 70000 → (∀ t ∈ acc, goodT t) →
    decl_Print_l15 ss (ss.length : Int) n acc = some ((strB (textV (acc ++ (statesT r ++ [mTok 125]))).1, (textV (acc ++ (statesT r ++ [mTok 125]))).2, ()), ())
  | [], n, acc, h, ha, hg => by
    have h1 := drop_nil h
    have hg' : ∀ t ∈ acc ++ [mTok 125], goodT t := fun t ht => by
      rcases List.mem_append.1 ht with q | q
      · exact hg t q
      · simp only [List.mem_singleton] at q
        subst q
        exact good_m (by decide)
    rw [decl_Print_l15_eq, if_neg (dF (by omega)), marks_eq [125] acc (by decide) (by simp only [List.length_nil] at ha; omega)]
    simp only [Option.bind_some, List.map_cons, List.map_nil]
    have hlen : (acc ++ [mTok 125]).length ≤ 70001 := by simp only [List.length_append, List.length_cons, List.length_nil] at ha ⊢; omega
    rw [lex_Text_b _ (by omega) (fun t ht => okTok_good (hg' t ht)) (by have := wt_sum _ hg'; omega)]
    rfl
  | s :: r, n, acc, h, ha, hg => by
    have h1 := drop_lt h
    have hgd : ss.getD (n : Int).toNat dDeclState = s := getD_drop h
    have hs := ho s (mem_drop h)
    simp only [List.length_cons] at ha
    have hlen := (jl_state hs).2
    rw [decl_Print_l15_eq, if_pos (dT (by omega)), if_pos ⟨by omega, by omega⟩, hgd, words_eq [strB [115, 116, 97, 116, 101], s.1] acc (by simp) (by omega)]
    simp only [Option.bind_some]
    rw [marks_eq [123] _ (by decide) (by simp only [List.length_append, List.length_map, List.length_cons, List.length_nil]; omega)]
    simp only [Option.bind_some]
    have hf := hs.few
    have hrl := (jl_rules s.2.1 hs.rules).2
    refine (Print_rules ss n s (by omega) hs s.2.1 0 _ rfl (by simp only [List.length_append, List.length_map, List.length_cons, List.length_nil]; omega)).trans ?_
    have e : acc ++ [strB [115, 116, 97, 116, 101], s.1].map wTok ++ [(123 : UInt8)].map mTok ++ (rulesT s.2.1 ++ (elseT s ++ [mTok 125])) = acc ++ stateT s := by
      unfold stateT
      simp [List.append_assoc, sState]
    rw [e, Print_states ss hl ho r (n + 1) _ (dropS h) (by rw [List.length_append]; omega) (fun t ht => by
      rcases List.mem_append.1 ht with q | q
      · exact hg t q
      · exact good_state hs t q), statesT]
    simp [List.append_assoc]

theorem print_b (d : TDecl) (h : okDecl d) : decl_Print d = some ((strB (printV d).1, (printV d).2, ()), ()) := by
  unfold decl_Print
  rw [dcheck_eq d h]
  simp only [Option.bind_some]
  by_cases hc : checkV d = 0
  · rw [if_neg (nF hc)]
    have ho := ok_decl hc
    have hf := ho.few
    have e : printV d = textV (declT d) := by unfold printV; rw [if_pos hc]
    have key : ∀ (i o : ByteArray), i = (if d.2.1 = 2 then sBit else sByte) → o = (if d.2.2.1 = 5 then sFrame else sPacket) → decl_Print_l8 i o d = some ((strB (printV d).1, (printV d).2, ()), ()) := fun i o hi ho' => by
      rw [decl_Print_l8_eq, words_eq _ [] (by simp) (by simp)]
      simp only [Option.bind_some]
      rw [marks_eq [123] _ (by decide) (by simp)]
      simp only [Option.bind_some]
      have eh : ([] ++ [strB [100, 101, 99, 111, 100, 101, 114], d.1, strB [105, 110, 112, 117, 116], i, strB [111, 117, 116, 112, 117, 116], o].map wTok) ++ [(123 : UInt8)].map mTok = headT d := by
        unfold headT
        rw [hi, ho']
        rfl
      rw [eh]
      refine (Print_states d.2.2.2 hf ho.states d.2.2.2 0 (headT d) rfl ?_ ?_).trans ?_
      · show 7 + _ ≤ _
        omega
      · intro t ht
        exact good_decl ho t (by unfold declT; exact List.mem_append_left _ ht)
      · rw [e]; rfl
    have key6 : ∀ i, i = (if d.2.1 = 2 then sBit else sByte) → decl_Print_l6 i (strB [112, 97, 99, 107, 101, 116]) d = some ((strB (printV d).1, (printV d).2, ()), ()) := fun i hi => by
      rw [decl_Print_l6_eq]
      by_cases h5 : d.2.2.1 = 5
      · rw [if_pos (eT h5), key i _ hi (by rw [if_pos h5]; rfl)]
      · rw [if_neg (eF h5), key i _ hi (by rw [if_neg h5]; rfl)]
    by_cases h2 : d.2.1 = 2
    · rw [if_pos (eT h2), key6 _ (by rw [if_pos h2]; rfl)]
    · rw [if_neg (eF h2), key6 _ (by rw [if_neg h2]; rfl)]
  · rw [if_pos (nT hc), print_no hc]

end Go.Proofs.YtjgjbdnjjepibaaGreatDoor
end
