/-
The plain functions of the program that the law TrigParses reaches, that the program computes them, and what they come to. No condition.
-/
import Derived.Test.YtgpgpelaabdkhaaGreatDoorChecked
import Derived.Test.YtgpgpelaabdkhaaGreatDoorAm1
import Derived.Test.YtgpgpelaabdkhaaGreatDoorAm2
import Derived.Test.YtgpgpelaabdkhaaGreatDoorAm3
import Derived.Test.YtgpgpelaabdkhaaGreatDoorTrigParsesC1
set_option linter.unusedVariables false
set_option linter.unusedSimpArgs false
set_option linter.unusedSectionVars false

section
/-
YtgpgpelaabdkhaaGreatDoor: signalbench.lex.words, as one plain function, its equations, its contract. No condition.
-/
set_option maxRecDepth 100000
set_option linter.unusedVariables false
set_option maxHeartbeats 4000000
open Go Go.AM
namespace Go.Proofs.YtgpgpelaabdkhaaGreatDoor
noncomputable section
def lex_words_F3 : FSh := ⟨[(0, .one .str), (3, .one (.int .i64))], []⟩
def lex_words_D : FD := ⟨T, lookC [(65, fc65)], [], (Tryz.f81.body.getD .skip), Tryz.f81.results.toList, ⟨[.one .str], []⟩, ⟨[.one (.int .i64)], []⟩, [(3, lex_words_F3)]⟩
def lex_words_l3 (s : ByteArray) (n : Int) : (Option ((Int × Unit) × Unit)) := lex_words_D.lab 3 lex_words_F3 ((s, n, ()), ())
theorem lex_words_l3_eq (s : ByteArray) (n : Int) : lex_words_l3 s n =
  if (decide (n < (s.size : Int))) = true then
    if 0 ≤ n ∧ n < (s.size : Int) then
      (lex_word (IntKind.i32.wrap (bt s n))).bind fun y1 =>
        if y1.1.1 = true then
          lex_words_l3 s (IntKind.i64.wrap (n + 1))
        else
          some ((n, ()), ())
    else
      none
  else
    some ((n, ()), ()) := (FD.lab_eq _ _ _ _).trans (by kernel_rfl)
def lex_words (s : ByteArray) : (Option ((Int × Unit) × Unit)) :=
  lex_words_l3 s 0
def fc81 : FC := ⟨⟨[.one .str], []⟩, ⟨[.one (.int .i64)], []⟩, fun x => lex_words x.1.1⟩
theorem con81 : Contract Tryz.prog 81 fc81 :=
  lex_words_D.contract tok (cok_of (l := [(65, fc65)]) ⟨con65, trivial⟩) mixed (fn' := Tryz.f81) (by kernel_rfl) (by kernel_rfl) rfl (by kernel_rfl) (fun x => (FD.fn_eq _ _).trans (by kernel_rfl))
end
end Go.Proofs.YtgpgpelaabdkhaaGreatDoor
end

section
/-
YtgpgpelaabdkhaaGreatDoor: signalbench.lex.quoted, as one plain function, its equations, its contract. No condition.
-/
set_option maxRecDepth 100000
set_option linter.unusedVariables false
set_option maxHeartbeats 4000000
open Go Go.AM
namespace Go.Proofs.YtgpgpelaabdkhaaGreatDoor
noncomputable section
def lex_quoted_F3 : FSh := ⟨[(0, .one .str), (3, .one (.int .i64))], []⟩
def lex_quoted_D : FD := ⟨T, lookC [], [], (Tryz.f83.body.getD .skip), Tryz.f83.results.toList, ⟨[.one .str], []⟩, ⟨[.one (.int .i64)], []⟩, [(3, lex_quoted_F3)]⟩
def lex_quoted_l3 (s : ByteArray) (i : Int) : (Option ((Int × Unit) × Unit)) := lex_quoted_D.lab 3 lex_quoted_F3 ((s, i, ()), ())
theorem lex_quoted_l3_eq (s : ByteArray) (i : Int) : lex_quoted_l3 s i =
  if (decide (i < (s.size : Int))) = true then
    if 0 ≤ i ∧ i < (s.size : Int) then
      if ((bt s i) == 34) = true then
        some ((IntKind.i64.wrap (i + 1), ()), ())
      else
        if ((bt s i) == 92) = true then
          lex_quoted_l3 s (IntKind.i64.wrap ((IntKind.i64.wrap (i + 1)) + 1))
        else
          lex_quoted_l3 s (IntKind.i64.wrap (i + 1))
    else
      none
  else
    some ((0, ()), ()) := (FD.lab_eq _ _ _ _).trans (by kernel_rfl)
def lex_quoted (s : ByteArray) : (Option ((Int × Unit) × Unit)) :=
  lex_quoted_l3 s 1
def fc83 : FC := ⟨⟨[.one .str], []⟩, ⟨[.one (.int .i64)], []⟩, fun x => lex_quoted x.1.1⟩
theorem con83 : Contract Tryz.prog 83 fc83 :=
  lex_quoted_D.contract tok (cok_of (l := []) trivial) mixed (fn' := Tryz.f83) (by kernel_rfl) (by kernel_rfl) rfl (by kernel_rfl) (fun x => (FD.fn_eq _ _).trans (by kernel_rfl))
end
end Go.Proofs.YtgpgpelaabdkhaaGreatDoor
end

section
/-
YtgpgpelaabdkhaaGreatDoor: signalbench.lex.Unquote, as one plain function, its equations, its contract. No condition.
-/
set_option maxRecDepth 100000
set_option linter.unusedVariables false
set_option maxHeartbeats 4000000
open Go Go.AM
namespace Go.Proofs.YtgpgpelaabdkhaaGreatDoor
noncomputable section
def lex_Unquote_F7 : FSh := ⟨[(0, .one .str), (4, .one (.own 0))], [.arr 5 (.int .u8) true]⟩
def lex_Unquote_F14 : FSh := ⟨[(0, .one .str), (4, .one (.own 0)), (5, .one (.int .u8)), (6, .one (.int .i64))], [.arr 5 (.int .u8) true]⟩
def lex_Unquote_D : FD := ⟨T, lookC [(93, fc93), (100, fc100)], [14], (Tryz.f84.body.getD .skip), Tryz.f84.results.toList, ⟨[.one .str], []⟩, ⟨[.one .str, .one (.int .i64)], []⟩, [(7, lex_Unquote_F7), (14, lex_Unquote_F14)]⟩
def lex_Unquote_l7 (s : ByteArray) (l0 : (List Int)) : (Option ((ByteArray × Int × Unit) × Unit)) := lex_Unquote_D.lab 7 lex_Unquote_F7 ((s, (), ()), (l0, ()))
def lex_Unquote_l14 (s : ByteArray) (c : Int) (n : Int) (l0 : (List Int)) : (Option ((ByteArray × Int × Unit) × Unit)) := lex_Unquote_D.lab 14 lex_Unquote_F14 ((s, (), c, n, ()), (l0, ()))
theorem lex_Unquote_l7_eq (s : ByteArray) (l0 : (List Int)) : lex_Unquote_l7 s l0 =
  if (!(s.toList == (strB []).toList)) = true then
    if 0 ≤ (0 : Int) ∧ 0 < (s.size : Int) then
      (lex_plain (IntKind.i32.wrap (bt s 0))).bind fun y1 =>
        if y1.1.1 = true then
          if 0 ≤ (0 : Int) ∧ 0 < (s.size : Int) then
            if (l0.length + 1) * 1 ≤ 140737488355328 ∧ 0 < 1 then
              if 0 ≤ (1 : Int) ∧ 1 ≤ (s.size : Int) then
                lex_Unquote_l7 (s.extract 1 s.size) (l0 ++ [bt s 0])
              else
                none
            else
              none
          else
            none
        else
          if 0 ≤ (0 : Int) ∧ 0 < (s.size : Int) then
            if ((bt s 0) == 92) = true then
              (lex_escape s).bind fun y2 =>
                lex_Unquote_l14 s y2.1.1 y2.1.2.1 l0
            else
              lex_Unquote_l14 s 0 0 l0
          else
            none
    else
      none
  else
    some ((strOfBytes l0, 0, ()), ()) := (FD.lab_eq _ _ _ _).trans (by kernel_rfl)
theorem lex_Unquote_l14_eq (s : ByteArray) (c : Int) (n : Int) (l0 : (List Int)) : lex_Unquote_l14 s c n l0 =
  if (n == 0) = true then
    some (((strB []), 4, ()), ())
  else
    if (l0.length + 1) * 1 ≤ 140737488355328 ∧ 0 < 1 then
      if 0 ≤ n ∧ n ≤ (s.size : Int) then
        lex_Unquote_l7 (s.extract n.toNat s.size) (l0 ++ [c])
      else
        none
    else
      none := (FD.lab_eq _ _ _ _).trans (by kernel_rfl)
def lex_Unquote (s : ByteArray) : (Option ((ByteArray × Int × Unit) × Unit)) :=
  if (decide ((s.size : Int) < 2)) = true then
    some (((strB []), 4, ()), ())
  else
    if 0 ≤ (0 : Int) ∧ 0 < (s.size : Int) then
      if ((bt s 0) != 34) = true then
        some (((strB []), 4, ()), ())
      else
        if 0 ≤ IntKind.i64.wrap ((s.size : Int) - 1) ∧ IntKind.i64.wrap ((s.size : Int) - 1) < (s.size : Int) then
          if ((bt s (IntKind.i64.wrap ((s.size : Int) - 1))) != 34) = true then
            some (((strB []), 4, ()), ())
          else
            if 0 ≤ (1 : Int) ∧ (1 : Int) ≤ IntKind.i64.wrap ((s.size : Int) - 1) ∧ IntKind.i64.wrap ((s.size : Int) - 1) ≤ (s.size : Int) then
              lex_Unquote_l7 (s.extract 1 (IntKind.i64.wrap ((s.size : Int) - 1)).toNat) []
            else
              none
        else
          none
    else
      none
def fc84 : FC := ⟨⟨[.one .str], []⟩, ⟨[.one .str, .one (.int .i64)], []⟩, fun x => lex_Unquote x.1.1⟩
theorem con84 : Contract Tryz.prog 84 fc84 :=
  lex_Unquote_D.contract tok (cok_of (l := [(93, fc93), (100, fc100)]) ⟨con93, con100, trivial⟩) mixed (fn' := Tryz.f84) (by kernel_rfl) (by kernel_rfl) rfl (by kernel_rfl) (fun x => (FD.fn_eq _ _).trans (by kernel_rfl))
end
end Go.Proofs.YtgpgpelaabdkhaaGreatDoor
end

section
/-
YtgpgpelaabdkhaaGreatDoor: signalbench.lex.take, as one plain function, its equations, its contract. No condition.
-/
set_option maxRecDepth 100000
set_option linter.unusedVariables false
set_option maxHeartbeats 4000000
open Go Go.AM
namespace Go.Proofs.YtgpgpelaabdkhaaGreatDoor
noncomputable section
def lex_take_D : FD := ⟨T, lookC [(35, fc35), (64, fc64), (67, fc67), (69, fc69), (81, fc81), (82, fc82), (83, fc83), (84, fc84)], [], (Tryz.f54.body.getD .skip), Tryz.f54.results.toList, ⟨[.one .str], []⟩, ⟨[.row (.cons (.int .i64) (.cons .str (.cons (.int .i64) (.int .i64)))), .one (.int .i64), .one (.int .i64)], []⟩, []⟩
def lex_take (s : ByteArray) : (Option ((TToken × Int × Int × Unit) × Unit)) :=
  if 0 ≤ (0 : Int) ∧ 0 < (s.size : Int) then
    (lex_letter (IntKind.i32.wrap (bt s 0))).bind fun y1 =>
      if y1.1.1 = true then
        (lex_words s).bind fun y2 =>
          if 0 ≤ (0 : Int) ∧ (0 : Int) ≤ y2.1.1 ∧ y2.1.1 ≤ (s.size : Int) then
            (lex_Name (s.extract 0 y2.1.1.toNat)).bind fun y3 =>
              if (!y3.1.1) = true then
                some (((0, (strB []), 0, 0), 0, 4, ()), ())
              else
                if 0 ≤ (0 : Int) ∧ (0 : Int) ≤ y2.1.1 ∧ y2.1.1 ≤ (s.size : Int) then
                  some (((1, s.extract 0 y2.1.1.toNat, 0, 0), y2.1.1, 0, ()), ())
                else
                  none
          else
            none
      else
        (lex_digit (IntKind.i32.wrap (bt s 0))).bind fun y4 =>
          if y4.1.1 = true then
            if 0 ≤ (1 : Int) ∧ 1 ≤ (s.size : Int) then
              (lex_words (s.extract 1 s.size)).bind fun y5 =>
                if 0 ≤ (0 : Int) ∧ (0 : Int) ≤ IntKind.i64.wrap (1 + y5.1.1) ∧ IntKind.i64.wrap (1 + y5.1.1) ≤ (s.size : Int) then
                  (lex_Number (s.extract 0 (IntKind.i64.wrap (1 + y5.1.1)).toNat)).bind fun y6 =>
                    if 0 ≤ (0 : Int) ∧ (0 : Int) ≤ IntKind.i64.wrap (1 + y5.1.1) ∧ IntKind.i64.wrap (1 + y5.1.1) ≤ (s.size : Int) then
                      some (((2, s.extract 0 (IntKind.i64.wrap (1 + y5.1.1)).toNat, y6.1.1, 0), IntKind.i64.wrap (1 + y5.1.1), y6.1.2.1, ()), ())
                    else
                      none
                else
                  none
            else
              none
          else
            if ((IntKind.i32.wrap (bt s 0)) == 45) = true then
              if 0 ≤ (1 : Int) ∧ 1 ≤ (s.size : Int) then
                (lex_words (s.extract 1 s.size)).bind fun y7 =>
                  if 0 ≤ (0 : Int) ∧ (0 : Int) ≤ IntKind.i64.wrap (1 + y7.1.1) ∧ IntKind.i64.wrap (1 + y7.1.1) ≤ (s.size : Int) then
                    (lex_Number (s.extract 0 (IntKind.i64.wrap (1 + y7.1.1)).toNat)).bind fun y8 =>
                      if 0 ≤ (0 : Int) ∧ (0 : Int) ≤ IntKind.i64.wrap (1 + y7.1.1) ∧ IntKind.i64.wrap (1 + y7.1.1) ≤ (s.size : Int) then
                        some (((2, s.extract 0 (IntKind.i64.wrap (1 + y7.1.1)).toNat, y8.1.1, 0), IntKind.i64.wrap (1 + y7.1.1), y8.1.2.1, ()), ())
                      else
                        none
                  else
                    none
              else
                none
            else
              if ((IntKind.i32.wrap (bt s 0)) == 34) = true then
                (lex_quoted s).bind fun y9 =>
                  if 0 ≤ (0 : Int) ∧ (0 : Int) ≤ y9.1.1 ∧ y9.1.1 ≤ (s.size : Int) then
                    (lex_Unquote (s.extract 0 y9.1.1.toNat)).bind fun y10 =>
                      some (((3, y10.1.1, 0, 0), y9.1.1, y10.1.2.1, ()), ())
                  else
                    none
              else
                (lex_mark (IntKind.i32.wrap (bt s 0))).bind fun y11 =>
                  if y11.1.1 = true then
                    if 0 ≤ (0 : Int) ∧ (0 : Int) ≤ 1 ∧ 1 ≤ (s.size : Int) then
                      some (((4, s.extract 0 1, 0, 0), 1, 0, ()), ())
                    else
                      none
                  else
                    some (((0, (strB []), 0, 0), 0, 4, ()), ())
  else
    none
def fc54 : FC := ⟨⟨[.one .str], []⟩, ⟨[.row (.cons (.int .i64) (.cons .str (.cons (.int .i64) (.int .i64)))), .one (.int .i64), .one (.int .i64)], []⟩, fun x => lex_take x.1.1⟩
theorem con54 : Contract Tryz.prog 54 fc54 :=
  lex_take_D.contract tok (cok_of (l := [(35, fc35), (64, fc64), (67, fc67), (69, fc69), (81, fc81), (82, fc82), (83, fc83), (84, fc84)]) ⟨con35, con64, con67, con69, con81, con82, con83, con84, trivial⟩) mixed (fn' := Tryz.f54) (by kernel_rfl) (by kernel_rfl) rfl (by kernel_rfl) (fun x => (FD.fn_eq _ _).trans (by kernel_rfl))
end
end Go.Proofs.YtgpgpelaabdkhaaGreatDoor
end

section
/-
YtgpgpelaabdkhaaGreatDoor: strings.IndexByte, by the shelf. No condition.
-/
open Go Go.AM
variable [Inhabited ZMem]
namespace Go.Proofs.YtgpgpelaabdkhaaGreatDoor
noncomputable section
def strings_IndexByte (s : ByteArray) (c : Int) : Option ((Int × Unit) × Unit) := some ((Lib.indexByte s.data.toList c.toNat.toUInt8, ()), ())
def fc53 : FC := ⟨⟨[.one .str, .one (.int .u8)], []⟩, ⟨[.one (.int .i64)], []⟩, fun x => strings_IndexByte x.1.1 x.1.2.1⟩
theorem con53 : Contract Tryz.prog 53 fc53 :=
  Contract.still (P := Tryz.prog) (f := 53) (sa := [.one .str, .one (.int .u8)]) (sr := [.one (.int .i64)]) (fn := Tryz.f53) (c := Tryz.f53.body.getD .skip) (by kernel_rfl) (by kernel_rfl) (by kernel_rfl) (g := fun x => some (Lib.indexByte x.1.data.toList x.2.1.toNat.toUInt8, ())) (fun w M G x y vals hI hv hg => by
    obtain ⟨s, c, u⟩ := x
    obtain ⟨vs⟩ := vals
    match vs, hv with
    | [v1, v2], hv =>
      obtain ⟨⟨rfl, _⟩, ⟨rfl, _⟩, _⟩ := hv
      cases hg
      refine (Tryz.strings_IndexByte s c w).mono ?_
      rintro e w' ⟨rfl, rfl⟩
      exact ⟨_, rfl, rfl, rfl, rfl⟩)
end
end Go.Proofs.YtgpgpelaabdkhaaGreatDoor
end

section
/-
YtgpgpelaabdkhaaGreatDoor: signalbench.lex.Tokens, as one plain function, its equations, its contract. No condition.
-/
set_option maxRecDepth 100000
set_option linter.unusedVariables false
set_option maxHeartbeats 4000000
open Go Go.AM
namespace Go.Proofs.YtgpgpelaabdkhaaGreatDoor
noncomputable section
def lex_Tokens_F7 : FSh := ⟨[(0, .one .str), (5, .one (.own 0)), (6, .one (.int .i64))], [.arr 54 (.cons (.int .i64) (.cons .str (.cons (.int .i64) (.int .i64)))) true]⟩
def lex_Tokens_F15 : FSh := ⟨[(0, .one .str), (5, .one (.own 0)), (6, .one (.int .i64)), (17, .one (.int .u8)), (24, .one .bool)], [.arr 54 (.cons (.int .i64) (.cons .str (.cons (.int .i64) (.int .i64)))) true]⟩
def lex_Tokens_D : FD := ⟨T, lookC [(53, fc53), (54, fc54)], [15], (Tryz.f24.body.getD .skip), Tryz.f24.results.toList, ⟨[.one .str], []⟩, ⟨[.one (.sl (.cons (.int .i64) (.cons .str (.cons (.int .i64) (.int .i64))))), .one (.int .i64), .one (.int .i64)], []⟩, [(7, lex_Tokens_F7), (15, lex_Tokens_F15)]⟩
def lex_Tokens_l7 (s : ByteArray) (line : Int) (l0 : (List TToken)) : (Option (((List TToken) × Int × Int × Unit) × Unit)) := lex_Tokens_D.lab 7 lex_Tokens_F7 ((s, (), line, ()), (l0, ()))
def lex_Tokens_l15 (s : ByteArray) (line : Int) (t17 : Int) (t24 : Bool) (l0 : (List TToken)) : (Option (((List TToken) × Int × Int × Unit) × Unit)) := lex_Tokens_D.lab 15 lex_Tokens_F15 ((s, (), line, t17, t24, ()), (l0, ()))
theorem lex_Tokens_l7_eq (s : ByteArray) (line : Int) (l0 : (List TToken)) : lex_Tokens_l7 s line l0 =
  if (!(s.toList == (strB []).toList)) = true then
    if 0 ≤ (0 : Int) ∧ 0 < (s.size : Int) then
      if ((bt s 0) == 10) = true then
        if 0 ≤ (1 : Int) ∧ 1 ≤ (s.size : Int) then
          lex_Tokens_l7 (s.extract 1 s.size) (IntKind.i64.wrap (line + 1)) l0
        else
          none
      else
        if ((bt s 0) == 32) = true then
          lex_Tokens_l15 s line (bt s 0) true l0
        else
          lex_Tokens_l15 s line (bt s 0) ((bt s 0) == 9) l0
    else
      none
  else
    some ((l0, 0, 0, ()), ()) := (FD.lab_eq _ _ _ _).trans (by kernel_rfl)
theorem lex_Tokens_l15_eq (s : ByteArray) (line : Int) (t17 : Int) (t24 : Bool) (l0 : (List TToken)) : lex_Tokens_l15 s line t17 t24 l0 =
  if t24 = true then
    if 0 ≤ (1 : Int) ∧ 1 ≤ (s.size : Int) then
      lex_Tokens_l7 (s.extract 1 s.size) line l0
    else
      none
  else
    if (t17 == 35) = true then
      (strings_IndexByte s 10).bind fun y1 =>
        if (decide (y1.1.1 < 0)) = true then
          if 0 ≤ (s.size : Int) ∧ (s.size : Int) ≤ (s.size : Int) then
            lex_Tokens_l7 (s.extract (s.size : Int).toNat s.size) line l0
          else
            none
        else
          if 0 ≤ y1.1.1 ∧ y1.1.1 ≤ (s.size : Int) then
            lex_Tokens_l7 (s.extract y1.1.1.toNat s.size) line l0
          else
            none
    else
      (lex_take s).bind fun y2 =>
        if (y2.1.2.2.1 != 0) = true then
          some (([], line, y2.1.2.2.1, ()), ())
        else
          if (l0.length + 1) * 40 ≤ 140737488355328 ∧ 0 < 40 then
            if 0 ≤ y2.1.2.1 ∧ y2.1.2.1 ≤ (s.size : Int) then
              lex_Tokens_l7 (s.extract y2.1.2.1.toNat s.size) line (l0 ++ [(y2.1.1.1, y2.1.1.2.1, y2.1.1.2.2.1, line)])
            else
              none
          else
            none := (FD.lab_eq _ _ _ _).trans (by kernel_rfl)
def lex_Tokens (s : ByteArray) : (Option (((List TToken) × Int × Int × Unit) × Unit)) :=
  if (decide ((s.size : Int) > 1048576)) = true then
    some (([], 0, 6, ()), ())
  else
    lex_Tokens_l7 s 1 []
def fc24 : FC := ⟨⟨[.one .str], []⟩, ⟨[.one (.sl (.cons (.int .i64) (.cons .str (.cons (.int .i64) (.int .i64))))), .one (.int .i64), .one (.int .i64)], []⟩, fun x => lex_Tokens x.1.1⟩
theorem con24 : Contract Tryz.prog 24 fc24 :=
  lex_Tokens_D.contract tok (cok_of (l := [(53, fc53), (54, fc54)]) ⟨con53, con54, trivial⟩) mixed (fn' := Tryz.f24) (by kernel_rfl) (by kernel_rfl) rfl (by kernel_rfl) (fun x => (FD.fn_eq _ _).trans (by kernel_rfl))
end
end Go.Proofs.YtgpgpelaabdkhaaGreatDoor
end

section
/-
YtgpgpelaabdkhaaGreatDoor: (*signalbench.trig.reader).next, as one plain function, its equations, its contract. No condition.
-/
set_option maxRecDepth 100000
set_option linter.unusedVariables false
set_option maxHeartbeats 4000000
open Go Go.AM
namespace Go.Proofs.YtgpgpelaabdkhaaGreatDoor
noncomputable section
def trig_reader_next_D : FD := ⟨T, lookC [], [], (Tryz.f55.body.getD .skip), Tryz.f55.results.toList, ⟨[.one (.ptr 0 0), .one (.int .i64), .one .str], [.boxr 65 (.cons (.sl (.cons (.int .i64) (.cons .str (.cons (.int .i64) (.int .i64))))) (.cons (.int .i64) .bool))]⟩, ⟨[.one .bool], [.boxr 65 (.cons (.sl (.cons (.int .i64) (.cons .str (.cons (.int .i64) (.int .i64))))) (.cons (.int .i64) .bool))]⟩, []⟩
def trig_reader_next (kind : Int) (text : ByteArray) (h0 : Treader) : (Option ((Bool × Unit) × (Treader × Unit))) :=
  if h0.2.2 = true then
    some ((false, ()), (h0, ()))
  else
    if (decide (h0.2.1 ≥ (h0.1.length : Int))) = true then
      some ((false, ()), (h0, ()))
    else
      if 0 ≤ h0.2.1 ∧ h0.2.1 < (h0.1.length : Int) then
        if ((h0.1.getD h0.2.1.toNat dToken).1 != kind) = true then
          some ((false, ()), (h0, ()))
        else
          if 0 ≤ h0.2.1 ∧ h0.2.1 < (h0.1.length : Int) then
            if (!((h0.1.getD h0.2.1.toNat dToken).2.1.toList == text.toList)) = true then
              some ((false, ()), (h0, ()))
            else
              some ((true, ()), ((h0.1, IntKind.i64.wrap (h0.2.1 + 1), h0.2.2), ()))
          else
            none
      else
        none
def fc55 : FC := ⟨⟨[.one (.ptr 0 0), .one (.int .i64), .one .str], [.boxr 65 (.cons (.sl (.cons (.int .i64) (.cons .str (.cons (.int .i64) (.int .i64))))) (.cons (.int .i64) .bool))]⟩, ⟨[.one .bool], [.boxr 65 (.cons (.sl (.cons (.int .i64) (.cons .str (.cons (.int .i64) (.int .i64))))) (.cons (.int .i64) .bool))]⟩, fun x => trig_reader_next x.1.2.1 x.1.2.2.1 x.2.1⟩
theorem con55 : Contract Tryz.prog 55 fc55 :=
  trig_reader_next_D.contract tok (cok_of (l := []) trivial) mixed (fn' := Tryz.f55) (by kernel_rfl) (by kernel_rfl) rfl (by kernel_rfl) (fun x => (FD.fn_eq _ _).trans (by kernel_rfl))
end
end Go.Proofs.YtgpgpelaabdkhaaGreatDoor
end

section
/-
YtgpgpelaabdkhaaGreatDoor: (*signalbench.trig.reader).want, as one plain function, its equations, its contract. No condition.
-/
set_option maxRecDepth 100000
set_option linter.unusedVariables false
set_option maxHeartbeats 4000000
open Go Go.AM
namespace Go.Proofs.YtgpgpelaabdkhaaGreatDoor
noncomputable section
def trig_reader_want_D : FD := ⟨T, lookC [(55, fc55)], [], (Tryz.f25.body.getD .skip), Tryz.f25.results.toList, ⟨[.one (.ptr 0 0), .one (.int .i64), .one .str], [.boxr 65 (.cons (.sl (.cons (.int .i64) (.cons .str (.cons (.int .i64) (.int .i64))))) (.cons (.int .i64) .bool))]⟩, ⟨[], [.boxr 65 (.cons (.sl (.cons (.int .i64) (.cons .str (.cons (.int .i64) (.int .i64))))) (.cons (.int .i64) .bool))]⟩, []⟩
def trig_reader_want (kind : Int) (text : ByteArray) (h0 : Treader) : (Option (Unit × (Treader × Unit))) :=
  (trig_reader_next kind text h0).bind fun y1 =>
    if (!y1.1.1) = true then
      some ((), ((y1.2.1.1, y1.2.1.2.1, true), ()))
    else
      some ((), (y1.2.1, ()))
def fc25 : FC := ⟨⟨[.one (.ptr 0 0), .one (.int .i64), .one .str], [.boxr 65 (.cons (.sl (.cons (.int .i64) (.cons .str (.cons (.int .i64) (.int .i64))))) (.cons (.int .i64) .bool))]⟩, ⟨[], [.boxr 65 (.cons (.sl (.cons (.int .i64) (.cons .str (.cons (.int .i64) (.int .i64))))) (.cons (.int .i64) .bool))]⟩, fun x => trig_reader_want x.1.2.1 x.1.2.2.1 x.2.1⟩
theorem con25 : Contract Tryz.prog 25 fc25 :=
  trig_reader_want_D.contract tok (cok_of (l := [(55, fc55)]) ⟨con55, trivial⟩) mixed (fn' := Tryz.f25) (by kernel_rfl) (by kernel_rfl) rfl (by kernel_rfl) (fun x => (FD.fn_eq _ _).trans (by kernel_rfl))
end
end Go.Proofs.YtgpgpelaabdkhaaGreatDoor
end

section
/-
YtgpgpelaabdkhaaGreatDoor: (*signalbench.trig.reader).take, as one plain function, its equations, its contract. No condition.
-/
set_option maxRecDepth 100000
set_option linter.unusedVariables false
set_option maxHeartbeats 4000000
open Go Go.AM
namespace Go.Proofs.YtgpgpelaabdkhaaGreatDoor
noncomputable section
def trig_reader_take_D : FD := ⟨T, lookC [], [], (Tryz.f26.body.getD .skip), Tryz.f26.results.toList, ⟨[.one (.ptr 0 0), .one (.int .i64)], [.boxr 65 (.cons (.sl (.cons (.int .i64) (.cons .str (.cons (.int .i64) (.int .i64))))) (.cons (.int .i64) .bool))]⟩, ⟨[.row (.cons (.int .i64) (.cons .str (.cons (.int .i64) (.int .i64))))], [.boxr 65 (.cons (.sl (.cons (.int .i64) (.cons .str (.cons (.int .i64) (.int .i64))))) (.cons (.int .i64) .bool))]⟩, []⟩
def trig_reader_take (kind : Int) (h0 : Treader) : (Option ((TToken × Unit) × (Treader × Unit))) :=
  if h0.2.2 = true then
    some (((0, (strB []), 0, 0), ()), ((h0.1, h0.2.1, true), ()))
  else
    if (decide (h0.2.1 ≥ (h0.1.length : Int))) = true then
      some (((0, (strB []), 0, 0), ()), ((h0.1, h0.2.1, true), ()))
    else
      if 0 ≤ h0.2.1 ∧ h0.2.1 < (h0.1.length : Int) then
        if ((h0.1.getD h0.2.1.toNat dToken).1 != kind) = true then
          some (((0, (strB []), 0, 0), ()), ((h0.1, h0.2.1, true), ()))
        else
          if 0 ≤ IntKind.i64.wrap ((IntKind.i64.wrap (h0.2.1 + 1)) - 1) ∧ IntKind.i64.wrap ((IntKind.i64.wrap (h0.2.1 + 1)) - 1) < (h0.1.length : Int) then
            some (((h0.1.getD (IntKind.i64.wrap ((IntKind.i64.wrap (h0.2.1 + 1)) - 1)).toNat dToken), ()), ((h0.1, IntKind.i64.wrap (h0.2.1 + 1), h0.2.2), ()))
          else
            none
      else
        none
def fc26 : FC := ⟨⟨[.one (.ptr 0 0), .one (.int .i64)], [.boxr 65 (.cons (.sl (.cons (.int .i64) (.cons .str (.cons (.int .i64) (.int .i64))))) (.cons (.int .i64) .bool))]⟩, ⟨[.row (.cons (.int .i64) (.cons .str (.cons (.int .i64) (.int .i64))))], [.boxr 65 (.cons (.sl (.cons (.int .i64) (.cons .str (.cons (.int .i64) (.int .i64))))) (.cons (.int .i64) .bool))]⟩, fun x => trig_reader_take x.1.2.1 x.2.1⟩
theorem con26 : Contract Tryz.prog 26 fc26 :=
  trig_reader_take_D.contract tok (cok_of (l := []) trivial) mixed (fn' := Tryz.f26) (by kernel_rfl) (by kernel_rfl) rfl (by kernel_rfl) (fun x => (FD.fn_eq _ _).trans (by kernel_rfl))
end
end Go.Proofs.YtgpgpelaabdkhaaGreatDoor
end

section
/-
YtgpgpelaabdkhaaGreatDoor: (*signalbench.trig.reader).word, as one plain function, its equations, its contract. No condition.
-/
set_option maxRecDepth 100000
set_option linter.unusedVariables false
set_option maxHeartbeats 4000000
open Go Go.AM
namespace Go.Proofs.YtgpgpelaabdkhaaGreatDoor
noncomputable section
def trig_reader_word_D : FD := ⟨T, lookC [(101, fc101)], [], (Tryz.f85.body.getD .skip), Tryz.f85.results.toList, ⟨[.one (.ptr 0 0), .one (.sl .str)], [.boxr 65 (.cons (.sl (.cons (.int .i64) (.cons .str (.cons (.int .i64) (.int .i64))))) (.cons (.int .i64) .bool))]⟩, ⟨[.one (.int .i64)], [.boxr 65 (.cons (.sl (.cons (.int .i64) (.cons .str (.cons (.int .i64) (.int .i64))))) (.cons (.int .i64) .bool))]⟩, []⟩
def trig_reader_word (words : (List ByteArray)) (h0 : Treader) : (Option ((Int × Unit) × (Treader × Unit))) :=
  if h0.2.2 = true then
    some (((-1), ()), (h0, ()))
  else
    if (decide (h0.2.1 ≥ (h0.1.length : Int))) = true then
      some (((-1), ()), (h0, ()))
    else
      if 0 ≤ h0.2.1 ∧ h0.2.1 < (h0.1.length : Int) then
        if ((h0.1.getD h0.2.1.toNat dToken).1 != 1) = true then
          some (((-1), ()), (h0, ()))
        else
          if 0 ≤ h0.2.1 ∧ h0.2.1 < (h0.1.length : Int) then
            (slices_Index_string_string words (h0.1.getD h0.2.1.toNat dToken).2.1).bind fun y1 =>
              if (decide (y1.1.1 ≥ 0)) = true then
                some ((y1.1.1, ()), ((h0.1, IntKind.i64.wrap (h0.2.1 + 1), h0.2.2), ()))
              else
                some ((y1.1.1, ()), (h0, ()))
          else
            none
      else
        none
def fc85 : FC := ⟨⟨[.one (.ptr 0 0), .one (.sl .str)], [.boxr 65 (.cons (.sl (.cons (.int .i64) (.cons .str (.cons (.int .i64) (.int .i64))))) (.cons (.int .i64) .bool))]⟩, ⟨[.one (.int .i64)], [.boxr 65 (.cons (.sl (.cons (.int .i64) (.cons .str (.cons (.int .i64) (.int .i64))))) (.cons (.int .i64) .bool))]⟩, fun x => trig_reader_word x.1.2.1 x.2.1⟩
theorem con85 : Contract Tryz.prog 85 fc85 :=
  trig_reader_word_D.contract tok (cok_of (l := [(101, fc101)]) ⟨con101, trivial⟩) mixed (fn' := Tryz.f85) (by kernel_rfl) (by kernel_rfl) rfl (by kernel_rfl) (fun x => (FD.fn_eq _ _).trans (by kernel_rfl))
end
end Go.Proofs.YtgpgpelaabdkhaaGreatDoor
end

section
/-
YtgpgpelaabdkhaaGreatDoor: (*signalbench.trig.reader).cond, as one plain function, its equations, its contract. No condition.
-/
set_option maxRecDepth 100000
set_option linter.unusedVariables false
set_option maxHeartbeats 4000000
open Go Go.AM
namespace Go.Proofs.YtgpgpelaabdkhaaGreatDoor
noncomputable section
def trig_reader_cond_F14 : FSh := ⟨[(0, .one (.ptr 0 0)), (2, .one (.ptr 1 0)), (3, .one (.ptr 2 0))], [.boxr 65 (.cons (.sl (.cons (.int .i64) (.cons .str (.cons (.int .i64) (.int .i64))))) (.cons (.int .i64) .bool)), .boxr 35 (.cons .str (.cons (.int .i64) (.cons (.int .i64) (.cons (.int .i64) (.int .i64))))), .boxr 35 (.cons .str (.cons (.int .i64) (.cons (.int .i64) (.cons (.int .i64) (.int .i64)))))]⟩
def trig_reader_cond_D : FD := ⟨T, lookC [(25, fc25), (26, fc26), (37, fc37), (38, fc38), (55, fc55), (85, fc85)], [14], (Tryz.f56.body.getD .skip), Tryz.f56.results.toList, ⟨[.one (.ptr 0 0)], [.boxr 65 (.cons (.sl (.cons (.int .i64) (.cons .str (.cons (.int .i64) (.int .i64))))) (.cons (.int .i64) .bool))]⟩, ⟨[.row (.cons .str (.cons (.int .i64) (.cons (.int .i64) (.cons (.int .i64) (.int .i64)))))], [.boxr 65 (.cons (.sl (.cons (.int .i64) (.cons .str (.cons (.int .i64) (.int .i64))))) (.cons (.int .i64) .bool))]⟩, [(14, trig_reader_cond_F14)]⟩
def trig_reader_cond_l14 (h0 : Treader) (h1 : TCond) (h2 : TCond) : (Option ((TCond × Unit) × (Treader × Unit))) := trig_reader_cond_D.lab 14 trig_reader_cond_F14 (((), (), (), ()), (h0, h1, h2, ()))
theorem trig_reader_cond_l14_eq (h0 : Treader) (h1 : TCond) (h2 : TCond) : trig_reader_cond_l14 h0 h1 h2 =
  (trig_reader_take 2 h0).bind fun y1 =>
    some (((h2.1, h2.2.1, h2.2.2.1, h2.2.2.2.1, y1.1.1.2.2.1), ()), (y1.2.1, ())) := (FD.lab_eq _ _ _ _).trans (by kernel_rfl)
def trig_reader_cond (h0 : Treader) : (Option ((TCond × Unit) × (Treader × Unit))) :=
  (trig_reader_take 1 h0).bind fun y1 =>
    (trig_reader_want 4 (strB [46]) y1.2.1).bind fun y2 =>
      (trig_kinds).bind fun y3 =>
        (trig_reader_word y3.1.1 y2.2.1).bind fun y4 =>
          if (decide (y4.1.1 < 0)) = true then
            some (((y1.1.1.2.1, 0, 0, 0, 0), ()), ((y4.2.1.1, y4.2.1.2.1, true), ()))
          else
            (trig_fields).bind fun y5 =>
              (trig_reader_word y5.1.1 y4.2.1).bind fun y6 =>
                if (decide (y6.1.1 < 0)) = true then
                  some (((y1.1.1.2.1, y4.1.1, 0, 0, 0), ()), (y6.2.1, ()))
                else
                  (trig_reader_next 4 (strB [61]) y6.2.1).bind fun y7 =>
                    if y7.1.1 = true then
                      trig_reader_cond_l14 y7.2.1 ((strB []), 0, 0, 0, 0) (y1.1.1.2.1, y4.1.1, IntKind.i64.wrap (y6.1.1 + 1), 1, 0)
                    else
                      (trig_reader_next 4 (strB [60]) y7.2.1).bind fun y8 =>
                        if y8.1.1 = true then
                          trig_reader_cond_l14 y8.2.1 ((strB []), 0, 0, 0, 0) (y1.1.1.2.1, y4.1.1, IntKind.i64.wrap (y6.1.1 + 1), 3, 0)
                        else
                          (trig_reader_next 4 (strB [62]) y8.2.1).bind fun y9 =>
                            if y9.1.1 = true then
                              trig_reader_cond_l14 y9.2.1 ((strB []), 0, 0, 0, 0) (y1.1.1.2.1, y4.1.1, IntKind.i64.wrap (y6.1.1 + 1), 4, 0)
                            else
                              (trig_reader_next 4 (strB [38]) y9.2.1).bind fun y10 =>
                                if y10.1.1 = true then
                                  trig_reader_cond_l14 y10.2.1 ((strB []), 0, 0, 0, 0) (y1.1.1.2.1, y4.1.1, IntKind.i64.wrap (y6.1.1 + 1), 5, 0)
                                else
                                  (trig_reader_want 4 (strB [33]) y10.2.1).bind fun y11 =>
                                    (trig_reader_want 4 (strB [61]) y11.2.1).bind fun y12 =>
                                      trig_reader_cond_l14 y12.2.1 ((strB []), 0, 0, 0, 0) (y1.1.1.2.1, y4.1.1, IntKind.i64.wrap (y6.1.1 + 1), 2, 0)
def fc56 : FC := ⟨⟨[.one (.ptr 0 0)], [.boxr 65 (.cons (.sl (.cons (.int .i64) (.cons .str (.cons (.int .i64) (.int .i64))))) (.cons (.int .i64) .bool))]⟩, ⟨[.row (.cons .str (.cons (.int .i64) (.cons (.int .i64) (.cons (.int .i64) (.int .i64)))))], [.boxr 65 (.cons (.sl (.cons (.int .i64) (.cons .str (.cons (.int .i64) (.int .i64))))) (.cons (.int .i64) .bool))]⟩, fun x => trig_reader_cond x.2.1⟩
theorem con56 : Contract Tryz.prog 56 fc56 :=
  trig_reader_cond_D.contract tok (cok_of (l := [(25, fc25), (26, fc26), (37, fc37), (38, fc38), (55, fc55), (85, fc85)]) ⟨con25, con26, con37, con38, con55, con85, trivial⟩) mixed (fn' := Tryz.f56) (by kernel_rfl) (by kernel_rfl) rfl (by kernel_rfl) (fun x => (FD.fn_eq _ _).trans (by kernel_rfl))
end
end Go.Proofs.YtgpgpelaabdkhaaGreatDoor
end

section
/-
YtgpgpelaabdkhaaGreatDoor: (*signalbench.trig.reader).parts, as one plain function, its equations, its contract. No condition.
-/
set_option maxRecDepth 100000
set_option linter.unusedVariables false
set_option maxHeartbeats 4000000
open Go Go.AM
namespace Go.Proofs.YtgpgpelaabdkhaaGreatDoor
noncomputable section
def trig_reader_parts_F2 : FSh := ⟨[(0, .one (.ptr 0 0)), (3, .one (.own 1))], [.boxr 65 (.cons (.sl (.cons (.int .i64) (.cons .str (.cons (.int .i64) (.int .i64))))) (.cons (.int .i64) .bool)), .arr 20 .any true]⟩
def trig_reader_parts_F4 : FSh := ⟨[(0, .one (.ptr 0 0)), (3, .one (.own 1))], [.boxr 65 (.cons (.sl (.cons (.int .i64) (.cons .str (.cons (.int .i64) (.int .i64))))) (.cons (.int .i64) .bool)), .arr 20 .any true]⟩
def trig_reader_parts_D : FD := ⟨T, lookC [(26, fc26), (55, fc55), (56, fc56)], [4, 2], (Tryz.f57.body.getD .skip), Tryz.f57.results.toList, ⟨[.one (.ptr 0 0)], [.boxr 65 (.cons (.sl (.cons (.int .i64) (.cons .str (.cons (.int .i64) (.int .i64))))) (.cons (.int .i64) .bool))]⟩, ⟨[.one (.sl .any)], [.boxr 65 (.cons (.sl (.cons (.int .i64) (.cons .str (.cons (.int .i64) (.int .i64))))) (.cons (.int .i64) .bool))]⟩, [(2, trig_reader_parts_F2), (4, trig_reader_parts_F4)]⟩
def trig_reader_parts_l2 (h0 : Treader) (l1 : (List Value)) : (Option (((List Value) × Unit) × (Treader × Unit))) := trig_reader_parts_D.lab 2 trig_reader_parts_F2 (((), (), ()), (h0, l1, ()))
def trig_reader_parts_l4 (h0 : Treader) (l1 : (List Value)) : (Option (((List Value) × Unit) × (Treader × Unit))) := trig_reader_parts_D.lab 4 trig_reader_parts_F4 (((), (), ()), (h0, l1, ()))
theorem trig_reader_parts_l2_eq (h0 : Treader) (l1 : (List Value)) : trig_reader_parts_l2 h0 l1 =
  (trig_reader_next 1 (strB [119, 105, 116, 104, 105, 110]) h0).bind fun y1 =>
    if y1.1.1 = true then
      (trig_reader_take 2 y1.2.1).bind fun y2 =>
        if (l1.length + 1) * 16 ≤ 140737488355328 ∧ 0 < 16 then
          trig_reader_parts_l4 y2.2.1 (l1 ++ [Value.iface 103 (Value.int .i64 y2.1.1.2.2.1)])
        else
          none
    else
      trig_reader_parts_l4 y1.2.1 l1 := (FD.lab_eq _ _ _ _).trans (by kernel_rfl)
theorem trig_reader_parts_l4_eq (h0 : Treader) (l1 : (List Value)) : trig_reader_parts_l4 h0 l1 =
  (trig_reader_next 1 (strB [117, 110, 108, 101, 115, 115]) h0).bind fun y1 =>
    if y1.1.1 = true then
      (trig_reader_cond y1.2.1).bind fun y2 =>
        if (l1.length + 1) * 16 ≤ 140737488355328 ∧ 0 < 16 then
          some ((l1 ++ [Value.iface 104 (Value.agg ⟨[Value.string y2.1.1.1, Value.int .i64 y2.1.1.2.1, Value.int .i64 y2.1.1.2.2.1, Value.int .i64 y2.1.1.2.2.2.1, Value.int .i64 y2.1.1.2.2.2.2]⟩)], ()), (y2.2.1, ()))
        else
          none
    else
      some ((l1, ()), (y1.2.1, ())) := (FD.lab_eq _ _ _ _).trans (by kernel_rfl)
def trig_reader_parts (h0 : Treader) : (Option (((List Value) × Unit) × (Treader × Unit))) :=
  (trig_reader_next 1 (strB [120]) h0).bind fun y1 =>
    if y1.1.1 = true then
      (trig_reader_take 2 y1.2.1).bind fun y2 =>
        trig_reader_parts_l2 y2.2.1 [Value.iface 102 (Value.int .i64 y2.1.1.2.2.1)]
    else
      trig_reader_parts_l2 y1.2.1 []
def fc57 : FC := ⟨⟨[.one (.ptr 0 0)], [.boxr 65 (.cons (.sl (.cons (.int .i64) (.cons .str (.cons (.int .i64) (.int .i64))))) (.cons (.int .i64) .bool))]⟩, ⟨[.one (.sl .any)], [.boxr 65 (.cons (.sl (.cons (.int .i64) (.cons .str (.cons (.int .i64) (.int .i64))))) (.cons (.int .i64) .bool))]⟩, fun x => trig_reader_parts x.2.1⟩
theorem con57 : Contract Tryz.prog 57 fc57 :=
  trig_reader_parts_D.contract tok (cok_of (l := [(26, fc26), (55, fc55), (56, fc56)]) ⟨con26, con55, con56, trivial⟩) mixed (fn' := Tryz.f57) (by kernel_rfl) (by kernel_rfl) rfl (by kernel_rfl) (fun x => (FD.fn_eq _ _).trans (by kernel_rfl))
end
end Go.Proofs.YtgpgpelaabdkhaaGreatDoor
end

section
/-
YtgpgpelaabdkhaaGreatDoor: (*signalbench.trig.reader).step, as one plain function, its equations, its contract. No condition.
-/
set_option maxRecDepth 100000
set_option linter.unusedVariables false
set_option maxHeartbeats 4000000
open Go Go.AM
namespace Go.Proofs.YtgpgpelaabdkhaaGreatDoor
noncomputable section
def trig_reader_step_F4 : FSh := ⟨[(2, .one (.ptr 1 0)), (3, .one (.ptr 2 0)), (13, .one (.sl .any)), (14, .one (.int .i64)), (15, .one (.int .i64))], [.boxr 65 (.cons (.sl (.cons (.int .i64) (.cons .str (.cons (.int .i64) (.int .i64))))) (.cons (.int .i64) .bool)), .boxr 37 (.cons (.cons .str (.cons (.int .i64) (.cons (.int .i64) (.cons (.int .i64) (.int .i64))))) (.cons (.int .i64) (.cons (.int .i64) (.cons .bool (.cons .str (.cons (.int .i64) (.cons (.int .i64) (.cons (.int .i64) (.int .i64))))))))), .boxr 37 (.cons (.cons .str (.cons (.int .i64) (.cons (.int .i64) (.cons (.int .i64) (.int .i64))))) (.cons (.int .i64) (.cons (.int .i64) (.cons .bool (.cons .str (.cons (.int .i64) (.cons (.int .i64) (.cons (.int .i64) (.int .i64)))))))))]⟩
def trig_reader_step_D : FD := ⟨T, lookC [(56, fc56), (57, fc57)], [], (Tryz.f27.body.getD .skip), Tryz.f27.results.toList, ⟨[.one (.ptr 0 0)], [.boxr 65 (.cons (.sl (.cons (.int .i64) (.cons .str (.cons (.int .i64) (.int .i64))))) (.cons (.int .i64) .bool))]⟩, ⟨[.row (.cons (.cons .str (.cons (.int .i64) (.cons (.int .i64) (.cons (.int .i64) (.int .i64))))) (.cons (.int .i64) (.cons (.int .i64) (.cons .bool (.cons .str (.cons (.int .i64) (.cons (.int .i64) (.cons (.int .i64) (.int .i64)))))))))], [.boxr 65 (.cons (.sl (.cons (.int .i64) (.cons .str (.cons (.int .i64) (.int .i64))))) (.cons (.int .i64) .bool))]⟩, [(4, trig_reader_step_F4)]⟩
def trig_reader_step_l4 (t13 : (List Value)) (t14 : Int) (t15 : Int) (h0 : Treader) (h1 : TTrigStep) (h2 : TTrigStep) : (Option ((TTrigStep × Unit) × (Treader × Unit))) := trig_reader_step_D.lab 4 trig_reader_step_F4 (((), (), t13, t14, t15, ()), (h0, h1, h2, ()))
theorem trig_reader_step_l4_eq (t13 : (List Value)) (t14 : Int) (t15 : Int) (h0 : Treader) (h1 : TTrigStep) (h2 : TTrigStep) : trig_reader_step_l4 t13 t14 t15 h0 h1 h2 =
  if (decide (t15 < t14)) = true then
    if 0 ≤ t15 ∧ t15 < (t13.length : Int) then
      (asT 102 false (.int .i64) (t13.getD t15.toNat Value.nilIface)).bind fun o_ => orK o_ (fun y1 =>
        trig_reader_step_l4 t13 t14 (IntKind.i64.wrap (t15 + 1)) h0 h1 (h2.1, y1, h2.2.2))
      (
        (asT 103 false (.int .i64) (t13.getD t15.toNat Value.nilIface)).bind fun o_ => orK o_ (fun y2 =>
          trig_reader_step_l4 t13 t14 (IntKind.i64.wrap (t15 + 1)) h0 h1 (h2.1, h2.2.1, y2, h2.2.2.2))
        (
          (asT 104 true uCond (t13.getD t15.toNat Value.nilIface)).bind fun o_ => orK o_ (fun y3 =>
            trig_reader_step_l4 t13 t14 (IntKind.i64.wrap (t15 + 1)) h0 h1 (h2.1, h2.2.1, h2.2.2.1, true, y3))
          (
            trig_reader_step_l4 t13 t14 (IntKind.i64.wrap (t15 + 1)) h0 h1 h2)))
    else
      none
  else
    some ((h2, ()), (h0, ())) := (FD.lab_eq _ _ _ _).trans (by kernel_rfl)
def trig_reader_step (h0 : Treader) : (Option ((TTrigStep × Unit) × (Treader × Unit))) :=
  (trig_reader_cond h0).bind fun y1 =>
    (trig_reader_parts y1.2.1).bind fun y2 =>
      trig_reader_step_l4 y2.1.1 (y2.1.1.length : Int) 0 y2.2.1 (((strB []), 0, 0, 0, 0), 0, 0, false, (strB []), 0, 0, 0, 0) (y1.1.1, 1, 0, false, (strB []), 0, 0, 0, 0)
def fc27 : FC := ⟨⟨[.one (.ptr 0 0)], [.boxr 65 (.cons (.sl (.cons (.int .i64) (.cons .str (.cons (.int .i64) (.int .i64))))) (.cons (.int .i64) .bool))]⟩, ⟨[.row (.cons (.cons .str (.cons (.int .i64) (.cons (.int .i64) (.cons (.int .i64) (.int .i64))))) (.cons (.int .i64) (.cons (.int .i64) (.cons .bool (.cons .str (.cons (.int .i64) (.cons (.int .i64) (.cons (.int .i64) (.int .i64)))))))))], [.boxr 65 (.cons (.sl (.cons (.int .i64) (.cons .str (.cons (.int .i64) (.int .i64))))) (.cons (.int .i64) .bool))]⟩, fun x => trig_reader_step x.2.1⟩
theorem con27 : Contract Tryz.prog 27 fc27 :=
  trig_reader_step_D.contract tok (cok_of (l := [(56, fc56), (57, fc57)]) ⟨con56, con57, trivial⟩) mixed (fn' := Tryz.f27) (by kernel_rfl) (by kernel_rfl) rfl (by kernel_rfl) (fun x => (FD.fn_eq _ _).trans (by kernel_rfl))
end
end Go.Proofs.YtgpgpelaabdkhaaGreatDoor
end

section
/-
YtgpgpelaabdkhaaGreatDoor: signalbench.signalbenchlaw43.small, as one plain function, its equations, its contract. No condition.
-/
set_option maxRecDepth 100000
set_option linter.unusedVariables false
set_option maxHeartbeats 4000000
open Go Go.AM
namespace Go.Proofs.YtgpgpelaabdkhaaGreatDoor
noncomputable section
def law43_small_F6 : FSh := ⟨[(1, .one (.ptr 0 0)), (3, .one (.int .i64))], [.boxr 24 (.cons .str (.sl (.cons (.cons .str (.cons (.int .i64) (.cons (.int .i64) (.cons (.int .i64) (.int .i64))))) (.cons (.int .i64) (.cons (.int .i64) (.cons .bool (.cons .str (.cons (.int .i64) (.cons (.int .i64) (.cons (.int .i64) (.int .i64)))))))))))]⟩
def law43_small_D : FD := ⟨T, lookC [(12, fc12)], [], (Tryz.f5.body.getD .skip), Tryz.f5.results.toList, ⟨[.row (.cons .str (.sl (.cons (.cons .str (.cons (.int .i64) (.cons (.int .i64) (.cons (.int .i64) (.int .i64))))) (.cons (.int .i64) (.cons (.int .i64) (.cons .bool (.cons .str (.cons (.int .i64) (.cons (.int .i64) (.cons (.int .i64) (.int .i64)))))))))))], []⟩, ⟨[.one .bool], []⟩, [(6, law43_small_F6)]⟩
def law43_small_l6 (i : Int) (h0 : TTrigger) : (Option ((Bool × Unit) × Unit)) := law43_small_D.lab 6 law43_small_F6 (((), i, ()), (h0, ()))
theorem law43_small_l6_eq (i : Int) (h0 : TTrigger) : law43_small_l6 i h0 =
  if (decide (i < (h0.2.length : Int))) = true then
    if 0 ≤ i ∧ i < (h0.2.length : Int) then
      (law43_brief (h0.2.getD i.toNat dTrigStep).1.1).bind fun y1 =>
        if (!y1.1.1) = true then
          some ((false, ()), ())
        else
          if 0 ≤ i ∧ i < (h0.2.length : Int) then
            (law43_brief (h0.2.getD i.toNat dTrigStep).2.2.2.2.1).bind fun y2 =>
              if (!y2.1.1) = true then
                some ((false, ()), ())
              else
                law43_small_l6 (IntKind.i64.wrap (i + 1)) h0
          else
            none
    else
      none
  else
    some ((true, ()), ()) := (FD.lab_eq _ _ _ _).trans (by kernel_rfl)
def law43_small (t : TTrigger) : (Option ((Bool × Unit) × Unit)) :=
  (law43_brief t.1).bind fun y1 =>
    if (!y1.1.1) = true then
      some ((false, ()), ())
    else
      if (decide ((t.2.length : Int) > 34)) = true then
        some ((false, ()), ())
      else
        law43_small_l6 0 t
def fc5 : FC := ⟨⟨[.row (.cons .str (.sl (.cons (.cons .str (.cons (.int .i64) (.cons (.int .i64) (.cons (.int .i64) (.int .i64))))) (.cons (.int .i64) (.cons (.int .i64) (.cons .bool (.cons .str (.cons (.int .i64) (.cons (.int .i64) (.cons (.int .i64) (.int .i64)))))))))))], []⟩, ⟨[.one .bool], []⟩, fun x => law43_small x.1.1⟩
theorem con5 : Contract Tryz.prog 5 fc5 :=
  law43_small_D.contract tok (cok_of (l := [(12, fc12)]) ⟨con12, trivial⟩) mixed (fn' := Tryz.f5) (by kernel_rfl) (by kernel_rfl) rfl (by kernel_rfl) (fun x => (FD.fn_eq _ _).trans (by kernel_rfl))
end
end Go.Proofs.YtgpgpelaabdkhaaGreatDoor
end

section
/-
YtgpgpelaabdkhaaGreatDoor: signalbench.trig.Print, as one plain function, its equations, its contract. No condition.
-/
set_option maxRecDepth 100000
set_option linter.unusedVariables false
set_option maxHeartbeats 4000000
open Go Go.AM
namespace Go.Proofs.YtgpgpelaabdkhaaGreatDoor
noncomputable section
def trig_Print_F8 : FSh := ⟨[(5, .one (.own 0)), (20, .one (.sl (.cons (.cons .str (.cons (.int .i64) (.cons (.int .i64) (.cons (.int .i64) (.int .i64))))) (.cons (.int .i64) (.cons (.int .i64) (.cons .bool (.cons .str (.cons (.int .i64) (.cons (.int .i64) (.cons (.int .i64) (.int .i64))))))))))), (21, .one (.int .i64)), (22, .one (.int .i64))], [.arr 54 (.cons (.int .i64) (.cons .str (.cons (.int .i64) (.int .i64)))) true]⟩
def trig_Print_F13 : FSh := ⟨[(5, .one (.own 0)), (7, .one (.ptr 1 0)), (20, .one (.sl (.cons (.cons .str (.cons (.int .i64) (.cons (.int .i64) (.cons (.int .i64) (.int .i64))))) (.cons (.int .i64) (.cons (.int .i64) (.cons .bool (.cons .str (.cons (.int .i64) (.cons (.int .i64) (.cons (.int .i64) (.int .i64))))))))))), (21, .one (.int .i64)), (22, .one (.int .i64))], [.arr 54 (.cons (.int .i64) (.cons .str (.cons (.int .i64) (.int .i64)))) true, .boxr 37 (.cons (.cons .str (.cons (.int .i64) (.cons (.int .i64) (.cons (.int .i64) (.int .i64))))) (.cons (.int .i64) (.cons (.int .i64) (.cons .bool (.cons .str (.cons (.int .i64) (.cons (.int .i64) (.cons (.int .i64) (.int .i64)))))))))]⟩
def trig_Print_F16 : FSh := ⟨[(5, .one (.own 0)), (7, .one (.ptr 1 0)), (20, .one (.sl (.cons (.cons .str (.cons (.int .i64) (.cons (.int .i64) (.cons (.int .i64) (.int .i64))))) (.cons (.int .i64) (.cons (.int .i64) (.cons .bool (.cons .str (.cons (.int .i64) (.cons (.int .i64) (.cons (.int .i64) (.int .i64))))))))))), (21, .one (.int .i64)), (22, .one (.int .i64))], [.arr 54 (.cons (.int .i64) (.cons .str (.cons (.int .i64) (.int .i64)))) true, .boxr 37 (.cons (.cons .str (.cons (.int .i64) (.cons (.int .i64) (.cons (.int .i64) (.int .i64))))) (.cons (.int .i64) (.cons (.int .i64) (.cons .bool (.cons .str (.cons (.int .i64) (.cons (.int .i64) (.cons (.int .i64) (.int .i64)))))))))]⟩
def trig_Print_F18 : FSh := ⟨[(5, .one (.own 0)), (7, .one (.ptr 1 0)), (20, .one (.sl (.cons (.cons .str (.cons (.int .i64) (.cons (.int .i64) (.cons (.int .i64) (.int .i64))))) (.cons (.int .i64) (.cons (.int .i64) (.cons .bool (.cons .str (.cons (.int .i64) (.cons (.int .i64) (.cons (.int .i64) (.int .i64))))))))))), (21, .one (.int .i64)), (22, .one (.int .i64))], [.arr 54 (.cons (.int .i64) (.cons .str (.cons (.int .i64) (.int .i64)))) true, .boxr 37 (.cons (.cons .str (.cons (.int .i64) (.cons (.int .i64) (.cons (.int .i64) (.int .i64))))) (.cons (.int .i64) (.cons (.int .i64) (.cons .bool (.cons .str (.cons (.int .i64) (.cons (.int .i64) (.cons (.int .i64) (.int .i64)))))))))]⟩
def trig_Print_D : FD := ⟨T, lookC [(15, fc15), (16, fc16), (17, fc17), (18, fc18), (19, fc19), (20, fc20)], [18, 16, 13], (Tryz.f7.body.getD .skip), Tryz.f7.results.toList, ⟨[.row (.cons .str (.sl (.cons (.cons .str (.cons (.int .i64) (.cons (.int .i64) (.cons (.int .i64) (.int .i64))))) (.cons (.int .i64) (.cons (.int .i64) (.cons .bool (.cons .str (.cons (.int .i64) (.cons (.int .i64) (.cons (.int .i64) (.int .i64)))))))))))], []⟩, ⟨[.one .str, .one (.int .i64)], []⟩, [(8, trig_Print_F8), (13, trig_Print_F13), (16, trig_Print_F16), (18, trig_Print_F18)]⟩
def trig_Print_l8 (t20 : (List TTrigStep)) (t21 : Int) (t22 : Int) (l0 : (List TToken)) : (Option ((ByteArray × Int × Unit) × Unit)) := trig_Print_D.lab 8 trig_Print_F8 (((), t20, t21, t22, ()), (l0, ()))
def trig_Print_l13 (t20 : (List TTrigStep)) (t21 : Int) (t22 : Int) (l0 : (List TToken)) (h1 : TTrigStep) : (Option ((ByteArray × Int × Unit) × Unit)) := trig_Print_D.lab 13 trig_Print_F13 (((), (), t20, t21, t22, ()), (l0, h1, ()))
def trig_Print_l16 (t20 : (List TTrigStep)) (t21 : Int) (t22 : Int) (l0 : (List TToken)) (h1 : TTrigStep) : (Option ((ByteArray × Int × Unit) × Unit)) := trig_Print_D.lab 16 trig_Print_F16 (((), (), t20, t21, t22, ()), (l0, h1, ()))
def trig_Print_l18 (t20 : (List TTrigStep)) (t21 : Int) (t22 : Int) (l0 : (List TToken)) (h1 : TTrigStep) : (Option ((ByteArray × Int × Unit) × Unit)) := trig_Print_D.lab 18 trig_Print_F18 (((), (), t20, t21, t22, ()), (l0, h1, ()))
theorem trig_Print_l8_eq (t20 : (List TTrigStep)) (t21 : Int) (t22 : Int) (l0 : (List TToken)) : trig_Print_l8 t20 t21 t22 l0 =
  if (decide (t22 < t21)) = true then
    if 0 ≤ t22 ∧ t22 < (t20.length : Int) then
      if (decide (t22 > 0)) = true then
        (trig_mark (strB [59])).bind fun y1 =>
          if (l0.length + 1) * 40 ≤ 140737488355328 ∧ 0 < 40 then
            trig_Print_l13 t20 t21 t22 (l0 ++ [y1.1.1]) (t20.getD t22.toNat dTrigStep)
          else
            none
      else
        trig_Print_l13 t20 t21 t22 l0 (t20.getD t22.toNat dTrigStep)
    else
      none
  else
    (lex_Text l0).bind fun y2 =>
      some ((y2.1.1, y2.1.2.1, ()), ()) := (FD.lab_eq _ _ _ _).trans (by kernel_rfl)
theorem trig_Print_l13_eq (t20 : (List TTrigStep)) (t21 : Int) (t22 : Int) (l0 : (List TToken)) (h1 : TTrigStep) : trig_Print_l13 t20 t21 t22 l0 h1 =
  (trig_cond h1.1).bind fun y1 =>
    if (l0.length + y1.1.1.length) * 40 ≤ 140737488355328 ∧ 0 < 40 then
      if (decide (h1.2.1 > 1)) = true then
        (trig_name (strB [120])).bind fun y2 =>
          (trig_number h1.2.1).bind fun y3 =>
            if ((l0 ++ y1.1.1).length + 2) * 40 ≤ 140737488355328 ∧ 0 < 40 then
              trig_Print_l16 t20 t21 t22 ((l0 ++ y1.1.1) ++ [y2.1.1, y3.1.1]) h1
            else
              none
      else
        trig_Print_l16 t20 t21 t22 (l0 ++ y1.1.1) h1
    else
      none := (FD.lab_eq _ _ _ _).trans (by kernel_rfl)
theorem trig_Print_l16_eq (t20 : (List TTrigStep)) (t21 : Int) (t22 : Int) (l0 : (List TToken)) (h1 : TTrigStep) : trig_Print_l16 t20 t21 t22 l0 h1 =
  if (decide (h1.2.2.1 > 0)) = true then
    (trig_name (strB [119, 105, 116, 104, 105, 110])).bind fun y1 =>
      (trig_number h1.2.2.1).bind fun y2 =>
        if (l0.length + 2) * 40 ≤ 140737488355328 ∧ 0 < 40 then
          trig_Print_l18 t20 t21 t22 (l0 ++ [y1.1.1, y2.1.1]) h1
        else
          none
  else
    trig_Print_l18 t20 t21 t22 l0 h1 := (FD.lab_eq _ _ _ _).trans (by kernel_rfl)
theorem trig_Print_l18_eq (t20 : (List TTrigStep)) (t21 : Int) (t22 : Int) (l0 : (List TToken)) (h1 : TTrigStep) : trig_Print_l18 t20 t21 t22 l0 h1 =
  if h1.2.2.2.1 = true then
    (trig_name (strB [117, 110, 108, 101, 115, 115])).bind fun y1 =>
      if (l0.length + 1) * 40 ≤ 140737488355328 ∧ 0 < 40 then
        (trig_cond h1.2.2.2.2).bind fun y2 =>
          if ((l0 ++ [y1.1.1]).length + y2.1.1.length) * 40 ≤ 140737488355328 ∧ 0 < 40 then
            trig_Print_l8 t20 t21 (IntKind.i64.wrap (t22 + 1)) ((l0 ++ [y1.1.1]) ++ y2.1.1)
          else
            none
      else
        none
  else
    trig_Print_l8 t20 t21 (IntKind.i64.wrap (t22 + 1)) l0 := (FD.lab_eq _ _ _ _).trans (by kernel_rfl)
def trig_Print (t : TTrigger) : (Option ((ByteArray × Int × Unit) × Unit)) :=
  (trig_wrong t).bind fun y1 =>
    if (y1.1.1 != 0) = true then
      some (((strB []), y1.1.1, ()), ())
    else
      (trig_name (strB [116, 114, 105, 103, 103, 101, 114])).bind fun y2 =>
        (trig_name t.1).bind fun y3 =>
          (trig_mark (strB [58])).bind fun y4 =>
            trig_Print_l8 t.2 (t.2.length : Int) 0 [y2.1.1, y3.1.1, y4.1.1]
def fc7 : FC := ⟨⟨[.row (.cons .str (.sl (.cons (.cons .str (.cons (.int .i64) (.cons (.int .i64) (.cons (.int .i64) (.int .i64))))) (.cons (.int .i64) (.cons (.int .i64) (.cons .bool (.cons .str (.cons (.int .i64) (.cons (.int .i64) (.cons (.int .i64) (.int .i64)))))))))))], []⟩, ⟨[.one .str, .one (.int .i64)], []⟩, fun x => trig_Print x.1.1⟩
theorem con7 : Contract Tryz.prog 7 fc7 :=
  trig_Print_D.contract tok (cok_of (l := [(15, fc15), (16, fc16), (17, fc17), (18, fc18), (19, fc19), (20, fc20)]) ⟨con15, con16, con17, con18, con19, con20, trivial⟩) mixed (fn' := Tryz.f7) (by kernel_rfl) (by kernel_rfl) rfl (by kernel_rfl) (fun x => (FD.fn_eq _ _).trans (by kernel_rfl))
end
end Go.Proofs.YtgpgpelaabdkhaaGreatDoor
end

section
/-
YtgpgpelaabdkhaaGreatDoor: signalbench.trig.Parse, as one plain function, its equations, its contract. No condition.
-/
set_option maxRecDepth 100000
set_option linter.unusedVariables false
set_option maxHeartbeats 4000000
open Go Go.AM
namespace Go.Proofs.YtgpgpelaabdkhaaGreatDoor
noncomputable section
def trig_Parse_F11 : FSh := ⟨[(2, .one (.ptr 0 0)), (5, .one (.sl (.cons (.int .i64) (.cons .str (.cons (.int .i64) (.int .i64)))))), (8, .one (.ptr 1 0)), (9, .one (.ptr 2 0))], [.box 24 [.str, (.own 3)], .boxr 65 (.cons (.sl (.cons (.int .i64) (.cons .str (.cons (.int .i64) (.int .i64))))) (.cons (.int .i64) .bool)), .box 24 [.str, (.own 4)], .arr 37 (.cons (.cons .str (.cons (.int .i64) (.cons (.int .i64) (.cons (.int .i64) (.int .i64))))) (.cons (.int .i64) (.cons (.int .i64) (.cons .bool (.cons .str (.cons (.int .i64) (.cons (.int .i64) (.cons (.int .i64) (.int .i64))))))))) true, .arr 37 (.cons (.cons .str (.cons (.int .i64) (.cons (.int .i64) (.cons (.int .i64) (.int .i64))))) (.cons (.int .i64) (.cons (.int .i64) (.cons .bool (.cons .str (.cons (.int .i64) (.cons (.int .i64) (.cons (.int .i64) (.int .i64))))))))) true]⟩
def trig_Parse_D : FD := ⟨T, lookC [(15, fc15), (24, fc24), (25, fc25), (26, fc26), (27, fc27)], [], (Tryz.f9.body.getD .skip), Tryz.f9.results.toList, ⟨[.one .str], []⟩, ⟨[.row (.cons .str (.sl (.cons (.cons .str (.cons (.int .i64) (.cons (.int .i64) (.cons (.int .i64) (.int .i64))))) (.cons (.int .i64) (.cons (.int .i64) (.cons .bool (.cons .str (.cons (.int .i64) (.cons (.int .i64) (.cons (.int .i64) (.int .i64))))))))))), .one (.int .i64), .one (.int .i64)], []⟩, [(11, trig_Parse_F11)]⟩
def trig_Parse_l11 (l : (List TToken)) (h0_0 : ByteArray) (h1 : Treader) (h2_0 : ByteArray) (l3 : (List TTrigStep)) (l4 : (List TTrigStep)) : (Option ((TTrigger × Int × Int × Unit) × Unit)) := trig_Parse_D.lab 11 trig_Parse_F11 (((), l, (), (), ()), ((h0_0, (), ()), h1, (h2_0, (), ()), l3, l4, ()))
theorem trig_Parse_l11_eq (l : (List TToken)) (h0_0 : ByteArray) (h1 : Treader) (h2_0 : ByteArray) (l3 : (List TTrigStep)) (l4 : (List TTrigStep)) : trig_Parse_l11 l h0_0 h1 h2_0 l3 l4 =
  if (!h1.2.2) = true then
    if (decide (h1.2.1 < (l.length : Int))) = true then
      (trig_reader_want 4 (strB [59]) h1).bind fun y1 =>
        (trig_reader_step y1.2.1).bind fun y2 =>
          if (l4.length + 1) * 120 ≤ 140737488355328 ∧ 0 < 120 then
            trig_Parse_l11 l h0_0 y2.2.1 h2_0 l3 (l4 ++ [y2.1.1])
          else
            none
    else
      if h1.2.2 = true then
        if ((l.length : Int) == 0) = true then
          some ((((strB []), []), 1, 4, ()), ())
        else
          if (decide (h1.2.1 ≥ (l.length : Int))) = true then
            if 0 ≤ IntKind.i64.wrap ((l.length : Int) - 1) ∧ IntKind.i64.wrap ((l.length : Int) - 1) < (l.length : Int) then
              some ((((strB []), []), (l.getD (IntKind.i64.wrap ((l.length : Int) - 1)).toNat dToken).2.2.2, 4, ()), ())
            else
              none
          else
            if 0 ≤ h1.2.1 ∧ h1.2.1 < (l.length : Int) then
              some ((((strB []), []), (l.getD h1.2.1.toNat dToken).2.2.2, 4, ()), ())
            else
              none
      else
        (trig_wrong (h2_0, l4)).bind fun y3 =>
          if (y3.1.1 != 0) = true then
            some ((((strB []), []), 0, y3.1.1, ()), ())
          else
            some (((h2_0, l4), 0, 0, ()), ())
  else
    if h1.2.2 = true then
      if ((l.length : Int) == 0) = true then
        some ((((strB []), []), 1, 4, ()), ())
      else
        if (decide (h1.2.1 ≥ (l.length : Int))) = true then
          if 0 ≤ IntKind.i64.wrap ((l.length : Int) - 1) ∧ IntKind.i64.wrap ((l.length : Int) - 1) < (l.length : Int) then
            some ((((strB []), []), (l.getD (IntKind.i64.wrap ((l.length : Int) - 1)).toNat dToken).2.2.2, 4, ()), ())
          else
            none
        else
          if 0 ≤ h1.2.1 ∧ h1.2.1 < (l.length : Int) then
            some ((((strB []), []), (l.getD h1.2.1.toNat dToken).2.2.2, 4, ()), ())
          else
            none
    else
      (trig_wrong (h2_0, l4)).bind fun y4 =>
        if (y4.1.1 != 0) = true then
          some ((((strB []), []), 0, y4.1.1, ()), ())
        else
          some (((h2_0, l4), 0, 0, ()), ()) := (FD.lab_eq _ _ _ _).trans (by kernel_rfl)
def trig_Parse (s : ByteArray) : (Option ((TTrigger × Int × Int × Unit) × Unit)) :=
  (lex_Tokens s).bind fun y1 =>
    if (y1.1.2.2.1 != 0) = true then
      some ((((strB []), []), y1.1.2.1, y1.1.2.2.1, ()), ())
    else
      (trig_reader_want 1 (strB [116, 114, 105, 103, 103, 101, 114]) (y1.1.1, 0, false)).bind fun y2 =>
        (trig_reader_take 1 y2.2.1).bind fun y3 =>
          (trig_reader_want 4 (strB [58]) y3.2.1).bind fun y4 =>
            (trig_reader_step y4.2.1).bind fun y5 =>
              trig_Parse_l11 y1.1.1 (strB []) y5.2.1 y3.1.1.2.1 [] [y5.1.1]
def fc9 : FC := ⟨⟨[.one .str], []⟩, ⟨[.row (.cons .str (.sl (.cons (.cons .str (.cons (.int .i64) (.cons (.int .i64) (.cons (.int .i64) (.int .i64))))) (.cons (.int .i64) (.cons (.int .i64) (.cons .bool (.cons .str (.cons (.int .i64) (.cons (.int .i64) (.cons (.int .i64) (.int .i64))))))))))), .one (.int .i64), .one (.int .i64)], []⟩, fun x => trig_Parse x.1.1⟩
theorem con9 : Contract Tryz.prog 9 fc9 :=
  trig_Parse_D.contract tok (cok_of (l := [(15, fc15), (24, fc24), (25, fc25), (26, fc26), (27, fc27)]) ⟨con15, con24, con25, con26, con27, trivial⟩) mixed (fn' := Tryz.f9) (by kernel_rfl) (by kernel_rfl) rfl (by kernel_rfl) (fun x => (FD.fn_eq _ _).trans (by kernel_rfl))
end
end Go.Proofs.YtgpgpelaabdkhaaGreatDoor
end

section
/-
YtgpgpelaabdkhaaGreatDoor: signalbench.signalbenchlaw43.awake, as one plain function, its equations, its contract. No condition.
-/
set_option maxRecDepth 100000
set_option linter.unusedVariables false
set_option maxHeartbeats 4000000
open Go Go.AM
namespace Go.Proofs.YtgpgpelaabdkhaaGreatDoor
noncomputable section
def law43_awake_D : FD := ⟨T, lookC [(7, fc7), (9, fc9), (11, fc11), (13, fc13), (14, fc14)], [], (Tryz.f6.body.getD .skip), Tryz.f6.results.toList, ⟨[], []⟩, ⟨[.one .bool], []⟩, []⟩
def law43_awake : (Option ((Bool × Unit) × Unit)) :=
  (trig_Print ((strB [116]), [(((strB [117]), 3, 1, 1, 85), 2, 100, false, (strB []), 0, 0, 0, 0)])).bind fun y1 =>
    (trig_Parse y1.1.1).bind fun y2 =>
      (trig_Parse (strB [116, 114, 105, 103, 103, 101, 114, 32, 116, 58, 32, 117, 46, 98, 121, 116, 101, 32, 118, 97, 108, 117, 101])).bind fun y3 =>
        if (y1.1.2.1 != 0) = true then
          some ((false, ()), ())
        else
          if (y2.1.2.2.1 != 0) = true then
            some ((false, ()), ())
          else
            if (y3.1.2.2.1 != 4) = true then
              some ((false, ()), ())
            else
              if (y2.1.2.1 != 0) = true then
                some ((false, ()), ())
              else
                if (y3.1.2.1 != 1) = true then
                  some ((false, ()), ())
                else
                  (trig_Check ((strB [116]), [(((strB [117]), 3, 1, 1, 85), 2, 100, false, (strB []), 0, 0, 0, 0)]) ([], [((strB [117]), (strB [117, 97, 114, 116]), [], [])])).bind fun y4 =>
                    if (y4.1.1 != 0) = true then
                      some ((false, ()), ())
                    else
                      (trig_Check ((strB [116]), [(((strB [117]), 3, 1, 1, 85), 2, 100, false, (strB []), 0, 0, 0, 0)]) ([], [])).bind fun y5 =>
                        if (y5.1.1 != 8) = true then
                          some ((false, ()), ())
                        else
                          if (y1.1.1.toList == (strB [116, 114, 105, 103, 103, 101, 114, 32, 116, 32, 58, 32, 117, 32, 46, 32, 98, 121, 116, 101, 32, 118, 97, 108, 117, 101, 32, 61, 32, 56, 53, 32, 120, 32, 50, 32, 119, 105, 116, 104, 105, 110, 32, 49, 48, 48]).toList) = true then
                            (ref43_Same y2.1.1 ((strB [116]), [(((strB [117]), 3, 1, 1, 85), 2, 100, false, (strB []), 0, 0, 0, 0)])).bind fun y6 =>
                              if y6.1.1 = true then
                                (trig_Holds ((strB [117]), 3, 1, 1, 85) ([], [((strB [117]), (strB [117, 97, 114, 116]), [], [])]) (0, 9, 3, 0, 9, 85, 0, (strB []), 0)).bind fun y7 =>
                                  if y7.1.1 = true then
                                    (trig_Holds ((strB [117]), 3, 1, 1, 85) ([], [((strB [117]), (strB [117, 97, 114, 116]), [], [])]) (1, 9, 3, 0, 9, 85, 0, (strB []), 0)).bind fun y8 =>
                                      some ((!y8.1.1, ()), ())
                                  else
                                    some ((false, ()), ())
                              else
                                some ((false, ()), ())
                          else
                            some ((false, ()), ())
def fc6 : FC := ⟨⟨[], []⟩, ⟨[.one .bool], []⟩, fun x => law43_awake⟩
theorem con6 : Contract Tryz.prog 6 fc6 :=
  law43_awake_D.contract tok (cok_of (l := [(7, fc7), (9, fc9), (11, fc11), (13, fc13), (14, fc14)]) ⟨con7, con9, con11, con13, con14, trivial⟩) mixed (fn' := Tryz.f6) (by kernel_rfl) (by kernel_rfl) rfl (by kernel_rfl) (fun x => (FD.fn_eq _ _).trans (by kernel_rfl))
end
end Go.Proofs.YtgpgpelaabdkhaaGreatDoor
end

section
/-
YtgpgpelaabdkhaaGreatDoor: signalbench.signalbenchref43.Print, as one plain function, its equations, its contract. No condition.
-/
set_option maxRecDepth 100000
set_option linter.unusedVariables false
set_option maxHeartbeats 4000000
open Go Go.AM
namespace Go.Proofs.YtgpgpelaabdkhaaGreatDoor
noncomputable section
def ref43_Print_D : FD := ⟨T, lookC [(21, fc21), (22, fc22), (23, fc23)], [], (Tryz.f8.body.getD .skip), Tryz.f8.results.toList, ⟨[.row (.cons .str (.sl (.cons (.cons .str (.cons (.int .i64) (.cons (.int .i64) (.cons (.int .i64) (.int .i64))))) (.cons (.int .i64) (.cons (.int .i64) (.cons .bool (.cons .str (.cons (.int .i64) (.cons (.int .i64) (.cons (.int .i64) (.int .i64)))))))))))], []⟩, ⟨[.one .str, .one (.int .i64)], []⟩, []⟩
def ref43_Print (t : TTrigger) : (Option ((ByteArray × Int × Unit) × Unit)) :=
  (ref43_wrong t).bind fun y1 =>
    if (y1.1.1 != 0) = true then
      some (((strB []), y1.1.1, ()), ())
    else
      (ref43_Tokens t).bind fun y2 =>
        (ref05_Text y2.1.1).bind fun y3 =>
          some ((y3.1.1, y3.1.2.1, ()), ())
def fc8 : FC := ⟨⟨[.row (.cons .str (.sl (.cons (.cons .str (.cons (.int .i64) (.cons (.int .i64) (.cons (.int .i64) (.int .i64))))) (.cons (.int .i64) (.cons (.int .i64) (.cons .bool (.cons .str (.cons (.int .i64) (.cons (.int .i64) (.cons (.int .i64) (.int .i64)))))))))))], []⟩, ⟨[.one .str, .one (.int .i64)], []⟩, fun x => ref43_Print x.1.1⟩
theorem con8 : Contract Tryz.prog 8 fc8 :=
  ref43_Print_D.contract tok (cok_of (l := [(21, fc21), (22, fc22), (23, fc23)]) ⟨con21, con22, con23, trivial⟩) mixed (fn' := Tryz.f8) (by kernel_rfl) (by kernel_rfl) rfl (by kernel_rfl) (fun x => (FD.fn_eq _ _).trans (by kernel_rfl))
end
end Go.Proofs.YtgpgpelaabdkhaaGreatDoor
end

section
/-
YtgpgpelaabdkhaaGreatDoor: signalbench.signalbenchlaw43.TrigPrints, as one plain function, its equations, its contract. No condition.
-/
set_option maxRecDepth 100000
set_option linter.unusedVariables false
set_option maxHeartbeats 4000000
open Go Go.AM
namespace Go.Proofs.YtgpgpelaabdkhaaGreatDoor
noncomputable section
def law43_TrigPrints_D : FD := ⟨T, lookC [(5, fc5), (6, fc6), (7, fc7), (8, fc8)], [], (Tryz.f3.body.getD .skip), Tryz.f3.results.toList, ⟨[.row (.cons .str (.sl (.cons (.cons .str (.cons (.int .i64) (.cons (.int .i64) (.cons (.int .i64) (.int .i64))))) (.cons (.int .i64) (.cons (.int .i64) (.cons .bool (.cons .str (.cons (.int .i64) (.cons (.int .i64) (.cons (.int .i64) (.int .i64)))))))))))], []⟩, ⟨[.one .bool], []⟩, []⟩
def law43_TrigPrints (t : TTrigger) : (Option ((Bool × Unit) × Unit)) :=
  (law43_small t).bind fun y1 =>
    if (!y1.1.1) = true then
      (law43_awake).bind fun y2 =>
        some ((y2.1.1, ()), ())
    else
      (trig_Print t).bind fun y3 =>
        (ref43_Print t).bind fun y4 =>
          if (y3.1.1.toList == y4.1.1.toList) = true then
            if (y3.1.2.1 == y4.1.2.1) = true then
              (law43_awake).bind fun y5 =>
                some ((y5.1.1, ()), ())
            else
              some ((false, ()), ())
          else
            some ((false, ()), ())
def fc3 : FC := ⟨⟨[.row (.cons .str (.sl (.cons (.cons .str (.cons (.int .i64) (.cons (.int .i64) (.cons (.int .i64) (.int .i64))))) (.cons (.int .i64) (.cons (.int .i64) (.cons .bool (.cons .str (.cons (.int .i64) (.cons (.int .i64) (.cons (.int .i64) (.int .i64)))))))))))], []⟩, ⟨[.one .bool], []⟩, fun x => law43_TrigPrints x.1.1⟩
theorem con3 : Contract Tryz.prog 3 fc3 :=
  law43_TrigPrints_D.contract tok (cok_of (l := [(5, fc5), (6, fc6), (7, fc7), (8, fc8)]) ⟨con5, con6, con7, con8, trivial⟩) mixed (fn' := Tryz.f3) (by kernel_rfl) (by kernel_rfl) rfl (by kernel_rfl) (fun x => (FD.fn_eq _ _).trans (by kernel_rfl))
end
end Go.Proofs.YtgpgpelaabdkhaaGreatDoor
end

section
/-
YtgpgpelaabdkhaaGreatDoor: signalbench.signalbenchlaw43.TrigParses, as one plain function, its equations, its contract. No condition.
-/
set_option maxRecDepth 100000
set_option linter.unusedVariables false
set_option maxHeartbeats 4000000
open Go Go.AM
namespace Go.Proofs.YtgpgpelaabdkhaaGreatDoor
noncomputable section
def law43_TrigParses_D : FD := ⟨T, lookC [(6, fc6), (9, fc9), (10, fc10), (11, fc11)], [], (Tryz.f4.body.getD .skip), Tryz.f4.results.toList, ⟨[.one .str], []⟩, ⟨[.one .bool], []⟩, []⟩
def law43_TrigParses (s : ByteArray) : (Option ((Bool × Unit) × Unit)) :=
  if (decide ((s.size : Int) > 500)) = true then
    (law43_awake).bind fun y1 =>
      some ((y1.1.1, ()), ())
  else
    (trig_Parse s).bind fun y2 =>
      (ref43_Parse s).bind fun y3 =>
        (ref43_Same y2.1.1 y3.1.1).bind fun y4 =>
          if y4.1.1 = true then
            if (y2.1.2.1 == y3.1.2.1) = true then
              if (y2.1.2.2.1 == y3.1.2.2.1) = true then
                (law43_awake).bind fun y5 =>
                  some ((y5.1.1, ()), ())
              else
                some ((false, ()), ())
            else
              some ((false, ()), ())
          else
            some ((false, ()), ())
def fc4 : FC := ⟨⟨[.one .str], []⟩, ⟨[.one .bool], []⟩, fun x => law43_TrigParses x.1.1⟩
theorem con4 : Contract Tryz.prog 4 fc4 :=
  law43_TrigParses_D.contract tok (cok_of (l := [(6, fc6), (9, fc9), (10, fc10), (11, fc11)]) ⟨con6, con9, con10, con11, trivial⟩) mixed (fn' := Tryz.f4) (by kernel_rfl) (by kernel_rfl) rfl (by kernel_rfl) (fun x => (FD.fn_eq _ _).trans (by kernel_rfl))
end
end Go.Proofs.YtgpgpelaabdkhaaGreatDoor
end

section
/-
YtgpgpelaabdkhaaGreatDoor: the plain functions of names and numbers come to what they should. No condition.
-/
set_option maxRecDepth 100000
open Go Go.AM
namespace Go.Proofs.YtgpgpelaabdkhaaGreatDoor

theorem lex_letter_b (c : UInt8) : lex_letter c.toNat = some ((letterB c, ()), ()) := by
  unfold lex_letter letterB
  by_cases h : 97 ≤ c.toNat
  · rw [if_pos (decide_eq_true (by omega)), decide_eq_true h, Bool.true_and]
    by_cases h2 : c.toNat ≤ 122
    · rw [decide_eq_true h2, decide_eq_true (by omega)]
    · rw [decide_eq_false h2, decide_eq_false (by omega)]
  · rw [if_neg (dF (by omega)), decide_eq_false h, Bool.false_and]

theorem lex_digit_b (c : UInt8) : lex_digit c.toNat = some ((digitB c, ()), ()) := by
  unfold lex_digit digitB
  by_cases h : 48 ≤ c.toNat
  · rw [if_pos (decide_eq_true (by omega)), decide_eq_true h, Bool.true_and]
    by_cases h2 : c.toNat ≤ 57
    · rw [decide_eq_true h2, decide_eq_true (by omega)]
    · rw [decide_eq_false h2, decide_eq_false (by omega)]
  · rw [if_neg (dF (by omega)), decide_eq_false h, Bool.false_and]

theorem int_beq (c d : UInt8) : ((c.toNat : Int) == (d.toNat : Int)) = (c == d) := by
  rw [Bool.eq_iff_iff, beq_iff_eq, beq_iff_eq, u8_eq]

theorem lex_word_b (c : UInt8) : lex_word c.toNat = some ((wordB c, ()), ()) := by
  unfold lex_word wordB
  rw [lex_letter_b, lex_digit_b]
  have := int_beq c 95
  cases letterB c <;> cases digitB c <;> simp <;> exact this

theorem ref05_letter_b (c : UInt8) : ref05_letter c.toNat = some ((letterB c, ()), ()) := lex_letter_b c
theorem ref05_digit_b (c : UInt8) : ref05_digit c.toNat = some ((digitB c, ()), ()) := lex_digit_b c
theorem ref05_inner_b (c : UInt8) : ref05_inner c.toNat = some ((wordB c, ()), ()) := lex_word_b c

theorem lex_hex_b (c : UInt8) : lex_hex c.toNat = some ((hexI c, ()), ()) := by
  have hc := c.toNat_lt
  unfold lex_hex hexI hexv
  by_cases h : 48 ≤ c.toNat ∧ c.toNat ≤ 57
  · rw [if_pos (decide_eq_true (by omega)), if_pos (decide_eq_true (by omega)), if_pos h, w8 (by omega) (by omega), w64 (by omega) (by omega)]
    simp only [Option.some.injEq, Prod.mk.injEq, and_true]; omega
  · rw [if_neg h]
    by_cases h2 : 97 ≤ c.toNat ∧ c.toNat ≤ 102
    · have e1 : IntKind.u8.wrap ((c.toNat : Int) - 97) = c.toNat - 97 := w8 (by omega) (by omega)
      have e2 : IntKind.i64.wrap ((c.toNat : Int) - 97) = c.toNat - 97 := w64 (by omega) (by omega)
      have e3 : IntKind.i64.wrap ((c.toNat : Int) - 97 + 10) = c.toNat - 97 + 10 := w64 (by omega) (by omega)
      rw [if_pos (decide_eq_true (by omega)), if_neg (dF (by omega)), if_pos (decide_eq_true (by omega)), if_pos (decide_eq_true (by omega)), if_pos h2, e1, e2, e3]
      simp only [Option.some.injEq, Prod.mk.injEq, and_true]; omega
    · rw [if_neg h2]
      simp only [decide_eq_true_eq]
      repeat' split
      all_goals first | rfl | (exfalso; omega)

theorem ref05_hexa_b (c : UInt8) : ref05_hexa c.toNat = some ((hexI c, ()), ()) := by
  have hc := c.toNat_lt
  unfold ref05_hexa
  rw [ref05_digit_b]
  simp only [Option.bind_some]
  unfold hexI hexv digitB
  by_cases h : 48 ≤ c.toNat ∧ c.toNat ≤ 57
  · rw [if_pos (by simp; omega), if_pos h, w64 (x := (c.toNat : Int)) (by omega) (by omega), w64 (by omega) (by omega)]
    simp only [Option.some.injEq, Prod.mk.injEq, and_true]; omega
  · rw [if_neg h, if_neg (by simp; omega)]
    by_cases h2 : 97 ≤ c.toNat ∧ c.toNat ≤ 102
    · have e1 : IntKind.i64.wrap (c.toNat : Int) = c.toNat := w64 (by omega) (by omega)
      have e2 : IntKind.i64.wrap ((c.toNat : Int) - 97) = c.toNat - 97 := w64 (by omega) (by omega)
      have e3 : IntKind.i64.wrap ((c.toNat : Int) - 97 + 10) = c.toNat - 97 + 10 := w64 (by omega) (by omega)
      rw [if_pos (decide_eq_true (by omega)), if_pos (decide_eq_true (by omega)), if_pos h2, e1, e2, e3]
      simp only [Option.some.injEq, Prod.mk.injEq, and_true]; omega
    · rw [if_neg h2]
      simp only [decide_eq_true_eq]
      repeat' split
      all_goals first | rfl | (exfalso; omega)

theorem hasPrefix_b (s p : ByteArray) : strings_HasPrefix s p = some ((decide (L s = L p ++ (L s).drop (L p).length), ()), ()) := by
  unfold strings_HasPrefix stringslite_HasPrefix
  by_cases h : p.size ≤ s.size
  · rw [if_pos (decide_eq_true (by omega)), if_pos ⟨by omega, by omega, by omega⟩]
    simp only [Option.bind_some, Option.some.injEq, Prod.mk.injEq, and_true]
    rw [Bool.eq_iff_iff, beq_iff_eq, decide_eq_true_eq, toL, toL, L_ext]
    simp only [Int.toNat_natCast, List.drop_zero]
    rw [← L_len p]
    constructor
    · intro e
      conv => lhs; rw [← List.take_append_drop (L p).length (L s), e]
    · intro e
      rw [e, List.take_left]
  · rw [if_neg (dF (by omega))]
    simp only [Option.bind_some, Option.some.injEq, Prod.mk.injEq, and_true]
    symm
    rw [decide_eq_false_iff_not]
    intro e
    have := congrArg List.length e
    simp only [List.length_append, L_len] at this
    omega

theorem lex_Name_loop (s : ByteArray) (hs : s.size ≤ 4611686018427387904) : ∀ (r : List UInt8) (n : Nat), (L s).drop n = r → lex_Name_l6 s s.size n = some ((r.all wordB, ()), ())
  | [], n, h => by
    have := drop_nil h
    rw [L_len] at this
    rw [lex_Name_l6_eq, if_neg (dF (by omega))]
    rfl
  | c :: r, n, h => by
    have h1 := drop_lt h
    rw [L_len] at h1
    rw [lex_Name_l6_eq, if_pos (decide_eq_true (by omega)), if_pos ⟨by omega, by omega⟩, bt_drop h, w32c, lex_word_b]
    simp only [Option.bind_some, List.all_cons]
    cases hw : wordB c
    · rfl
    · simp only [Bool.not_true, Bool.false_eq_true, if_false, Bool.true_and]
      rw [w64 (by omega) (by omega)]
      exact lex_Name_loop s hs r (n + 1) (drop_succ h)

theorem ref05_Name_loop (s : ByteArray) (hs : s.size ≤ 4611686018427387904) : ∀ (r : List UInt8) (n : Nat), (L s).drop n = r → ref05_Name_l6 s n = some ((r.all wordB, ()), ())
  | [], n, h => by
    have := drop_nil h
    rw [L_len] at this
    rw [ref05_Name_l6_eq, if_neg (dF (by omega))]
    rfl
  | c :: r, n, h => by
    have h1 := drop_lt h
    rw [L_len] at h1
    rw [ref05_Name_l6_eq, if_pos (decide_eq_true (by omega)), if_pos ⟨by omega, by omega⟩, bt_drop h, ref05_inner_b]
    simp only [Option.bind_some, List.all_cons]
    cases hw : wordB c
    · rfl
    · simp only [Bool.not_true, Bool.false_eq_true, if_false, Bool.true_and]
      rw [w64 (by omega) (by omega)]
      exact ref05_Name_loop s hs r (n + 1) (drop_succ h)

theorem lex_Name_b (s : ByteArray) : lex_Name s = some ((nameB (L s), ()), ()) := by
  unfold lex_Name
  have hl := L_len s
  cases hL : L s with
  | nil => rw [if_pos (by rw [toL, toL, hL, L_strB]; rfl)]; rfl
  | cons c r =>
    rw [hL] at hl
    simp only [List.length_cons] at hl
    rw [if_neg (by rw [toL, toL, hL, L_strB]; simp)]
    rw [nameB_cons]
    by_cases h : s.size ≤ 16
    · rw [if_neg (dF (by omega)), if_pos ⟨by omega, by omega⟩, bt_cons hL, w32c, lex_letter_b, decide_eq_true (by omega : r.length + 1 ≤ 16)]
      simp only [Option.bind_some, Bool.true_and]
      cases letterB c
      · rfl
      · simp only [Bool.not_true, Bool.false_eq_true, if_false, Bool.true_and]
        exact lex_Name_loop s (by omega) (c :: r) 0 (by rw [hL]; rfl)
    · rw [if_pos (decide_eq_true (by omega)), decide_eq_false (by omega : ¬ r.length + 1 ≤ 16)]
      rfl

theorem ref05_Name_b (s : ByteArray) : ref05_Name s = some ((nameB (L s), ()), ()) := by
  unfold ref05_Name
  have hl := L_len s
  cases hL : L s with
  | nil =>
    rw [hL] at hl
    simp only [List.length_nil] at hl
    rw [if_pos (decide_eq_true (by omega))]; rfl
  | cons c r =>
    rw [hL] at hl
    simp only [List.length_cons] at hl
    rw [if_neg (dF (by omega))]
    rw [nameB_cons]
    by_cases h : s.size ≤ 16
    · rw [if_neg (dF (by omega)), if_pos ⟨by omega, by omega⟩, bt_cons hL, ref05_letter_b, decide_eq_true (by omega : r.length + 1 ≤ 16)]
      simp only [Option.bind_some, Bool.true_and]
      cases letterB c
      · rfl
      · simp only [Bool.not_true, Bool.false_eq_true, if_false, Bool.true_and]
        exact ref05_Name_loop s (by omega) (c :: r) 0 (by rw [hL]; rfl)
    · rw [if_pos (decide_eq_true (by omega)), decide_eq_false (by omega : ¬ r.length + 1 ≤ 16)]
      rfl

theorem hexI_cases (c : UInt8) : (hexv c = none ∧ hexI c = -1) ∨ ∃ d : Nat, hexv c = some d ∧ hexI c = d ∧ d < 16 := by
  unfold hexI
  cases h : hexv c with
  | none => exact .inl ⟨rfl, rfl⟩
  | some d => exact .inr ⟨d, rfl, rfl, hexv_lt h⟩

/-- What the loop over the digits comes to. -/
def numEnd (minus : Bool) : Option Nat → Int × Int
  | none => (0, 4)
  | some n => if n > 9007199254740992 then (0, 2) else (if minus = true then -(n : Int) else n, 0)

theorem lex_Number_loop (s : ByteArray) (hs : s.size ≤ 4611686018427387904) (minus : Bool) (base : Nat) (hb : base ≤ 16) : ∀ (r : List UInt8) (i n : Nat), (L s).drop i = r → n ≤ 9007199254740993 →
    lex_Number_l13 s minus base n s.size i = some (((numEnd minus (digs base r n)).1, (numEnd minus (digs base r n)).2, ()), ())
  | [], i, n, h, hn => by
    have := drop_nil h
    rw [L_len] at this
    rw [lex_Number_l13_eq, if_neg (dF (by omega))]
    simp only [digs, numEnd]
    by_cases h2 : n > 9007199254740992
    · rw [if_pos (decide_eq_true (by omega)), if_pos h2]
    · rw [if_neg (dF (by omega)), if_neg h2]
      cases minus
      · rfl
      · simp only [if_true, Option.some.injEq, Prod.mk.injEq, and_true]
        rw [w64 (by omega) (by omega)]; omega
  | c :: r, i, n, h, hn => by
    have h1 := drop_lt h
    rw [L_len] at h1
    rw [lex_Number_l13_eq, if_pos (decide_eq_true (by omega)), if_pos ⟨by omega, by omega⟩, bt_drop h, lex_hex_b]
    simp only [Option.bind_some, digs]
    rcases hexI_cases c with ⟨e1, e2⟩ | ⟨d, e1, e2, e3⟩
    · rw [e1, e2, if_pos (by decide)]
      try rfl
    · rw [e1, e2, if_neg (dF (by omega))]
      simp only
      by_cases hd : d < base
      · rw [if_neg (dF (by omega)), if_pos hd]
        have b1 : base * n ≤ 16 * 9007199254740993 := Nat.mul_le_mul hb hn
        have e4 : IntKind.i64.wrap ((base : Int) * n) = ((base * n : Nat) : Int) := by rw [← Int.natCast_mul, w64 (by omega) (by omega)]
        have e5 : IntKind.i64.wrap (((base * n : Nat) : Int) + d) = ((base * n + d : Nat) : Int) := by rw [w64 (by omega) (by omega)]; omega
        have e6 : IntKind.i64.wrap ((i : Int) + 1) = ((i + 1 : Nat) : Int) := by rw [w64 (by omega) (by omega)]; omega
        rw [e4, e5, e6, show (if (9007199254740993 : Int) < ((base * n + d : Nat) : Int) then (9007199254740993 : Int) else ((base * n + d : Nat) : Int)) = ((min (base * n + d) 9007199254740993 : Nat) : Int) by
          split <;> omega]
        exact lex_Number_loop s hs minus base hb r (i + 1) _ (drop_succ h) (by omega)
      · rw [if_pos (decide_eq_true (by omega)), if_neg hd]
        try rfl

theorem ref05_plain_loop (s : ByteArray) (hs : s.size ≤ 4611686018427387904) (base : Nat) (hb : base ≤ 16) : ∀ (r : List UInt8) (i n : Nat), (L s).drop i = r → n ≤ 9007199254740993 →
    ref05_plain_l7 s base n i = some ((match digs base r n with | some m => ((m : Int), true, ()) | none => (0, false, ())), ())
  | [], i, n, h, hn => by
    have := drop_nil h
    rw [L_len] at this
    rw [ref05_plain_l7_eq, if_neg (dF (by omega))]
    rfl
  | c :: r, i, n, h, hn => by
    have h1 := drop_lt h
    rw [L_len] at h1
    rw [ref05_plain_l7_eq, if_pos (decide_eq_true (by omega)), if_pos ⟨by omega, by omega⟩, bt_drop h, ref05_hexa_b]
    simp only [Option.bind_some, digs]
    rcases hexI_cases c with ⟨e1, e2⟩ | ⟨d, e1, e2, e3⟩
    · rw [e1, e2, if_pos (by decide)]
    · rw [e1, e2, if_neg (dF (by omega))]
      simp only
      by_cases hd : d < base
      · rw [if_neg (dF (by omega)), if_pos hd]
        have b1 : base * n ≤ 16 * 9007199254740993 := Nat.mul_le_mul hb hn
        have e4 : IntKind.i64.wrap ((n : Int) * base) = ((base * n : Nat) : Int) := by rw [show (n : Int) * base = ((base * n : Nat) : Int) by rw [Int.natCast_mul, Int.mul_comm], w64 (by omega) (by omega)]
        have e5 : IntKind.i64.wrap (((base * n : Nat) : Int) + d) = ((base * n + d : Nat) : Int) := by rw [w64 (by omega) (by omega)]; omega
        have e6 : IntKind.i64.wrap ((i : Int) + 1) = ((i + 1 : Nat) : Int) := by rw [w64 (by omega) (by omega)]; omega
        rw [e4, e5, e6]
        by_cases h7 : base * n + d > 9007199254740992
        · rw [if_pos (decide_eq_true (by omega)), show min (base * n + d) 9007199254740993 = 9007199254740993 by omega]
          exact ref05_plain_loop s hs base hb r (i + 1) 9007199254740993 (drop_succ h) (by omega)
        · rw [if_neg (dF (by omega)), show min (base * n + d) 9007199254740993 = base * n + d by omega]
          exact ref05_plain_loop s hs base hb r (i + 1) _ (drop_succ h) (by omega)
      · rw [if_pos (decide_eq_true (by omega)), if_neg hd]

theorem ref05_plain_b (s : ByteArray) (hs : s.size ≤ 4611686018427387904) (base : Nat) (hb : base ≤ 16) : ref05_plain s base = some ((match natV (L s) base with | some m => ((m : Int), true, ()) | none => (0, false, ())), ()) := by
  unfold ref05_plain
  have hl := L_len s
  cases hL : L s with
  | nil =>
    rw [hL] at hl
    simp only [List.length_nil] at hl
    rw [if_pos (by rw [beq_iff_eq]; omega)]
    rfl
  | cons c r =>
    rw [hL] at hl
    simp only [List.length_cons] at hl
    rw [if_neg (eF (by omega))]
    have hc := int_beq c 48
    simp only [natV]
    by_cases h1 : r = []
    · subst h1
      have hl' : s.size = 1 := hl.symm
      rw [if_neg (dF (by omega)), if_neg (by simp)]
      exact ref05_plain_loop s hs base hb [c] 0 0 (by rw [hL]; rfl) (by omega)
    · have : 0 < r.length := List.length_pos_iff.2 h1
      rw [if_pos (decide_eq_true (by omega)), if_pos ⟨by omega, by omega⟩, bt_cons hL]
      by_cases h2 : c = 48
      · rw [if_pos (by rw [h2]; rfl), if_pos ⟨h2, h1⟩]
      · rw [if_neg (by rw [show ((c.toNat : Int) == 48) = _ from hc]; simpa using h2), if_neg (by simp [h2])]
        exact ref05_plain_loop s hs base hb (c :: r) 0 0 (by rw [hL]; rfl) (by omega)

end Go.Proofs.YtgpgpelaabdkhaaGreatDoor
end

section
/-
YtgpgpelaabdkhaaGreatDoor: the plain functions of numbers and quoted strings come to what they should. No condition.
-/
set_option maxRecDepth 100000
open Go Go.AM
namespace Go.Proofs.YtgpgpelaabdkhaaGreatDoor

def l5V (minus : Bool) (base : Nat) (l : List UInt8) : Int × Int := match l with
  | [] => (0, 4)
  | c :: r => if c = 48 ∧ (minus = true ∨ r ≠ []) then (0, 4) else numEnd minus (digs base (c :: r) 0)

theorem lex_Number_l5_b (s : ByteArray) (hs : s.size ≤ 4611686018427387904) (minus : Bool) (base : Nat) (hb : base ≤ 16) : lex_Number_l5 s minus base = some (((l5V minus base (L s)).1, (l5V minus base (L s)).2, ()), ()) := by
  rw [lex_Number_l5_eq]
  cases hL : L s with
  | nil => rw [if_pos (is_nil hL)]; rfl
  | cons c r =>
    have hl := size_of hL
    simp only [List.length_cons] at hl
    rw [if_neg (not_nil hL), if_pos ⟨by omega, by omega⟩, bt_cons hL]
    have loop := lex_Number_loop s hs minus base hb (c :: r) 0 0 (by rw [hL]; rfl) (by omega)
    simp only [l5V]
    by_cases h1 : c = 48
    · subst h1
      rw [if_pos (by decide)]
      cases minus with
      | true => simp
      | false =>
        simp only [Bool.false_eq_true, if_false, false_or, true_and]
        by_cases h2 : r = []
        · subst h2
          simp only [List.length_nil] at hl
          rw [if_neg (dF (by omega)), if_neg (by simp)]
          exact loop
        · have := List.length_pos_iff.2 h2
          rw [if_pos (dT (by omega)), if_pos h2]
    · rw [if_neg (show ¬ ((c.toNat : Int) == 48) = true from byte_ne h1), if_neg (by simp [h1])]
      exact loop

theorem numN_natV (neg : Bool) (base : Nat) (hb : 0 < base) (l : List UInt8) : numN neg (natV l base) = l5V neg base l := by
  cases l with
  | nil => rfl
  | cons c r =>
    simp only [natV, l5V]
    by_cases h1 : c = 48
    · subst h1
      by_cases h2 : r = []
      · subst h2
        have e : digs base [48] 0 = some 0 := by
          have : hexv 48 = some 0 := by decide
          simp [digs, this, hb]
        rw [if_neg (by simp), e]
        cases neg <;> simp [numN, numEnd]
      · rw [if_pos ⟨rfl, h2⟩, if_pos ⟨rfl, .inr h2⟩]
        rfl
    · rw [if_neg (by simp [h1]), if_neg (by simp [h1])]
      cases hd : digs base (c :: r) 0 with
      | none => rfl
      | some m =>
        have := digs_first hb hd h1
        simp only [numN, numEnd]
        rw [if_neg (by omega)]

theorem body_l5 (neg : Bool) (b : List UInt8) : numN neg (bodyV b) = match b with
    | 48 :: 120 :: t => l5V neg 16 t
    | b => l5V neg 10 b := by
  match b with
  | [] => exact numN_natV neg 10 (by omega) []
  | [c] =>
    have : bodyV [c] = natV [c] 10 := by unfold bodyV; split <;> simp_all
    rw [this, numN_natV neg 10 (by omega)]
    split <;> simp_all
  | c :: d :: r =>
    by_cases h : c = 48 ∧ d = 120
    · obtain ⟨rfl, rfl⟩ := h
      cases r with
      | nil =>
        have : bodyV [48, 120] = none := by rfl
        rw [this]; rfl
      | cons e r => exact numN_natV neg 16 (by omega) (e :: r)
    · have : bodyV (c :: d :: r) = natV (c :: d :: r) 10 := by
        unfold bodyV
        split
        · rename_i e; simp only [List.cons.injEq] at e; exact absurd ⟨e.1, e.2.1⟩ h
        · rfl
      rw [this, numN_natV neg 10 (by omega)]
      split
      · rename_i e; simp only [List.cons.injEq] at e; exact absurd ⟨e.1, e.2.1⟩ h
      · rfl

theorem prefix_minus_yes {s : ByteArray} {r : List UInt8} (h : L s = 45 :: r) : strings_HasPrefix s (strB [45]) = some ((true, ()), ()) := by
  rw [hasPrefix_b, L_strB, h]
  simp

theorem prefix_minus_no {s : ByteArray} (h : ∀ r, L s ≠ 45 :: r) : strings_HasPrefix s (strB [45]) = some ((false, ()), ()) := by
  rw [hasPrefix_b, L_strB]
  simp only [Option.some.injEq, Prod.mk.injEq, and_true, decide_eq_false_iff_not]
  exact fun e => h _ e

theorem prefix_hex (s : ByteArray) : strings_HasPrefix s (strB [48, 120]) = some ((match L s with
    | 48 :: 120 :: _ => true
    | _ => false, ()), ()) := by
  rw [hasPrefix_b]
  simp only [Option.some.injEq, Prod.mk.injEq, and_true]
  rw [L_strB]
  match L s with
  | [] => rfl
  | [c] => simp
  | c :: d :: r =>
    simp only [List.length_cons, List.length_nil, List.drop_succ_cons, List.drop_zero, List.cons_append, List.nil_append, List.cons.injEq, and_true]
    by_cases h : c = 48 ∧ d = 120
    · obtain ⟨rfl, rfl⟩ := h; simp
    · rw [decide_eq_false h]
      split
      · rename_i e; cases e; exact absurd ⟨rfl, rfl⟩ h
      · rfl

theorem lex_Number_l2_b (s : ByteArray) (hs : s.size ≤ 4611686018427387904) (minus : Bool) : lex_Number_l2 s minus = some (((numN minus (bodyV (L s))).1, (numN minus (bodyV (L s))).2, ()), ()) := by
  rw [lex_Number_l2_eq, prefix_hex, body_l5]
  simp only [Option.bind_some]
  split
  · rename_i t hL
    have hl := size_of hL
    simp only [List.length_cons] at hl
    rw [if_pos rfl, if_pos ⟨by omega, by omega⟩]
    have := lex_Number_l5_b (s.extract 2 s.size) (by rw [size_drop]; omega) minus 16 (by omega)
    rw [L_ext', hL] at this
    exact this
  · rw [if_neg (by simp)]
    exact lex_Number_l5_b s hs minus 10 (by omega)

theorem lex_Number_b (s : ByteArray) (hs : s.size ≤ 4611686018427387904) : lex_Number s = some (((numV (L s)).1, (numV (L s)).2, ()), ()) := by
  unfold lex_Number
  have no : (∀ r, L s ≠ 45 :: r) → numV (L s) = numN false (bodyV (L s)) → ((strings_HasPrefix s (strB [45])).bind fun y1 =>
      if y1.1.1 = true then
        if 0 ≤ (1 : Int) ∧ 1 ≤ (s.size : Int) then lex_Number_l2 (s.extract 1 s.size) y1.1.1 else none
      else lex_Number_l2 s y1.1.1) = some (((numV (L s)).1, (numV (L s)).2, ()), ()) := by
    intro h e
    rw [prefix_minus_no h, e]
    exact lex_Number_l2_b s hs false
  cases hL : L s with
  | nil =>
    rw [hL] at no
    exact no (fun r e => by cases e) rfl
  | cons c r =>
    by_cases h : c = 45
    · subst h
      have hl := size_of hL
      simp only [List.length_cons] at hl
      rw [prefix_minus_yes hL, numV_minus]
      simp only [Option.bind_some, if_true]
      rw [if_pos ⟨by omega, by omega⟩]
      have := lex_Number_l2_b (s.extract 1 s.size) (by rw [size_drop]; omega) true
      rw [L_ext', hL] at this
      exact this
    · rw [hL] at no
      exact no (fun r e => by cases e; exact h rfl) (numV_other h)

theorem ref05_Number_l7_b (neg : Bool) (o : Option Nat) (ho : ∀ n, o = some n → n ≤ 9007199254740993) : ref05_Number_l7 (if neg = true then -1 else 1) (match o with | some m => (m : Int) | none => 0) (match o with | some _ => true | none => false) = some (((numN neg o).1, (numN neg o).2, ()), ()) := by
  rw [ref05_Number_l7_eq]
  cases o with
  | none => rfl
  | some m =>
    have := ho m rfl
    simp only [Bool.not_true, Bool.false_eq_true, if_false, numN]
    cases neg with
    | true =>
      simp only [if_true, true_and]
      rw [if_pos (dT (by omega))]
      by_cases h1 : m = 0
      · subst h1; rfl
      · rw [if_neg (eF (by omega)), if_neg h1]
        by_cases h2 : m > 9007199254740992
        · rw [if_pos (dT (by omega)), if_pos h2]
        · rw [if_neg (dF (by omega)), if_neg h2, w64 (by omega) (by omega)]
          simp only [Option.some.injEq, Prod.mk.injEq, and_true]; omega
    | false =>
      simp only [Bool.false_eq_true, if_false, false_and]
      rw [if_neg (dF (by omega))]
      by_cases h2 : m > 9007199254740992
      · rw [if_pos (dT (by omega)), if_pos h2]
      · rw [if_neg (dF (by omega)), if_neg h2, w64 (by omega) (by omega)]
        simp only [Option.some.injEq, Prod.mk.injEq, and_true]; omega

theorem ref05_Number_l7_c (neg : Bool) (o : Option Nat) (ho : ∀ n, o = some n → n ≤ 9007199254740993) : ref05_Number_l7 (if neg = true then -1 else 1) (match o with | some m => ((m : Int), true, ()) | none => (0, false, ())).1 (match o with | some m => ((m : Int), true, ()) | none => (0, false, ())).2.1 = some (((numN neg o).1, (numN neg o).2, ()), ()) := by
  rw [← ref05_Number_l7_b neg o ho]
  cases o <;> rfl

theorem natV_le {l : List UInt8} {base n : Nat} (h : natV l base = some n) : n ≤ 9007199254740993 := by
  unfold natV at h
  split at h
  · cases h
  · split at h
    · cases h
    · exact digs_le _ _ _ h (by omega)

theorem bodyV_le {l : List UInt8} {n : Nat} (h : bodyV l = some n) : n ≤ 9007199254740993 := by
  unfold bodyV at h
  split at h <;> exact natV_le h

theorem ref05_Number_l3_b (s : ByteArray) (hs : s.size ≤ 4611686018427387904) (neg : Bool) : ref05_Number_l3 s (if neg = true then -1 else 1) = some (((numN neg (bodyV (L s))).1, (numN neg (bodyV (L s))).2, ()), ()) := by
  rw [ref05_Number_l3_eq]
  have ten : (ref05_plain s 10).bind (fun y3 => ref05_Number_l7 (if neg = true then -1 else 1) y3.1.1 y3.1.2.1) = some (((numN neg (natV (L s) 10)).1, (numN neg (natV (L s) 10)).2, ()), ()) := by
    have := ref05_plain_b s hs 10 (by omega)
    rw [show ref05_plain s 10 = _ from this]
    exact ref05_Number_l7_c neg (natV (L s) 10) (fun n h => natV_le h)
  by_cases h2 : s.size > 2
  · rw [if_pos (dT (by omega)), if_pos ⟨by omega, by omega, by omega⟩]
    match hL : L s with
    | [] => have := size_of hL; simp only [List.length_nil] at this; omega
    | [c] => have := size_of hL; simp only [List.length_cons, List.length_nil] at this; omega
    | [c, d] => have := size_of hL; simp only [List.length_cons, List.length_nil] at this; omega
    | c :: d :: e :: r =>
      by_cases h : c = 48 ∧ d = 120
      · obtain ⟨rfl, rfl⟩ := h
        rw [if_pos (by rw [toL, toL, L_take, hL, L_strB]; rfl), if_pos ⟨by omega, by omega⟩]
        have := ref05_plain_b (s.extract 2 s.size) (by rw [size_drop]; omega) 16 (by omega)
        rw [L_ext', hL] at this
        rw [show ref05_plain (s.extract 2 s.size) 16 = _ from this]
        rw [show bodyV (48 :: 120 :: e :: r) = natV (e :: r) 16 from rfl]
        exact ref05_Number_l7_c neg (natV (e :: r) 16) (fun n h => natV_le h)
      · rw [if_neg (by rw [toL, toL, L_take, hL, L_strB]; simp only [List.take_succ_cons, List.take_zero, beq_iff_eq, List.cons.injEq, and_true]; exact h), ten, hL]
        have : bodyV (c :: d :: e :: r) = natV (c :: d :: e :: r) 10 := by
          unfold bodyV
          split
          · rename_i q; simp only [List.cons.injEq] at q; exact absurd ⟨q.1, q.2.1⟩ h
          · rfl
        rw [this]
  · rw [if_neg (dF (by omega)), ten]
    have : bodyV (L s) = natV (L s) 10 := by
      unfold bodyV
      split
      · rename_i q; have := size_of q; simp only [List.length_cons] at this; omega
      · rfl
    rw [this]

theorem ref05_Number_b (s : ByteArray) (hs : s.size ≤ 4611686018427387904) : ref05_Number s = some (((numV (L s)).1, (numV (L s)).2, ()), ()) := by
  unfold ref05_Number
  cases hL : L s with
  | nil =>
    have hl := size_of hL
    simp only [List.length_nil] at hl
    rw [if_neg (dF (by omega))]
    have := ref05_Number_l3_b s hs false
    rw [hL] at this
    exact this
  | cons c r =>
    have hl := size_of hL
    simp only [List.length_cons] at hl
    rw [if_pos (dT (by omega)), if_pos ⟨by omega, by omega⟩, bt_cons hL]
    by_cases h : c = 45
    · subst h
      rw [if_pos (by decide), if_pos ⟨by omega, by omega⟩, numV_minus]
      have := ref05_Number_l3_b (s.extract 1 s.size) (by rw [size_drop]; omega) true
      rw [L_ext', hL] at this
      exact this
    · rw [if_neg (show ¬ ((c.toNat : Int) == 45) = true from byte_ne h), numV_other h]
      have := ref05_Number_l3_b s hs false
      rw [hL] at this
      exact this

end Go.Proofs.YtgpgpelaabdkhaaGreatDoor
end

section
/-
YtgpgpelaabdkhaaGreatDoor: the plain functions of quoted strings come to what they should. No condition.
-/
set_option maxRecDepth 100000
open Go Go.AM
namespace Go.Proofs.YtgpgpelaabdkhaaGreatDoor

theorem lex_plain_b (c : UInt8) : lex_plain c.toNat = some ((plainB c, ()), ()) := by
  unfold lex_plain plainB
  by_cases h : 32 ≤ c.toNat
  · rw [if_pos (dT (by omega)), decide_eq_true h]
    by_cases h2 : c.toNat ≤ 126
    · rw [if_pos (dT (by omega)), decide_eq_true h2]
      by_cases h3 : c = 34
      · subst h3; rfl
      · rw [if_pos (show ((c.toNat : Int) != 34) = true from byte_bne h3), bne_iff_ne.2 h3]
        by_cases h4 : c = 92
        · subst h4; rfl
        · rw [show ((c.toNat : Int) != 92) = true from byte_bne h4, bne_iff_ne.2 h4]; rfl
    · rw [if_neg (dF (by omega)), decide_eq_false h2]
      simp
  · rw [if_neg (dF (by omega)), decide_eq_false h]
    simp

theorem hex_pair {x y : Nat} (hx : x < 16) (hy : y < 16) : IntKind.u8.wrap (IntKind.i64.wrap (IntKind.i64.wrap (16 * (x : Int)) + y)) = ((UInt8.ofNat (16 * x + y)).toNat : Int) := by
  have e1 : IntKind.i64.wrap (16 * (x : Int)) = 16 * x := w64 (by omega) (by omega)
  have e2 : IntKind.i64.wrap (16 * (x : Int) + y) = 16 * x + y := w64 (by omega) (by omega)
  rw [e1, e2, w8 (by omega) (by omega), UInt8.toNat_ofNat', Nat.mod_eq_of_lt (by omega)]
  omega

theorem hex_pair' {x y : Nat} (hx : x < 16) (hy : y < 16) : IntKind.u8.wrap (IntKind.i64.wrap (IntKind.i64.wrap ((x : Int) * 16) + y)) = ((UInt8.ofNat (16 * x + y)).toNat : Int) := by
  rw [Int.mul_comm]; exact hex_pair hx hy

theorem bt_at {s : ByteArray} {i : Nat} {c : UInt8} {r : List UInt8} (h : (L s).drop i = c :: r) (x : Int) (hx : x = i) : bt s x = (c.toNat : Int) := by
  subst hx; exact bt_drop h

theorem lex_escape_b (s : ByteArray) (c : UInt8) (r : List UInt8) (hL : L s = c :: r) : lex_escape s = some ((match escV r with
    | some (b, n) => ((b.toNat : Int), (n : Int), ())
    | none => (0, 0, ())), ()) := by
  unfold lex_escape
  have hl := size_of hL
  cases r with
  | nil =>
    simp only [List.length_cons, List.length_nil] at hl
    rw [if_pos (dT (by omega))]; rfl
  | cons e r =>
    simp only [List.length_cons] at hl
    have b1 : bt s 1 = (e.toNat : Int) := bt_at (i := 1) (r := r) (by rw [hL]; rfl) 1 rfl
    rw [if_neg (dF (by omega)), if_pos ⟨by omega, by omega⟩, b1]
    have yes : ∀ x, lex_escape_l6 s x true = some (((e.toNat : Int), 2, ()), ()) := fun x => by
      rw [lex_escape_l6_eq, if_pos rfl, if_pos ⟨by omega, by omega⟩, b1]
    by_cases h1 : e = 34
    · subst h1
      rw [if_pos (by decide), yes]; rfl
    · rw [if_neg (show ¬ ((e.toNat : Int) == 34) = true from byte_ne h1)]
      by_cases h2 : e = 92
      · subst h2
        rw [show (((92 : UInt8).toNat : Int) == 92) = true from by decide, yes]; rfl
      · rw [show ((e.toNat : Int) == 92) = false from by simpa using byte_ne h2, lex_escape_l6_eq, if_neg Bool.false_ne_true]
        simp only [escV]
        rw [if_neg (show ¬ (e = 34 ∨ e = 92) by simp [h1, h2])]
        by_cases h3 : e = 110
        · subst h3
          rw [if_pos (by decide), if_pos rfl]; rfl
        · rw [if_neg (show ¬ ((e.toNat : Int) == 110) = true from byte_ne h3), if_neg h3]
          by_cases h4 : e = 120
          · subst h4
            rw [if_pos (by decide), if_pos rfl]
            match r, hl, hL with
            | [], hl, _ => simp only [List.length_nil] at hl; rw [if_pos (dT (by omega))]
            | [a], hl, _ => simp only [List.length_cons, List.length_nil] at hl; rw [if_pos (dT (by omega))]
            | a :: b :: r, hl, hL =>
              simp only [List.length_cons] at hl
              have b2 : bt s 2 = (a.toNat : Int) := bt_at (i := 2) (r := b :: r) (by rw [hL]; rfl) 2 rfl
              have b3 : bt s 3 = (b.toNat : Int) := bt_at (i := 3) (r := r) (by rw [hL]; rfl) 3 rfl
              rw [if_neg (dF (by omega)), if_pos ⟨by omega, by omega⟩, b2, b3, lex_hex_b, lex_hex_b]
              simp only [Option.bind_some]
              rcases hexI_cases a with ⟨e1, e2⟩ | ⟨x, e1, e2, e3⟩
              · rw [e1, e2, if_pos (by decide)]
              · rw [e1, e2, if_neg (dF (by omega)), if_pos ⟨by omega, by omega⟩]
                rcases hexI_cases b with ⟨f1, f2⟩ | ⟨y, f1, f2, f3⟩
                · rw [f1, f2, if_pos (by decide)]
                · rw [f1, f2, if_neg (dF (by omega)), if_pos ⟨by omega, by omega⟩, if_pos ⟨by omega, by omega⟩, hex_pair e3 f3]
                  rfl
          · rw [if_neg (show ¬ ((e.toNat : Int) == 120) = true from byte_ne h4), if_neg h4]

theorem lex_Unquote_loop : ∀ (k : Nat) (s : ByteArray) (acc : List UInt8), (L s).length ≤ k → acc.length + (L s).length ≤ 1099511627776 → lex_Unquote_l7 s (bI acc) = some ((match unqI k (L s) with
    | some o => (strB (acc ++ o), 0, ())
    | none => (strB [], 4, ())), ()) := by
  intro k
  induction k using Nat.strongRecOn with
  | _ k ih =>
    intro s acc hk ha
    rw [lex_Unquote_l7_eq]
    cases hL : L s with
    | nil =>
      rw [if_neg (cond_nil hL), strOf_bI]
      have : unqI k [] = some [] := by cases k <;> rfl
      rw [this]
      simp
    | cons c r =>
      have hl := size_of hL
      rw [hL] at hk ha
      simp only [List.length_cons] at hk ha hl
      obtain ⟨k, rfl⟩ : ∃ j, k = j + 1 := ⟨k - 1, by omega⟩
      rw [if_pos (cond_not_nil hL), if_pos ⟨by omega, by omega⟩, bt_cons hL, w32c, lex_plain_b]
      simp only [Option.bind_some, unqI]
      by_cases hp : plainB c = true
      · rw [if_pos hp, if_pos hp, if_pos ⟨by omega, by omega⟩, if_pos (by rw [bI_len]; omega), if_pos ⟨by omega, by omega⟩, bI_snoc]
        have e := L_ext' s 1
        rw [hL] at e
        rw [ih k (by omega) (s.extract 1 s.size) (acc ++ [c]) (by rw [e]; simpa using by omega) (by rw [e]; simp; omega), e]
        simp only [List.drop_succ_cons, List.drop_zero]
        cases unqI k r <;> simp
      · rw [if_neg hp, if_neg hp, if_pos ⟨by omega, by omega⟩]
        have bad : ∀ x : Int, lex_Unquote_l14 s x 0 (bI acc) = some ((strB [], 4, ()), ()) := fun x => by rw [lex_Unquote_l14_eq, if_pos (eT rfl)]
        by_cases hc : c = 92
        · subst hc
          rw [if_pos (by decide), if_pos rfl, lex_escape_b s 92 r hL]
          simp only [Option.bind_some]
          cases he : escV r with
          | none => exact bad 0
          | some p =>
            obtain ⟨b, n⟩ := p
            have hn := escV_len he
            simp only
            rw [lex_Unquote_l14_eq, if_neg (eF (by omega)), if_pos (by rw [bI_len]; omega), if_pos ⟨by omega, by omega⟩, bI_snoc, Int.toNat_natCast]
            have e := L_ext' s n
            rw [hL, show n = (n - 1) + 1 by omega, List.drop_succ_cons] at e
            rw [show n - 1 + 1 = n by omega] at e
            rw [ih k (by omega) (s.extract n s.size) (acc ++ [b]) (by rw [e, List.length_drop]; omega) (by rw [e, List.length_drop]; simp; omega), e]
            cases unqI k (r.drop (n - 1)) <;> simp
        · rw [if_neg (show ¬ ((c.toNat : Int) == 92) = true from byte_ne hc), if_neg hc]
          exact bad 0

theorem lex_Unquote_b (s : ByteArray) (hs : s.size ≤ 1099511627776) : lex_Unquote s = some ((match unqV (L s) with
    | some o => (strB o, 0, ())
    | none => (strB [], 4, ())), ()) := by
  unfold lex_Unquote
  match hL : L s with
  | [] =>
    have hl := size_of hL
    simp only [List.length_nil] at hl
    rw [if_pos (dT (by omega))]; rfl
  | [c] =>
    have hl := size_of hL
    simp only [List.length_cons, List.length_nil] at hl
    rw [if_pos (dT (by omega))]
    by_cases h : c = 34
    · subst h; rfl
    · have : unqV [c] = none := by
        unfold unqV
        split
        · rename_i e; cases e; exact absurd rfl h
        · rfl
      rw [this]
  | c :: d :: r =>
    have hl := size_of hL
    simp only [List.length_cons] at hl
    rw [if_neg (dF (by omega)), if_pos ⟨by omega, by omega⟩, bt_cons hL]
    by_cases h : c = 34
    · subst h
      rw [if_neg (by decide)]
      have e1 : IntKind.i64.wrap ((s.size : Int) - 1) = ((r.length + 1 : Nat) : Int) := by rw [w64 (by omega) (by omega)]; omega
      rw [e1, if_pos ⟨by omega, by omega⟩]
      obtain ⟨i, z, hi⟩ : ∃ i z, d :: r = i ++ [z] := ⟨(d :: r).dropLast, (d :: r).getLast (by simp), (List.dropLast_concat_getLast (by simp)).symm⟩
      have hil : i.length = r.length := by
        have := congrArg List.length hi
        simp at this
        omega
      have hz : bt s ((r.length + 1 : Nat) : Int) = (z.toNat : Int) := bt_at (i := r.length + 1) (r := []) (by rw [hL, hi, List.drop_succ_cons, ← hil]; simp) _ rfl
      rw [hz]
      unfold unqV
      simp only
      rw [hi, List.getLast?_concat, List.dropLast_concat]
      by_cases h2 : z = 34
      · subst h2
        rw [if_neg (by decide), if_pos rfl, if_pos ⟨by omega, by omega, by omega⟩, Int.toNat_natCast]
        have e2 : L (s.extract 1 (r.length + 1)) = i := by
          rw [L_ext, hL, hi, ← hil]
          simp
        have := lex_Unquote_loop (i ++ [34]).length (s.extract 1 (r.length + 1)) [] (by rw [e2]; simp) (by rw [e2]; simp; omega)
        rw [e2] at this
        simp only [List.nil_append] at this
        exact this
      · rw [if_pos (show ((z.toNat : Int) != 34) = true from byte_bne h2), if_neg (by simpa using h2)]
    · rw [if_pos (show ((c.toNat : Int) != 34) = true from byte_bne h)]
      have : unqV (c :: d :: r) = none := by
        unfold unqV
        split
        · rename_i e; cases e; exact absurd rfl h
        · rfl
      rw [this]

theorem ref05_quoted_loop (s : ByteArray) (hs : s.size ≤ 1099511627776) : ∀ (k : Nat) (r : List UInt8) (i : Nat) (acc : List UInt8), (L s).drop i = r → r.length ≤ k → acc.length ≤ i → i ≤ s.size → ref05_quoted_l7 s i (bI acc) = some ((match unqL k r with
    | some (o, rest) => (strB (acc ++ o), ((s.size - rest.length : Nat) : Int), true, ())
    | none => (strB [], 0, false, ())), ()) := by
  intro k
  induction k using Nat.strongRecOn with
  | _ k ih =>
    intro r i acc hr hk ha hi
    have hrl : r.length = s.size - i := by rw [← hr, List.length_drop, L_len]
    rw [ref05_quoted_l7_eq]
    cases r with
    | nil =>
      simp only [List.length_nil] at hrl
      rw [if_neg (dF (by omega))]
      have : unqL k [] = none := by cases k <;> rfl
      rw [this]
    | cons c r =>
      simp only [List.length_cons] at hk hrl
      obtain ⟨k, rfl⟩ : ∃ j, k = j + 1 := ⟨k - 1, by omega⟩
      rw [if_pos (dT (by omega)), if_pos ⟨by omega, by omega⟩, bt_drop hr]
      have d1 := drop_succ hr
      by_cases h1 : c = 34
      · subst h1
        rw [if_pos (by decide), strOf_bI, w64a i (by omega)]
        simp only [unqL, if_true]
        simp only [List.append_nil, Option.some.injEq, Prod.mk.injEq, and_true, true_and]
        omega
      · rw [if_neg (show ¬ ((c.toNat : Int) == 34) = true from byte_ne h1)]
        rw [unqL, if_neg h1]
        by_cases h2 : c.toNat < 32
        · rw [if_pos (dT (by omega)), if_pos (.inl h2)]
        · rw [if_neg (dF (by omega))]
          by_cases h3 : 126 < c.toNat
          · rw [if_pos (dT (by omega)), if_pos (.inr h3)]
          · rw [if_neg (dF (by omega)), if_neg (show ¬ (c.toNat < 32 ∨ 126 < c.toNat) by omega)]
            by_cases h4 : c = 92
            · subst h4
              rw [if_neg (show ¬ (((92 : UInt8).toNat : Int) != 92) = true by decide), if_neg (show ¬ ((92 : UInt8) ≠ 92) by simp), w64a i (by omega), w64b i (by omega), w64c i (by omega), w64d i (by omega)]
              cases r with
              | nil =>
                simp only [List.length_nil] at hrl
                rw [if_pos (dT (by omega))]; rfl
              | cons e r =>
                simp only [List.length_cons] at hrl hk
                have d2 := drop_succ d1
                rw [if_neg (dF (by omega)), if_pos ⟨by omega, by omega⟩, bt_drop d1]
                have room : ∀ x : List Int, x.length = acc.length → (x.length + 1) * 1 ≤ 140737488355328 ∧ 0 < 1 := fun x hx => by omega
                have two : ∀ b : UInt8, (if ((bI acc).length + 1) * 1 ≤ 140737488355328 ∧ 0 < 1 then ref05_quoted_l7 s ((i + 2 : Nat) : Int) (bI acc ++ [(b.toNat : Int)]) else none) = some ((match (unqL k r).map fun p => (b :: p.1, p.2) with
                    | some (o, rest) => (strB (acc ++ o), ((s.size - rest.length : Nat) : Int), true, ())
                    | none => (strB [], 0, false, ())), ()) := by
                  intro b
                  rw [if_pos (room _ (bI_len _)), bI_snoc, ih k (by omega) r (i + 2) (acc ++ [b]) d2 (by omega) (by simp; omega) (by omega)]
                  cases unqL k r with
                  | none => rfl
                  | some p => simp
                simp only [escV]
                by_cases g1 : e = 34
                · subst g1
                  rw [if_pos (by decide), if_pos (show (34 : UInt8) = 34 ∨ (34 : UInt8) = 92 from .inl rfl)]
                  exact two 34
                · rw [if_neg (show ¬ ((e.toNat : Int) == 34) = true from byte_ne g1)]
                  by_cases g2 : e = 92
                  · subst g2
                    rw [if_pos (by decide), if_pos (show (92 : UInt8) = 34 ∨ (92 : UInt8) = 92 from .inr rfl)]
                    exact two 92
                  · rw [if_neg (show ¬ ((e.toNat : Int) == 92) = true from byte_ne g2), if_neg (show ¬ (e = 34 ∨ e = 92) by simp [g1, g2])]
                    by_cases g3 : e = 110
                    · subst g3
                      rw [if_pos (by decide), if_pos (show (110 : UInt8) = 110 from rfl)]
                      exact two 10
                    · rw [if_neg (show ¬ ((e.toNat : Int) == 110) = true from byte_ne g3), if_neg g3]
                      by_cases g4 : e = 120
                      · subst g4
                        rw [if_pos (by decide), if_pos (show (120 : UInt8) = 120 from rfl)]
                        match r, hrl, hk, d2 with
                        | [], hrl, _, _ => simp only [List.length_nil] at hrl; rw [if_neg (dF (by omega))]
                        | [a], hrl, _, _ => simp only [List.length_cons, List.length_nil] at hrl; rw [if_neg (dF (by omega))]
                        | a :: b :: r, hrl, hk, d2 =>
                          simp only [List.length_cons] at hrl hk
                          have d3 := drop_succ d2
                          have d4 := drop_succ d3
                          rw [if_pos (dT (by omega)), if_pos ⟨by omega, by omega⟩, bt_drop d2, bt_drop d3, ref05_hexa_b, ref05_hexa_b]
                          simp only [Option.bind_some]
                          rcases hexI_cases a with ⟨e1, e2⟩ | ⟨x, e1, e2, e3⟩
                          · rw [e1, e2, if_neg (by decide)]
                          · rw [e1, e2, if_pos (dT (by omega)), if_pos ⟨by omega, by omega⟩]
                            rcases hexI_cases b with ⟨f1, f2⟩ | ⟨y, f1, f2, f3⟩
                            · rw [f1, f2, if_neg (by decide)]
                            · rw [f1, f2, if_pos (dT (by omega)), if_pos ⟨by omega, by omega⟩, if_pos ⟨by omega, by omega⟩, if_pos (room _ (bI_len _)), hex_pair' e3 f3, bI_snoc,
                                ih k (by omega) r (i + 4) _ d4 (by omega) (by simp; omega) (by omega)]
                              simp only [Nat.add_one_sub_one, List.drop_succ_cons, List.drop_zero]
                              cases unqL k r with
                              | none => rfl
                              | some p => simp
                      · rw [if_neg (show ¬ ((e.toNat : Int) == 120) = true from byte_ne g4), if_neg g4]
            · rw [if_pos (show ((c.toNat : Int) != 92) = true from byte_bne h4), if_pos h4, if_pos (by rw [bI_len]; omega), w64a i (by omega), bI_snoc,
                ih k (by omega) r (i + 1) _ d1 (by omega) (by simp; omega) (by omega)]
              cases unqL k r with
              | none => rfl
              | some p => simp

theorem ref05_quoted_b (s : ByteArray) (hs : s.size ≤ 1099511627776) (i : Nat) (r : List UInt8) (h : (L s).drop i = 34 :: r) : ref05_quoted s i = some ((match unqL r.length r with
    | some (o, rest) => (strB o, ((s.size - rest.length : Nat) : Int), true, ())
    | none => (strB [], 0, false, ())), ()) := by
  have h1 := drop_lt h
  rw [L_len] at h1
  unfold ref05_quoted
  rw [if_neg (dF (by omega)), if_pos ⟨by omega, by omega⟩, bt_drop h, if_neg (by decide), w64a i (by omega)]
  exact ref05_quoted_loop s hs r.length r (i + 1) [] (drop_succ h) (Nat.le_refl _) (by simp) (by omega)

theorem ref05_quoted_no (s : ByteArray) (h : ∀ r, L s ≠ 34 :: r) : ref05_quoted s 0 = some ((strB [], 0, false, ()), ()) := by
  unfold ref05_quoted
  cases hL : L s with
  | nil =>
    have hl := size_of hL
    simp only [List.length_nil] at hl
    rw [if_pos (dT (by omega))]
  | cons c r =>
    have hl := size_of hL
    simp only [List.length_cons] at hl
    rw [if_neg (dF (by omega)), if_pos ⟨by omega, by omega⟩, bt_cons hL]
    have hc : c ≠ 34 := fun e => h r (by rw [← e]; exact hL)
    rw [if_pos (show ((c.toNat : Int) != 34) = true from byte_bne hc)]

end Go.Proofs.YtgpgpelaabdkhaaGreatDoor
end

section
/-
YtgpgpelaabdkhaaGreatDoor: the plain functions of tokens come to what they should. No condition.
-/
set_option maxRecDepth 100000
open Go Go.AM
namespace Go.Proofs.YtgpgpelaabdkhaaGreatDoor

theorem lex_words_loop (s : ByteArray) (hs : s.size ≤ 1099511627776) : ∀ (r : List UInt8) (n : Nat), (L s).drop n = r → n ≤ s.size → lex_words_l3 s n = some ((((n + (r.takeWhile wordB).length : Nat) : Int), ()), ())
  | [], n, h, hn => by
    have := drop_nil h
    rw [L_len] at this
    rw [lex_words_l3_eq, if_neg (dF (by omega))]
    rfl
  | c :: r, n, h, hn => by
    have h1 := drop_lt h
    rw [L_len] at h1
    rw [lex_words_l3_eq, if_pos (dT (by omega)), if_pos ⟨by omega, by omega⟩, bt_drop h, w32c, lex_word_b]
    simp only [Option.bind_some, List.takeWhile_cons]
    cases hw : wordB c
    · simp
    · rw [if_pos rfl, w64a n (by omega), lex_words_loop s hs r (n + 1) (drop_succ h) (by omega)]
      simp only [if_true, List.length_cons]
      rw [show n + 1 + (r.takeWhile wordB).length = n + ((r.takeWhile wordB).length + 1) by omega]

theorem lex_words_b (s : ByteArray) (hs : s.size ≤ 1099511627776) : lex_words s = some (((((L s).takeWhile wordB).length : Int), ()), ()) := by
  have := lex_words_loop s hs (L s) 0 rfl (by omega)
  rw [Nat.zero_add] at this
  exact this

theorem ref05_word_loop (s : ByteArray) (hs : s.size ≤ 1099511627776) : ∀ (r : List UInt8) (n : Nat), (L s).drop n = r → n ≤ s.size → ref05_word_l3 s n = some ((((n + (r.takeWhile wordB).length : Nat) : Int), ()), ())
  | [], n, h, hn => by
    have := drop_nil h
    rw [L_len] at this
    rw [ref05_word_l3_eq, if_neg (dF (by omega))]
    rfl
  | c :: r, n, h, hn => by
    have h1 := drop_lt h
    rw [L_len] at h1
    rw [ref05_word_l3_eq, if_pos (dT (by omega)), if_pos ⟨by omega, by omega⟩, bt_drop h, ref05_inner_b]
    simp only [Option.bind_some, List.takeWhile_cons]
    cases hw : wordB c
    · simp
    · rw [if_pos rfl, w64a n (by omega), ref05_word_loop s hs r (n + 1) (drop_succ h) (by omega)]
      simp only [if_true, List.length_cons]
      rw [show n + 1 + (r.takeWhile wordB).length = n + ((r.takeWhile wordB).length + 1) by omega]

theorem ref05_word_b (s : ByteArray) (hs : s.size ≤ 1099511627776) (i : Nat) (c : UInt8) (r : List UInt8) (h : (L s).drop i = c :: r) : ref05_word s i = some ((((i + (1 + (r.takeWhile wordB).length) : Nat) : Int), ()), ()) := by
  have h1 := drop_lt h
  rw [L_len] at h1
  unfold ref05_word
  rw [w64a i (by omega), ref05_word_loop s hs r (i + 1) (drop_succ h) (by omega), Nat.add_assoc]

theorem lex_quoted_loop (s : ByteArray) (hs : s.size ≤ 1099511627776) : ∀ (k : Nat) (r : List UInt8) (i : Nat), (L s).drop i = r → r.length ≤ k → i ≤ s.size + 2 → lex_quoted_l3 s i = some ((match scanQ r with
    | some m => ((i + m + 1 : Nat) : Int)
    | none => 0, ()), ()) := by
  intro k
  induction k using Nat.strongRecOn with
  | _ k ih =>
    intro r i hr hk hi
    rw [lex_quoted_l3_eq]
    cases r with
    | nil =>
      have := drop_nil hr
      rw [L_len] at this
      rw [if_neg (dF (by omega))]; rfl
    | cons c r =>
      have h1 := drop_lt hr
      rw [L_len] at h1
      simp only [List.length_cons] at hk
      rw [if_pos (dT (by omega)), if_pos ⟨by omega, by omega⟩, bt_drop hr, scanQ_cons, w64a i (by omega)]
      have d1 := drop_succ hr
      by_cases g1 : c = 34
      · subst g1
        rw [if_pos (by decide), if_pos rfl]
      · rw [if_neg (show ¬ ((c.toNat : Int) == 34) = true from byte_ne g1), if_neg g1]
        by_cases g2 : c = 92
        · subst g2
          rw [if_pos (by decide), if_pos rfl, w64a (i + 1) (by omega)]
          cases r with
          | nil =>
            have := drop_nil d1
            rw [L_len] at this
            exact ih (k - 1) (by omega) [] (i + 1 + 1) (by rw [List.drop_of_length_le]; rw [L_len]; omega) (by simp) (by omega)
          | cons d r =>
            simp only [List.length_cons] at hk
            dsimp only
            rw [ih (k - 1) (by omega) r (i + 1 + 1) (drop_succ d1) (by omega) (by omega)]
            cases scanQ r with
            | none => rfl
            | some m => simp only [Option.map_some]; rw [show i + 1 + 1 + m + 1 = i + (m + 2) + 1 by omega]
        · rw [if_neg (show ¬ ((c.toNat : Int) == 92) = true from byte_ne g2), if_neg g2, ih (k - 1) (by omega) r (i + 1) d1 (by omega) (by omega)]
          cases scanQ r with
          | none => rfl
          | some m => simp only [Option.map_some]; rw [show i + 1 + m + 1 = i + (m + 1) + 1 by omega]

theorem or_if (b x : Bool) : (if b = true then some ((true, ()), ()) else some ((x, ()), ())) = some ((b || x, ()), ()) := by cases b <;> rfl

theorem lex_mark_b (c : UInt8) : lex_mark c.toNat = some ((markB c, ()), ()) := by
  unfold lex_mark markB marks
  simp only [or_if]
  simp only [show ((c.toNat : Int) == 40) = (c == 40) from int_beq c 40, show ((c.toNat : Int) == 41) = (c == 41) from int_beq c 41, show ((c.toNat : Int) == 91) = (c == 91) from int_beq c 91, show ((c.toNat : Int) == 93) = (c == 93) from int_beq c 93,
    show ((c.toNat : Int) == 123) = (c == 123) from int_beq c 123, show ((c.toNat : Int) == 125) = (c == 125) from int_beq c 125, show ((c.toNat : Int) == 60) = (c == 60) from int_beq c 60, show ((c.toNat : Int) == 62) = (c == 62) from int_beq c 62,
    show ((c.toNat : Int) == 61) = (c == 61) from int_beq c 61, show ((c.toNat : Int) == 44) = (c == 44) from int_beq c 44, show ((c.toNat : Int) == 59) = (c == 59) from int_beq c 59, show ((c.toNat : Int) == 58) = (c == 58) from int_beq c 58,
    show ((c.toNat : Int) == 46) = (c == 46) from int_beq c 46, show ((c.toNat : Int) == 47) = (c == 47) from int_beq c 47, show ((c.toNat : Int) == 42) = (c == 42) from int_beq c 42, show ((c.toNat : Int) == 43) = (c == 43) from int_beq c 43,
    show ((c.toNat : Int) == 33) = (c == 33) from int_beq c 33, show ((c.toNat : Int) == 38) = (c == 38) from int_beq c 38, show ((c.toNat : Int) == 124) = (c == 124) from int_beq c 124, List.contains_cons, List.contains_nil]

theorem ref05_Mark_loop (c : UInt8) (s : ByteArray) (hs : s.size ≤ 1000) : ∀ (r : List UInt8) (n : Nat), (L s).drop n = r → ref05_Mark_l4 c.toNat s n = some ((r.contains c, ()), ())
  | [], n, h => by
    have := drop_nil h
    rw [L_len] at this
    rw [ref05_Mark_l4_eq, if_neg (dF (by omega))]; rfl
  | d :: r, n, h => by
    have h1 := drop_lt h
    rw [L_len] at h1
    rw [ref05_Mark_l4_eq, if_pos (dT (by omega)), if_pos ⟨by omega, by omega⟩, bt_drop h, w64a n (by omega), ref05_Mark_loop c s hs r (n + 1) (drop_succ h), int_beq, or_if, List.contains_cons]
    rw [show (d == c) = (c == d) from by rw [Bool.eq_iff_iff, beq_iff_eq, beq_iff_eq]; exact eq_comm]

theorem ref05_Mark_b (c : UInt8) : ref05_Mark c.toNat = some ((markB c, ()), ()) := ref05_Mark_loop c _ (by decide) marks 0 rfl

theorem takeWhile_le (p : UInt8 → Bool) (l : List UInt8) : (l.takeWhile p).length ≤ l.length := (List.takeWhile_sublist p).length_le

theorem takeV_len {c : UInt8} {r : List UInt8} {t : Int × List UInt8 × Int} {n : Nat} (h : takeV (c :: r) = .ok (t, n)) : 1 ≤ n ∧ n ≤ r.length + 1 := by
  simp only [takeV] at h
  split at h
  · rename_i hc
    split at h
    · cases h
      have hw : wordB c = true := by simp [wordB, hc]
      rw [List.takeWhile_cons, if_pos hw]
      have := takeWhile_le wordB r
      simp only [List.length_cons]
      omega
    · cases h
  · split at h
    · split at h
      · cases h
        have := takeWhile_le wordB r
        omega
      · cases h
    · split at h
      · split at h
        · rename_i o rest hu
          cases h
          rw [unqL_scan _ _ (Nat.le_refl _)] at hu
          split at hu
          · cases hu
          · rename_i m hs
            have := scanQ_lt _ _ (Nat.le_refl _) m hs
            cases hi : unqI r.length (r.take m) with
            | none => rw [hi] at hu; cases hu
            | some o' =>
              rw [hi] at hu
              cases hu
              simp only [List.length_cons, List.length_drop]
              omega
        · cases h
      · split at h
        · cases h; omega
        · cases h

theorem numV_err (l : List UInt8) : (numV l).2 = 0 ∨ (numV l).2 = 4 ∨ (numV l).2 = 2 := by
  have key : ∀ b o, (numN b o).2 = 0 ∨ (numN b o).2 = 4 ∨ (numN b o).2 = 2 := by
    intro b o
    unfold numN
    split
    · simp
    · split
      · simp
      · split <;> simp
  unfold numV
  split <;> exact key _ _

theorem takeV_err {l : List UInt8} {e : Int} (h : takeV l = .error e) : e ≠ 0 := by
  cases l with
  | nil => cases h; decide
  | cons c r =>
    simp only [takeV] at h
    split at h
    · split at h
      · cases h
      · cases h; decide
    · split at h
      · split at h
        · cases h
        · rename_i hv
          cases h
          exact hv
      · split at h
        · split at h
          · cases h
          · cases h; decide
        · split at h
          · cases h
          · cases h; decide

/-- Numbers, as both functions take them. -/
theorem lex_take_num (s : ByteArray) (hs : s.size ≤ 1099511627776) (c : UInt8) (r : List UInt8) (hL : L s = c :: r) : (if 0 ≤ (1 : Int) ∧ 1 ≤ (s.size : Int) then
      (lex_words (s.extract 1 s.size)).bind fun y5 =>
        if 0 ≤ (0 : Int) ∧ (0 : Int) ≤ IntKind.i64.wrap (1 + y5.1.1) ∧ IntKind.i64.wrap (1 + y5.1.1) ≤ (s.size : Int) then
          (lex_Number (s.extract 0 (IntKind.i64.wrap (1 + y5.1.1)).toNat)).bind fun y6 =>
            if 0 ≤ (0 : Int) ∧ (0 : Int) ≤ IntKind.i64.wrap (1 + y5.1.1) ∧ IntKind.i64.wrap (1 + y5.1.1) ≤ (s.size : Int) then
              some ((((2 : Int), s.extract 0 (IntKind.i64.wrap (1 + y5.1.1)).toNat, y6.1.1, (0 : Int)), IntKind.i64.wrap (1 + y5.1.1), y6.1.2.1, ()), ())
            else
              none
        else
          none
    else
      none) = some (((2, strB ((c :: r).take (1 + (r.takeWhile wordB).length)), (numV ((c :: r).take (1 + (r.takeWhile wordB).length))).1, 0), ((1 + (r.takeWhile wordB).length : Nat) : Int), (numV ((c :: r).take (1 + (r.takeWhile wordB).length))).2, ()), ()) := by
  have hl := size_of hL
  simp only [List.length_cons] at hl
  have e := L_ext' s 1
  rw [hL, List.drop_succ_cons, List.drop_zero] at e
  have hw := takeWhile_le wordB r
  rw [if_pos ⟨by omega, by omega⟩, lex_words_b _ (by rw [size_drop]; omega), e]
  simp only [Option.bind_some]
  rw [show (1 : Int) + ((r.takeWhile wordB).length : Int) = (((1 + (r.takeWhile wordB).length : Nat)) : Int) by omega, w64 (by omega) (by omega), Int.toNat_natCast]
  rw [if_pos ⟨by omega, by omega, by omega⟩]
  have e2 : s.extract 0 (1 + (r.takeWhile wordB).length) = strB ((c :: r).take (1 + (r.takeWhile wordB).length)) := L_inj (by rw [L_take, hL, L_strB])
  rw [e2, lex_Number_b _ (by rw [strB_size, List.length_take]; simp only [List.length_cons]; omega), L_strB]
  simp only [Option.bind_some]
  rw [if_pos ⟨by omega, by omega, by omega⟩]

/-- What a function that takes a token comes to. -/
def TakeOk (line : Int) (i : Nat) (o : Option ((TToken × Int × Int × Unit) × Unit)) (v : Except Int ((Int × List UInt8 × Int) × Nat)) : Prop := match v with
  | .ok (t, n) => o = some (((t.1, strB t.2.1, t.2.2, line), ((i + n : Nat) : Int), 0, ()), ())
  | .error e => ∃ x n, o = some ((x, n, e, ()), ())

theorem take_ok {line : Int} {i n : Nat} {t : Int × List UInt8 × Int} {o : Option ((TToken × Int × Int × Unit) × Unit)} (h : o = some (((t.1, strB t.2.1, t.2.2, line), ((i + n : Nat) : Int), 0, ()), ())) : TakeOk line i o (.ok (t, n)) := h
theorem take_err {line : Int} {i : Nat} {e : Int} {x : TToken} {n : Int} : TakeOk line i (some ((x, n, e, ()), ())) (.error e) := ⟨x, n, rfl⟩

theorem lex_take_b (s : ByteArray) (hs : s.size ≤ 1099511627776) (c : UInt8) (r : List UInt8) (hL : L s = c :: r) : TakeOk 0 0 (lex_take s) (takeV (c :: r)) := by
  have hl := size_of hL
  simp only [List.length_cons] at hl
  unfold lex_take
  rw [if_pos ⟨by omega, by omega⟩, bt_cons hL, w32c, lex_letter_b, lex_digit_b]
  simp only [Option.bind_some]
  rw [lex_take_num s hs c r hL]
  simp only [takeV]
  by_cases h1 : letterB c = true
  · rw [if_pos h1, if_pos h1]
    have hw : ((c :: r).takeWhile wordB).length ≤ r.length + 1 := takeWhile_le wordB (c :: r)
    rw [lex_words_b s hs, hL]
    simp only [Option.bind_some, Int.toNat_natCast]
    rw [if_pos ⟨by omega, by omega, by omega⟩, if_pos ⟨by omega, by omega, by omega⟩]
    have e2 : s.extract 0 ((c :: r).takeWhile wordB).length = strB ((c :: r).take ((c :: r).takeWhile wordB).length) := L_inj (by rw [L_take, hL, L_strB])
    rw [e2, lex_Name_b, L_strB]
    simp only [Option.bind_some]
    cases hn : nameB ((c :: r).take ((c :: r).takeWhile wordB).length)
    · exact take_err
    · exact take_ok (by rw [Nat.zero_add]; rfl)
  · rw [if_neg h1, if_neg h1]
    by_cases h2 : digitB c = true ∨ c = 45
    · have e3 : ∀ (x y : Option ((TToken × Int × Int × Unit) × Unit)), (if digitB c = true then x else if ((c.toNat : Int) == 45) = true then x else y) = x := by
        intro x y
        rcases h2 with h2 | h2
        · rw [if_pos h2]
        · subst h2
          rw [if_neg (by decide), if_pos (by decide)]
      rw [e3, if_pos h2]
      by_cases hv : (numV ((c :: r).take (1 + (r.takeWhile wordB).length))).2 = 0
      · rw [if_pos hv, hv]
        exact take_ok (by rw [Nat.zero_add])
      · rw [if_neg hv]
        exact take_err
    · rw [if_neg (fun q => h2 (.inl q)), if_neg (show ¬ ((c.toNat : Int) == 45) = true from byte_ne (fun q => h2 (.inr q))), if_neg h2]
      by_cases h3 : c = 34
      · subst h3
        rw [if_pos (by decide), if_pos rfl]
        have hq := lex_quoted_loop s hs r.length r 1 (by rw [hL]; rfl) (Nat.le_refl _) (by omega)
        unfold lex_quoted
        rw [show (1 : Int) = ((1 : Nat) : Int) from rfl, hq, unqL_scan r.length r (Nat.le_refl _)]
        simp only [Option.bind_some]
        cases hsc : scanQ r with
        | none =>
          simp only
          rw [if_pos ⟨by omega, by omega, by omega⟩, lex_Unquote_b _ (by rw [size_take _ _ (by simp)]; simp), L_take]
          exact take_err
        | some m =>
          have hm := scanQ_lt _ _ (Nat.le_refl _) m hsc
          simp only [Int.toNat_natCast]
          have hm' := hm.1
          rw [if_pos ⟨by omega, by omega, by omega⟩, lex_Unquote_b _ (by rw [size_take _ _ (by omega)]; omega), L_take, hL]
          have e4 : (34 :: r).take (1 + m + 1) = 34 :: (r.take m ++ [34]) := by
            rw [show 1 + m + 1 = (m + 1) + 1 by omega, List.take_succ_cons, List.take_succ_eq_append_getElem hm', (List.getElem?_eq_some_iff.1 hm.2).2]
          rw [e4]
          have e5 : unqV (34 :: (r.take m ++ [34])) = unqI r.length (r.take m) := by
            unfold unqV
            simp only
            rw [List.getLast?_concat, if_pos rfl, List.dropLast_concat, unqI_fuel _ _ (by simp), unqI_fuel r.length _ (by rw [List.length_take]; omega)]
          rw [e5]
          cases hu : unqI r.length (r.take m) with
          | none => exact take_err
          | some o =>
            refine take_ok ?_
            simp only [Option.bind_some, Option.some.injEq, Prod.mk.injEq, and_true, true_and, List.length_cons, List.length_drop]
            omega
      · rw [if_neg (show ¬ ((c.toNat : Int) == 34) = true from byte_ne h3), if_neg h3, lex_mark_b]
        simp only [Option.bind_some]
        by_cases h4 : markB c = true
        · rw [if_pos h4, if_pos ⟨by omega, by omega, by omega⟩, if_pos h4]
          have e6 : s.extract 0 1 = strB [c] := L_inj (by rw [L_take, hL]; rfl)
          rw [e6]
          exact take_ok rfl
        · rw [if_neg h4, if_neg h4]
          exact take_err

theorem ref05_token_b (s : ByteArray) (hs : s.size ≤ 1099511627776) (line : Int) (i : Nat) (c : UInt8) (r : List UInt8) (h : (L s).drop i = c :: r) : TakeOk line i (ref05_token s i line) (takeV (c :: r)) := by
  have hi := drop_lt h
  rw [L_len] at hi
  have hrl : r.length + 1 = s.size - i := by
    have := congrArg List.length h
    rw [List.length_drop, L_len, List.length_cons] at this
    omega
  have hw := takeWhile_le wordB r
  have cut : ∀ n, s.extract i (i + n) = strB ((c :: r).take n) := fun n => L_inj (by rw [L_ext, L_strB, ← h, List.drop_take]; congr 1; omega)
  unfold ref05_token
  rw [if_pos ⟨by omega, by omega⟩, bt_drop h, ref05_letter_b, ref05_digit_b, ref05_word_b s hs i c r h]
  simp only [Option.bind_some, Int.toNat_natCast, takeV]
  rw [cut, ref05_Number_b _ (by rw [strB_size, List.length_take]; simp only [List.length_cons]; omega), L_strB]
  simp only [Option.bind_some]
  by_cases h1 : letterB c = true
  · rw [if_pos h1, if_pos h1]
    have hwc : wordB c = true := by simp [wordB, h1]
    have e1 : ((c :: r).takeWhile wordB).length = 1 + (r.takeWhile wordB).length := by rw [List.takeWhile_cons, if_pos hwc, List.length_cons]; omega
    rw [if_pos ⟨by omega, by omega, by omega⟩, if_pos ⟨by omega, by omega, by omega⟩, ref05_Name_b, L_strB, e1]
    simp only [Option.bind_some]
    cases hn : nameB ((c :: r).take (1 + (r.takeWhile wordB).length))
    · exact take_err
    · exact take_ok rfl
  · rw [if_neg h1, if_neg h1]
    by_cases h2 : digitB c = true ∨ c = 45
    · have e3 : ∀ (x y : Option ((TToken × Int × Int × Unit) × Unit)), (if digitB c = true then x else if ((c.toNat : Int) == 45) = true then x else y) = x := by
        intro x y
        rcases h2 with h2 | h2
        · rw [if_pos h2]
        · subst h2
          rw [if_neg (by decide), if_pos (by decide)]
      rw [e3, if_pos h2, if_pos ⟨by omega, by omega, by omega⟩]
      by_cases hv : (numV ((c :: r).take (1 + (r.takeWhile wordB).length))).2 = 0
      · rw [if_neg (nF hv), if_pos ⟨by omega, by omega, by omega⟩, if_pos hv]
        exact take_ok rfl
      · rw [if_pos (nT hv), if_neg hv]
        exact take_err
    · rw [if_neg (fun q => h2 (.inl q)), if_neg (show ¬ ((c.toNat : Int) == 45) = true from byte_ne (fun q => h2 (.inr q))), if_neg h2]
      by_cases h3 : c = 34
      · subst h3
        rw [if_pos (by decide), if_pos rfl, ref05_quoted_b s hs i r h]
        simp only [Option.bind_some]
        cases hu : unqL r.length r with
        | none => exact take_err
        | some p =>
          obtain ⟨o, rest⟩ := p
          have hrest : rest.length ≤ r.length := by
            rw [unqL_scan _ _ (Nat.le_refl _)] at hu
            split at hu
            · cases hu
            · cases hi' : unqI r.length (r.take _) with
              | none => rw [hi'] at hu; cases hu
              | some o' =>
                rw [hi'] at hu
                cases hu
                rw [List.length_drop]; omega
          refine take_ok ?_
          simp only [Bool.not_true, Bool.false_eq_true, if_false, Option.some.injEq, Prod.mk.injEq, and_true, true_and, List.length_cons]
          omega
      · rw [if_neg (show ¬ ((c.toNat : Int) == 34) = true from byte_ne h3), if_neg h3, ref05_Mark_b]
        simp only [Option.bind_some]
        by_cases h4 : markB c = true
        · rw [if_pos h4, w64a i (by omega), if_pos ⟨by omega, by omega, by omega⟩, if_pos h4, Int.toNat_natCast, cut 1]
          exact take_ok rfl
        · rw [if_neg h4, if_neg h4]
          exact take_err

theorem indexByte_drop : ∀ (l : List UInt8) (c : UInt8), (Lib.indexByte l c = -1 ∧ l.dropWhile (· ≠ c) = []) ∨ ∃ n : Nat, Lib.indexByte l c = n ∧ n ≤ l.length ∧ l.dropWhile (· ≠ c) = l.drop n
  | [], c => .inl ⟨rfl, rfl⟩
  | b :: l, c => by
    simp only [Lib.indexByte]
    by_cases h : b = c
    · subst h
      refine .inr ⟨0, by simp, by simp, by simp⟩
    · rw [if_neg (by simpa using h)]
      have e : (b :: l).dropWhile (· ≠ c) = l.dropWhile (· ≠ c) := by simp [List.dropWhile_cons, h]
      rw [e]
      rcases indexByte_drop l c with ⟨h1, h2⟩ | ⟨n, h1, h2, h3⟩
      · rw [h1]; exact .inl ⟨by decide, h2⟩
      · rw [h1, if_neg (by simp)]
        exact .inr ⟨n + 1, by simp, by simp; omega, by rw [h3]; rfl⟩

/-- What the loops over a text come to. -/
def tokOut (l0 : List TToken) : Except (Int × Int) (List TToken) → (List TToken × Int × Int × Unit)
  | .ok ts => (l0 ++ ts, 0, 0, ())
  | .error e => ([], e.1, e.2, ())

theorem dropWhile_le (p : UInt8 → Bool) (l : List UInt8) : (l.dropWhile p).length ≤ l.length := (List.dropWhile_sublist p).length_le

theorem lex_Tokens_loop : ∀ (k : Nat) (s : ByteArray) (line : Nat) (l0 : List TToken), (L s).length ≤ k → l0.length + (L s).length ≤ 1048576 → line + (L s).length ≤ 2097152 →
    lex_Tokens_l7 s line l0 = some (tokOut l0 (tokF k line (L s)), ()) := by
  intro k
  induction k using Nat.strongRecOn with
  | _ k ih =>
    intro s line l0 hk ha hb
    rw [lex_Tokens_l7_eq]
    cases hL : L s with
    | nil =>
      rw [if_neg (cond_nil hL)]
      have : tokF k line [] = .ok [] := by cases k <;> rfl
      rw [this]
      simp only [tokOut, List.append_nil]
    | cons c r =>
      have hl := size_of hL
      rw [hL] at hk ha hb
      simp only [List.length_cons] at hk ha hb hl
      obtain ⟨k, rfl⟩ : ∃ j, k = j + 1 := ⟨k - 1, by omega⟩
      have e1 := L_ext' s 1
      rw [hL, List.drop_succ_cons, List.drop_zero] at e1
      rw [if_pos (cond_not_nil hL), if_pos ⟨by omega, by omega⟩, bt_cons hL, tokF]
      by_cases h1 : c = 10
      · subst h1
        rw [if_pos (by decide), if_pos rfl, if_pos ⟨by omega, by omega⟩, w64a line (by omega), ih k (by omega) _ (line + 1) l0 (by rw [e1]; omega) (by rw [e1]; omega) (by rw [e1]; omega), e1]
        rfl
      · rw [if_neg (show ¬ ((c.toNat : Int) == 10) = true from byte_ne h1), if_neg h1]
        have blank : ∀ t, lex_Tokens_l15 s line t true l0 = some (tokOut l0 (tokF k line r), ()) := by
          intro t
          rw [lex_Tokens_l15_eq, if_pos rfl, if_pos ⟨by omega, by omega⟩, ih k (by omega) _ line l0 (by rw [e1]; omega) (by rw [e1]; omega) (by rw [e1]; omega), e1]
        by_cases h2 : c = 32
        · subst h2
          rw [if_pos (by decide), if_pos (.inl rfl)]
          exact blank _
        · rw [if_neg (show ¬ ((c.toNat : Int) == 32) = true from byte_ne h2)]
          by_cases h3 : c = 9
          · subst h3
            rw [show (((9 : UInt8).toNat : Int) == 9) = true from by decide, if_pos (.inr rfl)]
            exact blank _
          · rw [show ((c.toNat : Int) == 9) = false from by simpa using byte_ne h3, if_neg (by simp [h2, h3]), lex_Tokens_l15_eq, if_neg Bool.false_ne_true]
            by_cases h4 : c = 35
            · subst h4
              rw [if_pos (by decide), if_pos rfl]
              simp only [strings_IndexByte, Option.bind_some]
              rw [show (10 : Int).toNat.toUInt8 = 10 from rfl, show s.data.toList = L s from rfl, hL]
              have e2 : ((35 : UInt8) :: r).dropWhile (· ≠ 10) = r.dropWhile (· ≠ 10) := by simp [List.dropWhile_cons]
              have hdl := dropWhile_le (· ≠ 10) r
              rcases indexByte_drop (35 :: r) 10 with ⟨f1, f2⟩ | ⟨n, f1, f2, f3⟩
              · rw [f1, if_pos (by decide), if_pos ⟨by omega, by omega⟩, Int.toNat_natCast]
                have e3 := L_ext' s s.size
                rw [List.drop_of_length_le (by rw [L_len]; exact Nat.le_refl _)] at e3
                rw [ih k (by omega) _ line l0 (by rw [e3]; simp) (by rw [e3]; simp; omega) (by rw [e3]; simp; omega), e3, ← e2, f2]
              · simp only [List.length_cons] at f2
                rw [f1, if_neg (dF (by omega)), if_pos ⟨by omega, by omega⟩, Int.toNat_natCast]
                have e3 := L_ext' s n
                rw [hL, ← f3, e2] at e3
                rw [ih k (by omega) _ line l0 (by rw [e3]; omega) (by rw [e3]; omega) (by rw [e3]; omega), e3]
            · rw [if_neg (show ¬ ((c.toNat : Int) == 35) = true from byte_ne h4), if_neg h4]
              have ht := lex_take_b s (by omega) c r hL
              cases hv : takeV (c :: r) with
              | error e =>
                rw [hv] at ht
                obtain ⟨x, n, ht⟩ := ht
                rw [ht]
                simp only [Option.bind_some]
                rw [if_pos (nT (takeV_err hv))]
                rfl
              | ok p =>
                obtain ⟨t, n⟩ := p
                rw [hv] at ht
                have hn := takeV_len hv
                rw [show lex_take s = _ from ht]
                simp only [Option.bind_some]
                have e3 := L_ext' s n
                rw [hL] at e3
                have e4 : (L (s.extract n s.size)).length = r.length + 1 - n := by rw [e3, List.length_drop, List.length_cons]
                rw [if_neg (nF rfl), if_pos ⟨by omega, by omega⟩, if_pos ⟨by omega, by omega⟩, Int.toNat_natCast, Nat.zero_add,
                  ih k (by omega) _ line _ (by rw [e4]; omega) (by rw [e4, List.length_append, List.length_cons, List.length_nil]; omega) (by rw [e4]; omega), e3]
                cases tokF k line ((c :: r).drop n) with
                | error e => rfl
                | ok ts => simp only [tokOut, List.append_assoc, List.cons_append, List.nil_append]

theorem ref05_comment_loop (s : ByteArray) (hs : s.size ≤ 1048576) (line : Int) (l0 : List TToken) : ∀ (r : List UInt8) (i : Nat), (L s).drop i = r → i ≤ s.size → ref05_Tokens_l16 s line i l0 = ref05_Tokens_l8 s line ((s.size - (r.dropWhile (· ≠ 10)).length : Nat) : Int) l0
  | [], i, h, hi => by
    have := drop_nil h
    rw [L_len] at this
    rw [ref05_Tokens_l16_eq, if_neg (dF (by omega)), show i = s.size by omega]
    rfl
  | c :: r, i, h, hi => by
    have h1 := drop_lt h
    rw [L_len] at h1
    rw [ref05_Tokens_l16_eq, if_pos (dT (by omega)), if_pos ⟨by omega, by omega⟩, bt_drop h, w64a i (by omega)]
    by_cases g : c = 10
    · subst g
      rw [if_neg (by decide)]
      have : r.length + 1 = s.size - i := by
        have := congrArg List.length h
        rw [List.length_drop, L_len, List.length_cons] at this
        omega
      have e : ((10 : UInt8) :: r).dropWhile (· ≠ 10) = 10 :: r := by simp [List.dropWhile_cons]
      rw [e, List.length_cons, show s.size - (r.length + 1) = i by omega]
    · rw [if_pos (show ((c.toNat : Int) != 10) = true from byte_bne g), ref05_comment_loop s hs line l0 r (i + 1) (drop_succ h) (by omega)]
      have e : (c :: r).dropWhile (· ≠ 10) = r.dropWhile (· ≠ 10) := by simp [List.dropWhile_cons, g]
      rw [e]

theorem ref05_Tokens_loop (s : ByteArray) (hs : s.size ≤ 1048576) : ∀ (k : Nat) (r : List UInt8) (i line : Nat) (l0 : List TToken), (L s).drop i = r → r.length ≤ k → l0.length ≤ i → i ≤ s.size → line ≤ i + 1 →
    ref05_Tokens_l8 s line i l0 = some (tokOut l0 (tokF k line r), ()) := by
  intro k
  induction k using Nat.strongRecOn with
  | _ k ih =>
    intro r i line l0 hr hk ha hi hb
    rw [ref05_Tokens_l8_eq]
    cases r with
    | nil =>
      have := drop_nil hr
      rw [L_len] at this
      rw [if_neg (dF (by omega))]
      have : tokF k line [] = .ok [] := by cases k <;> rfl
      rw [this]
      simp only [tokOut, List.append_nil]
    | cons c r =>
      have h1 := drop_lt hr
      rw [L_len] at h1
      simp only [List.length_cons] at hk
      obtain ⟨k, rfl⟩ : ∃ j, k = j + 1 := ⟨k - 1, by omega⟩
      have hrl : r.length + 1 = s.size - i := by
        have := congrArg List.length hr
        rw [List.length_drop, L_len, List.length_cons] at this
        omega
      have d1 := drop_succ hr
      rw [if_pos (dT (by omega)), if_pos ⟨by omega, by omega⟩, bt_drop hr, tokF, w64a i (by omega)]
      by_cases g1 : c = 10
      · subst g1
        rw [if_pos (by decide), if_pos rfl, w64a line (by omega), ih k (by omega) r (i + 1) (line + 1) l0 d1 (by omega) (by omega) (by omega) (by omega)]
        rfl
      · rw [if_neg (show ¬ ((c.toNat : Int) == 10) = true from byte_ne g1), if_neg g1]
        by_cases g2 : c = 32
        · subst g2
          rw [if_pos (by decide), if_pos (.inl rfl), ih k (by omega) r (i + 1) line l0 d1 (by omega) (by omega) (by omega) (by omega)]
        · rw [if_neg (show ¬ ((c.toNat : Int) == 32) = true from byte_ne g2)]
          by_cases g3 : c = 9
          · subst g3
            rw [if_pos (by decide), if_pos (.inr rfl), ih k (by omega) r (i + 1) line l0 d1 (by omega) (by omega) (by omega) (by omega)]
          · rw [if_neg (show ¬ ((c.toNat : Int) == 9) = true from byte_ne g3), if_neg (show ¬ (c = 32 ∨ c = 9) by simp [g2, g3])]
            by_cases g4 : c = 35
            · subst g4
              rw [if_pos (by decide), if_pos rfl, ref05_comment_loop s hs line l0 (35 :: r) i hr hi]
              have e2 : ((35 : UInt8) :: r).dropWhile (· ≠ 10) = r.dropWhile (· ≠ 10) := by simp [List.dropWhile_cons]
              have hdl := dropWhile_le (· ≠ 10) r
              rw [e2]
              have e3 : (L s).drop (s.size - (r.dropWhile (· ≠ 10)).length) = r.dropWhile (· ≠ 10) := by
                obtain ⟨t, ht⟩ : ∃ t, t ++ r.dropWhile (· ≠ 10) = r := ⟨_, List.takeWhile_append_dropWhile⟩
                have hlen : t.length + (r.dropWhile (· ≠ 10)).length = r.length := by rw [← List.length_append, ht]
                rw [show s.size - (r.dropWhile (· ≠ 10)).length = (i + 1) + t.length by omega, ← List.drop_drop, d1]
                conv => lhs; rw [← ht]
                rw [List.drop_left]
              rw [ih k (by omega) _ _ line l0 e3 (by omega) (by omega) (by omega) (by omega)]
            · rw [if_neg (show ¬ ((c.toNat : Int) == 35) = true from byte_ne g4), if_neg g4]
              have ht := ref05_token_b s (by omega) line i c r hr
              cases hv : takeV (c :: r) with
              | error e =>
                rw [hv] at ht
                obtain ⟨x, n, ht⟩ := ht
                rw [ht]
                simp only [Option.bind_some]
                rw [if_pos (nT (takeV_err hv))]
                rfl
              | ok p =>
                obtain ⟨t, n⟩ := p
                rw [hv] at ht
                have hn := takeV_len hv
                rw [show ref05_token s i line = _ from ht]
                simp only [Option.bind_some]
                have e3 : (L s).drop (i + n) = (c :: r).drop n := by rw [← hr, List.drop_drop]
                rw [if_neg (nF rfl), if_pos ⟨by omega, by omega⟩,
                  ih k (by omega) _ (i + n) line _ e3 (by rw [List.length_drop, List.length_cons]; omega) (by rw [List.length_append, List.length_cons, List.length_nil]; omega) (by omega) (by omega)]
                cases tokF k line ((c :: r).drop n) with
                | error e => rfl
                | ok ts => simp only [tokOut, List.append_assoc, List.cons_append, List.nil_append]

theorem lex_Tokens_b (s : ByteArray) : lex_Tokens s = some (tokOut [] (tokV (L s)), ()) := by
  unfold lex_Tokens tokV
  rw [L_len]
  by_cases h : s.size > 1048576
  · rw [if_pos (dT (by omega)), if_pos h]; rfl
  · rw [if_neg (dF (by omega)), if_neg h]
    exact lex_Tokens_loop s.size s 1 [] (by rw [L_len]; exact Nat.le_refl _) (by rw [L_len]; simp; omega) (by rw [L_len]; omega)

theorem ref05_Tokens_b (s : ByteArray) : ref05_Tokens s = some (tokOut [] (tokV (L s)), ()) := by
  unfold ref05_Tokens tokV
  rw [L_len]
  by_cases h : s.size > 1048576
  · rw [if_pos (dT (by omega)), if_pos h]; rfl
  · rw [if_neg (dF (by omega)), if_neg h]
    exact ref05_Tokens_loop s (by omega) s.size (L s) 0 1 [] rfl (by rw [L_len]; exact Nat.le_refl _) (by simp) (by omega) (by omega)

end Go.Proofs.YtgpgpelaabdkhaaGreatDoor
end

section
/-
YtgpgpelaabdkhaaGreatDoor: the laws of tokens, numbers and quoted strings, as plain functions, come to true. No condition.
-/
set_option maxRecDepth 100000
open Go Go.AM
namespace Go.Proofs.YtgpgpelaabdkhaaGreatDoor

theorem awake_tokens : tokV [97, 50, 32, 61, 32, 45, 48, 120, 49, 102, 59, 32, 35, 32, 101, 110, 100] = .ok [(1, strB [97, 50], 0, 1), (4, strB [61], 0, 1), (2, strB [45, 48, 120, 49, 102], (-31), 1), (4, strB [59], 0, 1)] := by kernel_rfl

theorem tokF_length : ∀ (k : Nat) (line : Int) (l : List UInt8) (ts : List TToken), tokF k line l = .ok ts → ts.length ≤ l.length := by
  intro k
  induction k with
  | zero => intro line l ts h; cases l <;> cases h <;> simp
  | succ k ih =>
    intro line l ts h
    cases l with
    | nil => cases h; simp
    | cons c r =>
      rw [tokF] at h
      split at h
      · have := ih _ _ _ h; simp only [List.length_cons]; omega
      · split at h
        · have := ih _ _ _ h; simp only [List.length_cons]; omega
        · split at h
          · have := ih _ _ _ h
            have := dropWhile_le (· ≠ 10) r
            simp only [List.length_cons]; omega
          · split at h
            · cases h
            · rename_i t n hv
              have hn := takeV_len hv
              split at h
              · rename_i ts' ht
                cases h
                have := ih _ _ _ ht
                rw [List.length_drop] at this
                simp only [List.length_cons] at this ⊢
                omega
              · cases h

theorem tokOut_length (s : ByteArray) : (tokOut [] (tokV (L s))).1.length ≤ 1048576 := by
  unfold tokV
  split
  · simp [tokOut]
  · cases h : tokF (L s).length 1 (L s) with
    | ok ts =>
      have := tokF_length _ _ _ _ h
      simp only [tokOut, List.nil_append]
      omega
    | error e => simp [tokOut]

end Go.Proofs.YtgpgpelaabdkhaaGreatDoor
end

section
/-
YtgpgpelaabdkhaaGreatDoor: quoting, as plain functions, comes to what the plain law says; quoted strings are read back. No condition.
-/
set_option maxRecDepth 100000
set_option linter.unusedVariables false
open Go Go.AM
namespace Go.Proofs.YtgpgpelaabdkhaaGreatDoor

theorem writeByte_b (c : Int) (l : List Int) (h : l.length ≤ 1099511627776) : strings_Builder_WriteByte c l = some (((), ()), (((), (), ()), (), l ++ [c], ())) := by
  unfold strings_Builder_WriteByte strings_Builder_copyCheck
  simp only [Option.bind_some]
  rw [if_pos ⟨by omega, by decide⟩]

theorem writeString_b (s : ByteArray) (l : List Int) (h : l.length + s.size ≤ 1099511627776) : strings_Builder_WriteString s l = some (((s.size : Int), (), ()), (((), (), ()), (), l ++ bytesOfStr s, ())) := by
  have e : (bytesOfStr s).length = s.size := by unfold bytesOfStr; rw [List.length_map]; exact Array.length_toList
  unfold strings_Builder_WriteString strings_Builder_copyCheck
  simp only [Option.bind_some]
  rw [if_pos ⟨by rw [e]; omega, by decide⟩]

theorem byteL_bI (l : List UInt8) : byteL (bI l) = true := by
  unfold byteL bI
  rw [List.all_eq_true]
  intro x hx
  obtain ⟨c, _, rfl⟩ := List.mem_map.1 hx
  have := c.toNat_lt
  exact decide_eq_true (by omega)

theorem string_b (l : List UInt8) : strings_Builder_String (bI l) = some ((strB l, ()), ((), (), ())) := by
  unfold strings_Builder_String
  rw [if_pos (byteL_bI l), strOf_bI]

theorem lex_Quote_loop (s : ByteArray) (hs : s.size ≤ 4294967296) : ∀ (r : List UInt8) (n : Nat) (acc : List UInt8), (L s).drop n = r → acc.length ≤ 4 * n + 1 → n ≤ s.size → lex_Quote_l5 s s.size n (bI acc) = some ((strB (acc ++ (quoteL r ++ [34])), ()), ())
  | [], n, acc, h, ha, hn => by
    have h1 := drop_nil h
    rw [L_len] at h1
    rw [lex_Quote_l5_eq, if_neg (dF (by omega)), writeByte_b _ _ (by rw [bI_len]; omega)]
    simp only [Option.bind_some]
    rw [show bI acc ++ [34] = bI (acc ++ [34]) from bI_snoc acc 34, string_b]
    rfl
  | c :: r, n, acc, h, ha, hn => by
    have h1 := drop_lt h
    rw [L_len] at h1
    have hc := c.toNat_lt
    have ih : ∀ q : List UInt8, q = quoteC c → lex_Quote_l5 s s.size (n + 1 : Nat) (bI (acc ++ q)) = some ((strB (acc ++ (quoteL (c :: r) ++ [34])), ()), ()) := fun q hq => by
      have hl := quoteC_len c
      rw [lex_Quote_loop s hs r (n + 1) (acc ++ q) (dropS h) (by rw [List.length_append, hq]; omega) (by omega), hq, quoteL_cons]
      simp [List.append_assoc]
    rw [lex_Quote_l5_eq, if_pos (dT (by omega)), if_pos ⟨by omega, by omega⟩, bt_drop h, w32c, lex_plain_b, w64a n (by omega)]
    simp only [Option.bind_some]
    by_cases hp : plainB c = true
    · rw [if_pos hp, writeByte_b _ _ (by rw [bI_len]; omega)]
      simp only [Option.bind_some]
      rw [bI_snoc]
      exact ih [c] (by unfold quoteC; rw [if_pos hp])
    · rw [if_neg hp]
      have two : ∀ k : Nat, k ≤ 4 → (bI acc).length + k ≤ 1099511627776 := fun k hk => by rw [bI_len]; omega
      by_cases h34 : c = 34
      · subst h34
        rw [if_pos (by decide), writeByte_b _ _ (by have := two 0 (by omega); omega)]
        simp only [Option.bind_some]
        rw [writeByte_b _ _ (by rw [List.length_append]; have := two 1 (by omega); simp only [List.length_cons, List.length_nil]; omega)]
        simp only [Option.bind_some]
        have := ih [92, 34] rfl
        rw [← bI_app, show bI [92, 34] = [(92 : Int)] ++ [(34 : Int)] from rfl, ← List.append_assoc] at this
        exact this
      rw [if_neg (show ¬ ((c.toNat : Int) == 34) = true from byte_ne h34)]
      by_cases h92 : c = 92
      · subst h92
        rw [if_pos (by decide), writeByte_b _ _ (by have := two 0 (by omega); omega)]
        simp only [Option.bind_some]
        rw [writeByte_b _ _ (by rw [List.length_append]; have := two 1 (by omega); simp only [List.length_cons, List.length_nil]; omega)]
        simp only [Option.bind_some]
        have := ih [92, 92] rfl
        rw [← bI_app, show bI [92, 92] = [(92 : Int)] ++ [(92 : Int)] from rfl, ← List.append_assoc] at this
        exact this
      rw [if_neg (show ¬ ((c.toNat : Int) == 92) = true from byte_ne h92)]
      by_cases h10 : c = 10
      · subst h10
        rw [if_pos (by decide), writeString_b _ _ (two 2 (by omega))]
        simp only [Option.bind_some]
        have := ih [92, 110] rfl
        rw [← bI_app] at this
        exact this
      rw [if_neg (show ¬ ((c.toNat : Int) == 10) = true from byte_ne h10), writeString_b _ _ (two 2 (by omega))]
      simp only [Option.bind_some]
      obtain ⟨a1, a2, a3⟩ := dig_hi c.toNat hc
      obtain ⟨b1, b2, b3⟩ := dig_lo c.toNat hc
      have e2 : (bytesOfStr (strB [92, 120])) = [92, 120] := rfl
      rw [if_pos ⟨a1, a2⟩, e2, writeByte_b _ _ (by rw [List.length_append]; have := two 2 (by omega); simp only [List.length_cons, List.length_nil]; omega)]
      simp only [Option.bind_some]
      rw [if_pos ⟨b1, b2⟩, writeByte_b _ _ (by simp only [List.length_append, List.length_cons, List.length_nil]; have := two 3 (by omega); omega)]
      simp only [Option.bind_some]
      have := ih [92, 120, hexD (c.toNat / 16), hexD (c.toNat % 16)] (by unfold quoteC; rw [if_neg hp, if_neg (by simp [h34, h92]), if_neg h10])
      rw [← bI_app] at this
      have e3 : bI acc ++ [92, 120] ++ [bt digsB ((c.toNat : Int).fdiv 16)] ++ [bt digsB (IntKind.u8.wrap (BitVec.ofInt 8 (c.toNat : Int) &&& BitVec.ofInt 8 15).toNat)] = bI acc ++ bI [92, 120, hexD (c.toNat / 16), hexD (c.toNat % 16)] := by
        rw [a3, b3]
        simp [bI]
      rw [← e3] at this
      exact this

theorem lex_Quote_b (s : ByteArray) (hs : s.size ≤ 4294967296) : lex_Quote s = some ((strB (quoteV (L s)), ()), ()) := by
  unfold lex_Quote
  rw [writeByte_b _ _ (by simp)]
  simp only [Option.bind_some]
  exact lex_Quote_loop s hs (L s) 0 [34] rfl (by simp) (by omega)

theorem ref05_Quote_loop (s : ByteArray) (hs : s.size ≤ 4294967296) : ∀ (r : List UInt8) (n : Nat) (acc : List UInt8), (L s).drop n = r → acc.length ≤ 4 * n + 1 → n ≤ s.size → ref05_Quote_l5 s digsB n (bI acc) = some ((strB (acc ++ (quoteL r ++ [34])), ()), ())
  | [], n, acc, h, ha, hn => by
    have h1 := drop_nil h
    rw [L_len] at h1
    rw [ref05_Quote_l5_eq, if_neg (dF (by omega)), if_pos ⟨by rw [bI_len]; omega, by decide⟩, show bI acc ++ [34] = bI (acc ++ [34]) from bI_snoc acc 34, strOf_bI]
    rfl
  | c :: r, n, acc, h, ha, hn => by
    have h1 := drop_lt h
    rw [L_len] at h1
    have hc := c.toNat_lt
    have ih : ∀ q : List UInt8, q = quoteC c → ref05_Quote_l5 s digsB (n + 1 : Nat) (bI acc ++ bI q) = some ((strB (acc ++ (quoteL (c :: r) ++ [34])), ()), ()) := fun q hq => by
      have hl := quoteC_len c
      rw [bI_app, ref05_Quote_loop s hs r (n + 1) (acc ++ q) (dropS h) (by rw [List.length_append, hq]; omega) (by omega), hq, quoteL_cons]
      simp [List.append_assoc]
    have np : ∀ x : UInt8, x.toNat < 32 ∨ 126 < x.toNat ∨ x = 34 ∨ x = 92 → plainB x = false := by
      intro x hx
      unfold plainB
      rcases hx with q | q | q | q
      · rw [decide_eq_false (by omega)]; rfl
      · rw [decide_eq_false (show ¬ x.toNat ≤ 126 by omega)]; simp
      · subst q; decide
      · subst q; decide
    rw [ref05_Quote_l5_eq, if_pos (dT (by omega)), if_pos ⟨by omega, by omega⟩, bt_drop h, w64a n (by omega)]
    have two : ∀ k : Nat, k ≤ 4 → ((bI acc).length + k) * 1 ≤ 140737488355328 ∧ 0 < 1 := fun k hk => ⟨by rw [bI_len]; omega, by decide⟩
    by_cases h34 : c = 34
    · subst h34
      rw [if_pos (by decide), if_pos (two 2 (by omega))]
      exact ih [92, 34] rfl
    rw [if_neg (show ¬ ((c.toNat : Int) == 34) = true from byte_ne h34)]
    by_cases h92 : c = 92
    · subst h92
      rw [if_pos (by decide), if_pos (two 2 (by omega))]
      exact ih [92, 92] rfl
    rw [if_neg (show ¬ ((c.toNat : Int) == 92) = true from byte_ne h92)]
    by_cases h10 : c = 10
    · subst h10
      rw [if_pos (by decide), if_pos (two 2 (by omega))]
      exact ih [92, 110] rfl
    rw [if_neg (show ¬ ((c.toNat : Int) == 10) = true from byte_ne h10)]
    obtain ⟨a1, a2, a3⟩ := dig_hi2 c.toNat hc
    obtain ⟨b1, b2, b3⟩ := dig_lo2 c.toNat hc
    have hex : plainB c = false → ref05_Quote_l5 s digsB (n + 1 : Nat) (bI acc ++ [92, 120, bt digsB (IntKind.u8.wrap ((c.toNat : Int).tdiv 16)), bt digsB ((c.toNat : Int).tmod 16)]) = some ((strB (acc ++ (quoteL (c :: r) ++ [34])), ()), ()) := fun hp => by
      have := ih [92, 120, hexD (c.toNat / 16), hexD (c.toNat % 16)] (by unfold quoteC; rw [if_neg (by rw [hp]; simp), if_neg (by simp [h34, h92]), if_neg h10])
      rw [a3, b3]
      exact this
    by_cases h32 : (c.toNat : Int) < 32
    · rw [if_pos (dT h32), if_pos ⟨a1, a2⟩, if_pos ⟨b1, b2⟩, if_pos (two 4 (by omega))]
      exact hex (np c (.inl (by omega)))
    rw [if_neg (dF h32)]
    by_cases h126 : (c.toNat : Int) > 126
    · rw [if_pos (dT h126), if_pos ⟨a1, a2⟩, if_pos ⟨b1, b2⟩, if_pos (two 4 (by omega))]
      exact hex (np c (.inr (.inl (by omega))))
    rw [if_neg (dF h126), if_pos (two 1 (by omega))]
    refine ih [c] ?_
    unfold quoteC
    rw [if_pos]
    unfold plainB
    rw [decide_eq_true (show 32 ≤ c.toNat by omega), decide_eq_true (show c.toNat ≤ 126 by omega)]
    simp [h34, h92]

theorem ref05_Quote_b (s : ByteArray) (hs : s.size ≤ 4294967296) : ref05_Quote s = some ((strB (quoteV (L s)), ()), ()) := by
  unfold ref05_Quote
  exact ref05_Quote_loop s hs (L s) 0 [34] rfl (by simp) (by omega)

end Go.Proofs.YtgpgpelaabdkhaaGreatDoor
end

section
/-
YtgpgpelaabdkhaaGreatDoor: the text of tokens, as plain functions, comes to what the plain law says. No condition.
-/
set_option maxRecDepth 100000
set_option linter.unusedVariables false
open Go Go.AM
namespace Go.Proofs.YtgpgpelaabdkhaaGreatDoor

theorem strB_L (s : ByteArray) : strB (L s) = s := L_inj (L_strB _)
theorem strB_app (a b : List UInt8) : strB a ++ strB b = strB (a ++ b) := L_inj (by rw [L_app]; rfl)
theorem beq_dec (x y : Int) : (x == y) = decide (x = y) := by rw [Bool.eq_iff_iff]; simp
theorem bytesOf_strB (l : List UInt8) : bytesOfStr (strB l) = bI l := rfl

theorem itoa_b (n : Int) (h : -9223372036854775808 ≤ n ∧ n ≤ 9223372036854775807) : strconv_Itoa n = some ((strB (Lib.itoa n), ()), ()) := by
  unfold strconv_Itoa itoaG
  rw [if_pos h]
  rfl

theorem lex_form_b (t : TToken) (hs : t.2.1.size ≤ 1048576) (hv : -9223372036854775808 ≤ t.2.2.1 ∧ t.2.2.1 ≤ 9223372036854775807) : ∃ s, lex_form t = some ((s, formOk t, ()), ()) ∧ (formOk t = true → s = strB (formB t)) := by
  unfold lex_form formOk formB
  by_cases h1 : t.1 = 1
  · have e2 : ¬ t.1 = 2 := by omega
    have e3 : ¬ t.1 = 3 := by omega
    rw [if_pos (eT h1), if_pos h1, if_neg e2, if_neg e3, lex_Name_b, beq_dec]
    simp only [Option.bind_some]
    refine ⟨t.2.1, ?_, fun _ => (strB_L _).symm⟩
    cases nameB (L t.2.1) <;> simp
  rw [if_neg (eF h1), if_neg h1]
  by_cases h2 : t.1 = 2
  · rw [if_pos (eT h2), if_pos h2, if_pos h2, lex_Number_b _ (by omega), itoa_b _ hv]
    simp only [Option.bind_some, beq_dec]
    refine ⟨strB (Lib.itoa t.2.2.1), ?_, fun _ => rfl⟩
    by_cases he : (numV (L t.2.1)).2 = 0
    · rw [if_pos (by simpa using he)]; simp [he]
    · rw [if_neg (by simpa using he)]; simp [he]
  rw [if_neg (eF h2), if_neg h2, if_neg h2]
  by_cases h3 : t.1 = 3
  · rw [if_pos (eT h3), if_pos h3, if_pos h3, lex_Quote_b _ (by omega), beq_dec]
    simp only [Option.bind_some]
    exact ⟨_, rfl, fun _ => rfl⟩
  rw [if_neg (eF h3), if_neg h3, if_neg h3]
  by_cases h4 : t.1 = 4
  · rw [if_pos (eT h4), if_pos h4]
    refine ⟨t.2.1, ?_, fun _ => (strB_L _).symm⟩
    by_cases hz : (t.2.1.size : Int) = 1
    · rw [if_pos (eT hz), if_pos ⟨by omega, by omega⟩]
      have hl : (L t.2.1).length = 1 := by rw [L_len]; omega
      obtain ⟨c, hc⟩ : ∃ c, L t.2.1 = [c] := by
        match L t.2.1, hl with
        | [c], _ => exact ⟨c, rfl⟩
      rw [bt_at (i := 0) (c := c) (r := []) (by rw [hc]; rfl) 0 rfl, w32c, lex_mark_b, hc, beq_dec]
      simp only [Option.bind_some, markL]
      cases markB c <;> simp
    · rw [if_neg (eF hz)]
      have hm : markL (L t.2.1) = false := by
        have hl : (L t.2.1).length ≠ 1 := by rw [L_len]; omega
        match L t.2.1, hl with
        | [], _ => rfl
        | [c], hl => exact absurd rfl hl
        | _ :: _ :: _, _ => rfl
      rw [hm]
      simp
  rw [if_neg (eF h4), if_neg h4]
  exact ⟨strB [], rfl, fun h => by cases h⟩

theorem ref05_Right_b (t : TToken) (hs : t.2.1.size ≤ 1048576) : ref05_Right t = some ((formOk t, ()), ()) := by
  unfold ref05_Right formOk
  by_cases h2 : t.1 = 2
  · rw [if_pos (eT h2), if_neg (show ¬ t.1 = 1 by omega), if_pos h2, ref05_Number_b _ (by omega)]
    simp only [Option.bind_some, beq_dec]
    by_cases he : (numV (L t.2.1)).2 = 0
    · rw [if_pos (by simpa using he)]; simp [he]
    · rw [if_neg (by simpa using he)]; simp [he]
  rw [if_neg (eF h2), if_neg h2]
  by_cases hz : t.2.2.1 = 0
  · rw [if_neg (nF hz)]
    by_cases h1 : t.1 = 1
    · rw [if_pos (eT h1), if_pos h1, ref05_Name_b]
      simp [hz]
    rw [if_neg (eF h1), if_neg h1]
    by_cases h4 : t.1 = 4
    · rw [if_pos (eT h4), if_neg (show ¬ t.1 = 3 by omega), if_pos h4]
      by_cases hy : (t.2.1.size : Int) = 1
      · rw [if_pos (eT hy), if_pos ⟨by omega, by omega⟩]
        have hl : (L t.2.1).length = 1 := by rw [L_len]; omega
        obtain ⟨c, hc⟩ : ∃ c, L t.2.1 = [c] := by
          match L t.2.1, hl with
          | [c], _ => exact ⟨c, rfl⟩
        rw [bt_at (i := 0) (c := c) (r := []) (by rw [hc]; rfl) 0 rfl, ref05_Mark_b, hc]
        simp [hz, markL]
      · rw [if_neg (eF hy)]
        have hm : markL (L t.2.1) = false := by
          have hl : (L t.2.1).length ≠ 1 := by rw [L_len]; omega
          match L t.2.1, hl with
          | [], _ => rfl
          | [c], hl => exact absurd rfl hl
          | _ :: _ :: _, _ => rfl
        rw [hm]
        rfl
    · rw [if_neg (eF h4), if_neg h4, beq_dec]
      by_cases h3 : t.1 = 3
      · rw [if_pos h3, decide_eq_true h3, decide_eq_true hz]
      · rw [if_neg h3, decide_eq_false h3]
  · rw [if_pos (nT hz), decide_eq_false hz]
    simp

theorem digit_b : ∀ d : Nat, d < 10 → (strB [48, 49, 50, 51, 52, 53, 54, 55, 56, 57]).extract d (d + 1) = strB [UInt8.ofNat (48 + d)]
  | 0, _ => by kernel_rfl
  | 1, _ => by kernel_rfl
  | 2, _ => by kernel_rfl
  | 3, _ => by kernel_rfl
  | 4, _ => by kernel_rfl
  | 5, _ => by kernel_rfl
  | 6, _ => by kernel_rfl
  | 7, _ => by kernel_rfl
  | 8, _ => by kernel_rfl
  | 9, _ => by kernel_rfl
  | n + 10, h => by omega

theorem decimal_step (n : Int) (d : Nat) (hd : d < 10) (rest : Int) (o : List UInt8) (ho : o.length ≤ 1000) (hr : -9223372036854775808 ≤ rest.tdiv 10 ∧ rest.tdiv 10 ≤ 9223372036854775807) :
    ref05_Decimal_l12 n (strB [48, 49, 50, 51, 52, 53, 54, 55, 56, 57]) rest (strB o) d = ref05_Decimal_l8 n (strB [48, 49, 50, 51, 52, 53, 54, 55, 56, 57]) (rest.tdiv 10) (strB (UInt8.ofNat (48 + d) :: o)) := by
  rw [ref05_Decimal_l12_eq, w64a d (by omega)]
  have h10 : (((strB [48, 49, 50, 51, 52, 53, 54, 55, 56, 57]).size : Nat) : Int) = 10 := rfl
  rw [if_pos ⟨by omega, by omega, by rw [h10]; omega⟩, Int.toNat_natCast, Int.toNat_natCast, digit_b d hd, if_pos (by rw [strB_size, strB_size]; simp only [List.length_cons, List.length_nil]; omega), w64 hr.1 hr.2, strB_app]
  rfl

theorem decimal_loop (n : Int) (neg : Bool) : ∀ (k u : Nat) (o : List UInt8), u ≤ k → 0 < u → u ≤ 9007199254740992 → o.length + (Lib.decDigits u).length ≤ 500 →
    ref05_Decimal_l8 n (strB [48, 49, 50, 51, 52, 53, 54, 55, 56, 57]) (if neg = true then -(u : Int) else u) (strB o) = ref05_Decimal_l8 n (strB [48, 49, 50, 51, 52, 53, 54, 55, 56, 57]) 0 (strB (Lib.decDigits u ++ o)) := by
  intro k
  induction k with
  | zero => intro u o hk h0; omega
  | succ k ih =>
    intro u o hk h0 hu ho
    have key : ref05_Decimal_l8 n (strB [48, 49, 50, 51, 52, 53, 54, 55, 56, 57]) (if neg = true then -(u : Int) else u) (strB o) =
        ref05_Decimal_l8 n (strB [48, 49, 50, 51, 52, 53, 54, 55, 56, 57]) (if neg = true then -((u / 10 : Nat) : Int) else ((u / 10 : Nat) : Int)) (strB (UInt8.ofNat (48 + u % 10) :: o)) := by
      have hm : u % 10 < 10 := Nat.mod_lt _ (by omega)
      have hq : u / 10 ≤ u := Nat.div_le_self _ _
      have t1 : ((u : Nat) : Int).tmod 10 = ((u % 10 : Nat) : Int) := rfl
      have t2 : ((u : Nat) : Int).tdiv 10 = ((u / 10 : Nat) : Int) := rfl
      rw [ref05_Decimal_l8_eq]
      cases neg with
      | false =>
        rw [if_neg (show ¬ false = true by simp), if_neg (show ¬ false = true by simp), if_pos (nT (by omega)), t1, if_neg (dF (by omega)), decimal_step n (u % 10) hm u o (by omega) (by rw [t2]; omega), t2]
      | true =>
        rw [if_pos rfl, if_pos rfl, if_pos (nT (by omega)), Int.neg_tmod, t1]
        have hs := decimal_step n (u % 10) hm (-(u : Int)) o (by omega) (by rw [Int.neg_tdiv, t2]; omega)
        rw [Int.neg_tdiv, t2] at hs
        rw [show (0 : Int) - -((u % 10 : Nat) : Int) = ((u % 10 : Nat) : Int) by omega, w64 (x := ((u % 10 : Nat) : Int)) (by omega) (by omega)]
        by_cases hz : u % 10 = 0
        · rw [if_neg (dF (by omega)), show -((u % 10 : Nat) : Int) = ((u % 10 : Nat) : Int) by omega]
          exact hs
        · rw [if_pos (dT (by omega))]
          exact hs
    rw [key]
    by_cases h10 : u < 10
    · have e0 : u / 10 = 0 := by omega
      have em : u % 10 = u := by omega
      rw [e0, em, Lib.decDigits, dif_pos h10]
      cases neg <;> rfl
    · have e : Lib.decDigits u = Lib.decDigits (u / 10) ++ [UInt8.ofNat (48 + u % 10)] := by rw [Lib.decDigits, dif_neg h10]
      rw [e, List.length_append] at ho
      simp only [List.length_cons, List.length_nil] at ho
      rw [ih (u / 10) _ (by omega) (by omega) (by omega) (by simp only [List.length_cons]; omega), e]
      simp [List.append_assoc]

theorem decimal_b (v : Int) (h1 : -9007199254740992 ≤ v) (h2 : v ≤ 9007199254740992) : ref05_Decimal v = some ((strB (Lib.itoa v), ()), ()) := by
  unfold ref05_Decimal
  by_cases h0 : v = 0
  · subst h0
    rw [if_pos (by decide)]
    have : Lib.itoa 0 = [48] := by
      unfold Lib.itoa
      rw [if_neg (by decide), Lib.decDigits, dif_pos (by decide)]
      rfl
    rw [this]
  · rw [if_neg (eF h0)]
    by_cases hn : v < 0
    · have hl := decDigits_len 15 v.natAbs (by show _ < 10000000000000000; omega)
      have hd := decimal_loop v true v.natAbs v.natAbs [] (Nat.le_refl _) (by omega) (by omega) (by simp only [List.length_nil]; omega)
      rw [if_pos rfl, show -((v.natAbs : Nat) : Int) = v by omega, List.append_nil] at hd
      rw [hd, ref05_Decimal_l8_eq, if_neg (by decide), if_pos (dT hn), if_pos (by rw [strB_size, strB_size]; simp only [List.length_cons, List.length_nil]; omega), strB_app]
      unfold Lib.itoa
      rw [if_pos hn]
      rfl
    · have hl := decDigits_len 15 v.toNat (by show _ < 10000000000000000; omega)
      have hd := decimal_loop v false v.toNat v.toNat [] (Nat.le_refl _) (by omega) (by omega) (by simp only [List.length_nil]; omega)
      rw [if_neg (by simp), show ((v.toNat : Nat) : Int) = v by omega, List.append_nil] at hd
      rw [hd, ref05_Decimal_l8_eq, if_neg (by decide), if_neg (dF hn)]
      unfold Lib.itoa
      rw [if_neg hn]

theorem ref05_written_b (t : TToken) (hs : t.2.1.size ≤ 1048576) (h : formOk t = true) : ref05_written t = some ((strB (formB t), ()), ()) := by
  unfold ref05_written formB
  by_cases h2 : t.1 = 2
  · have hr : -9007199254740992 ≤ t.2.2.1 ∧ t.2.2.1 ≤ 9007199254740992 := by
      unfold formOk at h
      rw [if_neg (by omega), if_pos h2] at h
      simp only [Bool.and_eq_true, decide_eq_true_eq] at h
      rw [← h.2]
      exact numV_ok h.1
    rw [if_pos (eT h2), if_pos h2, decimal_b _ hr.1 hr.2]
    rfl
  rw [if_neg (eF h2), if_neg h2]
  by_cases h3 : t.1 = 3
  · rw [if_pos (eT h3), if_pos h3, ref05_Quote_b _ (by omega)]
    rfl
  · rw [if_neg (eF h3), if_neg h3, strB_L]

def okTok (t : TToken) : Prop := t.2.1.size ≤ 1048576 ∧ -9223372036854775808 ≤ t.2.2.1 ∧ t.2.2.1 ≤ 9223372036854775807

theorem len_b (l : List Int) : strings_Builder_Len l = some (((l.length : Int), ()), (((), (), ()), (), l, ())) := rfl

theorem lex_Text_loop (l : List TToken) (hl : l.length ≤ 1048576) (ho : ∀ t ∈ l, okTok t) : ∀ (r : List TToken) (n : Nat) (acc : List UInt8), l.drop n = r → acc.length + (r.map wt).sum ≤ 1073741824 →
    lex_Text_l4 l (l.length : Int) n (bI acc) = some (if r.all formOk = true then (if 1048576 < (acc ++ joinB (decide (n = 0)) r).length then (strB [], 6, ()) else (strB (acc ++ joinB (decide (n = 0)) r), 0, ())) else (strB [], 1, ()), ())
  | [], n, acc, h, ha => by
    have h1 := drop_nil h
    have hj : ∀ b, joinB b [] = [] := fun b => by cases b <;> rfl
    rw [lex_Text_l4_eq, if_neg (dF (by omega)), len_b, hj, List.append_nil]
    simp only [Option.bind_some, List.all_nil, if_true]
    by_cases hx : 1048576 < acc.length
    · rw [if_pos (dT (by rw [bI_len]; omega)), if_pos hx]
    · rw [if_neg (dF (by rw [bI_len]; omega)), if_neg hx, string_b]
      rfl
  | t :: r, n, acc, h, ha => by
    have h1 := drop_lt h
    have hg : l.getD (n : Int).toNat dToken = t := getD_drop h
    have ht := ho t (mem_drop h)
    obtain ⟨s, e1, e2⟩ := lex_form_b t ht.1 ht.2
    simp only [List.map_cons, List.sum_cons] at ha
    rw [lex_Text_l4_eq, if_pos (dT (by omega)), if_pos ⟨by omega, by omega⟩, hg, e1, w64a n (by omega)]
    simp only [Option.bind_some]
    by_cases hf : formOk t = true
    · have hs := e2 hf
      have hlen := formB_len hf
      subst hs
      refine (if_neg (by simp [hf])).trans ?_
      rw [show (t :: r).all formOk = r.all formOk by simp [hf]]
      have ih : ∀ p : List UInt8, p.length ≤ wt t → lex_Text_l4 l (l.length : Int) (n + 1 : Nat) (bI acc ++ bI p) = some (if r.all formOk = true then (if 1048576 < (acc ++ (p ++ joinB false r)).length then (strB [], 6, ()) else (strB (acc ++ (p ++ joinB false r)), 0, ())) else (strB [], 1, ()), ()) := fun p hp => by
        rw [bI_app, ← List.append_assoc]
        exact lex_Text_loop l hl ho r (n + 1) (acc ++ p) (dropS h) (by rw [List.length_append]; omega)
      by_cases hn : n = 0
      · subst hn
        rw [if_neg (dF (by omega)), writeString_b _ _ (by rw [bI_len, strB_size]; omega)]
        simp only [Option.bind_some]
        rw [bytesOf_strB]
        exact ih (formB t) (by omega)
      · rw [if_pos (dT (by omega)), writeByte_b _ _ (by rw [bI_len]; omega)]
        simp only [Option.bind_some]
        rw [writeString_b _ _ (by rw [List.length_append, bI_len, strB_size]; simp only [List.length_cons, List.length_nil]; omega)]
        simp only [Option.bind_some]
        rw [bytesOf_strB]
        have := ih (32 :: formB t) (by simp only [List.length_cons]; omega)
        rw [show bI (32 :: formB t) = [(32 : Int)] ++ bI (formB t) from rfl, ← List.append_assoc] at this
        rw [show joinB (decide (n = 0)) (t :: r) = 32 :: formB t ++ joinB false r by rw [decide_eq_false hn]; rfl]
        exact this
    · refine (if_pos (by simpa using hf)).trans ?_
      rw [show (t :: r).all formOk = false by simp [hf]]
      simp

theorem lex_Text_b (l : List TToken) (hl : l.length ≤ 1048576) (ho : ∀ t ∈ l, okTok t) (hw : (l.map wt).sum ≤ 1073741824) : lex_Text l = some ((strB (textV l).1, (textV l).2, ()), ()) := by
  unfold lex_Text textV
  refine (lex_Text_loop l hl ho l 0 [] rfl (by simpa using hw)).trans ?_
  simp only [List.nil_append, decide_true]
  split
  · split <;> rfl
  · rfl

theorem ref05_Text_l3_b (l : List TToken) (hl : l.length ≤ 1048576) (ho : ∀ t ∈ l, okTok t) : ∀ (r : List TToken) (n : Nat), l.drop n = r → ref05_Text_l3 l n = if r.all formOk = true then ref05_Text_l12 l 0 [] else some ((strB [], 1, ()), ())
  | [], n, h => by
    have h1 := drop_nil h
    rw [ref05_Text_l3_eq, if_neg (dF (by omega))]
    rfl
  | t :: r, n, h => by
    have h1 := drop_lt h
    have hg : l.getD (n : Int).toNat dToken = t := getD_drop h
    have ht := ho t (mem_drop h)
    rw [ref05_Text_l3_eq, if_pos (dT (by omega)), if_pos ⟨by omega, by omega⟩, hg, ref05_Right_b t ht.1, w64a n (by omega), ref05_Text_l3_b l hl ho r (n + 1) (dropS h)]
    simp only [Option.bind_some]
    by_cases hf : formOk t = true
    · rw [if_neg (by simp [hf]), show (t :: r).all formOk = r.all formOk by simp [hf]]
    · rw [if_pos (by simpa using hf), show (t :: r).all formOk = false by simp [hf]]
      rfl

theorem ref05_Text_l12_b (l : List TToken) (hl : l.length ≤ 1048576) (ho : ∀ t ∈ l, okTok t) : ∀ (r : List TToken) (n : Nat) (acc : List UInt8), l.drop n = r → r.all formOk = true → acc.length ≤ 1048576 →
    ref05_Text_l12 l n (bI acc) = some (if 1048576 < (acc ++ joinB (decide (n = 0)) r).length then (strB [], 6, ()) else (strB (acc ++ joinB (decide (n = 0)) r), 0, ()), ())
  | [], n, acc, h, hf, ha => by
    have h1 := drop_nil h
    have hj : ∀ b, joinB b [] = [] := fun b => by cases b <;> rfl
    rw [ref05_Text_l12_eq, if_neg (dF (by omega)), hj, List.append_nil, if_neg (by omega), strOf_bI]
  | t :: r, n, acc, h, hf, ha => by
    have h1 := drop_lt h
    have hg : l.getD (n : Int).toNat dToken = t := getD_drop h
    have ht := ho t (mem_drop h)
    simp only [List.all_cons, Bool.and_eq_true] at hf
    have hlen := formB_len hf.1
    have hwt : wt t ≤ 4194368 := by have := ht.1; unfold wt; omega
    have step : ∀ q : List UInt8, q.length ≤ 1048577 → ref05_Text_l16 l n (bI q) = some (if 1048576 < (q ++ (formB t ++ joinB false r)).length then (strB [], 6, ()) else (strB (q ++ (formB t ++ joinB false r)), 0, ()), ()) := by
      intro q hq
      rw [ref05_Text_l16_eq, if_pos ⟨by omega, by omega⟩, hg, ref05_written_b t ht.1 hf.1]
      simp only [Option.bind_some]
      rw [bytesOf_strB, bI_app, if_pos ⟨by rw [bI_len, bI_len]; omega, by decide⟩, w64a n (by omega)]
      by_cases hx : 1048576 < (q ++ formB t).length
      · rw [if_pos (dT (by rw [bI_len]; omega)), if_pos (by rw [← List.append_assoc, List.length_append]; omega)]
      · rw [if_neg (dF (by rw [bI_len]; omega)), ref05_Text_l12_b l hl ho r (n + 1) (q ++ formB t) (dropS h) hf.2 (by omega)]
        rw [show decide (n + 1 = 0) = false from rfl, List.append_assoc]
    rw [ref05_Text_l12_eq, if_pos (dT (by omega))]
    by_cases hn : n = 0
    · subst hn
      rw [if_neg (dF (by omega)), step acc (by omega)]
      rfl
    · rw [if_pos (dT (by omega)), if_pos ⟨by rw [bI_len]; omega, by decide⟩, show bI acc ++ [32] = bI (acc ++ [32]) from bI_snoc acc 32, step (acc ++ [32]) (by rw [List.length_append]; simp only [List.length_cons, List.length_nil]; omega)]
      simp [hn, joinB, List.append_assoc]

theorem ref05_Text_b (l : List TToken) (hl : l.length ≤ 1048576) (ho : ∀ t ∈ l, okTok t) : ref05_Text l = some ((strB (textV l).1, (textV l).2, ()), ()) := by
  unfold ref05_Text textV
  refine (ref05_Text_l3_b l hl ho l 0 rfl).trans ?_
  split
  · rename_i hf
    refine (ref05_Text_l12_b l hl ho l 0 [] rfl hf (by simp)).trans ?_
    simp only [List.nil_append, decide_true]
    split <;> rfl
  · rfl

/-! ### what is read is small -/
abbrev kTok : U := .cons (.int .i64) (.cons .str (.cons (.int .i64) (.int .i64)))

theorem toks_small (l : List TToken) (hb : bk (.sl kTok) l ≤ 1048576) : l.length ≤ 1048576 ∧ (l.map wt).sum ≤ 67108864 ∧ ∀ t ∈ l, t.2.1.size ≤ 1048576 := by
  have e1 : bk (.sl kTok) l = (l.map (bk kTok)).sum + 1 := rfl
  rw [e1] at hb
  have h1 := len_le_bk (e := kTok) (fun x => by simp only [bk]; omega) l
  refine ⟨by omega, ?_, fun t ht => ?_⟩
  · have key : ∀ m : List TToken, (m.map wt).sum ≤ 64 * (m.map (bk kTok)).sum := by
      intro m
      induction m with
      | nil => simp
      | cons t m ih =>
        have e2 : bk kTok t = 1 + ((t.2.1.size + 1) + (1 + 1)) := rfl
        simp only [List.map_cons, List.sum_cons]
        rw [e2]
        unfold wt at ih ⊢
        omega
    have := key l
    omega
  · have h2 := mem_le_bk (e := kTok) ht
    have e2 : bk kTok t = 1 + ((t.2.1.size + 1) + (1 + 1)) := rfl
    omega

theorem toks_ok (l : List TToken) (hw : Wf (.sl kTok) l) (hb : bk (.sl kTok) l ≤ 1048576) : ∀ t ∈ l, okTok t := by
  intro t ht
  have h1 := (toks_small l hb).2.2 t ht
  have h2 : Wf kTok t := hw.2 t ht
  have h3 : IntKind.i64.min ≤ t.2.2.1 ∧ t.2.2.1 ≤ IntKind.i64.max := h2.2.2.1
  exact ⟨h1, h3.1, h3.2⟩

end Go.Proofs.YtgpgpelaabdkhaaGreatDoor
end

section
/-
YtgpgpelaabdkhaaGreatDoor: checks of triggers and conditions, as plain functions, come to the plain law. No condition.
-/
set_option maxRecDepth 100000
set_option linter.unusedVariables false
open Go Go.AM
namespace Go.Proofs.YtgpgpelaabdkhaaGreatDoor

theorem eqU_dec {u : U} (h : noSl u = true) [DecidableEq (El u)] (x y : El u) : eqU u x y = decide (x = y) := by
  rw [Bool.eq_iff_iff, eqU_iff u h, decide_eq_true_eq]

theorem wrongCond_eq (c : TCond) : trig_wrongCond c = some ((condE c, ()), ()) := by
  obtain ⟨n, k, f, o, v⟩ := c
  unfold trig_wrongCond condE condOk
  simp only [lex_Name_b, Option.bind_some, trig_wrongCond_l4_eq, trig_wrongCond_l6_eq, trig_wrongCond_l8_eq, trig_wrongCond_l10_eq]
  generalize nameB (L n) = b
  cases b with
  | false => rfl
  | true =>
    simp only [Bool.not_true, Bool.false_eq_true, if_false, if_true, decide_eq_true_eq, beq_iff_eq, bne_iff_ne, Bool.and_eq_true]
    have tv : (if v < -9007199254740992 then some (((2 : Int), ()), ()) else if v > 9007199254740992 then some ((2, ()), ()) else some ((0, ()), ())) = some ((if -9007199254740992 ≤ v ∧ v ≤ 9007199254740992 then 0 else 2, ()), ()) := by
      by_cases b1 : v < -9007199254740992
      · rw [if_pos b1, if_neg (by omega)]
      · rw [if_neg b1]
        by_cases b2 : v > 9007199254740992
        · rw [if_pos b2, if_neg (by omega)]
        · rw [if_neg b2, if_pos (show -9007199254740992 ≤ v ∧ v ≤ 9007199254740992 by omega)]
    rw [tv]
    have no : ∀ {X : Int}, ¬ ((0 ≤ k ∧ k ≤ 8 ∧ 0 ≤ o ∧ o ≤ 5) ∧ (o = 0 ∧ f = 0 ∧ v = 0 ∨ o ≠ 0 ∧ 1 ≤ f ∧ f ≤ 6)) → (if ((0 ≤ k ∧ k ≤ 8 ∧ 0 ≤ o ∧ o ≤ 5) ∧ (o = 0 ∧ f = 0 ∧ v = 0 ∨ o ≠ 0 ∧ 1 ≤ f ∧ f ≤ 6)) then X else 1) = 1 := fun h => if_neg h
    have yes : ∀ {X : Int}, ((0 ≤ k ∧ k ≤ 8 ∧ 0 ≤ o ∧ o ≤ 5) ∧ (o = 0 ∧ f = 0 ∧ v = 0 ∨ o ≠ 0 ∧ 1 ≤ f ∧ f ≤ 6)) → (if ((0 ≤ k ∧ k ≤ 8 ∧ 0 ≤ o ∧ o ≤ 5) ∧ (o = 0 ∧ f = 0 ∧ v = 0 ∨ o ≠ 0 ∧ 1 ≤ f ∧ f ≤ 6)) then X else 1) = X := fun h => if_pos h
    by_cases a1 : k < 0
    · rw [if_pos a1, no (by omega)]
    rw [if_neg a1]
    by_cases a2 : k > 8
    · rw [if_pos a2, no (by omega)]
    rw [if_neg a2]
    by_cases a3 : o < 0
    · rw [if_pos a3, no (by omega)]
    rw [if_neg a3]
    by_cases a4 : o > 5
    · rw [if_pos a4, no (by omega)]
    rw [if_neg a4]
    by_cases a5 : o = 0
    · rw [if_pos a5]
      by_cases a6 : f = 0
      · rw [if_neg (show ¬ f ≠ 0 by omega)]
        by_cases a7 : v = 0
        · rw [if_neg (show ¬ v ≠ 0 by omega), if_neg (show ¬ o ≠ 0 by omega), yes (by omega)]
        · rw [if_pos a7, no (by omega)]
      · rw [if_pos a6, no (by omega)]
    · rw [if_neg a5, if_pos a5]
      by_cases a6 : f < 1
      · rw [if_pos a6, no (by omega)]
      rw [if_neg a6]
      by_cases a7 : f > 6
      · rw [if_pos a7, no (by omega)]
      rw [if_neg a7, yes (by omega)]

theorem rWrongCond_eq (c : TCond) : ref43_WrongCond c = some ((condE c, ()), ()) := by
  obtain ⟨n, k, f, o, v⟩ := c
  unfold ref43_WrongCond condE condOk
  simp only [ref05_Name_b, Option.bind_some, ref43_WrongCond_l4_eq, ref43_WrongCond_l6_eq, ref43_WrongCond_l8_eq, ref43_WrongCond_l10_eq]
  generalize nameB (L n) = b
  cases b with
  | false => rfl
  | true =>
    simp only [Bool.not_true, Bool.false_eq_true, if_false, if_true, decide_eq_true_eq, beq_iff_eq, bne_iff_ne, Bool.and_eq_true]
    have tv : (if v < -9007199254740992 then some (((2 : Int), ()), ()) else if v > 9007199254740992 then some ((2, ()), ()) else some ((0, ()), ())) = some ((if -9007199254740992 ≤ v ∧ v ≤ 9007199254740992 then 0 else 2, ()), ()) := by
      by_cases b1 : v < -9007199254740992
      · rw [if_pos b1, if_neg (by omega)]
      · rw [if_neg b1]
        by_cases b2 : v > 9007199254740992
        · rw [if_pos b2, if_neg (by omega)]
        · rw [if_neg b2, if_pos (show -9007199254740992 ≤ v ∧ v ≤ 9007199254740992 by omega)]
    rw [tv]
    have no : ∀ {X : Int}, ¬ ((0 ≤ k ∧ k ≤ 8 ∧ 0 ≤ o ∧ o ≤ 5) ∧ (o = 0 ∧ f = 0 ∧ v = 0 ∨ o ≠ 0 ∧ 1 ≤ f ∧ f ≤ 6)) → (if ((0 ≤ k ∧ k ≤ 8 ∧ 0 ≤ o ∧ o ≤ 5) ∧ (o = 0 ∧ f = 0 ∧ v = 0 ∨ o ≠ 0 ∧ 1 ≤ f ∧ f ≤ 6)) then X else 1) = 1 := fun h => if_neg h
    have yes : ∀ {X : Int}, ((0 ≤ k ∧ k ≤ 8 ∧ 0 ≤ o ∧ o ≤ 5) ∧ (o = 0 ∧ f = 0 ∧ v = 0 ∨ o ≠ 0 ∧ 1 ≤ f ∧ f ≤ 6)) → (if ((0 ≤ k ∧ k ≤ 8 ∧ 0 ≤ o ∧ o ≤ 5) ∧ (o = 0 ∧ f = 0 ∧ v = 0 ∨ o ≠ 0 ∧ 1 ≤ f ∧ f ≤ 6)) then X else 1) = X := fun h => if_pos h
    by_cases a1 : k < 0
    · rw [if_pos a1, no (by omega)]
    rw [if_neg a1]
    by_cases a2 : k > 8
    · rw [if_pos a2, no (by omega)]
    rw [if_neg a2]
    by_cases a3 : o < 0
    · rw [if_pos a3, no (by omega)]
    rw [if_neg a3]
    by_cases a4 : o > 5
    · rw [if_pos a4, no (by omega)]
    rw [if_neg a4]
    by_cases a5 : o = 0
    · rw [if_pos a5]
      by_cases a6 : f = 0
      · rw [if_neg (show ¬ f ≠ 0 by omega)]
        by_cases a7 : v = 0
        · rw [if_neg (show ¬ v ≠ 0 by omega), if_neg (show ¬ o ≠ 0 by omega), yes (by omega)]
        · rw [if_pos a7, no (by omega)]
      · rw [if_pos a6, no (by omega)]
    · rw [if_neg a5, if_pos a5]
      by_cases a6 : f < 1
      · rw [if_pos a6, no (by omega)]
      rw [if_neg a6]
      by_cases a7 : f > 6
      · rw [if_pos a7, no (by omega)]
      rw [if_neg a7, yes (by omega)]

theorem step_tail (s : TTrigStep) : (if s.2.2.2.1 = true then some ((condE s.2.2.2.2, ()), ()) else if (!(eqU uCond s.2.2.2.2 ((strB []), 0, 0, 0, 0))) = true then some (((1 : Int), ()), ()) else some ((0, ()), ())) =
    some ((if s.2.2.2.1 = true then condE s.2.2.2.2 else if s.2.2.2.2 = noCond then 0 else 1, ()), ()) := by
  cases s.2.2.2.1 with
  | true => rfl
  | false =>
    rw [if_neg (show ¬ false = true by simp)]
    by_cases h : s.2.2.2.2 = noCond
    · have : eqU uCond s.2.2.2.2 ((strB []), 0, 0, 0, 0) = true := (eqU_iff uCond rfl s.2.2.2.2 noCond).2 h
      rw [this, if_neg (show ¬ false = true by simp), if_pos h]
      rfl
    · have : eqU uCond s.2.2.2.2 ((strB []), 0, 0, 0, 0) = false := by
        cases hq : eqU uCond s.2.2.2.2 ((strB []), 0, 0, 0, 0) with
        | false => rfl
        | true => exact absurd ((eqU_iff uCond rfl _ _).1 hq) h
      rw [this, if_neg (show ¬ false = true by simp), if_neg h]
      rfl

theorem wrongStep_eq (s : TTrigStep) : trig_wrongStep s = some ((stepE s, ()), ()) := by
  unfold trig_wrongStep stepE
  rw [wrongCond_eq, wrongCond_eq]
  simp only [Option.bind_some]
  rw [step_tail]
  by_cases h1 : s.2.1 < 1
  · rw [if_pos (dT h1), if_neg (by omega)]
  rw [if_neg (dF h1)]
  by_cases h2 : s.2.2.1 < 0
  · rw [if_pos (dT h2), if_neg (by omega)]
  rw [if_neg (dF h2)]
  by_cases h3 : s.2.2.1 > 1099511627776
  · rw [if_pos (dT h3), if_neg (by omega)]
  rw [if_neg (dF h3), if_pos (show 1 ≤ s.2.1 ∧ 0 ≤ s.2.2.1 ∧ s.2.2.1 ≤ 1099511627776 by omega)]
  by_cases h4 : condE s.1 = 0
  · rw [if_neg (nF h4), if_pos h4]
  · rw [if_pos (nT h4), if_neg h4]

theorem rWrongStep_eq (s : TTrigStep) : ref43_wrongStep s = some ((stepE s, ()), ()) := by
  unfold ref43_wrongStep stepE
  rw [rWrongCond_eq, rWrongCond_eq]
  simp only [Option.bind_some]
  rw [step_tail]
  by_cases h1 : s.2.1 < 1
  · rw [if_pos (dT h1), if_neg (by omega)]
  rw [if_neg (dF h1)]
  by_cases h2 : s.2.2.1 < 0
  · rw [if_pos (dT h2), if_neg (by omega)]
  rw [if_neg (dF h2)]
  by_cases h3 : s.2.2.1 > 1099511627776
  · rw [if_pos (dT h3), if_neg (by omega)]
  rw [if_neg (dF h3), if_pos (show 1 ≤ s.2.1 ∧ 0 ≤ s.2.2.1 ∧ s.2.2.1 ≤ 1099511627776 by omega)]
  by_cases h4 : condE s.1 = 0
  · rw [if_neg (nF h4), if_pos h4]
  · rw [if_pos (nT h4), if_neg h4]

theorem errS_cons (e : Int) (r : List Int) : errL (e :: r) = if e = 0 then errL r else e := rfl

theorem steps_loop (l : List TTrigStep) (hl : l.length ≤ 1048577) (t : TTrigger) : ∀ (r : List TTrigStep) (k : Nat), l.drop k = r →
    trig_wrong_l10 l (l.length : Int) k t = if errL (r.map stepE) = 0 then trig_wrong_l21 32 t.2 (t.2.length : Int) 0 else some ((errL (r.map stepE), ()), ())
  | [], k, h => by
    have h1 := drop_nil h
    rw [trig_wrong_l10_eq, if_neg (dF (by omega)), List.map_nil, if_pos (show errL [] = 0 from rfl)]
  | s :: r, k, h => by
    have h1 := drop_lt h
    have hg : l.getD (k : Int).toNat dTrigStep = s := getD_drop h
    rw [trig_wrong_l10_eq, if_pos (dT (by omega)), if_pos ⟨by omega, by omega⟩, hg, wrongStep_eq, w64a k (by omega)]
    simp only [Option.bind_some]
    rw [List.map_cons, errS_cons]
    by_cases he : stepE s = 0
    · rw [if_neg (nF he), if_pos he]
      exact steps_loop l hl t r (k + 1) (dropS h)
    · rw [if_pos (nT he), if_neg he, if_neg he]

theorem rsteps_loop (t : TTrigger) (hl : t.2.length ≤ 1048577) : ∀ (r : List TTrigStep) (k : Nat), t.2.drop k = r →
    ref43_wrong_l12 k t = if errL (r.map stepE) = 0 then ref43_wrong_l22 0 0 t else some ((errL (r.map stepE), ()), ())
  | [], k, h => by
    have h1 := drop_nil h
    rw [ref43_wrong_l12_eq, if_neg (dF (by omega)), List.map_nil, if_pos (show errL [] = 0 from rfl)]
  | s :: r, k, h => by
    have h1 := drop_lt h
    have hg : t.2.getD (k : Int).toNat dTrigStep = s := getD_drop h
    rw [ref43_wrong_l12_eq, if_pos (dT (by omega)), if_pos ⟨by omega, by omega⟩, hg, rWrongStep_eq, w64a k (by omega)]
    simp only [Option.bind_some]
    rw [List.map_cons, errS_cons]
    by_cases he : stepE s = 0
    · rw [if_neg (nF he), if_pos he]
      exact rsteps_loop t hl r (k + 1) (dropS h)
    · rw [if_pos (nT he), if_neg he, if_neg he]

theorem left_loop (l : List TTrigStep) (hl : l.length ≤ 1048577) : ∀ (r : List TTrigStep) (k : Nat) (left : Int), l.drop k = r → (∀ s ∈ r, OkStep s) → 0 ≤ left → left ≤ 32 →
    trig_wrong_l21 left l (l.length : Int) k = some ((if left < timesS r then 6 else 0, ()), ())
  | [], k, left, h, ho, h0, h32 => by
    have h1 := drop_nil h
    rw [trig_wrong_l21_eq, if_neg (dF (by omega)), if_neg (by simp only [timesS]; omega)]
  | s :: r, k, left, h, ho, h0, h32 => by
    have h1 := drop_lt h
    have hg : l.getD (k : Int).toNat dTrigStep = s := getD_drop h
    have hr : ∀ s ∈ r, OkStep s := fun b hb => ho b (by simp [hb])
    have h2 := times_ge r hr
    have h3 := (ho s (by simp)).times
    rw [trig_wrong_l21_eq, if_pos (dT (by omega)), if_pos ⟨by omega, by omega⟩, hg, w64a k (by omega)]
    by_cases hb : s.2.1 > left
    · rw [if_pos (dT hb), if_pos (show left < timesS (s :: r) by simp only [timesS]; omega)]
    · rw [if_neg (dF hb), w64 (by omega) (by omega), left_loop l hl r (k + 1) (left - s.2.1) (dropS h) hr (by omega) (by omega)]
      by_cases hq : left - s.2.1 < timesS r
      · rw [if_pos hq, if_pos (show left < timesS (s :: r) by simp only [timesS]; omega)]
      · rw [if_neg hq, if_neg (show ¬ left < timesS (s :: r) by simp only [timesS]; omega)]

theorem rleft_loop (t : TTrigger) (hl : t.2.length ≤ 1048577) : ∀ (r : List TTrigStep) (k : Nat) (n : Int), t.2.drop k = r → (∀ s ∈ r, OkStep s) → 0 ≤ n → n + 32 * (r.length : Int) ≤ 1099511627776 →
    ref43_wrong_l22 n k t = some ((if 32 < n + timesS r then 6 else 0, ()), ())
  | [], k, n, h, ho, h0, hb => by
    have h1 := drop_nil h
    rw [ref43_wrong_l22_eq, if_neg (dF (by omega))]
    have e : timesS ([] : List TTrigStep) = 0 := rfl
    by_cases hq : n > 32
    · rw [if_pos (dT hq), if_pos (show 32 < n + timesS [] by omega)]
    · rw [if_neg (dF hq), if_neg (show ¬ 32 < n + timesS [] by omega)]
  | s :: r, k, n, h, ho, h0, hb => by
    have h1 := drop_lt h
    have hg : t.2.getD (k : Int).toNat dTrigStep = s := getD_drop h
    have hr : ∀ s ∈ r, OkStep s := fun b hb => ho b (by simp [hb])
    have h2 := times_ge r hr
    have h3 := (ho s (by simp)).times
    simp only [List.length_cons] at hb
    rw [ref43_wrong_l22_eq, if_pos (dT (by omega)), if_pos ⟨by omega, by omega⟩, hg, w64a k (by omega)]
    by_cases hq : s.2.1 > 32
    · rw [if_pos (dT hq), if_pos (show 32 < n + timesS (s :: r) by simp only [timesS]; omega)]
    · rw [if_neg (dF hq), if_pos ⟨by omega, by omega⟩, w64 (by omega) (by omega), rleft_loop t hl r (k + 1) (n + s.2.1) (dropS h) hr (by omega) (by omega), Int.add_assoc]
      rfl

theorem okSteps {l : List TTrigStep} (h : errL (l.map stepE) = 0) : ∀ s ∈ l, OkStep s := fun s hs => stepE_zero.1 (errL_zero.1 h _ (List.mem_map_of_mem hs))

theorem wrong_eq' (t : TTrigger) (hl : t.2.length ≤ 1048577) : trig_wrong t = some ((wrongE t, ()), ()) := by
  unfold trig_wrong wrongE
  rw [lex_Name_b]
  simp only [Option.bind_some]
  generalize nameB (L t.1) = b
  cases b with
  | false => rfl
  | true =>
    refine (if_neg (by simp)).trans ?_
    rw [if_pos rfl]
    by_cases h0 : t.2 = []
    · rw [if_pos (eT (by rw [h0]; rfl)), if_pos h0]
    have h0' : ¬ (t.2.length : Int) = 0 := fun q => h0 (List.length_eq_zero_iff.1 (by omega))
    rw [if_neg (eF h0'), if_neg h0]
    by_cases h1 : 32 < t.2.length
    · rw [if_pos (dT (by omega)), if_pos h1]
    rw [if_neg (dF (by omega)), if_neg h1]
    refine (steps_loop t.2 hl t t.2 0 rfl).trans ?_
    by_cases he : errL (t.2.map stepE) = 0
    · rw [if_pos he, if_pos he]
      exact left_loop t.2 hl t.2 0 32 rfl (okSteps he) (by omega) (by omega)
    · rw [if_neg he, if_neg he]

theorem wrong_eq (t : TTrigger) (hl : t.2.length ≤ 1048576) : trig_wrong t = some ((wrongE t, ()), ()) := wrong_eq' t (by omega)

theorem rwrong_eq' (t : TTrigger) (hl : t.2.length ≤ 1048577) : ref43_wrong t = some ((wrongE t, ()), ()) := by
  unfold ref43_wrong wrongE
  rw [ref05_Name_b]
  simp only [Option.bind_some]
  generalize nameB (L t.1) = b
  cases b with
  | false => rfl
  | true =>
    refine (if_neg (by simp)).trans ?_
    rw [if_pos rfl]
    by_cases h0 : t.2 = []
    · rw [if_pos (eT (by rw [h0]; rfl)), if_pos h0]
    have h0' : ¬ (t.2.length : Int) = 0 := fun q => h0 (List.length_eq_zero_iff.1 (by omega))
    rw [if_neg (eF h0'), if_neg h0]
    by_cases h1 : 32 < t.2.length
    · rw [if_pos (dT (by omega)), if_pos h1]
    rw [if_neg (dF (by omega)), if_neg h1]
    refine (rsteps_loop t hl t.2 0 rfl).trans ?_
    by_cases he : errL (t.2.map stepE) = 0
    · rw [if_pos he, if_pos he]
      refine (rleft_loop t hl t.2 0 0 rfl (okSteps he) (by omega) (by omega)).trans ?_
      rw [Int.zero_add]
    · rw [if_neg he, if_neg he]

theorem rwrong_eq (t : TTrigger) (hl : t.2.length ≤ 1048576) : ref43_wrong t = some ((wrongE t, ()), ()) := rwrong_eq' t (by omega)

/-! ### nodes -/
def nodeI (ns : List TNode) (b : ByteArray) : Int := optI (ns.findIdx? fun n => L n.1 == L b)

theorem node_go (b : ByteArray) (ns : List TNode) {α : Type} (F : Int → Option ((Int × Unit) × α)) (z : α) (hF : ∀ (k : Nat) (s : TNode) (r : List TNode), ns.drop k = s :: r → F k = if L s.1 = L b then some (((k : Int), ()), z) else F ((k + 1 : Nat) : Int))
    (hE : F ns.length = some ((-1, ()), z)) : F 0 = some ((nodeI ns b, ()), z) := by
  have key : ∀ (rs : List TNode) (k : Nat), ns.drop k = rs → k ≤ ns.length → F k = some ((optI ((rs.findIdx? fun s => L s.1 == L b).map (· + k)), ()), z) := by
    intro rs
    induction rs with
    | nil =>
      intro k hk hkl
      have h1 := drop_nil hk
      have : k = ns.length := by omega
      subst this
      rw [hE]; rfl
    | cons s rs ih =>
      intro k hk _
      have h1 := drop_lt hk
      rw [hF k s rs hk, List.findIdx?_cons]
      by_cases h : L s.1 = L b
      · rw [if_pos h, beq_iff_eq.2 h]; simp [optI]
      · rw [if_neg h, ih (k + 1) (dropS hk) (by omega), show (L s.1 == L b) = false from beq_eq_false_iff_ne.2 h]
        simp only [Option.map_map, Bool.false_eq_true, if_false]
        congr 4
        cases rs.findIdx? (fun s => L s.1 == L b) with
        | none => rfl
        | some i => simp; omega
  have := key ns 0 (by simp) (by omega)
  simpa [nodeI] using this

theorem nfind_eq (st : TStack) (b : ByteArray) (h : st.2.length ≤ 1048576) : stackdef_Find st b = some ((nodeI st.2 b, ()), ()) := by
  unfold stackdef_Find api_Node
  rw [node_go b st.2 (fun i => api_Node_l3 st.2 (st.2.length : Int) i b) ((b, ()), ()) (fun k s r hk => by
    have h1 := drop_lt hk
    have hg : st.2.getD (k : Int).toNat dNode = s := getD_drop hk
    show api_Node_l3 st.2 (st.2.length : Int) k b = _
    rw [api_Node_l3_eq, if_pos (dT (by omega)), if_pos ⟨by omega, by omega⟩, hg, w64a k (by omega)]
    unfold stackdef_Find_1
    simp only [Option.bind_some]
    by_cases he : L s.1 = L b
    · rw [if_pos he, if_pos (by rw [toL, toL, he]; simp)]
    · rw [if_neg he, if_neg (by rw [toL, toL]; simpa using he)]) (by
    show api_Node_l3 st.2 (st.2.length : Int) (st.2.length : Nat) b = _
    rw [api_Node_l3_eq, if_neg (dF (by omega))])]
  rfl

def knownS (ns : List TNode) (s : TTrigStep) : Bool := decide (0 ≤ nodeI ns s.1.1) && (!s.2.2.2.1 || decide (0 ≤ nodeI ns s.2.2.2.2.1))
def checkT (t : TTrigger) (ns : List TNode) : Int := if wrongE t = 0 then (if t.2.all (knownS ns) = true then 0 else 8) else wrongE t

theorem check_loop (st : TStack) (hs : st.2.length ≤ 1048576) (l : List TTrigStep) (hl : l.length ≤ 1048576) : ∀ (r : List TTrigStep) (k : Nat), l.drop k = r → trig_Check_l7 l (l.length : Int) k st = some ((if r.all (knownS st.2) = true then 0 else 8, ()), ())
  | [], k, h => by
    have h1 := drop_nil h
    rw [trig_Check_l7_eq, if_neg (dF (by omega))]
    rfl
  | s :: r, k, h => by
    have h1 := drop_lt h
    have hg : l.getD (k : Int).toNat dTrigStep = s := getD_drop h
    rw [trig_Check_l7_eq, if_pos (dT (by omega)), if_pos ⟨by omega, by omega⟩, hg, nfind_eq st _ hs, nfind_eq st _ hs, w64a k (by omega), check_loop st hs l hl r (k + 1) (dropS h), List.all_cons]
    simp only [Option.bind_some]
    unfold knownS
    by_cases ha : nodeI st.2 s.1.1 < 0
    · rw [if_pos (dT ha), decide_eq_false (show ¬ 0 ≤ nodeI st.2 s.1.1 by omega)]
      rfl
    · rw [if_neg (dF ha), decide_eq_true (show 0 ≤ nodeI st.2 s.1.1 by omega)]
      cases s.2.2.2.1 with
      | false => rfl
      | true =>
        rw [if_pos rfl]
        by_cases hb : nodeI st.2 s.2.2.2.2.1 < 0
        · rw [if_pos (dT hb), decide_eq_false (show ¬ 0 ≤ nodeI st.2 s.2.2.2.2.1 by omega)]
          rfl
        · rw [if_neg (dF hb), decide_eq_true (show 0 ≤ nodeI st.2 s.2.2.2.2.1 by omega)]
          rfl

theorem tcheck_eq (t : TTrigger) (st : TStack) (hl : t.2.length ≤ 1048576) (hs : st.2.length ≤ 1048576) : trig_Check t st = some ((checkT t st.2, ()), ()) := by
  unfold trig_Check checkT
  rw [wrong_eq t hl]
  simp only [Option.bind_some]
  by_cases he : wrongE t = 0
  · rw [if_neg (nF he), if_pos he]
    exact check_loop st hs t.2 hl t.2 0 rfl
  · rw [if_pos (nT he), if_neg he]

/-! ### conditions of events -/
def validE (e : TEvent) : Bool := decide ((1 ≤ e.1 ∧ e.1 ≤ 8) ∧ (0 ≤ e.2.1 ∧ e.2.1 ≤ e.2.2.1 ∧ e.2.2.1 ≤ 1099511627776) ∧ (-9007199254740992 ≤ e.2.2.2.1 ∧ e.2.2.2.1 ≤ 9007199254740992) ∧ (-9007199254740992 ≤ e.2.2.2.2.1 ∧ e.2.2.2.2.1 ≤ 9007199254740992) ∧
  e.2.2.2.2.2.1.size ≤ 4096 ∧ (0 ≤ e.2.2.2.2.2.2 ∧ e.2.2.2.2.2.2 ≤ 12))

theorem some_dec {p q : Prop} [Decidable p] [Decidable q] (h : p ↔ q) : some ((decide p, ()), ()) = some ((decide q, ()), ()) := by
  rw [show decide p = decide q from by rw [Bool.eq_iff_iff, decide_eq_true_eq, decide_eq_true_eq]; exact h]

theorem valid_eq (e : TEvent) : event_Valid e = some ((validE e, ()), ()) := by
  obtain ⟨k, fr, to, a, b, d, f⟩ := e
  unfold event_Valid validE
  simp only [event_Valid_l4_eq, event_Valid_l6_eq, event_Valid_l8_eq, decide_eq_true_eq, Bool.false_eq_true, if_true, if_false]
  generalize (9007199254740992 : Int) = N
  repeat' split
  all_goals first
    | (refine some_dec ?_; omega)
    | (rw [decide_eq_false (by omega)])
    | (rw [decide_eq_true (by omega)])
    | (exfalso; omega)

def fieldV (e : TEvent) (n : Int) : Int :=
  if n = 1 then e.2.2.2.1 else if n = 2 then e.2.2.2.2.1 else if n = 3 then e.2.2.2.2.2.2 else if n = 4 then (e.2.2.2.2.2.1.size : Int) else if n = 5 then IntKind.i64.wrap (e.2.2.1 - e.2.1)
  else if L e.2.2.2.2.2.1 = [] then -1 else IntKind.i64.wrap (bt e.2.2.2.2.2.1 0)
def cmpV (f op n : Int) : Bool :=
  if op = 1 then f == n else if op = 2 then f != n else if op = 3 then decide (f < n) else if op = 4 then decide (f > n) else if op = 5 then (IntKind.i64.wrap (BitVec.ofInt 64 f &&& BitVec.ofInt 64 n).toNat) == n else true

theorem field_last (d : ByteArray) : (if (d.toList == (strB []).toList) = true then some (((-1 : Int), ()), ()) else if 0 ≤ (0 : Int) ∧ 0 < (d.size : Int) then some ((IntKind.i64.wrap (bt d 0), ()), ()) else none) =
    some ((if L d = [] then -1 else IntKind.i64.wrap (bt d 0), ()), ()) := by
  by_cases h : L d = []
  · rw [if_pos (by rw [toL, toL, h]; rfl), if_pos h]
  · have : 0 < (L d).length := List.length_pos_iff.2 h
    rw [L_len] at this
    rw [if_neg (by rw [toL, toL]; simpa [L_strB] using h), if_neg h, if_pos ⟨by omega, by omega⟩]

theorem field_eq (e : TEvent) (n : Int) : trig_field e n = some ((fieldV e n, ()), ()) := by
  unfold trig_field fieldV
  rw [field_last]
  simp only [beq_iff_eq]
  repeat' split
  all_goals rfl
def holdsV (c : TCond) (ns : List TNode) (o : TOut) : Bool :=
  decide (condE c = 0) && (validE o.2.2 && (decide (0 ≤ nodeI ns c.1 ∧ nodeI ns c.1 = o.1) && (decide (c.2.1 = 0 ∨ c.2.1 = o.2.2.1) && cmpV (fieldV o.2.2 c.2.2.1) c.2.2.2.1 c.2.2.2.2)))

theorem ops_cmp (f op n : Int) : (if (op == 1) = true then some ((f == n, ()), ())
      else if (op == 2) = true then some ((f != n, ()), ())
      else if (op == 3) = true then some ((decide (f < n), ()), ())
      else if (op == 4) = true then some ((decide (f > n), ()), ())
      else if (op == 5) = true then some (((IntKind.i64.wrap (BitVec.ofInt 64 f &&& BitVec.ofInt 64 n).toNat) == n, ()), ())
      else some ((true, ()), ())) = some ((cmpV f op n, ()), ()) := by
  unfold cmpV
  simp only [beq_iff_eq]
  repeat' split
  all_goals rfl
theorem holds_eq (c : TCond) (st : TStack) (o : TOut) (hs : st.2.length ≤ 1048576) : trig_Holds c st o = some ((holdsV c st.2 o, ()), ()) := by
  unfold trig_Holds holdsV
  rw [wrongCond_eq, valid_eq, nfind_eq st _ hs, field_eq]
  simp only [Option.bind_some]
  rw [ops_cmp]
  by_cases h1 : condE c = 0
  · rw [if_neg (nF h1), decide_eq_true h1, Bool.true_and]
    cases validE o.2.2 with
    | false => rfl
    | true =>
      refine (if_neg (by simp)).trans ?_
      rw [Bool.true_and]
      by_cases h2 : nodeI st.2 c.1 < 0
      · rw [if_pos (dT h2), decide_eq_false (show ¬ (0 ≤ nodeI st.2 c.1 ∧ nodeI st.2 c.1 = o.1) by omega), Bool.false_and]
      · rw [if_neg (dF h2)]
        by_cases h3 : nodeI st.2 c.1 = o.1
        · rw [if_neg (nF h3), decide_eq_true (show 0 ≤ nodeI st.2 c.1 ∧ nodeI st.2 c.1 = o.1 by omega), Bool.true_and]
          by_cases h4 : c.2.1 = 0
          · rw [if_neg (nF h4), decide_eq_true (show c.2.1 = 0 ∨ c.2.1 = o.2.2.1 by omega), Bool.true_and]
          · rw [if_pos (nT h4)]
            by_cases h5 : c.2.1 = o.2.2.1
            · rw [if_neg (nF h5), decide_eq_true (show c.2.1 = 0 ∨ c.2.1 = o.2.2.1 by omega), Bool.true_and]
            · rw [if_pos (nT h5), decide_eq_false (show ¬ (c.2.1 = 0 ∨ c.2.1 = o.2.2.1) by omega), Bool.false_and]
        · rw [if_pos (nT h3), decide_eq_false (show ¬ (0 ≤ nodeI st.2 c.1 ∧ nodeI st.2 c.1 = o.1) by omega), Bool.false_and]
  · rw [if_pos (nT h1), decide_eq_false h1, Bool.false_and]

theorem op0 (f n : Int) : cmpV f 0 n = true := rfl
theorem rop (c : TCond) (f : Int) : (if (c.2.2.2.1 == 0) = true then some ((true, ()), ()) else some ((cmpV f c.2.2.2.1 c.2.2.2.2, ()), ())) = some ((cmpV f c.2.2.2.1 c.2.2.2.2, ()), ()) := by
  by_cases h : c.2.2.2.1 = 0
  · rw [if_pos (eT h), h]; rfl
  · rw [if_neg (eF h)]

end Go.Proofs.YtgpgpelaabdkhaaGreatDoor
end

section
/-
YtgpgpelaabdkhaaGreatDoor: trig.Print, as plain functions, comes to the text of the tokens. No condition.
-/
set_option maxRecDepth 100000
set_option linter.unusedVariables false
open Go Go.AM
namespace Go.Proofs.YtgpgpelaabdkhaaGreatDoor

theorem tname_b (b : ByteArray) : trig_name b = some ((wTok b, ()), ()) := rfl
theorem tmark_b (c : UInt8) : trig_mark (strB [c]) = some ((mTok c, ()), ()) := rfl
theorem tnumber_b (n : Int) (h : -9007199254740992 ≤ n ∧ n ≤ 9007199254740992) : trig_number n = some ((nTok n, ()), ()) := by
  unfold trig_number
  rw [itoa_b n (by omega)]
  rfl

def opS (n : Int) : List ByteArray := (opM n).map fun c => strB [c]
theorem ops_b (n : Int) : trig_ops n = some ((opS n, ()), ()) := by
  unfold trig_ops opS opM
  simp only [beq_iff_eq]
  by_cases h1 : n = 1
  · rw [if_pos h1, if_pos h1]; rfl
  rw [if_neg h1, if_neg h1]
  by_cases h2 : n = 2
  · rw [if_pos h2, if_pos h2]; rfl
  rw [if_neg h2, if_neg h2]
  by_cases h3 : n = 3
  · rw [if_pos h3, if_pos h3]; rfl
  rw [if_neg h3, if_neg h3]
  by_cases h4 : n = 4
  · rw [if_pos h4, if_pos h4]; rfl
  · rw [if_neg h4, if_neg h4]; rfl

theorem opS_map (n : Int) : (opS n).map (fun b => ((4, b, 0, 0) : TToken)) = (opM n).map mTok := by
  unfold opS
  rw [List.map_map]
  rfl

theorem cond_loop (c : TCond) (hv : -9007199254740992 ≤ c.2.2.2.2 ∧ c.2.2.2.2 ≤ 9007199254740992) (l : List ByteArray) (hl : l.length ≤ 10) : ∀ (r : List ByteArray) (k : Nat) (acc : List TToken), l.drop k = r → acc.length + r.length ≤ 1000 →
    trig_cond_l8 l (l.length : Int) k c acc = some ((acc ++ (r.map (fun b => ((4, b, 0, 0) : TToken)) ++ [nTok c.2.2.2.2]), ()), ())
  | [], k, acc, h, ha => by
    have h1 := drop_nil h
    simp only [List.length_nil] at ha
    rw [trig_cond_l8_eq, if_neg (dF (by omega)), tnumber_b _ hv]
    simp only [Option.bind_some]
    rw [if_pos ⟨by omega, by decide⟩]
    rfl
  | b :: r, k, acc, h, ha => by
    have h1 := drop_lt h
    have hg : l.getD (k : Int).toNat (strB []) = b := getD_drop h
    simp only [List.length_cons] at ha
    have hm : trig_mark b = some (((4, b, 0, 0), ()), ()) := rfl
    rw [trig_cond_l8_eq, if_pos (dT (by omega)), if_pos ⟨by omega, by omega⟩, hg, hm, w64a k (by omega)]
    simp only [Option.bind_some]
    rw [if_pos ⟨by omega, by decide⟩, cond_loop c hv l hl r (k + 1) _ (dropS h) (by rw [List.length_append]; simp only [List.length_cons, List.length_nil]; omega)]
    simp

theorem kinds_b : trig_kinds = some ((kindTab, ()), ()) := rfl
theorem fields_b : trig_fields = some ((fieldTab, ()), ()) := rfl

theorem cond_b (c : TCond) (h : OkCond c) : trig_cond c = some ((condT c, ()), ()) := by
  have hk := h.kind
  unfold trig_cond condT
  rw [tname_b, tmark_b, kinds_b]
  simp only [Option.bind_some]
  rw [if_pos ⟨hk.1, by show c.2.1 < 9; omega⟩, tname_b]
  simp only [Option.bind_some]
  by_cases h0 : c.2.2.2.1 = 0
  · rw [if_pos (eT h0), if_pos h0]
  · have hf : 1 ≤ c.2.2.1 ∧ c.2.2.1 ≤ 6 := by have := h.field; omega
    rw [if_neg (eF h0), if_neg h0, fields_b]
    simp only [Option.bind_some]
    rw [w64 (x := c.2.2.1 - 1) (by omega) (by omega), if_pos ⟨by omega, by show c.2.2.1 - 1 < 6; omega⟩, tname_b, ops_b]
    simp only [Option.bind_some]
    refine (cond_loop c h.value (opS c.2.2.2.1) (by unfold opS; rw [List.length_map]; have := (opM_good c.2.2.2.1).2; omega) (opS c.2.2.2.1) 0 _ rfl (by unfold opS; rw [List.length_map]; have := (opM_good c.2.2.2.1).2; simp only [List.length_cons, List.length_nil]; omega)).trans ?_
    rw [opS_map]
    rfl

theorem okTok_goodG {t : TToken} (h : goodG t) : okTok t := ⟨by have := h.2.1; omega, by have := h.2.2.1; omega, by have := h.2.2.2; omega⟩

theorem Print_steps (l : List TTrigStep) (hl : l.length ≤ 32) (ho : ∀ s ∈ l, OkStep s ∧ s.2.1 ≤ 32) : ∀ (r : List TTrigStep) (k : Nat) (acc : List TToken), l.drop k = r → acc.length + 20 * r.length ≤ 1000 → (∀ t ∈ acc, goodG t) →
    trig_Print_l8 l (l.length : Int) k acc = some ((strB (textV (acc ++ stepsT k r)).1, (textV (acc ++ stepsT k r)).2, ()), ())
  | [], k, acc, h, ha, hg => by
    have h1 := drop_nil h
    simp only [List.length_nil] at ha
    have hw := wt_sumG acc hg
    rw [trig_Print_l8_eq, if_neg (dF (by omega)), lex_Text_b _ (by omega) (fun t ht => okTok_goodG (hg t ht)) (by omega), stepsT, List.append_nil]
    rfl
  | s :: r, k, acc, h, ha, hg => by
    have h1 := drop_lt h
    have hgd : l.getD (k : Int).toNat dTrigStep = s := getD_drop h
    have hs := ho s (mem_drop h)
    have h20 := (good_step hs.1 hs.2).2
    have hsg := (good_step hs.1 hs.2).1
    have hb := hs.1.times
    have hw := hs.1.within
    simp only [List.length_cons] at ha
    have ih : ∀ q, q = acc ++ ((if k = 0 then [] else [mTok 59]) ++ AM.stepT s) → trig_Print_l8 l (l.length : Int) ((k + 1 : Nat) : Int) q = some ((strB (textV (acc ++ stepsT k (s :: r))).1, (textV (acc ++ stepsT k (s :: r))).2, ()), ()) := fun q hq => by
      subst hq
      have hk1 : (if k = 0 then ([] : List TokT) else [mTok 59]).length ≤ 1 := by split <;> simp
      rw [Print_steps l hl ho r (k + 1) _ (dropS h) (by simp only [List.length_append]; omega) (fun t ht => by
        simp only [List.mem_append] at ht
        rcases ht with q | q | q
        · exact hg t q
        · split at q
          · simp at q
          · simp only [List.mem_singleton] at q
            subst q
            exact goodG_m (by decide)
        · exact hsg t q), stepsT]
      simp [List.append_assoc]
    have l18 : ∀ q p, q ++ (if s.2.2.2.1 = true then wTok sUnless :: condT s.2.2.2.2 else []) = p → q.length ≤ 1200 → p = acc ++ ((if k = 0 then [] else [mTok 59]) ++ AM.stepT s) → trig_Print_l18 l (l.length : Int) k q s = some ((strB (textV (acc ++ stepsT k (s :: r))).1, (textV (acc ++ stepsT k (s :: r))).2, ()), ()) := fun q p hp hq he => by
      rw [trig_Print_l18_eq, w64a k (by omega)]
      by_cases hu : s.2.2.2.1 = true
      · have hc := good_cond (hs.1.yes hu)
        have hc2 := hc.2
        rw [if_pos hu, tname_b]
        simp only [Option.bind_some]
        rw [if_pos ⟨by omega, by decide⟩, cond_b _ (hs.1.yes hu)]
        simp only [Option.bind_some]
        rw [if_pos ⟨by simp only [List.length_append, List.length_cons, List.length_nil]; omega, by decide⟩]
        refine ih _ ?_
        rw [← he, ← hp, if_pos hu]
        simp [List.append_assoc, sUnless]
      · rw [if_neg hu]
        refine ih _ ?_
        rw [← he, ← hp, if_neg hu, List.append_nil]
    have l16 : ∀ q, q.length ≤ 1100 → q ++ ((if s.2.2.1 = 0 then [] else [wTok sWithin, nTok s.2.2.1]) ++ (if s.2.2.2.1 = true then wTok sUnless :: condT s.2.2.2.2 else [])) = acc ++ ((if k = 0 then [] else [mTok 59]) ++ AM.stepT s) →
        trig_Print_l16 l (l.length : Int) k q s = some ((strB (textV (acc ++ stepsT k (s :: r))).1, (textV (acc ++ stepsT k (s :: r))).2, ()), ()) := fun q hq he => by
      rw [trig_Print_l16_eq]
      by_cases h0 : s.2.2.1 = 0
      · rw [if_neg (dF (by omega))]
        rw [if_pos h0, List.nil_append] at he
        exact l18 q _ he (by omega) rfl
      · rw [if_pos (dT (by omega)), tname_b, tnumber_b _ (by omega)]
        simp only [Option.bind_some]
        rw [if_pos ⟨by omega, by decide⟩]
        rw [if_neg h0, ← List.append_assoc] at he
        exact l18 _ _ he (by simp only [List.length_append, List.length_cons, List.length_nil]; omega) rfl
    have l13 : ∀ q, q.length ≤ 990 → q = acc ++ (if k = 0 then [] else [mTok 59]) → trig_Print_l13 l (l.length : Int) k q s = some ((strB (textV (acc ++ stepsT k (s :: r))).1, (textV (acc ++ stepsT k (s :: r))).2, ()), ()) := fun q hq he => by
      have hc := (good_cond hs.1.cond).2
      rw [trig_Print_l13_eq, cond_b _ hs.1.cond]
      simp only [Option.bind_some]
      rw [if_pos ⟨by omega, by decide⟩]
      by_cases h0 : s.2.1 = 1
      · rw [if_neg (dF (by omega))]
        refine l16 _ (by rw [List.length_append]; omega) ?_
        unfold AM.stepT
        rw [if_pos h0, he]
        simp [List.append_assoc]
      · rw [if_pos (dT (by omega)), tname_b, tnumber_b _ (by omega)]
        simp only [Option.bind_some]
        rw [if_pos ⟨by rw [List.length_append]; omega, by decide⟩]
        refine l16 _ (by simp only [List.length_append, List.length_cons, List.length_nil]; omega) ?_
        unfold AM.stepT
        rw [if_neg h0, he]
        simp [List.append_assoc, sX]
    rw [trig_Print_l8_eq, if_pos (dT (by omega)), if_pos ⟨by omega, by omega⟩, hgd]
    by_cases hk : k = 0
    · rw [if_neg (dF (by omega))]
      exact l13 acc (by omega) (by rw [if_pos hk, List.append_nil])
    · rw [if_pos (dT (by omega)), tmark_b]
      simp only [Option.bind_some]
      rw [if_pos ⟨by omega, by decide⟩]
      exact l13 _ (by rw [List.length_append]; simp only [List.length_cons, List.length_nil]; omega) (by rw [if_neg hk])

theorem tprint_b (t : TTrigger) (hl : t.2.length ≤ 1048576) : trig_Print t = some ((strB (printT t).1, (printT t).2, ()), ()) := by
  unfold trig_Print
  rw [wrong_eq t hl]
  simp only [Option.bind_some]
  by_cases hc : wrongE t = 0
  · rw [if_neg (nF hc), tname_b, tname_b, tmark_b]
    simp only [Option.bind_some]
    have ho := wrongE_zero.1 hc
    have hf := ho.few
    have e : printT t = textV (trigT t) := by unfold printT; rw [if_pos hc]
    refine (Print_steps t.2 hf (fun s hs => ⟨ho.steps s hs, by have := times_mem t.2 ho.steps s hs; have := ho.times; omega⟩) t.2 0 _ rfl (by simp only [List.length_cons, List.length_nil]; omega) (fun x hx => by
      simp only [List.mem_cons, List.not_mem_nil, or_false] at hx
      rcases hx with rfl | rfl | rfl
      · exact goodG_w (by decide)
      · exact goodG_w ho.name
      · exact goodG_m (by decide))).trans ?_
    rw [e]
    rfl
  · rw [if_pos (nT hc), printT_no hc]

end Go.Proofs.YtgpgpelaabdkhaaGreatDoor
end

section
/-
YtgpgpelaabdkhaaGreatDoor: trig.Parse, as plain functions, comes to the plain reader of triggers. No condition.
-/
set_option maxRecDepth 100000
set_option linter.unusedVariables false
open Go Go.AM
namespace Go.Proofs.YtgpgpelaabdkhaaGreatDoor

structure Ctx (l : List TToken) : Prop where
  len : l.length ≤ 1048576
  good : ∀ t ∈ l, tokGood t

def ixn (l q : List TToken) : Int := ((l.length - q.length : Nat) : Int)
def rd (l q : List TToken) : Treader := (l, ixn l q, false)
def bad (l e : List TToken) : Treader := (l, ixn l e, true)
def zT : TToken := (0, strB [], 0, 0)

theorem suf_drop {l q : List TToken} (h : q <:+ l) : l.drop (l.length - q.length) = q := (List.suffix_iff_eq_drop.1 h).symm
theorem sufk {α : Type} {l q r : List TToken} (h : q <:+ l) {x : PR α} {n : Nat} (g : Goes n q x) {a : α} (e : x = .ok (a, r)) : r <:+ l := by
  subst e
  exact List.IsSuffix.trans g.1 h
theorem sufe {α : Type} {l q r : List TToken} (h : q <:+ l) {x : PR α} {n : Nat} (g : Goes n q x) (e : x = .error r) : r <:+ l := by
  subst e
  exact List.IsSuffix.trans g h
theorem okLen {α : Type} {q r : List TToken} {x : PR α} {n : Nat} (g : Goes n q x) {a : α} (e : x = .ok (a, r)) : r.length + n ≤ q.length := by
  subst e
  exact g.2

theorem at_cons {l r : List TToken} {t : TToken} (h : (t :: r) <:+ l) : l.length - (t :: r).length < l.length ∧ l.getD (ixn l (t :: r)).toNat dToken = t ∧ l.length - r.length = l.length - (t :: r).length + 1 := by
  have h1 := suf_drop h
  have h2 := drop_lt h1
  have h3 := h.length_le
  refine ⟨h2, getD_drop h1, ?_⟩
  simp only [List.length_cons] at h3 ⊢
  omega

theorem ixn_nil (l : List TToken) : ixn l [] = (l.length : Int) := by unfold ixn; simp
theorem ixn_in {l r : List TToken} {t : TToken} (h : (t :: r) <:+ l) : 0 ≤ ixn l (t :: r) ∧ ixn l (t :: r) < (l.length : Int) := by
  have := (at_cons h).1
  unfold ixn
  omega
theorem ixn_next {l r : List TToken} {t : TToken} (c : Ctx l) (h : (t :: r) <:+ l) : IntKind.i64.wrap (ixn l (t :: r) + 1) = ixn l r := by
  obtain ⟨h1, _, h3⟩ := at_cons h
  have := c.len
  unfold ixn
  rw [w64a _ (by omega), h3]
theorem ixn_back {l r : List TToken} {t : TToken} (c : Ctx l) (h : (t :: r) <:+ l) : IntKind.i64.wrap (ixn l r - 1) = ixn l (t :: r) := by
  obtain ⟨h1, _, h3⟩ := at_cons h
  have := c.len
  unfold ixn
  rw [w64 (by omega) (by omega)]
  omega

theorem next_bad (l e : List TToken) (k : Int) (x : ByteArray) : trig_reader_next k x (bad l e) = some ((false, ()), (bad l e, ())) := rfl
theorem want_bad (l e : List TToken) (k : Int) (x : ByteArray) : trig_reader_want k x (bad l e) = some ((), (bad l e, ())) := rfl
theorem take_bad (l e : List TToken) (k : Int) : trig_reader_take k (bad l e) = some ((zT, ()), (bad l e, ())) := rfl
theorem word_bad (l e : List TToken) (w : List ByteArray) : trig_reader_word w (bad l e) = some (((-1), ()), (bad l e, ())) := rfl

theorem next_rd {l q : List TToken} (c : Ctx l) (h : q <:+ l) (k : Int) (text : ByteArray) {x : List UInt8} (hx : L text = x) (hne : x.isEmpty = false) :
    trig_reader_next k text (rd l q) = if hdT k x q = true then some ((true, ()), (rd l q.tail, ())) else some ((false, ()), (rd l q, ())) := by
  subst hx
  unfold trig_reader_next
  refine (if_neg (by show ¬ false = true; simp)).trans ?_
  cases q with
  | nil =>
    have c1 : (rd l []).2.1 ≥ ((rd l []).1.length : Int) := by show ixn l [] ≥ (l.length : Int); rw [ixn_nil]; omega
    rw [if_pos (dT c1)]
    rfl
  | cons t r =>
    obtain ⟨_, h2, _⟩ := at_cons h
    have hin := ixn_in h
    have c1 : ¬ (rd l (t :: r)).2.1 ≥ ((rd l (t :: r)).1.length : Int) := by show ¬ ixn l (t :: r) ≥ (l.length : Int); omega
    have c2 : 0 ≤ (rd l (t :: r)).2.1 ∧ (rd l (t :: r)).2.1 < ((rd l (t :: r)).1.length : Int) := hin
    have h2' : (rd l (t :: r)).1.getD (rd l (t :: r)).2.1.toNat dToken = t := h2
    have hv : hdT k (L text) (t :: r) = (decide (t.1 = k) && (L t.2.1 == L text)) := by
      show (decide (t.1 = k) && (_ || _)) = _
      rw [hne, Bool.false_or]
    rw [if_neg (dF c1), if_pos c2, h2', hv]
    by_cases hk : t.1 = k
    · rw [if_neg (nF hk), if_pos c2, decide_eq_true hk, Bool.true_and, toL, toL]
      by_cases he : L t.2.1 = L text
      · rw [if_neg (by simpa using he), if_pos (by simpa using he)]
        show some ((true, ()), ((l, IntKind.i64.wrap (ixn l (t :: r) + 1), false), ())) = _
        rw [ixn_next c h]
        rfl
      · rw [if_pos (by simpa using he), if_neg (by simpa using he)]
    · rw [if_pos (nT hk), decide_eq_false hk, Bool.false_and, if_neg (by simp)]

theorem want_ok {l q r : List TToken} {t : TToken} (c : Ctx l) (h : q <:+ l) {k : Int} {text : ByteArray} {x : List UInt8} (hx : L text = x) (hne : x.isEmpty = false) (hp : pNeed k x q = .ok (t, r)) : trig_reader_want k text (rd l q) = some ((), (rd l r, ())) := by
  obtain ⟨rfl, hy⟩ := need_ok_inv hp
  unfold trig_reader_want
  rw [next_rd c h k text hx hne, if_pos hy]
  rfl

theorem want_err {l q e : List TToken} (c : Ctx l) (h : q <:+ l) {k : Int} {text : ByteArray} {x : List UInt8} (hx : L text = x) (hne : x.isEmpty = false) (hp : pNeed k x q = .error e) : trig_reader_want k text (rd l q) = some ((), (bad l e, ())) := by
  obtain ⟨rfl, hy⟩ := need_err_inv hp
  unfold trig_reader_want
  rw [next_rd c h k text hx hne, if_neg (by rw [hy]; simp)]
  rfl

theorem rtake_ok {l q r : List TToken} {t : TToken} (c : Ctx l) (h : q <:+ l) {k : Int} (hp : pNeed k [] q = .ok (t, r)) : trig_reader_take k (rd l q) = some ((t, ()), (rd l r, ())) := by
  obtain ⟨rfl, hy⟩ := need_ok_inv hp
  obtain ⟨_, h2, _⟩ := at_cons h
  have hin := ixn_in h
  have hk : t.1 = k := by
    have : (decide (t.1 = k) && (true || _)) = true := hy
    simpa using this
  unfold trig_reader_take
  refine (if_neg (by show ¬ false = true; simp)).trans ?_
  have c1 : ¬ (rd l (t :: r)).2.1 ≥ ((rd l (t :: r)).1.length : Int) := by show ¬ ixn l (t :: r) ≥ (l.length : Int); omega
  have c2 : 0 ≤ (rd l (t :: r)).2.1 ∧ (rd l (t :: r)).2.1 < ((rd l (t :: r)).1.length : Int) := hin
  have h2' : (rd l (t :: r)).1.getD (rd l (t :: r)).2.1.toNat dToken = t := h2
  have e1 : IntKind.i64.wrap ((rd l (t :: r)).2.1 + 1) = ixn l r := ixn_next c h
  have e2 : IntKind.i64.wrap (ixn l r - 1) = (rd l (t :: r)).2.1 := ixn_back c h
  rw [if_neg (dF c1), if_pos c2, h2', if_neg (nF hk), e1, e2, if_pos c2, h2']
  rfl

theorem rtake_err {l q e : List TToken} (c : Ctx l) (h : q <:+ l) {k : Int} (hp : pNeed k [] q = .error e) : trig_reader_take k (rd l q) = some ((zT, ()), (bad l e, ())) := by
  obtain ⟨rfl, hy⟩ := need_err_inv hp
  unfold trig_reader_take
  refine (if_neg (by show ¬ false = true; simp)).trans ?_
  cases e with
  | nil =>
    have c1 : (rd l []).2.1 ≥ ((rd l []).1.length : Int) := by show ixn l [] ≥ (l.length : Int); rw [ixn_nil]; omega
    rw [if_pos (dT c1)]
    rfl
  | cons t r =>
    obtain ⟨_, h2, _⟩ := at_cons h
    have hin := ixn_in h
    have hk : t.1 ≠ k := by
      have : (decide (t.1 = k) && (true || _)) = false := hy
      simpa using this
    have c1 : ¬ (rd l (t :: r)).2.1 ≥ ((rd l (t :: r)).1.length : Int) := by show ¬ ixn l (t :: r) ≥ (l.length : Int); omega
    have c2 : 0 ≤ (rd l (t :: r)).2.1 ∧ (rd l (t :: r)).2.1 < ((rd l (t :: r)).1.length : Int) := hin
    have h2' : (rd l (t :: r)).1.getD (rd l (t :: r)).2.1.toNat dToken = t := h2
    rw [if_neg (dF c1), if_pos c2, h2', if_pos (nT hk)]
    rfl

theorem index_loop (l : List ByteArray) (hl : l.length ≤ 1000) (v : ByteArray) : ∀ (r : List ByteArray) (k : Nat), l.drop k = r → k ≤ l.length → slices_Index_string_string_l3 l v (l.length : Int) k = some ((optI ((r.findIdx? fun b => L b == L v).map (· + k)), ()), ())
  | [], k, h, hk => by
    have h1 := drop_nil h
    rw [slices_Index_string_string_l3_eq, if_neg (dF (by omega))]
    rfl
  | b :: r, k, h, hk => by
    have h1 := drop_lt h
    have hg : l.getD (k : Int).toNat (strB []) = b := getD_drop h
    rw [slices_Index_string_string_l3_eq, if_pos (dT (by omega)), if_pos ⟨by omega, by omega⟩, hg, w64a k (by omega), List.findIdx?_cons, toL, toL]
    by_cases he : L v = L b
    · rw [if_pos (by simpa using he), he]
      simp [optI]
    · rw [if_neg (by simpa using he), index_loop l hl v r (k + 1) (dropS h) (by omega), show (L b == L v) = false from beq_eq_false_iff_ne.2 fun q => he q.symm]
      simp only [Option.map_map, Bool.false_eq_true, if_false]
      congr 4
      cases r.findIdx? (fun b => L b == L v) with
      | none => rfl
      | some i => simp; omega

theorem index_b (l : List ByteArray) (hl : l.length ≤ 1000) (v : ByteArray) : slices_Index_string_string l v = some ((optI (l.findIdx? fun b => L b == L v), ()), ()) := by
  unfold slices_Index_string_string
  have := index_loop l hl v l 0 rfl (by omega)
  simpa using this

theorem word_rd {l q : List TToken} (c : Ctx l) (h : q <:+ l) (tab : List ByteArray) (ht : tab.length ≤ 1000) :
    trig_reader_word tab (rd l q) = match among tab q with
      | some j => some (((j : Int), ()), (rd l q.tail, ()))
      | none => some (((-1), ()), (rd l q, ())) := by
  unfold trig_reader_word
  refine (if_neg (by show ¬ false = true; simp)).trans ?_
  cases q with
  | nil =>
    have c1 : (rd l []).2.1 ≥ ((rd l []).1.length : Int) := by show ixn l [] ≥ (l.length : Int); rw [ixn_nil]; omega
    rw [if_pos (dT c1)]
    rfl
  | cons t r =>
    obtain ⟨_, h2, _⟩ := at_cons h
    have hin := ixn_in h
    have c1 : ¬ (rd l (t :: r)).2.1 ≥ ((rd l (t :: r)).1.length : Int) := by show ¬ ixn l (t :: r) ≥ (l.length : Int); omega
    have c2 : 0 ≤ (rd l (t :: r)).2.1 ∧ (rd l (t :: r)).2.1 < ((rd l (t :: r)).1.length : Int) := hin
    have h2' : (rd l (t :: r)).1.getD (rd l (t :: r)).2.1.toNat dToken = t := h2
    have hv : among tab (t :: r) = if t.1 = 1 then tab.findIdx? (fun b => L b == L t.2.1) else none := rfl
    rw [if_neg (dF c1), if_pos c2, h2', hv]
    by_cases hk : t.1 = 1
    · rw [if_neg (nF hk), if_pos c2, if_pos hk, index_b tab ht]
      simp only [Option.bind_some]
      cases tab.findIdx? (fun b => L b == L t.2.1) with
      | none => rfl
      | some j =>
        refine (if_pos (dT (by show (j : Int) ≥ 0; omega))).trans ?_
        show some (((j : Int), ()), ((l, IntKind.i64.wrap (ixn l (t :: r) + 1), false), ())) = _
        rw [ixn_next c h]
        rfl
    · rw [if_pos (nT hk), if_neg hk]

def Out {α : Type} (l : List TToken) (o : Option ((α × Unit) × (Treader × Unit))) : PR α → Prop
  | .ok (a, q) => o = some ((a, ()), (rd l q, ()))
  | .error e => ∃ z, o = some ((z, ()), (bad l e, ()))

/-! ### conditions -/
theorem cond14_bad (l e : List TToken) (a b : TCond) : trig_reader_cond_l14 (bad l e) a b = some (((b.1, b.2.1, b.2.2.1, b.2.2.2.1, 0), ()), (bad l e, ())) := by
  rw [trig_reader_cond_l14_eq, take_bad]
  rfl

theorem tcond_bad (l e : List TToken) : trig_reader_cond (bad l e) = some (((strB [], 0, 0, 0, 0), ()), (bad l e, ())) := rfl

theorem cond14_rd {l q : List TToken} (c : Ctx l) (h : q <:+ l) (a : TCond) (n : ByteArray) (k f op z : Int) : Out l (trig_reader_cond_l14 (rd l q) a (n, k, f, op, z)) (andP (pNeed 2 [] q) fun v q => .ok ((n, k, f, op, v.2.2.1), q)) := by
  rw [trig_reader_cond_l14_eq]
  cases hp : pNeed 2 [] q with
  | ok p =>
    obtain ⟨t, r⟩ := p
    rw [rtake_ok c h hp]
    rfl
  | error e =>
    rw [rtake_err c h hp]
    exact ⟨_, rfl⟩

theorem rest_rd {l q : List TToken} (c : Ctx l) (h : q <:+ l) (n : ByteArray) (k : Nat) : Out l ((trig_reader_word fieldTab (rd l q)).bind fun y6 =>
                if (decide (y6.1.1 < 0)) = true then
                  some (((n, (k : Int), 0, 0, 0), ()), (y6.2.1, ()))
                else
                  (trig_reader_next 4 (strB [61]) y6.2.1).bind fun y7 =>
                    if y7.1.1 = true then
                      trig_reader_cond_l14 y7.2.1 ((strB []), 0, 0, 0, 0) (n, (k : Int), IntKind.i64.wrap (y6.1.1 + 1), 1, 0)
                    else
                      (trig_reader_next 4 (strB [60]) y7.2.1).bind fun y8 =>
                        if y8.1.1 = true then
                          trig_reader_cond_l14 y8.2.1 ((strB []), 0, 0, 0, 0) (n, (k : Int), IntKind.i64.wrap (y6.1.1 + 1), 3, 0)
                        else
                          (trig_reader_next 4 (strB [62]) y8.2.1).bind fun y9 =>
                            if y9.1.1 = true then
                              trig_reader_cond_l14 y9.2.1 ((strB []), 0, 0, 0, 0) (n, (k : Int), IntKind.i64.wrap (y6.1.1 + 1), 4, 0)
                            else
                              (trig_reader_next 4 (strB [38]) y9.2.1).bind fun y10 =>
                                if y10.1.1 = true then
                                  trig_reader_cond_l14 y10.2.1 ((strB []), 0, 0, 0, 0) (n, (k : Int), IntKind.i64.wrap (y6.1.1 + 1), 5, 0)
                                else
                                  (trig_reader_want 4 (strB [33]) y10.2.1).bind fun y11 =>
                                    (trig_reader_want 4 (strB [61]) y11.2.1).bind fun y12 =>
                                      trig_reader_cond_l14 y12.2.1 ((strB []), 0, 0, 0, 0) (n, (k : Int), IntKind.i64.wrap (y6.1.1 + 1), 2, 0)) (pRest n k q) := by
  rw [word_rd c h fieldTab (by decide)]
  unfold pRest
  cases hf : among fieldTab q with
  | none => rfl
  | some j =>
    obtain ⟨t, r, rfl⟩ := among_cons hf
    have hr : r <:+ l := (List.suffix_cons t r).trans h
    simp only [Option.bind_some, List.tail_cons]
    have hj : j < 6 := by
      have hv : among fieldTab (t :: r) = if t.1 = 1 then fieldTab.findIdx? (fun b => L b == L t.2.1) else none := rfl
      rw [hv] at hf
      by_cases ht : t.1 = 1
      · rw [if_pos ht] at hf
        obtain ⟨hlt, _⟩ := List.findIdx?_eq_some_iff_getElem.1 hf
        exact hlt
      · rw [if_neg ht] at hf
        cases hf
    refine Eq.subst (motive := fun o => Out l o _) (if_neg (dF (by omega))).symm ?_
    rw [w64a j (by omega)]
    unfold pOp
    rw [next_rd c hr 4 (strB [61]) (L_strB _) rfl]
    by_cases h1 : hdT 4 [61] r = true
    · rw [if_pos h1, if_pos h1]
      exact cond14_rd c ((List.tail_suffix r).trans hr) _ _ _ _ _ _
    rw [if_neg h1, if_neg h1]
    simp only [Option.bind_some]
    refine Eq.subst (motive := fun o => Out l o _) (if_neg (by simp)).symm ?_
    rw [next_rd c hr 4 (strB [60]) (L_strB _) rfl]
    by_cases h2 : hdT 4 [60] r = true
    · rw [if_pos h2, if_pos h2]
      exact cond14_rd c ((List.tail_suffix r).trans hr) _ _ _ _ _ _
    rw [if_neg h2, if_neg h2]
    simp only [Option.bind_some]
    refine Eq.subst (motive := fun o => Out l o _) (if_neg (by simp)).symm ?_
    rw [next_rd c hr 4 (strB [62]) (L_strB _) rfl]
    by_cases h3 : hdT 4 [62] r = true
    · rw [if_pos h3, if_pos h3]
      exact cond14_rd c ((List.tail_suffix r).trans hr) _ _ _ _ _ _
    rw [if_neg h3, if_neg h3]
    simp only [Option.bind_some]
    refine Eq.subst (motive := fun o => Out l o _) (if_neg (by simp)).symm ?_
    rw [next_rd c hr 4 (strB [38]) (L_strB _) rfl]
    by_cases h4 : hdT 4 [38] r = true
    · rw [if_pos h4, if_pos h4]
      exact cond14_rd c ((List.tail_suffix r).trans hr) _ _ _ _ _ _
    rw [if_neg h4, if_neg h4]
    simp only [Option.bind_some]
    refine Eq.subst (motive := fun o => Out l o _) (if_neg (by simp)).symm ?_
    cases h5 : pNeed 4 [33] r with
    | error e =>
      rw [want_err c hr (L_strB _) rfl h5]
      simp only [Option.bind_some]
      rw [want_bad]
      simp only [Option.bind_some]
      rw [cond14_bad]
      exact ⟨_, rfl⟩
    | ok p =>
      obtain ⟨t5, q5⟩ := p
      have g5 := sufk hr (goes_need 4 [33] r) h5
      rw [want_ok c hr (L_strB _) rfl h5]
      simp only [Option.bind_some, andP_ok']
      cases h6 : pNeed 4 [61] q5 with
      | error e =>
        rw [want_err c g5 (L_strB _) rfl h6]
        simp only [Option.bind_some]
        rw [cond14_bad]
        exact ⟨_, rfl⟩
      | ok p =>
        obtain ⟨t6, q6⟩ := p
        have g6 := sufk g5 (goes_need 4 [61] q5) h6
        rw [want_ok c g5 (L_strB _) rfl h6]
        simp only [Option.bind_some, andP_ok']
        exact cond14_rd c g6 _ _ _ _ _ _

theorem tcond_rd {l q : List TToken} (c : Ctx l) (h : q <:+ l) : Out l (trig_reader_cond (rd l q)) (pCond q) := by
  unfold trig_reader_cond pCond
  cases h1 : pNeed 1 [] q with
  | error e =>
    rw [rtake_err c h h1]
    simp only [Option.bind_some]
    rw [want_bad]
    simp only [Option.bind_some]
    rw [kinds_b]
    simp only [Option.bind_some]
    rw [word_bad]
    exact ⟨_, rfl⟩
  | ok p =>
    obtain ⟨t1, q1⟩ := p
    have g1 := sufk h (goes_need 1 [] q) h1
    rw [rtake_ok c h h1]
    simp only [Option.bind_some, andP_ok']
    cases h2 : pNeed 4 [46] q1 with
    | error e =>
      rw [want_err c g1 (L_strB _) rfl h2]
      simp only [Option.bind_some]
      rw [kinds_b]
      simp only [Option.bind_some]
      rw [word_bad]
      exact ⟨_, rfl⟩
    | ok p =>
      obtain ⟨t2, q2⟩ := p
      have g2 := sufk g1 (goes_need 4 [46] q1) h2
      rw [want_ok c g1 (L_strB _) rfl h2]
      simp only [Option.bind_some, andP_ok']
      rw [kinds_b]
      simp only [Option.bind_some]
      rw [word_rd c g2 kindTab (by decide)]
      unfold pAmong
      cases hf : among kindTab q2 with
      | none =>
        simp only [Option.bind_some]
        exact ⟨_, rfl⟩
      | some j =>
        simp only [Option.bind_some, andP_ok']
        refine Eq.subst (motive := fun o => Out l o _) (if_neg (dF (by omega))).symm ?_
        rw [fields_b]
        simp only [Option.bind_some]
        exact rest_rd c ((List.tail_suffix q2).trans g2) t1.2.1 j

/-! ### the parts of a step -/
inductive Pt where
  | t (n : Int) | w (n : Int) | u (c : CondT)
def Pt.val : Pt → Value
  | .t n => Value.iface 102 (Value.int .i64 n)
  | .w n => Value.iface 103 (Value.int .i64 n)
  | .u c => Value.iface 104 (Value.agg ⟨[Value.string c.1, Value.int .i64 c.2.1, Value.int .i64 c.2.2.1, Value.int .i64 c.2.2.2.1, Value.int .i64 c.2.2.2.2]⟩)
def Pt.app (s : StepT) : Pt → StepT
  | .t n => (s.1, n, s.2.2)
  | .w n => (s.1, s.2.1, n, s.2.2.2)
  | .u c => (s.1, s.2.1, s.2.2.1, true, c)

theorem as_t (p : Pt) : asT 102 false (.int .i64) p.val = some (match p with | .t n => some n | _ => none) := by cases p <;> rfl
theorem as_w (p : Pt) : asT 103 false (.int .i64) p.val = some (match p with | .w n => some n | _ => none) := by cases p <;> rfl
theorem as_u (p : Pt) : asT 104 true uCond p.val = some (match p with | .u c => some c | _ => none) := by cases p <;> rfl

theorem step_loop (l0 : List Pt) (hl : l0.length ≤ 1000) (h0 : Treader) (h1 : TTrigStep) : ∀ (r : List Pt) (k : Nat) (x : TTrigStep), l0.drop k = r → trig_reader_step_l4 (l0.map Pt.val) ((l0.map Pt.val).length : Int) k h0 h1 x = some ((r.foldl Pt.app x, ()), (h0, ()))
  | [], k, x, h => by
    have h2 := drop_nil h
    rw [trig_reader_step_l4_eq, List.length_map, if_neg (dF (by omega))]
    rfl
  | p :: r, k, x, h => by
    have h2 := drop_lt h
    have hg : (l0.map Pt.val).getD (k : Int).toNat Value.nilIface = p.val := by
      have : (l0.map Pt.val).drop k = p.val :: r.map Pt.val := by rw [← List.map_drop, h]; rfl
      exact getD_drop this
    have ih := fun x => step_loop l0 hl h0 h1 r (k + 1) x (dropS h)
    rw [trig_reader_step_l4_eq, if_pos (dT (by rw [List.length_map]; omega)), if_pos ⟨by omega, by rw [List.length_map]; omega⟩, hg, as_t, as_w, as_u, w64a k (by omega)]
    cases p with
    | t n => exact ih _
    | w n => exact ih _
    | u c => exact ih _

def pPart (w : List UInt8) (f : List TokT → PR Pt) (q : List TokT) : PR (List Pt) := if hdT 1 w q = true then andP (f q.tail) fun p q => .ok ([p], q) else .ok ([], q)
def pTn (q : List TokT) : PR Pt := andP (pNeed 2 [] q) fun t q => .ok (.t t.2.2.1, q)
def pWn (q : List TokT) : PR Pt := andP (pNeed 2 [] q) fun t q => .ok (.w t.2.2.1, q)
def pUn (q : List TokT) : PR Pt := andP (pCond q) fun c q => .ok (.u c, q)
def pPartsU (acc : List Pt) (q : List TokT) : PR (List Pt) := andP (pPart (L sUnless) pUn q) fun c q => .ok (acc ++ c, q)
def pPartsW (acc : List Pt) (q : List TokT) : PR (List Pt) := andP (pPart (L sWithin) pWn q) fun b q => pPartsU (acc ++ b) q
def pParts (q : List TokT) : PR (List Pt) := andP (pPart (L sX) pTn q) fun a q => pPartsW a q

def OutP (l : List TToken) (o : Option (((List Value) × Unit) × (Treader × Unit))) : PR (List Pt) → Prop
  | .ok (a, q) => o = some ((a.map Pt.val, ()), (rd l q, ())) ∧ a.length ≤ 3
  | .error e => ∃ z : List Pt, o = some ((z.map Pt.val, ()), (bad l e, ())) ∧ z.length ≤ 3

theorem partsU_rd {l q : List TToken} (c : Ctx l) (h : q <:+ l) (acc : List Pt) (ha : acc.length ≤ 2) : OutP l (trig_reader_parts_l4 (rd l q) (acc.map Pt.val)) (pPartsU acc q) := by
  rw [trig_reader_parts_l4_eq, next_rd c h 1 (strB [117, 110, 108, 101, 115, 115]) (x := L sUnless) rfl rfl]
  unfold pPartsU pPart
  by_cases h1 : hdT 1 (L sUnless) q = true
  · rw [if_pos h1, if_pos h1]
    have ht := tcond_rd c ((List.tail_suffix q).trans h)
    simp only [Option.bind_some, if_true]
    unfold pUn
    cases hp : pCond q.tail with
    | ok p =>
      obtain ⟨x, q1⟩ := p
      rw [hp] at ht
      rw [show trig_reader_cond (rd l q.tail) = some ((x, ()), (rd l q1, ())) from ht]
      simp only [Option.bind_some, andP_ok']
      rw [if_pos ⟨by rw [List.length_map]; omega, by decide⟩]
      exact ⟨by rw [List.map_append]; rfl, by rw [List.length_append]; simp only [List.length_cons, List.length_nil]; omega⟩
    | error e =>
      rw [hp] at ht
      obtain ⟨z, hz⟩ := ht
      rw [hz]
      simp only [Option.bind_some]
      rw [if_pos ⟨by rw [List.length_map]; omega, by decide⟩]
      exact ⟨acc ++ [.u z], by rw [List.map_append]; rfl, by rw [List.length_append]; simp only [List.length_cons, List.length_nil]; omega⟩
  · rw [if_neg h1, if_neg h1]
    simp only [Option.bind_some, andP_ok', List.append_nil]
    exact ⟨if_neg (by simp), by omega⟩

theorem partsU_bad (l e : List TToken) (acc : List Pt) : trig_reader_parts_l4 (bad l e) (acc.map Pt.val) = some ((acc.map Pt.val, ()), (bad l e, ())) := by
  rw [trig_reader_parts_l4_eq, next_bad]
  rfl
theorem partsW_bad (l e : List TToken) (acc : List Pt) : trig_reader_parts_l2 (bad l e) (acc.map Pt.val) = some ((acc.map Pt.val, ()), (bad l e, ())) := by
  rw [trig_reader_parts_l2_eq, next_bad]
  simp only [Option.bind_some]
  refine (if_neg (by simp)).trans ?_
  exact partsU_bad l e acc
theorem parts_bad (l e : List TToken) : trig_reader_parts (bad l e) = some (([], ()), (bad l e, ())) := by
  unfold trig_reader_parts
  rw [next_bad]
  simp only [Option.bind_some]
  refine (if_neg (by simp)).trans ?_
  exact partsW_bad l e []

theorem partsW_rd {l q : List TToken} (c : Ctx l) (h : q <:+ l) (acc : List Pt) (ha : acc.length ≤ 1) : OutP l (trig_reader_parts_l2 (rd l q) (acc.map Pt.val)) (pPartsW acc q) := by
  rw [trig_reader_parts_l2_eq, next_rd c h 1 (strB [119, 105, 116, 104, 105, 110]) (x := L sWithin) rfl rfl]
  unfold pPartsW pPart
  by_cases h1 : hdT 1 (L sWithin) q = true
  · rw [if_pos h1, if_pos h1]
    have ht := (List.tail_suffix q).trans h
    simp only [Option.bind_some, if_true]
    unfold pWn
    cases hp : pNeed 2 [] q.tail with
    | ok p =>
      obtain ⟨x, q1⟩ := p
      rw [rtake_ok c ht hp]
      simp only [Option.bind_some, andP_ok']
      rw [if_pos ⟨by rw [List.length_map]; omega, by decide⟩]
      have := partsU_rd c (sufk ht (goes_need 2 [] q.tail) hp) (acc ++ [.w x.2.2.1]) (by rw [List.length_append]; simp only [List.length_cons, List.length_nil]; omega)
      rw [List.map_append] at this
      exact this
    | error e =>
      rw [rtake_err c ht hp]
      simp only [Option.bind_some]
      rw [if_pos ⟨by rw [List.length_map]; omega, by decide⟩]
      refine ⟨acc ++ [.w 0], ?_, by rw [List.length_append]; simp only [List.length_cons, List.length_nil]; omega⟩
      have := partsU_bad l e (acc ++ [.w 0])
      rw [List.map_append] at this ⊢
      exact this
  · rw [if_neg h1, if_neg h1]
    simp only [Option.bind_some, andP_ok', List.append_nil]
    refine Eq.subst (motive := fun o => OutP l o _) (if_neg (by simp)).symm ?_
    exact partsU_rd c h acc (by omega)

theorem parts_rd {l q : List TToken} (c : Ctx l) (h : q <:+ l) : OutP l (trig_reader_parts (rd l q)) (pParts q) := by
  unfold trig_reader_parts pParts pPart
  rw [next_rd c h 1 (strB [120]) (x := L sX) rfl rfl]
  by_cases h1 : hdT 1 (L sX) q = true
  · rw [if_pos h1, if_pos h1]
    have ht := (List.tail_suffix q).trans h
    simp only [Option.bind_some, if_true]
    unfold pTn
    cases hp : pNeed 2 [] q.tail with
    | ok p =>
      obtain ⟨x, q1⟩ := p
      rw [rtake_ok c ht hp]
      simp only [Option.bind_some, andP_ok']
      exact partsW_rd c (sufk ht (goes_need 2 [] q.tail) hp) [.t x.2.2.1] (by simp)
    | error e =>
      rw [rtake_err c ht hp]
      simp only [Option.bind_some]
      exact ⟨[.t 0], partsW_bad l e [.t 0], by simp⟩
  · rw [if_neg h1, if_neg h1]
    simp only [Option.bind_some, andP_ok']
    refine Eq.subst (motive := fun o => OutP l o _) (if_neg (by simp)).symm ?_
    exact partsW_rd c h [] (by simp)

theorem pStep_eq (q : List TokT) : pStep q = andP (pCond q) fun c q => andP (pParts q) fun ps q => .ok (ps.foldl Pt.app (c, 1, 0, false, noCond), q) := by
  unfold pStep pParts pPartsW pPartsU pPart pNum pUnless pTn pWn pUn
  cases pCond q with
  | error e => rfl
  | ok p =>
    obtain ⟨c, q1⟩ := p
    simp only [andP_ok']
    by_cases h1 : hdT 1 (L sX) q1 = true
    · rw [if_pos h1, if_pos h1]
      cases pNeed 2 [] q1.tail with
      | error e => rfl
      | ok p =>
        obtain ⟨t1, q2⟩ := p
        simp only [andP_ok']
        by_cases h2 : hdT 1 (L sWithin) q2 = true
        · rw [if_pos h2, if_pos h2]
          cases pNeed 2 [] q2.tail with
          | error e => rfl
          | ok p =>
            obtain ⟨t2, q3⟩ := p
            simp only [andP_ok']
            by_cases h3 : hdT 1 (L sUnless) q3 = true
            · rw [if_pos h3, if_pos h3]
              cases pCond q3.tail with
              | error e => rfl
              | ok p => rfl
            · rw [if_neg h3, if_neg h3]
              rfl
        · rw [if_neg h2, if_neg h2]
          simp only [andP_ok']
          by_cases h3 : hdT 1 (L sUnless) q2 = true
          · rw [if_pos h3, if_pos h3]
            cases pCond q2.tail with
            | error e => rfl
            | ok p => rfl
          · rw [if_neg h3, if_neg h3]
            rfl
    · rw [if_neg h1, if_neg h1]
      simp only [andP_ok']
      by_cases h2 : hdT 1 (L sWithin) q1 = true
      · rw [if_pos h2, if_pos h2]
        cases pNeed 2 [] q1.tail with
        | error e => rfl
        | ok p =>
          obtain ⟨t2, q3⟩ := p
          simp only [andP_ok']
          by_cases h3 : hdT 1 (L sUnless) q3 = true
          · rw [if_pos h3, if_pos h3]
            cases pCond q3.tail with
            | error e => rfl
            | ok p => rfl
          · rw [if_neg h3, if_neg h3]
            rfl
      · rw [if_neg h2, if_neg h2]
        simp only [andP_ok']
        by_cases h3 : hdT 1 (L sUnless) q1 = true
        · rw [if_pos h3, if_pos h3]
          cases pCond q1.tail with
          | error e => rfl
          | ok p => rfl
        · rw [if_neg h3, if_neg h3]
          rfl

theorem step_bad (l e : List TToken) : ∃ z, trig_reader_step (bad l e) = some ((z, ()), (bad l e, ())) := by
  unfold trig_reader_step
  rw [tcond_bad]
  simp only [Option.bind_some]
  rw [parts_bad]
  simp only [Option.bind_some]
  exact ⟨_, step_loop [] (by simp) _ _ [] 0 _ rfl⟩

theorem tstep_rd {l q : List TToken} (c : Ctx l) (h : q <:+ l) : Out l (trig_reader_step (rd l q)) (pStep q) := by
  rw [pStep_eq]
  unfold trig_reader_step
  have ho := tcond_rd c h
  cases hp : pCond q with
  | error e =>
    rw [hp] at ho
    obtain ⟨z, hz⟩ := ho
    rw [hz]
    simp only [Option.bind_some]
    rw [parts_bad]
    simp only [Option.bind_some]
    exact ⟨_, step_loop [] (by simp) _ _ [] 0 _ rfl⟩
  | ok p =>
    obtain ⟨x, q1⟩ := p
    rw [hp] at ho
    have g1 := sufk h (goes_cond q) hp
    rw [show trig_reader_cond (rd l q) = some ((x, ()), (rd l q1, ())) from ho]
    simp only [Option.bind_some, andP_ok']
    have hq := parts_rd c g1
    cases hp2 : pParts q1 with
    | error e =>
      rw [hp2] at hq
      obtain ⟨z, hz, hl⟩ := hq
      rw [hz]
      simp only [Option.bind_some]
      exact ⟨_, step_loop z (by omega) _ _ z 0 _ rfl⟩
    | ok p =>
      obtain ⟨ps, q2⟩ := p
      rw [hp2] at hq
      obtain ⟨hz, hl⟩ := hq
      rw [hz]
      simp only [Option.bind_some, andP_ok']
      exact step_loop ps (by omega) _ _ ps 0 _ rfl

/-! ### triggers -/
theorem end_bad {l e : List TToken} (c : Ctx l) (h : e <:+ l) : (if ((l.length : Int) == 0) = true then
        some ((((strB [], []) : TTrigger), (1 : Int), (4 : Int), ()), ())
      else
        if (decide (ixn l e ≥ (l.length : Int))) = true then
          if 0 ≤ IntKind.i64.wrap ((l.length : Int) - 1) ∧ IntKind.i64.wrap ((l.length : Int) - 1) < (l.length : Int) then
            some ((((strB []), []), (l.getD (IntKind.i64.wrap ((l.length : Int) - 1)).toNat dToken).2.2.2, 4, ()), ())
          else
            none
        else
          if 0 ≤ ixn l e ∧ ixn l e < (l.length : Int) then
            some ((((strB []), []), (l.getD (ixn l e).toNat dToken).2.2.2, 4, ()), ())
          else
            none) = some (((strB [], []), lineV l e, 4, ()), ()) := by
  have hl := c.len
  cases e with
  | nil =>
    by_cases h0 : l.length = 0
    · have : l = [] := List.length_eq_zero_iff.1 h0
      subst this
      rfl
    · have e1 : IntKind.i64.wrap ((l.length : Int) - 1) = ((l.length - 1 : Nat) : Int) := by rw [w64 (by omega) (by omega)]; omega
      rw [if_neg (eF (by omega)), if_pos (dT (by rw [ixn_nil]; omega)), e1, if_pos ⟨by omega, by omega⟩, Int.toNat_natCast, getD_in dToken (by omega)]
      unfold lineV
      have : l.getLast? = some l[l.length - 1] := by rw [List.getLast?_eq_getElem?, List.getElem?_eq_getElem (by omega)]
      rw [this]
  | cons t r =>
    obtain ⟨h1, h2, h3⟩ := at_cons h
    have hin := ixn_in h
    rw [if_neg (eF (by omega)), if_neg (dF (by omega)), if_pos hin, h2]
    rfl

theorem l11_bad {l e : List TToken} (c : Ctx l) (h : e <:+ l) (a n : ByteArray) (x acc : List TTrigStep) : trig_Parse_l11 l a (bad l e) n x acc = some (((strB [], []), lineV l e, 4, ()), ()) := by
  rw [trig_Parse_l11_eq]
  refine (if_neg (by show ¬ (!true) = true; simp)).trans ?_
  refine (if_pos rfl).trans ?_
  exact end_bad c h

def OutT (o : Option ((TTrigger × Int × Int × Unit) × Unit)) (l : List TToken) (n : ByteArray) : PR (List StepT) → Prop
  | .ok (ss, _) => o = some ((if wrongE (n, ss) = 0 then ((n, ss), 0, 0, ()) else ((strB [], []), 0, wrongE (n, ss), ())), ())
  | .error e => o = some (((strB [], []), lineV l e, 4, ()), ())

theorem l11_rd {l : List TToken} (c : Ctx l) (a n : ByteArray) (x : List TTrigStep) : ∀ (k : Nat) (acc : List TTrigStep) (q : List TToken), q <:+ l → q.length ≤ k → acc.length + k ≤ 1048577 →
    OutT (trig_Parse_l11 l a (rd l q) n x acc) l n (pSteps k acc q) := by
  have endk : ∀ (acc : List TTrigStep), acc.length ≤ 1048577 → trig_Parse_l11 l a (rd l []) n x acc = some ((if wrongE (n, acc) = 0 then ((n, acc), 0, 0, ()) else ((strB [], []), 0, wrongE (n, acc), ())), ()) := fun acc ha => by
    rw [trig_Parse_l11_eq]
    refine (if_pos (by show (!false) = true; rfl)).trans ?_
    refine (if_neg (dF (by show ¬ ixn l [] < (l.length : Int); rw [ixn_nil]; omega))).trans ?_
    refine (if_neg (by show ¬ false = true; simp)).trans ?_
    rw [wrong_eq' (n, acc) ha]
    simp only [Option.bind_some]
    by_cases he : wrongE (n, acc) = 0
    · rw [if_neg (nF he), if_pos he]
    · rw [if_pos (nT he), if_neg he]
  intro k
  induction k with
  | zero =>
    intro acc q h hk hb
    have : q = [] := List.length_eq_zero_iff.1 (by omega)
    subst this
    exact endk acc (by omega)
  | succ k ih =>
    intro acc q h hk hb
    unfold pSteps
    cases q with
    | nil =>
      rw [if_pos rfl]
      exact endk acc (by omega)
    | cons t r =>
      rw [if_neg (by simp), trig_Parse_l11_eq]
      have hin := ixn_in h
      refine Eq.subst (motive := fun o => OutT o l n _) (if_pos (by show (!false) = true; rfl)).symm ?_
      refine Eq.subst (motive := fun o => OutT o l n _) (if_pos (dT (by show ixn l (t :: r) < (l.length : Int); omega))).symm ?_
      cases h1 : pNeed 4 [59] (t :: r) with
      | error e =>
        have he := sufe h (goes_need 4 [59] (t :: r)) h1
        rw [want_err c h (L_strB _) rfl h1]
        simp only [Option.bind_some]
        obtain ⟨z, hz⟩ := step_bad l e
        rw [hz]
        simp only [Option.bind_some]
        rw [if_pos ⟨by omega, by decide⟩]
        exact l11_bad c he _ _ _ _
      | ok p =>
        obtain ⟨t1, q1⟩ := p
        have g1 := sufk h (goes_need 4 [59] (t :: r)) h1
        have o1 := okLen (goes_need 4 [59] (t :: r)) h1
        rw [want_ok c h (L_strB _) rfl h1]
        simp only [Option.bind_some, andP_ok']
        have ho := tstep_rd c g1
        cases h2 : pStep q1 with
        | error e =>
          have he := sufe g1 (goes_step q1) h2
          rw [h2] at ho
          obtain ⟨z, hz⟩ := ho
          rw [hz]
          simp only [Option.bind_some]
          rw [if_pos ⟨by omega, by decide⟩]
          exact l11_bad c he _ _ _ _
        | ok p =>
          obtain ⟨s, q2⟩ := p
          have g2 := sufk g1 (goes_step q1) h2
          have o2 := okLen (goes_step q1) h2
          rw [h2] at ho
          rw [show trig_reader_step (rd l q1) = some ((s, ()), (rd l q2, ())) from ho]
          simp only [Option.bind_some, andP_ok']
          rw [if_pos ⟨by omega, by decide⟩]
          exact ih (acc ++ [s]) q2 g2 (by omega) (by rw [List.length_append]; simp only [List.length_cons, List.length_nil]; omega)

def OutTT (o : Option ((TTrigger × Int × Int × Unit) × Unit)) (l : List TToken) : PR TrigT → Prop
  | .ok (t, _) => o = some ((if wrongE t = 0 then (t, 0, 0, ()) else ((strB [], []), 0, wrongE t, ())), ())
  | .error e => o = some (((strB [], []), lineV l e, 4, ()), ())

theorem outT_of {o : Option ((TTrigger × Int × Int × Unit) × Unit)} {l : List TToken} {n : ByteArray} {x : PR (List StepT)} (h : OutT o l n x) : OutTT o l (andP x fun ss q => .ok ((n, ss), q)) := by
  cases x with
  | error e => exact h
  | ok p => exact h

theorem tparse_l {l : List TToken} (c : Ctx l) : OutTT ((trig_reader_want 1 (strB [116, 114, 105, 103, 103, 101, 114]) (l, 0, false)).bind fun y2 =>
        (trig_reader_take 1 y2.2.1).bind fun y3 =>
          (trig_reader_want 4 (strB [58]) y3.2.1).bind fun y4 =>
            (trig_reader_step y4.2.1).bind fun y5 =>
              trig_Parse_l11 l (strB []) y5.2.1 y3.1.1.2.1 [] [y5.1.1]) l (pTrig l) := by
  have e0 : ((l, 0, false) : Treader) = rd l l := by unfold rd ixn; simp
  have h0 : l <:+ l := List.suffix_refl l
  have fin : ∀ {e : List TToken}, e <:+ l → ∀ (n : ByteArray), ((trig_reader_step (bad l e)).bind fun y5 => trig_Parse_l11 l (strB []) y5.2.1 n [] [y5.1.1]) = some (((strB [], []), lineV l e, 4, ()), ()) := fun he n => by
    obtain ⟨z, hz⟩ := step_bad l _
    rw [hz]
    simp only [Option.bind_some]
    exact l11_bad c he _ _ _ _
  rw [e0]
  unfold pTrig
  cases h1 : pNeed 1 (L sTrigger) l with
  | error e =>
    have he := sufe h0 (goes_need 1 (L sTrigger) l) h1
    rw [want_err c h0 (text := strB [116, 114, 105, 103, 103, 101, 114]) rfl rfl h1]
    simp only [Option.bind_some]
    rw [take_bad]
    simp only [Option.bind_some]
    rw [want_bad]
    simp only [Option.bind_some]
    exact fin he _
  | ok p =>
    obtain ⟨t1, q1⟩ := p
    have g1 := sufk h0 (goes_need 1 (L sTrigger) l) h1
    rw [want_ok c h0 (text := strB [116, 114, 105, 103, 103, 101, 114]) rfl rfl h1]
    simp only [Option.bind_some, andP_ok']
    cases h2 : pNeed 1 [] q1 with
    | error e =>
      have he := sufe g1 (goes_need 1 [] q1) h2
      rw [rtake_err c g1 h2]
      simp only [Option.bind_some]
      rw [want_bad]
      simp only [Option.bind_some]
      exact fin he _
    | ok p =>
      obtain ⟨t2, q2⟩ := p
      have g2 := sufk g1 (goes_need 1 [] q1) h2
      rw [rtake_ok c g1 h2]
      simp only [Option.bind_some, andP_ok']
      cases h3 : pNeed 4 [58] q2 with
      | error e =>
        have he := sufe g2 (goes_need 4 [58] q2) h3
        rw [want_err c g2 (L_strB _) rfl h3]
        simp only [Option.bind_some]
        exact fin he _
      | ok p =>
        obtain ⟨t3, q3⟩ := p
        have g3 := sufk g2 (goes_need 4 [58] q2) h3
        rw [want_ok c g2 (L_strB _) rfl h3]
        simp only [Option.bind_some, andP_ok']
        have ho := tstep_rd c g3
        cases h4 : pStep q3 with
        | error e =>
          have he := sufe g3 (goes_step q3) h4
          rw [h4] at ho
          obtain ⟨z, hz⟩ := ho
          rw [hz]
          simp only [Option.bind_some]
          exact l11_bad c he _ _ _ _
        | ok p =>
          obtain ⟨s, q4⟩ := p
          have g4 := sufk g3 (goes_step q3) h4
          rw [h4] at ho
          rw [show trig_reader_step (rd l q3) = some ((s, ()), (rd l q4, ())) from ho]
          simp only [Option.bind_some, andP_ok']
          have := g4.length_le
          have := c.len
          exact outT_of (l11_rd c _ _ _ q4.length [s] q4 g4 (Nat.le_refl _) (by simp only [List.length_cons, List.length_nil]; omega))

theorem tparse_b (s : ByteArray) : trig_Parse s = some (((parseT (L s)).1, (parseT (L s)).2.1, (parseT (L s)).2.2, ()), ()) := by
  unfold trig_Parse parseT
  have hlen := tokOut_length s
  rw [lex_Tokens_b]
  simp only [Option.bind_some]
  cases h : tokV (L s) with
  | error e =>
    simp only [tokOut]
    by_cases he : e.2 = 0
    · exact absurd he (tokV_err h)
    · refine (if_pos (nT he)).trans ?_
      rfl
  | ok l =>
    rw [h] at hlen
    simp only [tokOut, List.nil_append] at hlen ⊢
    refine (if_neg (nF rfl)).trans ?_
    have c : Ctx l := ⟨hlen, tokV_good h⟩
    have ho := tparse_l c
    cases ha : pTrig l with
    | error e =>
      rw [ha] at ho
      exact ho
    | ok d =>
      obtain ⟨t, q⟩ := d
      rw [ha] at ho
      refine Eq.trans ho ?_
      simp only
      split <;> rfl

end Go.Proofs.YtgpgpelaabdkhaaGreatDoor
end

section
/-
YtgpgpelaabdkhaaGreatDoor: the bounds of the laws of triggers, equal triggers, the chapter's examples, as plain functions. No condition.
-/
set_option maxRecDepth 100000
set_option linter.unusedVariables false
open Go Go.AM
namespace Go.Proofs.YtgpgpelaabdkhaaGreatDoor

theorem brief43_b (s : ByteArray) : law43_brief s = some ((decide ((s.size : Int) ≤ 20), ()), ()) := rfl

theorem tsmall_loop (t : TTrigger) (hl : t.2.length ≤ 1048576) : ∀ (r : List TTrigStep) (k : Nat), t.2.drop k = r → ∃ b, law43_small_l6 k t = some ((b, ()), ())
  | [], k, h => by
    have h1 := drop_nil h
    rw [law43_small_l6_eq, if_neg (dF (by omega))]
    exact ⟨_, rfl⟩
  | s :: r, k, h => by
    have h1 := drop_lt h
    rw [law43_small_l6_eq, if_pos (dT (by omega)), if_pos ⟨by omega, by omega⟩, brief43_b, brief43_b, w64a k (by omega)]
    simp only [Option.bind_some]
    split
    · exact ⟨_, rfl⟩
    · rw [if_pos ⟨by omega, by omega⟩]
      split
      · exact ⟨_, rfl⟩
      · exact tsmall_loop t hl r (k + 1) (dropS h)

theorem tsmall_ex (t : TTrigger) (hl : t.2.length ≤ 1048576) : ∃ b, law43_small t = some ((b, ()), ()) := by
  unfold law43_small
  rw [brief43_b]
  simp only [Option.bind_some]
  split
  · exact ⟨_, rfl⟩
  · split
    · exact ⟨_, rfl⟩
    · exact tsmall_loop t hl t.2 0 rfl

theorem sameT_loop (t : TTrigger) (hl : t.2.length ≤ 1048576) : ∀ (r : List TTrigStep) (k : Nat), t.2.drop k = r → ref43_Same_l6 k t t = some ((true, ()), ())
  | [], k, h => by
    have h1 := drop_nil h
    rw [ref43_Same_l6_eq, if_neg (dF (by omega))]
  | s :: r, k, h => by
    have h1 := drop_lt h
    have c1 : 0 ≤ (k : Int) ∧ (k : Int) < (t.2.length : Int) := ⟨by omega, by omega⟩
    rw [ref43_Same_l6_eq, if_pos (dT (by omega)), if_pos c1, if_pos c1, (eqU_iff uTrigStep rfl _ _).2 rfl, if_neg (by simp), w64a k (by omega)]
    exact sameT_loop t hl r (k + 1) (dropS h)

theorem sameT_refl (t : TTrigger) (hl : t.2.length ≤ 1048576) : ref43_Same t t = some ((true, ()), ()) := by
  unfold ref43_Same
  rw [if_neg (by simp), if_neg (nF rfl)]
  exact sameT_loop t hl t.2 0 rfl

def exT : TTrigger := ((strB [116]), [(((strB [117]), 3, 1, 1, 85), 2, 100, false, (strB []), 0, 0, 0, 0)])
theorem wrong_ex : wrongE exT = 0 := by kernel_rfl
def exS : List UInt8 := [116, 114, 105, 103, 103, 101, 114, 32, 116, 32, 58, 32, 117, 32, 46, 32, 98, 121, 116, 101, 32, 118, 97, 108, 117, 101, 32, 61, 32, 56, 53, 32, 120, 32, 50, 32, 119, 105, 116, 104, 105, 110, 32, 49, 48, 48]
theorem print_ex : printT exT = (exS, 0) := by kernel_rfl
theorem parse_ex : parseT [116, 114, 105, 103, 103, 101, 114, 32, 116, 58, 32, 117, 46, 98, 121, 116, 101, 32, 118, 97, 108, 117, 101] = (noTrig, 1, 4) := by kernel_rfl

theorem awake43_b : law43_awake = some ((true, ()), ()) := by
  unfold law43_awake
  have hp := parse_printT wrong_ex
  rw [show ((strB [116]), [(((strB [117]), 3, 1, 1, 85), 2, 100, false, (strB []), 0, 0, 0, 0)]) = exT from rfl, tprint_b exT (by decide)]
  simp only [Option.bind_some]
  rw [tparse_b, L_strB, hp.2, tparse_b, L_strB, parse_ex, tcheck_eq exT _ (by decide) (by decide), tcheck_eq exT _ (by decide) (by decide), holds_eq _ _ _ (by decide), holds_eq _ _ _ (by decide), print_ex]
  simp only [Option.bind_some]
  rw [sameT_refl exT (by decide)]
  show _ = some ((true, ()), ())
  kernel_rfl

end Go.Proofs.YtgpgpelaabdkhaaGreatDoor
end

section
/-
YtgpgpelaabdkhaaGreatDoor: the document's printer of triggers, as plain functions, comes to the text of the tokens. No condition.
-/
set_option maxRecDepth 100000
set_option linter.unusedVariables false
open Go Go.AM
namespace Go.Proofs.YtgpgpelaabdkhaaGreatDoor

theorem tdigits_R : ∀ (k u : Nat), u < 10 ^ k → 0 < k → u ≤ 9007199254740992 → ref43_digits_R k (u : Int) = some ((strB (Lib.decDigits u), ()), ())
  | 0, u, _, h, _ => by omega
  | k + 1, u, h, _, hu => by
    have h10 : (((strB [48, 49, 50, 51, 52, 53, 54, 55, 56, 57]).size : Nat) : Int) = 10 := rfl
    unfold ref43_digits_R
    by_cases hs : u < 10
    · rw [if_pos (dT (by omega)), w64a u (by omega), if_pos ⟨by omega, by omega, by rw [h10]; omega⟩, Int.toNat_natCast, Int.toNat_natCast, digit_b u hs, dec_one hs]
    · have hm : u % 10 < 10 := Nat.mod_lt _ (by omega)
      have t1 : ((u : Nat) : Int).tmod 10 = ((u % 10 : Nat) : Int) := rfl
      have t2 : ((u : Nat) : Int).tdiv 10 = ((u / 10 : Nat) : Int) := rfl
      have hk : 0 < k := by
        rcases Nat.eq_zero_or_pos k with rfl | q
        · simp at h; omega
        · exact q
      have hd : u / 10 < 10 ^ k := by rw [Nat.div_lt_iff_lt_mul (by omega)]; rw [Nat.pow_succ] at h; exact h
      have hq : u / 10 ≤ u := Nat.div_le_self _ _
      rw [if_neg (dF (by omega)), t1, t2, w64 (by omega) (by omega), tdigits_R k (u / 10) hd hk (by omega), w64a _ (by omega)]
      simp only [Option.bind_some]
      have hl := decDigits_len 15 (u / 10) (by show _ < 10000000000000000; omega)
      rw [if_pos ⟨by omega, by omega, by rw [h10]; omega⟩, Int.toNat_natCast, Int.toNat_natCast, digit_b _ hm, if_pos (by rw [strB_size, strB_size]; simp only [List.length_cons, List.length_nil]; omega), strB_app, dec_cut hs]

theorem rtnumber_b (n : Int) (h : -9007199254740992 ≤ n ∧ n ≤ 9007199254740992) : ref43_number n = some ((nTok n, ()), ()) := by
  unfold ref43_number ref43_digits
  by_cases h0 : n < 0
  · have e := tdigits_R 20 n.natAbs (by omega) (by omega) (by omega)
    rw [show ((n.natAbs : Nat) : Int) = 0 - n by omega] at e
    rw [if_pos (dT h0), w64 (by omega) (by omega), e]
    simp only [Option.bind_some]
    have hl := decDigits_len 15 n.natAbs (by show _ < 10000000000000000; omega)
    rw [if_pos (by rw [strB_size, strB_size]; simp only [List.length_cons, List.length_nil]; omega), strB_app]
    unfold nTok Lib.itoa
    rw [if_pos (by omega)]
    rfl
  · have e := tdigits_R 20 n.toNat (by omega) (by omega) (by omega)
    rw [show ((n.toNat : Nat) : Int) = n by omega] at e
    rw [if_neg (dF h0), e]
    simp only [Option.bind_some]
    unfold nTok Lib.itoa
    rw [if_neg (by omega)]

theorem rtmark_b (c : UInt8) : ref43_mark (strB [c]) = some ((mTok c, ()), ()) := rfl
theorem rtword_b (b : ByteArray) : ref43_word b = some ((wTok b, ()), ()) := rfl
theorem rkinds_b : ref43_kinds = some ((kindTab, ()), ()) := rfl
theorem rfields_b : ref43_fields = some ((fieldTab, ()), ()) := rfl

theorem rcond_l6 (c : TCond) (h : OkCond c) (acc : List TToken) (ha : acc.length ≤ 1000) : ref43_cond_l6 c acc = some (((), ()), (acc ++ [nTok c.2.2.2.2], ())) := by
  rw [ref43_cond_l6_eq, rtnumber_b _ h.value]
  simp only [Option.bind_some]
  rw [if_pos ⟨by omega, by decide⟩]

theorem rcond_b (c : TCond) (h : OkCond c) : ref43_cond c = some (((), ()), (condT c, ())) := by
  have hk := h.kind
  have ho := h.op
  unfold ref43_cond condT
  rw [rtword_b, rtmark_b, rkinds_b]
  simp only [Option.bind_some]
  rw [if_pos ⟨hk.1, by show c.2.1 < 9; omega⟩, rtword_b]
  simp only [Option.bind_some]
  by_cases h0 : c.2.2.2.1 = 0
  · rw [if_pos (eT h0), if_pos h0]
  · have hf : 1 ≤ c.2.2.1 ∧ c.2.2.1 ≤ 6 := by have := h.field; omega
    rw [if_neg (eF h0), if_neg h0, rfields_b]
    simp only [Option.bind_some]
    rw [w64 (x := c.2.2.1 - 1) (by omega) (by omega), if_pos ⟨by omega, by show c.2.2.1 - 1 < 6; omega⟩, rtword_b, rtmark_b, rtmark_b, rtmark_b, rtmark_b, rtmark_b]
    simp only [Option.bind_some]
    have l6 := fun acc ha => rcond_l6 c h acc ha
    unfold opM
    by_cases h1 : c.2.2.2.1 = 1
    · rw [if_pos (eT h1), if_pos h1, l6 _ (by simp)]; rfl
    rw [if_neg (eF h1), if_neg h1]
    by_cases h2 : c.2.2.2.1 = 2
    · rw [if_pos (eT h2), if_pos h2, l6 _ (by simp)]; rfl
    rw [if_neg (eF h2), if_neg h2]
    by_cases h3 : c.2.2.2.1 = 3
    · rw [if_pos (eT h3), if_pos h3, l6 _ (by simp)]; rfl
    rw [if_neg (eF h3), if_neg h3]
    by_cases h4 : c.2.2.2.1 = 4
    · rw [if_pos (eT h4), if_pos h4, l6 _ (by simp)]; rfl
    rw [if_neg (eF h4), if_neg h4, if_pos (eT (show c.2.2.2.1 = 5 by omega)), l6 _ (by simp)]
    rfl

theorem rstep_b (s : TTrigStep) (hs : OkStep s) (h32 : s.2.1 ≤ 32) : ref43_step s = some ((AM.stepT s, ()), ()) := by
  have hb := hs.times
  have hw := hs.within
  have hc := (good_cond hs.cond).2
  have l4 : ∀ q : List TToken, q.length ≤ 100 → ref43_step_l4 s q = some ((q ++ (if s.2.2.2.1 = true then wTok sUnless :: condT s.2.2.2.2 else []), ()), ()) := fun q hq => by
    rw [ref43_step_l4_eq]
    by_cases hu : s.2.2.2.1 = true
    · have hc2 := (good_cond (hs.yes hu)).2
      rw [if_pos hu, if_pos hu, rtword_b]
      simp only [Option.bind_some]
      rw [if_pos ⟨by omega, by decide⟩, rcond_b _ (hs.yes hu)]
      simp only [Option.bind_some]
      rw [if_pos ⟨by simp only [List.length_append, List.length_cons, List.length_nil]; omega, by decide⟩]
      simp [List.append_assoc, sUnless]
    · rw [if_neg hu, if_neg hu, List.append_nil]
  have l2 : ∀ q : List TToken, q.length ≤ 50 → ref43_step_l2 s q = some ((q ++ ((if s.2.2.1 = 0 then [] else [wTok sWithin, nTok s.2.2.1]) ++ (if s.2.2.2.1 = true then wTok sUnless :: condT s.2.2.2.2 else [])), ()), ()) := fun q hq => by
    rw [ref43_step_l2_eq]
    by_cases h0 : s.2.2.1 = 0
    · rw [if_neg (nF h0), if_pos h0, l4 q (by omega), List.nil_append]
    · rw [if_pos (nT h0), if_neg h0, rtword_b, rtnumber_b _ (by omega)]
      simp only [Option.bind_some]
      rw [if_pos ⟨by omega, by decide⟩, l4 _ (by simp only [List.length_append, List.length_cons, List.length_nil]; omega), List.append_assoc]
      rfl
  unfold ref43_step AM.stepT
  rw [rcond_b _ hs.cond]
  simp only [Option.bind_some]
  by_cases h0 : s.2.1 = 1
  · rw [if_neg (nF h0), if_pos h0, l2 _ (by omega), List.nil_append]
  · rw [if_pos (nT h0), if_neg h0, rtword_b, rtnumber_b _ (by omega)]
    simp only [Option.bind_some]
    rw [if_pos ⟨by omega, by decide⟩, l2 _ (by simp only [List.length_append, List.length_cons, List.length_nil]; omega), List.append_assoc]
    rfl

theorem rtok_steps (t : TTrigger) (hl : t.2.length ≤ 32) (ho : ∀ s ∈ t.2, OkStep s ∧ s.2.1 ≤ 32) : ∀ (r : List TTrigStep) (k : Nat) (acc : List TToken), t.2.drop k = r → acc.length + 20 * r.length ≤ 1000 →
    ref43_Tokens_l4 k t acc = some ((acc ++ stepsT k r, ()), ())
  | [], k, acc, h, ha => by
    have h1 := drop_nil h
    rw [ref43_Tokens_l4_eq, if_neg (dF (by omega)), stepsT, List.append_nil]
  | s :: r, k, acc, h, ha => by
    have h1 := drop_lt h
    have hgd : t.2.getD (k : Int).toNat dTrigStep = s := getD_drop h
    have hs := ho s (mem_drop h)
    have h20 := (good_step hs.1 hs.2).2
    simp only [List.length_cons] at ha
    have l8 : ∀ q : List TToken, q = acc ++ (if k = 0 then [] else [mTok 59]) → ref43_Tokens_l8 k t q = some ((acc ++ stepsT k (s :: r), ()), ()) := fun q hq => by
      have hk1 : (if k = 0 then ([] : List TokT) else [mTok 59]).length ≤ 1 := by split <;> simp
      have hql : q.length ≤ acc.length + 1 := by rw [hq, List.length_append]; omega
      rw [ref43_Tokens_l8_eq, if_pos ⟨by omega, by omega⟩, hgd, rstep_b s hs.1 hs.2]
      simp only [Option.bind_some]
      rw [if_pos ⟨by omega, by decide⟩, w64a k (by omega), rtok_steps t hl ho r (k + 1) _ (dropS h) (by rw [List.length_append]; omega), stepsT, hq]
      simp [List.append_assoc]
    rw [ref43_Tokens_l4_eq, if_pos (dT (by omega))]
    by_cases hk : k = 0
    · rw [if_neg (dF (by omega)), l8 acc (by rw [if_pos hk, List.append_nil])]
    · rw [if_pos (dT (by omega)), rtmark_b]
      simp only [Option.bind_some]
      rw [if_pos ⟨by omega, by decide⟩, l8 _ (by rw [if_neg hk])]

theorem rtprint_b (t : TTrigger) (hl : t.2.length ≤ 1048576) : ref43_Print t = some ((strB (printT t).1, (printT t).2, ()), ()) := by
  unfold ref43_Print
  rw [rwrong_eq t hl]
  simp only [Option.bind_some]
  by_cases hc : wrongE t = 0
  · rw [if_neg (nF hc)]
    have ho := wrongE_zero.1 hc
    have hf := ho.few
    have hg := good_trig ho
    have e : printT t = textV (trigT t) := by unfold printT; rw [if_pos hc]
    have et : ref43_Tokens t = some ((trigT t, ()), ()) := by
      unfold ref43_Tokens
      rw [rtword_b, rtword_b, rtmark_b]
      simp only [Option.bind_some]
      exact (rtok_steps t hf (fun s hs => ⟨ho.steps s hs, by have := times_mem t.2 ho.steps s hs; have := ho.times; omega⟩) t.2 0 _ rfl (by simp only [List.length_cons, List.length_nil]; omega)).trans rfl
    rw [et]
    simp only [Option.bind_some]
    rw [ref05_Text_b _ (by have := hg.2; omega) (fun x hx => okTok_goodG (hg.1 x hx)), e]
    rfl
  · rw [if_pos (nT hc), printT_no hc]

theorem trig_len (t : TTrigger) {n : Nat} (h : bk uTrigger t ≤ n) : t.2.length ≤ n := by
  obtain ⟨a, l⟩ := t
  have h1 := len_le_bk (e := uTrigStep) (fun x => by simp only [bk]; omega) l
  have e1 : bk uTrigger (a, l) = a.size + 1 + ((l.map (bk uTrigStep)).sum + 1) := rfl
  rw [e1] at h
  show l.length ≤ n
  omega

theorem TrigPrints_true (t : TTrigger) (hl : t.2.length ≤ 1048576) : law43_TrigPrints t = some ((true, ()), ()) := by
  obtain ⟨b, hb⟩ := tsmall_ex t hl
  unfold law43_TrigPrints
  rw [hb, awake43_b, tprint_b t hl, rtprint_b t hl]
  cases b <;> simp

end Go.Proofs.YtgpgpelaabdkhaaGreatDoor
end
