/-
The plain functions of the program that the law LexTokens reaches, that the program computes them, and what they come to. No condition.
-/
import Derived.Test.YtcflnhimlidbcaaChecked
import Derived.Shelf.Small.Strs
import Derived.Shelf.Strings.Search1
import Derived.Test.YtcflnhimlidbcaaProg
import Derived.Test.YtcflnhimlidbcaaRows
import Derived.Test.YtcflnhimlidbcaaAm1
import Derived.Test.YtcflnhimlidbcaaAm2
set_option linter.unusedVariables false
set_option linter.unusedSimpArgs false

section
/-
Ytcflnhimlidbcaa: the types that the functions use. No condition.
-/
set_option maxRecDepth 100000
open Go Go.AM
namespace Go.Proofs.Ytcflnhimlidbcaa
noncomputable section
abbrev TToken : Type := Int × ByteArray × Int × Int
abbrev uToken : U := (.cons (.int .i64) (.cons .str (.cons (.int .i64) (.int .i64))))
def dToken : TToken := (0, ((strB []), (0, 0)))
def TL : List (Nat × TD) := [
  (3, ⟨.int .i64, 1, 8, [.val (.int .i64 0)], some (.int .i64), false, []⟩),
  (4, ⟨.bool, 1, 1, [.val (.bool false)], some .bool, false, []⟩),
  (5, ⟨.int .u8, 1, 1, [.val (.int .u8 0)], some (.int .u8), false, []⟩),
  (9, ⟨.string, 1, 16, [.val (.string ⟨#[]⟩)], some .str, false, []⟩),
  (21, ⟨.int .i32, 1, 4, [.val (.int .i32 0)], some (.int .i32), false, []⟩),
  (22, ⟨.slice 34, 1, 24, [.val (.slice none 0 0)], some (.sl (.cons (.int .i64) (.cons .str (.cons (.int .i64) (.int .i64))))), false, []⟩),
  (23, ⟨.int .i64, 1, 8, [.val (.int .i64 0)], some (.int .i64), false, []⟩),
  (34, ⟨(Try.t33.desc), 4, 40, [.val (.int .i64 0), .val (.string ⟨#[]⟩), .val (.int .i64 0), .val (.int .i64 0)], some (.cons (.int .i64) (.cons .str (.cons (.int .i64) (.int .i64)))), true, [(0, 1), (1, 1), (2, 1), (3, 1)]⟩),
  (46, ⟨.slice 5, 1, 24, [.val (.slice none 0 0)], some (.sl (.int .u8)), false, []⟩)]
def T : TT := lookT TL
theorem tokAll : AllT Try.prog TL := ⟨
  TOk.of Try.t3 (.int .i64 0) (by kernel_rfl) (by kernel_rfl) (by kernel_rfl) (by kernel_rfl) (by kernel_rfl) (by kernel_rfl) (fun fs h => nomatch h) (fun h => nomatch h),
  TOk.of Try.t4 (.bool false) (by kernel_rfl) (by kernel_rfl) (by kernel_rfl) (by kernel_rfl) (by kernel_rfl) (by kernel_rfl) (fun fs h => nomatch h) (fun h => nomatch h),
  TOk.of Try.t5 (.int .u8 0) (by kernel_rfl) (by kernel_rfl) (by kernel_rfl) (by kernel_rfl) (by kernel_rfl) (by kernel_rfl) (fun fs h => nomatch h) (fun h => nomatch h),
  TOk.of Try.t9 (.string ⟨#[]⟩) (by kernel_rfl) (by kernel_rfl) (by kernel_rfl) (by kernel_rfl) (by kernel_rfl) (by kernel_rfl) (fun fs h => nomatch h) (fun h => nomatch h),
  TOk.of Try.t21 (.int .i32 0) (by kernel_rfl) (by kernel_rfl) (by kernel_rfl) (by kernel_rfl) (by kernel_rfl) (by kernel_rfl) (fun fs h => nomatch h) (fun h => nomatch h),
  TOk.of Try.t22 (.slice none 0 0) (by kernel_rfl) (by kernel_rfl) (by kernel_rfl) (by kernel_rfl) (by kernel_rfl) (by kernel_rfl) (fun fs h => nomatch h) (fun h => nomatch h),
  TOk.of Try.t23 (.int .i64 0) (by kernel_rfl) (by kernel_rfl) (by kernel_rfl) (by kernel_rfl) (by kernel_rfl) (by kernel_rfl) (fun fs h => nomatch h) (fun h => nomatch h),
  TOk.of Try.t34 (.agg #[.int .i64 0, .string ⟨#[]⟩, .int .i64 0, .int .i64 0]) (by kernel_rfl) (by kernel_rfl) (by kernel_rfl) (by kernel_rfl) (by kernel_rfl) (by kernel_rfl) (fun fs h => by cases h; kernel_rfl) (eq_ok (fs := (Try.prog.fieldsOf 34)) rfl (by kernel_rfl) (by kernel_rfl) (by kernel_rfl) (by kernel_rfl)),
  TOk.of Try.t46 (.slice none 0 0) (by kernel_rfl) (by kernel_rfl) (by kernel_rfl) (by kernel_rfl) (by kernel_rfl) (by kernel_rfl) (fun fs h => nomatch h) (fun h => nomatch h),
  trivial⟩
theorem tok : TOK Try.prog T := tok_of tokAll
theorem mixed : Try.prog.follows .mixedOrders = true := by kernel_rfl
end
end Go.Proofs.Ytcflnhimlidbcaa
end

section
/-
Ytcflnhimlidbcaa: signalbench.lex.letter, as one plain function, its equations, its contract. No condition.
-/
set_option maxRecDepth 100000
set_option linter.unusedVariables false
set_option maxHeartbeats 4000000
open Go Go.AM
namespace Go.Proofs.Ytcflnhimlidbcaa
noncomputable section
def lex_letter_D : FD := ⟨T, lookC [], [], (Try.f26.body.getD .skip), Try.f26.results.toList, ⟨[.one (.int .i32)], []⟩, ⟨[.one .bool], []⟩, []⟩
def lex_letter (c : Int) : (Option ((Bool × Unit) × Unit)) :=
  if (decide ((97 : Int) ≤ c)) = true then
    some ((decide (c ≤ 122), ()), ())
  else
    some ((false, ()), ())
def fc26 : FC := ⟨⟨[.one (.int .i32)], []⟩, ⟨[.one .bool], []⟩, fun x => lex_letter x.1.1⟩
theorem con26 : Contract Try.prog 26 fc26 :=
  lex_letter_D.contract tok (cok_of (l := []) trivial) mixed (fn' := Try.f26) (by kernel_rfl) (by kernel_rfl) rfl (by kernel_rfl) (fun x => (FD.fn_eq _ _).trans (by kernel_rfl))
end
end Go.Proofs.Ytcflnhimlidbcaa
end

section
/-
Ytcflnhimlidbcaa: signalbench.lex.digit, as one plain function, its equations, its contract. No condition.
-/
set_option maxRecDepth 100000
set_option linter.unusedVariables false
set_option maxHeartbeats 4000000
open Go Go.AM
namespace Go.Proofs.Ytcflnhimlidbcaa
noncomputable section
def lex_digit_D : FD := ⟨T, lookC [], [], (Try.f38.body.getD .skip), Try.f38.results.toList, ⟨[.one (.int .i32)], []⟩, ⟨[.one .bool], []⟩, []⟩
def lex_digit (c : Int) : (Option ((Bool × Unit) × Unit)) :=
  if (decide ((48 : Int) ≤ c)) = true then
    some ((decide (c ≤ 57), ()), ())
  else
    some ((false, ()), ())
def fc38 : FC := ⟨⟨[.one (.int .i32)], []⟩, ⟨[.one .bool], []⟩, fun x => lex_digit x.1.1⟩
theorem con38 : Contract Try.prog 38 fc38 :=
  lex_digit_D.contract tok (cok_of (l := []) trivial) mixed (fn' := Try.f38) (by kernel_rfl) (by kernel_rfl) rfl (by kernel_rfl) (fun x => (FD.fn_eq _ _).trans (by kernel_rfl))
end
end Go.Proofs.Ytcflnhimlidbcaa
end

section
/-
Ytcflnhimlidbcaa: signalbench.lex.word, as one plain function, its equations, its contract. No condition.
-/
set_option maxRecDepth 100000
set_option linter.unusedVariables false
set_option maxHeartbeats 4000000
open Go Go.AM
namespace Go.Proofs.Ytcflnhimlidbcaa
noncomputable section
def lex_word_D : FD := ⟨T, lookC [(26, fc26), (38, fc38)], [], (Try.f27.body.getD .skip), Try.f27.results.toList, ⟨[.one (.int .i32)], []⟩, ⟨[.one .bool], []⟩, []⟩
def lex_word (c : Int) : (Option ((Bool × Unit) × Unit)) :=
  (lex_letter c).bind fun y1 =>
    if y1.1.1 = true then
      some ((true, ()), ())
    else
      (lex_digit c).bind fun y2 =>
        if y2.1.1 = true then
          some ((true, ()), ())
        else
          some ((c == 95, ()), ())
def fc27 : FC := ⟨⟨[.one (.int .i32)], []⟩, ⟨[.one .bool], []⟩, fun x => lex_word x.1.1⟩
theorem con27 : Contract Try.prog 27 fc27 :=
  lex_word_D.contract tok (cok_of (l := [(26, fc26), (38, fc38)]) ⟨con26, con38, trivial⟩) mixed (fn' := Try.f27) (by kernel_rfl) (by kernel_rfl) rfl (by kernel_rfl) (fun x => (FD.fn_eq _ _).trans (by kernel_rfl))
end
end Go.Proofs.Ytcflnhimlidbcaa
end

section
/-
Ytcflnhimlidbcaa: signalbench.lex.Name, as one plain function, its equations, its contract. No condition.
-/
set_option maxRecDepth 100000
set_option linter.unusedVariables false
set_option maxHeartbeats 4000000
open Go Go.AM
namespace Go.Proofs.Ytcflnhimlidbcaa
noncomputable section
def lex_Name_F6 : FSh := ⟨[(0, .one .str), (19, .one (.int .i64)), (20, .one (.int .i64))], []⟩
def lex_Name_D : FD := ⟨T, lookC [(26, fc26), (27, fc27)], [], (Try.f14.body.getD .skip), Try.f14.results.toList, ⟨[.one .str], []⟩, ⟨[.one .bool], []⟩, [(6, lex_Name_F6)]⟩
def lex_Name_l6 (s : ByteArray) (t19 : Int) (t20 : Int) : (Option ((Bool × Unit) × Unit)) := lex_Name_D.lab 6 lex_Name_F6 ((s, t19, t20, ()), ())
theorem lex_Name_l6_eq (s : ByteArray) (t19 : Int) (t20 : Int) : lex_Name_l6 s t19 t20 =
  if (decide (t20 < t19)) = true then
    if 0 ≤ t20 ∧ t20 < (s.size : Int) then
      (lex_word (IntKind.i32.wrap (bt s t20))).bind fun y1 =>
        if (!y1.1.1) = true then
          some ((false, ()), ())
        else
          lex_Name_l6 s t19 (IntKind.i64.wrap (t20 + 1))
    else
      none
  else
    some ((true, ()), ()) := (FD.lab_eq _ _ _ _).trans (by kernel_rfl)
def lex_Name (s : ByteArray) : (Option ((Bool × Unit) × Unit)) :=
  if (s.toList == (strB []).toList) = true then
    some ((false, ()), ())
  else
    if (decide ((s.size : Int) > 16)) = true then
      some ((false, ()), ())
    else
      if 0 ≤ (0 : Int) ∧ 0 < (s.size : Int) then
        (lex_letter (IntKind.i32.wrap (bt s 0))).bind fun y1 =>
          if (!y1.1.1) = true then
            some ((false, ()), ())
          else
            lex_Name_l6 s (s.size : Int) 0
      else
        none
def fc14 : FC := ⟨⟨[.one .str], []⟩, ⟨[.one .bool], []⟩, fun x => lex_Name x.1.1⟩
theorem con14 : Contract Try.prog 14 fc14 :=
  lex_Name_D.contract tok (cok_of (l := [(26, fc26), (27, fc27)]) ⟨con26, con27, trivial⟩) mixed (fn' := Try.f14) (by kernel_rfl) (by kernel_rfl) rfl (by kernel_rfl) (fun x => (FD.fn_eq _ _).trans (by kernel_rfl))
end
end Go.Proofs.Ytcflnhimlidbcaa
end

section
/-
Ytcflnhimlidbcaa: signalbench.signalbenchref05.letter, as one plain function, its equations, its contract. No condition.
-/
set_option maxRecDepth 100000
set_option linter.unusedVariables false
set_option maxHeartbeats 4000000
open Go Go.AM
namespace Go.Proofs.Ytcflnhimlidbcaa
noncomputable section
def ref05_letter_D : FD := ⟨T, lookC [], [], (Try.f28.body.getD .skip), Try.f28.results.toList, ⟨[.one (.int .u8)], []⟩, ⟨[.one .bool], []⟩, []⟩
def ref05_letter (c : Int) : (Option ((Bool × Unit) × Unit)) :=
  if (decide (c ≥ 97)) = true then
    some ((decide (c ≤ 122), ()), ())
  else
    some ((false, ()), ())
def fc28 : FC := ⟨⟨[.one (.int .u8)], []⟩, ⟨[.one .bool], []⟩, fun x => ref05_letter x.1.1⟩
theorem con28 : Contract Try.prog 28 fc28 :=
  ref05_letter_D.contract tok (cok_of (l := []) trivial) mixed (fn' := Try.f28) (by kernel_rfl) (by kernel_rfl) rfl (by kernel_rfl) (fun x => (FD.fn_eq _ _).trans (by kernel_rfl))
end
end Go.Proofs.Ytcflnhimlidbcaa
end

section
/-
Ytcflnhimlidbcaa: signalbench.signalbenchref05.digit, as one plain function, its equations, its contract. No condition.
-/
set_option maxRecDepth 100000
set_option linter.unusedVariables false
set_option maxHeartbeats 4000000
open Go Go.AM
namespace Go.Proofs.Ytcflnhimlidbcaa
noncomputable section
def ref05_digit_D : FD := ⟨T, lookC [], [], (Try.f42.body.getD .skip), Try.f42.results.toList, ⟨[.one (.int .u8)], []⟩, ⟨[.one .bool], []⟩, []⟩
def ref05_digit (c : Int) : (Option ((Bool × Unit) × Unit)) :=
  if (decide (c ≥ 48)) = true then
    some ((decide (c ≤ 57), ()), ())
  else
    some ((false, ()), ())
def fc42 : FC := ⟨⟨[.one (.int .u8)], []⟩, ⟨[.one .bool], []⟩, fun x => ref05_digit x.1.1⟩
theorem con42 : Contract Try.prog 42 fc42 :=
  ref05_digit_D.contract tok (cok_of (l := []) trivial) mixed (fn' := Try.f42) (by kernel_rfl) (by kernel_rfl) rfl (by kernel_rfl) (fun x => (FD.fn_eq _ _).trans (by kernel_rfl))
end
end Go.Proofs.Ytcflnhimlidbcaa
end

section
/-
Ytcflnhimlidbcaa: signalbench.signalbenchref05.inner, as one plain function, its equations, its contract. No condition.
-/
set_option maxRecDepth 100000
set_option linter.unusedVariables false
set_option maxHeartbeats 4000000
open Go Go.AM
namespace Go.Proofs.Ytcflnhimlidbcaa
noncomputable section
def ref05_inner_D : FD := ⟨T, lookC [(28, fc28), (42, fc42)], [], (Try.f29.body.getD .skip), Try.f29.results.toList, ⟨[.one (.int .u8)], []⟩, ⟨[.one .bool], []⟩, []⟩
def ref05_inner (c : Int) : (Option ((Bool × Unit) × Unit)) :=
  (ref05_letter c).bind fun y1 =>
    if y1.1.1 = true then
      some ((true, ()), ())
    else
      (ref05_digit c).bind fun y2 =>
        if y2.1.1 = true then
          some ((true, ()), ())
        else
          some ((c == 95, ()), ())
def fc29 : FC := ⟨⟨[.one (.int .u8)], []⟩, ⟨[.one .bool], []⟩, fun x => ref05_inner x.1.1⟩
theorem con29 : Contract Try.prog 29 fc29 :=
  ref05_inner_D.contract tok (cok_of (l := [(28, fc28), (42, fc42)]) ⟨con28, con42, trivial⟩) mixed (fn' := Try.f29) (by kernel_rfl) (by kernel_rfl) rfl (by kernel_rfl) (fun x => (FD.fn_eq _ _).trans (by kernel_rfl))
end
end Go.Proofs.Ytcflnhimlidbcaa
end

section
/-
Ytcflnhimlidbcaa: signalbench.signalbenchref05.Name, as one plain function, its equations, its contract. No condition.
-/
set_option maxRecDepth 100000
set_option linter.unusedVariables false
set_option maxHeartbeats 4000000
open Go Go.AM
namespace Go.Proofs.Ytcflnhimlidbcaa
noncomputable section
def ref05_Name_F6 : FSh := ⟨[(0, .one .str), (3, .one (.int .i64))], []⟩
def ref05_Name_D : FD := ⟨T, lookC [(28, fc28), (29, fc29)], [], (Try.f15.body.getD .skip), Try.f15.results.toList, ⟨[.one .str], []⟩, ⟨[.one .bool], []⟩, [(6, ref05_Name_F6)]⟩
def ref05_Name_l6 (s : ByteArray) (i : Int) : (Option ((Bool × Unit) × Unit)) := ref05_Name_D.lab 6 ref05_Name_F6 ((s, i, ()), ())
theorem ref05_Name_l6_eq (s : ByteArray) (i : Int) : ref05_Name_l6 s i =
  if (decide (i < (s.size : Int))) = true then
    if 0 ≤ i ∧ i < (s.size : Int) then
      (ref05_inner (bt s i)).bind fun y1 =>
        if (!y1.1.1) = true then
          some ((false, ()), ())
        else
          ref05_Name_l6 s (IntKind.i64.wrap (i + 1))
    else
      none
  else
    some ((true, ()), ()) := (FD.lab_eq _ _ _ _).trans (by kernel_rfl)
def ref05_Name (s : ByteArray) : (Option ((Bool × Unit) × Unit)) :=
  if (decide ((s.size : Int) < 1)) = true then
    some ((false, ()), ())
  else
    if (decide ((s.size : Int) > 16)) = true then
      some ((false, ()), ())
    else
      if 0 ≤ (0 : Int) ∧ 0 < (s.size : Int) then
        (ref05_letter (bt s 0)).bind fun y1 =>
          if (!y1.1.1) = true then
            some ((false, ()), ())
          else
            ref05_Name_l6 s 0
      else
        none
def fc15 : FC := ⟨⟨[.one .str], []⟩, ⟨[.one .bool], []⟩, fun x => ref05_Name x.1.1⟩
theorem con15 : Contract Try.prog 15 fc15 :=
  ref05_Name_D.contract tok (cok_of (l := [(28, fc28), (29, fc29)]) ⟨con28, con29, trivial⟩) mixed (fn' := Try.f15) (by kernel_rfl) (by kernel_rfl) rfl (by kernel_rfl) (fun x => (FD.fn_eq _ _).trans (by kernel_rfl))
end
end Go.Proofs.Ytcflnhimlidbcaa
end

section
/-
Ytcflnhimlidbcaa: internal.stringslite.HasPrefix, as one plain function, its equations, its contract. No condition.
-/
set_option maxRecDepth 100000
set_option linter.unusedVariables false
set_option maxHeartbeats 4000000
open Go Go.AM
namespace Go.Proofs.Ytcflnhimlidbcaa
noncomputable section
def stringslite_HasPrefix_D : FD := ⟨T, lookC [], [], (Try.f44.body.getD .skip), Try.f44.results.toList, ⟨[.one .str, .one .str], []⟩, ⟨[.one .bool], []⟩, []⟩
def stringslite_HasPrefix (s : ByteArray) (prefix_ : ByteArray) : (Option ((Bool × Unit) × Unit)) :=
  if (decide ((s.size : Int) ≥ (prefix_.size : Int))) = true then
    if 0 ≤ (0 : Int) ∧ (0 : Int) ≤ (prefix_.size : Int) ∧ (prefix_.size : Int) ≤ (s.size : Int) then
      some (((s.extract 0 (prefix_.size : Int).toNat).toList == prefix_.toList, ()), ())
    else
      none
  else
    some ((false, ()), ())
def fc44 : FC := ⟨⟨[.one .str, .one .str], []⟩, ⟨[.one .bool], []⟩, fun x => stringslite_HasPrefix x.1.1 x.1.2.1⟩
theorem con44 : Contract Try.prog 44 fc44 :=
  stringslite_HasPrefix_D.contract tok (cok_of (l := []) trivial) mixed (fn' := Try.f44) (by kernel_rfl) (by kernel_rfl) rfl (by kernel_rfl) (fun x => (FD.fn_eq _ _).trans (by kernel_rfl))
end
end Go.Proofs.Ytcflnhimlidbcaa
end

section
/-
Ytcflnhimlidbcaa: strings.HasPrefix, as one plain function, its equations, its contract. No condition.
-/
set_option maxRecDepth 100000
set_option linter.unusedVariables false
set_option maxHeartbeats 4000000
open Go Go.AM
namespace Go.Proofs.Ytcflnhimlidbcaa
noncomputable section
def strings_HasPrefix_D : FD := ⟨T, lookC [(44, fc44)], [], (Try.f23.body.getD .skip), Try.f23.results.toList, ⟨[.one .str, .one .str], []⟩, ⟨[.one .bool], []⟩, []⟩
def strings_HasPrefix (s : ByteArray) (prefix_ : ByteArray) : (Option ((Bool × Unit) × Unit)) :=
  (stringslite_HasPrefix s prefix_).bind fun y1 =>
    some ((y1.1.1, ()), ())
def fc23 : FC := ⟨⟨[.one .str, .one .str], []⟩, ⟨[.one .bool], []⟩, fun x => strings_HasPrefix x.1.1 x.1.2.1⟩
theorem con23 : Contract Try.prog 23 fc23 :=
  strings_HasPrefix_D.contract tok (cok_of (l := [(44, fc44)]) ⟨con44, trivial⟩) mixed (fn' := Try.f23) (by kernel_rfl) (by kernel_rfl) rfl (by kernel_rfl) (fun x => (FD.fn_eq _ _).trans (by kernel_rfl))
end
end Go.Proofs.Ytcflnhimlidbcaa
end

section
/-
Ytcflnhimlidbcaa: signalbench.lex.hex, as one plain function, its equations, its contract. No condition.
-/
set_option maxRecDepth 100000
set_option linter.unusedVariables false
set_option maxHeartbeats 4000000
open Go Go.AM
namespace Go.Proofs.Ytcflnhimlidbcaa
noncomputable section
def lex_hex_D : FD := ⟨T, lookC [], [], (Try.f24.body.getD .skip), Try.f24.results.toList, ⟨[.one (.int .u8)], []⟩, ⟨[.one (.int .i64)], []⟩, []⟩
def lex_hex (c : Int) : (Option ((Int × Unit) × Unit)) :=
  if (decide ((48 : Int) ≤ c)) = true then
    if (decide (c ≤ 57)) = true then
      some ((IntKind.i64.wrap (IntKind.u8.wrap (c - 48)), ()), ())
    else
      if (decide ((97 : Int) ≤ c)) = true then
        if (decide (c ≤ 102)) = true then
          some ((IntKind.i64.wrap ((IntKind.i64.wrap (IntKind.u8.wrap (c - 97))) + 10), ()), ())
        else
          some (((-1), ()), ())
      else
        some (((-1), ()), ())
  else
    if (decide ((97 : Int) ≤ c)) = true then
      if (decide (c ≤ 102)) = true then
        some ((IntKind.i64.wrap ((IntKind.i64.wrap (IntKind.u8.wrap (c - 97))) + 10), ()), ())
      else
        some (((-1), ()), ())
    else
      some (((-1), ()), ())
def fc24 : FC := ⟨⟨[.one (.int .u8)], []⟩, ⟨[.one (.int .i64)], []⟩, fun x => lex_hex x.1.1⟩
theorem con24 : Contract Try.prog 24 fc24 :=
  lex_hex_D.contract tok (cok_of (l := []) trivial) mixed (fn' := Try.f24) (by kernel_rfl) (by kernel_rfl) rfl (by kernel_rfl) (fun x => (FD.fn_eq _ _).trans (by kernel_rfl))
end
end Go.Proofs.Ytcflnhimlidbcaa
end

section
/-
Ytcflnhimlidbcaa: signalbench.lex.Number, as one plain function, its equations, its contract. No condition.
-/
set_option maxRecDepth 100000
set_option linter.unusedVariables false
set_option maxHeartbeats 4000000
open Go Go.AM
namespace Go.Proofs.Ytcflnhimlidbcaa
noncomputable section
def lex_Number_F2 : FSh := ⟨[(0, .one .str), (4, .one .bool)], []⟩
def lex_Number_F5 : FSh := ⟨[(0, .one .str), (4, .one .bool), (5, .one (.int .i64))], []⟩
def lex_Number_F13 : FSh := ⟨[(0, .one .str), (4, .one .bool), (5, .one (.int .i64)), (6, .one (.int .i64)), (34, .one (.int .i64)), (35, .one (.int .i64))], []⟩
def lex_Number_D : FD := ⟨T, lookC [(23, fc23), (24, fc24)], [5, 2], (Try.f12.body.getD .skip), Try.f12.results.toList, ⟨[.one .str], []⟩, ⟨[.one (.int .i64), .one (.int .i64)], []⟩, [(2, lex_Number_F2), (5, lex_Number_F5), (13, lex_Number_F13)]⟩
def lex_Number_l2 (s : ByteArray) (minus : Bool) : (Option ((Int × Int × Unit) × Unit)) := lex_Number_D.lab 2 lex_Number_F2 ((s, minus, ()), ())
def lex_Number_l5 (s : ByteArray) (minus : Bool) (base : Int) : (Option ((Int × Int × Unit) × Unit)) := lex_Number_D.lab 5 lex_Number_F5 ((s, minus, base, ()), ())
def lex_Number_l13 (s : ByteArray) (minus : Bool) (base : Int) (n : Int) (t34 : Int) (t35 : Int) : (Option ((Int × Int × Unit) × Unit)) := lex_Number_D.lab 13 lex_Number_F13 ((s, minus, base, n, t34, t35, ()), ())
theorem lex_Number_l2_eq (s : ByteArray) (minus : Bool) : lex_Number_l2 s minus =
  (strings_HasPrefix s (strB [48, 120])).bind fun y1 =>
    if y1.1.1 = true then
      if 0 ≤ (2 : Int) ∧ 2 ≤ (s.size : Int) then
        lex_Number_l5 (s.extract 2 s.size) minus 16
      else
        none
    else
      lex_Number_l5 s minus 10 := (FD.lab_eq _ _ _ _).trans (by kernel_rfl)
theorem lex_Number_l5_eq (s : ByteArray) (minus : Bool) (base : Int) : lex_Number_l5 s minus base =
  if (s.toList == (strB []).toList) = true then
    some ((0, 4, ()), ())
  else
    if 0 ≤ (0 : Int) ∧ 0 < (s.size : Int) then
      if ((bt s 0) == 48) = true then
        if minus = true then
          some ((0, 4, ()), ())
        else
          if (decide ((s.size : Int) > 1)) = true then
            some ((0, 4, ()), ())
          else
            lex_Number_l13 s minus base 0 (s.size : Int) 0
      else
        lex_Number_l13 s minus base 0 (s.size : Int) 0
    else
      none := (FD.lab_eq _ _ _ _).trans (by kernel_rfl)
theorem lex_Number_l13_eq (s : ByteArray) (minus : Bool) (base : Int) (n : Int) (t34 : Int) (t35 : Int) : lex_Number_l13 s minus base n t34 t35 =
  if (decide (t35 < t34)) = true then
    if 0 ≤ t35 ∧ t35 < (s.size : Int) then
      (lex_hex (bt s t35)).bind fun y1 =>
        if (decide (y1.1.1 < 0)) = true then
          some ((0, 4, ()), ())
        else
          if (decide (y1.1.1 ≥ base)) = true then
            some ((0, 4, ()), ())
          else
            lex_Number_l13 s minus base (if (9007199254740993 : Int) < IntKind.i64.wrap ((IntKind.i64.wrap (base * n)) + y1.1.1) then 9007199254740993 else IntKind.i64.wrap ((IntKind.i64.wrap (base * n)) + y1.1.1)) t34 (IntKind.i64.wrap (t35 + 1))
    else
      none
  else
    if (decide (n > 9007199254740992)) = true then
      some ((0, 2, ()), ())
    else
      if minus = true then
        some ((IntKind.i64.wrap (0 - n), 0, ()), ())
      else
        some ((n, 0, ()), ()) := (FD.lab_eq _ _ _ _).trans (by kernel_rfl)
def lex_Number (s : ByteArray) : (Option ((Int × Int × Unit) × Unit)) :=
  (strings_HasPrefix s (strB [45])).bind fun y1 =>
    if y1.1.1 = true then
      if 0 ≤ (1 : Int) ∧ 1 ≤ (s.size : Int) then
        lex_Number_l2 (s.extract 1 s.size) y1.1.1
      else
        none
    else
      lex_Number_l2 s y1.1.1
def fc12 : FC := ⟨⟨[.one .str], []⟩, ⟨[.one (.int .i64), .one (.int .i64)], []⟩, fun x => lex_Number x.1.1⟩
theorem con12 : Contract Try.prog 12 fc12 :=
  lex_Number_D.contract tok (cok_of (l := [(23, fc23), (24, fc24)]) ⟨con23, con24, trivial⟩) mixed (fn' := Try.f12) (by kernel_rfl) (by kernel_rfl) rfl (by kernel_rfl) (fun x => (FD.fn_eq _ _).trans (by kernel_rfl))
end
end Go.Proofs.Ytcflnhimlidbcaa
end

section
/-
Ytcflnhimlidbcaa: signalbench.signalbenchref05.hexa, as one plain function, its equations, its contract. No condition.
-/
set_option maxRecDepth 100000
set_option linter.unusedVariables false
set_option maxHeartbeats 4000000
open Go Go.AM
namespace Go.Proofs.Ytcflnhimlidbcaa
noncomputable section
def ref05_hexa_D : FD := ⟨T, lookC [(42, fc42)], [], (Try.f45.body.getD .skip), Try.f45.results.toList, ⟨[.one (.int .u8)], []⟩, ⟨[.one (.int .i64)], []⟩, []⟩
def ref05_hexa (c : Int) : (Option ((Int × Unit) × Unit)) :=
  (ref05_digit c).bind fun y1 =>
    if y1.1.1 = true then
      some ((IntKind.i64.wrap ((IntKind.i64.wrap c) - 48), ()), ())
    else
      if (decide (c ≥ 97)) = true then
        if (decide (c ≤ 102)) = true then
          some ((IntKind.i64.wrap ((IntKind.i64.wrap ((IntKind.i64.wrap c) - 97)) + 10), ()), ())
        else
          some (((-1), ()), ())
      else
        some (((-1), ()), ())
def fc45 : FC := ⟨⟨[.one (.int .u8)], []⟩, ⟨[.one (.int .i64)], []⟩, fun x => ref05_hexa x.1.1⟩
theorem con45 : Contract Try.prog 45 fc45 :=
  ref05_hexa_D.contract tok (cok_of (l := [(42, fc42)]) ⟨con42, trivial⟩) mixed (fn' := Try.f45) (by kernel_rfl) (by kernel_rfl) rfl (by kernel_rfl) (fun x => (FD.fn_eq _ _).trans (by kernel_rfl))
end
end Go.Proofs.Ytcflnhimlidbcaa
end

section
/-
Ytcflnhimlidbcaa: signalbench.signalbenchref05.plain, as one plain function, its equations, its contract. No condition.
-/
set_option maxRecDepth 100000
set_option linter.unusedVariables false
set_option maxHeartbeats 4000000
open Go Go.AM
namespace Go.Proofs.Ytcflnhimlidbcaa
noncomputable section
def ref05_plain_F7 : FSh := ⟨[(0, .one .str), (1, .one (.int .i64)), (6, .one (.int .i64)), (7, .one (.int .i64))], []⟩
def ref05_plain_D : FD := ⟨T, lookC [(45, fc45)], [], (Try.f25.body.getD .skip), Try.f25.results.toList, ⟨[.one .str, .one (.int .i64)], []⟩, ⟨[.one (.int .i64), .one .bool], []⟩, [(7, ref05_plain_F7)]⟩
def ref05_plain_l7 (s : ByteArray) (base : Int) (n : Int) (i : Int) : (Option ((Int × Bool × Unit) × Unit)) := ref05_plain_D.lab 7 ref05_plain_F7 ((s, base, n, i, ()), ())
theorem ref05_plain_l7_eq (s : ByteArray) (base : Int) (n : Int) (i : Int) : ref05_plain_l7 s base n i =
  if (decide (i < (s.size : Int))) = true then
    if 0 ≤ i ∧ i < (s.size : Int) then
      (ref05_hexa (bt s i)).bind fun y1 =>
        if (decide (y1.1.1 < 0)) = true then
          some ((0, false, ()), ())
        else
          if (decide (y1.1.1 ≥ base)) = true then
            some ((0, false, ()), ())
          else
            if (decide ((IntKind.i64.wrap ((IntKind.i64.wrap (n * base)) + y1.1.1)) > 9007199254740992)) = true then
              ref05_plain_l7 s base 9007199254740993 (IntKind.i64.wrap (i + 1))
            else
              ref05_plain_l7 s base (IntKind.i64.wrap ((IntKind.i64.wrap (n * base)) + y1.1.1)) (IntKind.i64.wrap (i + 1))
    else
      none
  else
    some ((n, true, ()), ()) := (FD.lab_eq _ _ _ _).trans (by kernel_rfl)
def ref05_plain (s : ByteArray) (base : Int) : (Option ((Int × Bool × Unit) × Unit)) :=
  if ((s.size : Int) == 0) = true then
    some ((0, false, ()), ())
  else
    if (decide ((s.size : Int) > 1)) = true then
      if 0 ≤ (0 : Int) ∧ 0 < (s.size : Int) then
        if ((bt s 0) == 48) = true then
          some ((0, false, ()), ())
        else
          ref05_plain_l7 s base 0 0
      else
        none
    else
      ref05_plain_l7 s base 0 0
def fc25 : FC := ⟨⟨[.one .str, .one (.int .i64)], []⟩, ⟨[.one (.int .i64), .one .bool], []⟩, fun x => ref05_plain x.1.1 x.1.2.1⟩
theorem con25 : Contract Try.prog 25 fc25 :=
  ref05_plain_D.contract tok (cok_of (l := [(45, fc45)]) ⟨con45, trivial⟩) mixed (fn' := Try.f25) (by kernel_rfl) (by kernel_rfl) rfl (by kernel_rfl) (fun x => (FD.fn_eq _ _).trans (by kernel_rfl))
end
end Go.Proofs.Ytcflnhimlidbcaa
end

section
/-
Ytcflnhimlidbcaa: signalbench.signalbenchref05.Number, as one plain function, its equations, its contract. No condition.
-/
set_option maxRecDepth 100000
set_option linter.unusedVariables false
set_option maxHeartbeats 4000000
open Go Go.AM
namespace Go.Proofs.Ytcflnhimlidbcaa
noncomputable section
def ref05_Number_F3 : FSh := ⟨[(4, .one .str), (5, .one (.int .i64))], []⟩
def ref05_Number_F7 : FSh := ⟨[(5, .one (.int .i64)), (6, .one (.int .i64)), (7, .one .bool)], []⟩
def ref05_Number_D : FD := ⟨T, lookC [(25, fc25)], [7, 3], (Try.f13.body.getD .skip), Try.f13.results.toList, ⟨[.one .str], []⟩, ⟨[.one (.int .i64), .one (.int .i64)], []⟩, [(3, ref05_Number_F3), (7, ref05_Number_F7)]⟩
def ref05_Number_l3 (body : ByteArray) (sign : Int) : (Option ((Int × Int × Unit) × Unit)) := ref05_Number_D.lab 3 ref05_Number_F3 ((body, sign, ()), ())
def ref05_Number_l7 (sign : Int) (n : Int) (ok : Bool) : (Option ((Int × Int × Unit) × Unit)) := ref05_Number_D.lab 7 ref05_Number_F7 ((sign, n, ok, ()), ())
theorem ref05_Number_l3_eq (body : ByteArray) (sign : Int) : ref05_Number_l3 body sign =
  if (decide ((body.size : Int) > 2)) = true then
    if 0 ≤ (0 : Int) ∧ (0 : Int) ≤ 2 ∧ 2 ≤ (body.size : Int) then
      if ((body.extract 0 2).toList == (strB [48, 120]).toList) = true then
        if 0 ≤ (2 : Int) ∧ 2 ≤ (body.size : Int) then
          (ref05_plain (body.extract 2 body.size) 16).bind fun y1 =>
            ref05_Number_l7 sign y1.1.1 y1.1.2.1
        else
          none
      else
        (ref05_plain body 10).bind fun y2 =>
          ref05_Number_l7 sign y2.1.1 y2.1.2.1
    else
      none
  else
    (ref05_plain body 10).bind fun y3 =>
      ref05_Number_l7 sign y3.1.1 y3.1.2.1 := (FD.lab_eq _ _ _ _).trans (by kernel_rfl)
theorem ref05_Number_l7_eq (sign : Int) (n : Int) (ok : Bool) : ref05_Number_l7 sign n ok =
  if (!ok) = true then
    some ((0, 4, ()), ())
  else
    if (decide (sign < 0)) = true then
      if (n == 0) = true then
        some ((0, 4, ()), ())
      else
        if (decide (n > 9007199254740992)) = true then
          some ((0, 2, ()), ())
        else
          some ((IntKind.i64.wrap (sign * n), 0, ()), ())
    else
      if (decide (n > 9007199254740992)) = true then
        some ((0, 2, ()), ())
      else
        some ((IntKind.i64.wrap (sign * n), 0, ()), ()) := (FD.lab_eq _ _ _ _).trans (by kernel_rfl)
def ref05_Number (s : ByteArray) : (Option ((Int × Int × Unit) × Unit)) :=
  if (decide ((s.size : Int) > 0)) = true then
    if 0 ≤ (0 : Int) ∧ 0 < (s.size : Int) then
      if ((bt s 0) == 45) = true then
        if 0 ≤ (1 : Int) ∧ 1 ≤ (s.size : Int) then
          ref05_Number_l3 (s.extract 1 s.size) (-1)
        else
          none
      else
        ref05_Number_l3 s 1
    else
      none
  else
    ref05_Number_l3 s 1
def fc13 : FC := ⟨⟨[.one .str], []⟩, ⟨[.one (.int .i64), .one (.int .i64)], []⟩, fun x => ref05_Number x.1.1⟩
theorem con13 : Contract Try.prog 13 fc13 :=
  ref05_Number_D.contract tok (cok_of (l := [(25, fc25)]) ⟨con25, trivial⟩) mixed (fn' := Try.f13) (by kernel_rfl) (by kernel_rfl) rfl (by kernel_rfl) (fun x => (FD.fn_eq _ _).trans (by kernel_rfl))
end
end Go.Proofs.Ytcflnhimlidbcaa
end

section
/-
Ytcflnhimlidbcaa: the plain functions of names and numbers come to what they should. No condition.
-/
set_option maxRecDepth 100000
open Go Go.AM
namespace Go.Proofs.Ytcflnhimlidbcaa

theorem lex_letter_b (c : UInt8) : lex_letter c.toNat = some ((letterB c, ()), ()) := by
  unfold lex_letter letterB
  by_cases h : 97 ≤ c.toNat
  · rw [if_pos (decide_eq_true (by omega)), decide_eq_true h, Bool.true_and]
    by_cases h2 : c.toNat ≤ 122
    · rw [decide_eq_true h2, decide_eq_true (by omega)]
    · rw [decide_eq_false h2, decide_eq_false (by omega)]
  · rw [if_neg (dF (by omega)), decide_eq_false h, Bool.false_and]

theorem lex_digit_b (c : UInt8) : lex_digit c.toNat = some ((digitB c, ()), ()) := by
  unfold lex_digit digitB
  by_cases h : 48 ≤ c.toNat
  · rw [if_pos (decide_eq_true (by omega)), decide_eq_true h, Bool.true_and]
    by_cases h2 : c.toNat ≤ 57
    · rw [decide_eq_true h2, decide_eq_true (by omega)]
    · rw [decide_eq_false h2, decide_eq_false (by omega)]
  · rw [if_neg (dF (by omega)), decide_eq_false h, Bool.false_and]

theorem int_beq (c d : UInt8) : ((c.toNat : Int) == (d.toNat : Int)) = (c == d) := by
  rw [Bool.eq_iff_iff, beq_iff_eq, beq_iff_eq, u8_eq]

theorem lex_word_b (c : UInt8) : lex_word c.toNat = some ((wordB c, ()), ()) := by
  unfold lex_word wordB
  rw [lex_letter_b, lex_digit_b]
  have := int_beq c 95
  cases letterB c <;> cases digitB c <;> simp <;> exact this

theorem ref05_letter_b (c : UInt8) : ref05_letter c.toNat = some ((letterB c, ()), ()) := lex_letter_b c
theorem ref05_digit_b (c : UInt8) : ref05_digit c.toNat = some ((digitB c, ()), ()) := lex_digit_b c
theorem ref05_inner_b (c : UInt8) : ref05_inner c.toNat = some ((wordB c, ()), ()) := lex_word_b c

theorem lex_hex_b (c : UInt8) : lex_hex c.toNat = some ((hexI c, ()), ()) := by
  have hc := c.toNat_lt
  unfold lex_hex hexI hexv
  by_cases h : 48 ≤ c.toNat ∧ c.toNat ≤ 57
  · rw [if_pos (decide_eq_true (by omega)), if_pos (decide_eq_true (by omega)), if_pos h, w8 (by omega) (by omega), w64 (by omega) (by omega)]
    simp only [Option.some.injEq, Prod.mk.injEq, and_true]; omega
  · rw [if_neg h]
    by_cases h2 : 97 ≤ c.toNat ∧ c.toNat ≤ 102
    · have e1 : IntKind.u8.wrap ((c.toNat : Int) - 97) = c.toNat - 97 := w8 (by omega) (by omega)
      have e2 : IntKind.i64.wrap ((c.toNat : Int) - 97) = c.toNat - 97 := w64 (by omega) (by omega)
      have e3 : IntKind.i64.wrap ((c.toNat : Int) - 97 + 10) = c.toNat - 97 + 10 := w64 (by omega) (by omega)
      rw [if_pos (decide_eq_true (by omega)), if_neg (dF (by omega)), if_pos (decide_eq_true (by omega)), if_pos (decide_eq_true (by omega)), if_pos h2, e1, e2, e3]
      simp only [Option.some.injEq, Prod.mk.injEq, and_true]; omega
    · rw [if_neg h2]
      simp only [decide_eq_true_eq]
      repeat' split
      all_goals first | rfl | (exfalso; omega)

theorem ref05_hexa_b (c : UInt8) : ref05_hexa c.toNat = some ((hexI c, ()), ()) := by
  have hc := c.toNat_lt
  unfold ref05_hexa
  rw [ref05_digit_b]
  simp only [Option.bind_some]
  unfold hexI hexv digitB
  by_cases h : 48 ≤ c.toNat ∧ c.toNat ≤ 57
  · rw [if_pos (by simp; omega), if_pos h, w64 (x := (c.toNat : Int)) (by omega) (by omega), w64 (by omega) (by omega)]
    simp only [Option.some.injEq, Prod.mk.injEq, and_true]; omega
  · rw [if_neg h, if_neg (by simp; omega)]
    by_cases h2 : 97 ≤ c.toNat ∧ c.toNat ≤ 102
    · have e1 : IntKind.i64.wrap (c.toNat : Int) = c.toNat := w64 (by omega) (by omega)
      have e2 : IntKind.i64.wrap ((c.toNat : Int) - 97) = c.toNat - 97 := w64 (by omega) (by omega)
      have e3 : IntKind.i64.wrap ((c.toNat : Int) - 97 + 10) = c.toNat - 97 + 10 := w64 (by omega) (by omega)
      rw [if_pos (decide_eq_true (by omega)), if_pos (decide_eq_true (by omega)), if_pos h2, e1, e2, e3]
      simp only [Option.some.injEq, Prod.mk.injEq, and_true]; omega
    · rw [if_neg h2]
      simp only [decide_eq_true_eq]
      repeat' split
      all_goals first | rfl | (exfalso; omega)

theorem hasPrefix_b (s p : ByteArray) : strings_HasPrefix s p = some ((decide (L s = L p ++ (L s).drop (L p).length), ()), ()) := by
  unfold strings_HasPrefix stringslite_HasPrefix
  by_cases h : p.size ≤ s.size
  · rw [if_pos (decide_eq_true (by omega)), if_pos ⟨by omega, by omega, by omega⟩]
    simp only [Option.bind_some, Option.some.injEq, Prod.mk.injEq, and_true]
    rw [Bool.eq_iff_iff, beq_iff_eq, decide_eq_true_eq, toL, toL, L_ext]
    simp only [Int.toNat_natCast, List.drop_zero]
    rw [← L_len p]
    constructor
    · intro e
      conv => lhs; rw [← List.take_append_drop (L p).length (L s), e]
    · intro e
      rw [e, List.take_left]
  · rw [if_neg (dF (by omega))]
    simp only [Option.bind_some, Option.some.injEq, Prod.mk.injEq, and_true]
    symm
    rw [decide_eq_false_iff_not]
    intro e
    have := congrArg List.length e
    simp only [List.length_append, L_len] at this
    omega

theorem lex_Name_loop (s : ByteArray) (hs : s.size ≤ 4611686018427387904) : ∀ (r : List UInt8) (n : Nat), (L s).drop n = r → lex_Name_l6 s s.size n = some ((r.all wordB, ()), ())
  | [], n, h => by
    have := drop_nil h
    rw [L_len] at this
    rw [lex_Name_l6_eq, if_neg (dF (by omega))]
    rfl
  | c :: r, n, h => by
    have h1 := drop_lt h
    rw [L_len] at h1
    rw [lex_Name_l6_eq, if_pos (decide_eq_true (by omega)), if_pos ⟨by omega, by omega⟩, bt_drop h, w32c, lex_word_b]
    simp only [Option.bind_some, List.all_cons]
    cases hw : wordB c
    · rfl
    · simp only [Bool.not_true, Bool.false_eq_true, if_false, Bool.true_and]
      rw [w64 (by omega) (by omega)]
      exact lex_Name_loop s hs r (n + 1) (drop_succ h)

theorem ref05_Name_loop (s : ByteArray) (hs : s.size ≤ 4611686018427387904) : ∀ (r : List UInt8) (n : Nat), (L s).drop n = r → ref05_Name_l6 s n = some ((r.all wordB, ()), ())
  | [], n, h => by
    have := drop_nil h
    rw [L_len] at this
    rw [ref05_Name_l6_eq, if_neg (dF (by omega))]
    rfl
  | c :: r, n, h => by
    have h1 := drop_lt h
    rw [L_len] at h1
    rw [ref05_Name_l6_eq, if_pos (decide_eq_true (by omega)), if_pos ⟨by omega, by omega⟩, bt_drop h, ref05_inner_b]
    simp only [Option.bind_some, List.all_cons]
    cases hw : wordB c
    · rfl
    · simp only [Bool.not_true, Bool.false_eq_true, if_false, Bool.true_and]
      rw [w64 (by omega) (by omega)]
      exact ref05_Name_loop s hs r (n + 1) (drop_succ h)

theorem lex_Name_b (s : ByteArray) : lex_Name s = some ((nameB (L s), ()), ()) := by
  unfold lex_Name
  have hl := L_len s
  cases hL : L s with
  | nil => rw [if_pos (by rw [toL, toL, hL, L_strB]; rfl)]; rfl
  | cons c r =>
    rw [hL] at hl
    simp only [List.length_cons] at hl
    rw [if_neg (by rw [toL, toL, hL, L_strB]; simp)]
    rw [nameB_cons]
    by_cases h : s.size ≤ 16
    · rw [if_neg (dF (by omega)), if_pos ⟨by omega, by omega⟩, bt_cons hL, w32c, lex_letter_b, decide_eq_true (by omega : r.length + 1 ≤ 16)]
      simp only [Option.bind_some, Bool.true_and]
      cases letterB c
      · rfl
      · simp only [Bool.not_true, Bool.false_eq_true, if_false, Bool.true_and]
        exact lex_Name_loop s (by omega) (c :: r) 0 (by rw [hL]; rfl)
    · rw [if_pos (decide_eq_true (by omega)), decide_eq_false (by omega : ¬ r.length + 1 ≤ 16)]
      rfl

theorem ref05_Name_b (s : ByteArray) : ref05_Name s = some ((nameB (L s), ()), ()) := by
  unfold ref05_Name
  have hl := L_len s
  cases hL : L s with
  | nil =>
    rw [hL] at hl
    simp only [List.length_nil] at hl
    rw [if_pos (decide_eq_true (by omega))]; rfl
  | cons c r =>
    rw [hL] at hl
    simp only [List.length_cons] at hl
    rw [if_neg (dF (by omega))]
    rw [nameB_cons]
    by_cases h : s.size ≤ 16
    · rw [if_neg (dF (by omega)), if_pos ⟨by omega, by omega⟩, bt_cons hL, ref05_letter_b, decide_eq_true (by omega : r.length + 1 ≤ 16)]
      simp only [Option.bind_some, Bool.true_and]
      cases letterB c
      · rfl
      · simp only [Bool.not_true, Bool.false_eq_true, if_false, Bool.true_and]
        exact ref05_Name_loop s (by omega) (c :: r) 0 (by rw [hL]; rfl)
    · rw [if_pos (decide_eq_true (by omega)), decide_eq_false (by omega : ¬ r.length + 1 ≤ 16)]
      rfl

theorem hexI_cases (c : UInt8) : (hexv c = none ∧ hexI c = -1) ∨ ∃ d : Nat, hexv c = some d ∧ hexI c = d ∧ d < 16 := by
  unfold hexI
  cases h : hexv c with
  | none => exact .inl ⟨rfl, rfl⟩
  | some d => exact .inr ⟨d, rfl, rfl, hexv_lt h⟩

/-- What the loop over the digits comes to. -/
def numEnd (minus : Bool) : Option Nat → Int × Int
  | none => (0, 4)
  | some n => if n > 9007199254740992 then (0, 2) else (if minus = true then -(n : Int) else n, 0)

theorem lex_Number_loop (s : ByteArray) (hs : s.size ≤ 4611686018427387904) (minus : Bool) (base : Nat) (hb : base ≤ 16) : ∀ (r : List UInt8) (i n : Nat), (L s).drop i = r → n ≤ 9007199254740993 →
    lex_Number_l13 s minus base n s.size i = some (((numEnd minus (digs base r n)).1, (numEnd minus (digs base r n)).2, ()), ())
  | [], i, n, h, hn => by
    have := drop_nil h
    rw [L_len] at this
    rw [lex_Number_l13_eq, if_neg (dF (by omega))]
    simp only [digs, numEnd]
    by_cases h2 : n > 9007199254740992
    · rw [if_pos (decide_eq_true (by omega)), if_pos h2]
    · rw [if_neg (dF (by omega)), if_neg h2]
      cases minus
      · rfl
      · simp only [if_true, Option.some.injEq, Prod.mk.injEq, and_true]
        rw [w64 (by omega) (by omega)]; omega
  | c :: r, i, n, h, hn => by
    have h1 := drop_lt h
    rw [L_len] at h1
    rw [lex_Number_l13_eq, if_pos (decide_eq_true (by omega)), if_pos ⟨by omega, by omega⟩, bt_drop h, lex_hex_b]
    simp only [Option.bind_some, digs]
    rcases hexI_cases c with ⟨e1, e2⟩ | ⟨d, e1, e2, e3⟩
    · rw [e1, e2, if_pos (by decide)]
      try rfl
    · rw [e1, e2, if_neg (dF (by omega))]
      simp only
      by_cases hd : d < base
      · rw [if_neg (dF (by omega)), if_pos hd]
        have b1 : base * n ≤ 16 * 9007199254740993 := Nat.mul_le_mul hb hn
        have e4 : IntKind.i64.wrap ((base : Int) * n) = ((base * n : Nat) : Int) := by rw [← Int.natCast_mul, w64 (by omega) (by omega)]
        have e5 : IntKind.i64.wrap (((base * n : Nat) : Int) + d) = ((base * n + d : Nat) : Int) := by rw [w64 (by omega) (by omega)]; omega
        have e6 : IntKind.i64.wrap ((i : Int) + 1) = ((i + 1 : Nat) : Int) := by rw [w64 (by omega) (by omega)]; omega
        rw [e4, e5, e6, show (if (9007199254740993 : Int) < ((base * n + d : Nat) : Int) then (9007199254740993 : Int) else ((base * n + d : Nat) : Int)) = ((min (base * n + d) 9007199254740993 : Nat) : Int) by
          split <;> omega]
        exact lex_Number_loop s hs minus base hb r (i + 1) _ (drop_succ h) (by omega)
      · rw [if_pos (decide_eq_true (by omega)), if_neg hd]
        try rfl

theorem ref05_plain_loop (s : ByteArray) (hs : s.size ≤ 4611686018427387904) (base : Nat) (hb : base ≤ 16) : ∀ (r : List UInt8) (i n : Nat), (L s).drop i = r → n ≤ 9007199254740993 →
    ref05_plain_l7 s base n i = some ((match digs base r n with | some m => ((m : Int), true, ()) | none => (0, false, ())), ())
  | [], i, n, h, hn => by
    have := drop_nil h
    rw [L_len] at this
    rw [ref05_plain_l7_eq, if_neg (dF (by omega))]
    rfl
  | c :: r, i, n, h, hn => by
    have h1 := drop_lt h
    rw [L_len] at h1
    rw [ref05_plain_l7_eq, if_pos (decide_eq_true (by omega)), if_pos ⟨by omega, by omega⟩, bt_drop h, ref05_hexa_b]
    simp only [Option.bind_some, digs]
    rcases hexI_cases c with ⟨e1, e2⟩ | ⟨d, e1, e2, e3⟩
    · rw [e1, e2, if_pos (by decide)]
    · rw [e1, e2, if_neg (dF (by omega))]
      simp only
      by_cases hd : d < base
      · rw [if_neg (dF (by omega)), if_pos hd]
        have b1 : base * n ≤ 16 * 9007199254740993 := Nat.mul_le_mul hb hn
        have e4 : IntKind.i64.wrap ((n : Int) * base) = ((base * n : Nat) : Int) := by rw [show (n : Int) * base = ((base * n : Nat) : Int) by rw [Int.natCast_mul, Int.mul_comm], w64 (by omega) (by omega)]
        have e5 : IntKind.i64.wrap (((base * n : Nat) : Int) + d) = ((base * n + d : Nat) : Int) := by rw [w64 (by omega) (by omega)]; omega
        have e6 : IntKind.i64.wrap ((i : Int) + 1) = ((i + 1 : Nat) : Int) := by rw [w64 (by omega) (by omega)]; omega
        rw [e4, e5, e6]
        by_cases h7 : base * n + d > 9007199254740992
        · rw [if_pos (decide_eq_true (by omega)), show min (base * n + d) 9007199254740993 = 9007199254740993 by omega]
          exact ref05_plain_loop s hs base hb r (i + 1) 9007199254740993 (drop_succ h) (by omega)
        · rw [if_neg (dF (by omega)), show min (base * n + d) 9007199254740993 = base * n + d by omega]
          exact ref05_plain_loop s hs base hb r (i + 1) _ (drop_succ h) (by omega)
      · rw [if_pos (decide_eq_true (by omega)), if_neg hd]

theorem ref05_plain_b (s : ByteArray) (hs : s.size ≤ 4611686018427387904) (base : Nat) (hb : base ≤ 16) : ref05_plain s base = some ((match natV (L s) base with | some m => ((m : Int), true, ()) | none => (0, false, ())), ()) := by
  unfold ref05_plain
  have hl := L_len s
  cases hL : L s with
  | nil =>
    rw [hL] at hl
    simp only [List.length_nil] at hl
    rw [if_pos (by rw [beq_iff_eq]; omega)]
    rfl
  | cons c r =>
    rw [hL] at hl
    simp only [List.length_cons] at hl
    rw [if_neg (eF (by omega))]
    have hc := int_beq c 48
    simp only [natV]
    by_cases h1 : r = []
    · subst h1
      have hl' : s.size = 1 := hl.symm
      rw [if_neg (dF (by omega)), if_neg (by simp)]
      exact ref05_plain_loop s hs base hb [c] 0 0 (by rw [hL]; rfl) (by omega)
    · have : 0 < r.length := List.length_pos_iff.2 h1
      rw [if_pos (decide_eq_true (by omega)), if_pos ⟨by omega, by omega⟩, bt_cons hL]
      by_cases h2 : c = 48
      · rw [if_pos (by rw [h2]; rfl), if_pos ⟨h2, h1⟩]
      · rw [if_neg (by rw [show ((c.toNat : Int) == 48) = _ from hc]; simpa using h2), if_neg (by simp [h2])]
        exact ref05_plain_loop s hs base hb (c :: r) 0 0 (by rw [hL]; rfl) (by omega)

end Go.Proofs.Ytcflnhimlidbcaa
end

section
/-
Ytcflnhimlidbcaa: the plain functions of numbers and quoted strings come to what they should. No condition.
-/
set_option maxRecDepth 100000
open Go Go.AM
namespace Go.Proofs.Ytcflnhimlidbcaa

def l5V (minus : Bool) (base : Nat) (l : List UInt8) : Int × Int := match l with
  | [] => (0, 4)
  | c :: r => if c = 48 ∧ (minus = true ∨ r ≠ []) then (0, 4) else numEnd minus (digs base (c :: r) 0)

theorem lex_Number_l5_b (s : ByteArray) (hs : s.size ≤ 4611686018427387904) (minus : Bool) (base : Nat) (hb : base ≤ 16) : lex_Number_l5 s minus base = some (((l5V minus base (L s)).1, (l5V minus base (L s)).2, ()), ()) := by
  rw [lex_Number_l5_eq]
  cases hL : L s with
  | nil => rw [if_pos (is_nil hL)]; rfl
  | cons c r =>
    have hl := size_of hL
    simp only [List.length_cons] at hl
    rw [if_neg (not_nil hL), if_pos ⟨by omega, by omega⟩, bt_cons hL]
    have loop := lex_Number_loop s hs minus base hb (c :: r) 0 0 (by rw [hL]; rfl) (by omega)
    simp only [l5V]
    by_cases h1 : c = 48
    · subst h1
      rw [if_pos (by decide)]
      cases minus with
      | true => simp
      | false =>
        simp only [Bool.false_eq_true, if_false, false_or, true_and]
        by_cases h2 : r = []
        · subst h2
          simp only [List.length_nil] at hl
          rw [if_neg (dF (by omega)), if_neg (by simp)]
          exact loop
        · have := List.length_pos_iff.2 h2
          rw [if_pos (dT (by omega)), if_pos h2]
    · rw [if_neg (show ¬ ((c.toNat : Int) == 48) = true from byte_ne h1), if_neg (by simp [h1])]
      exact loop

theorem numN_natV (neg : Bool) (base : Nat) (hb : 0 < base) (l : List UInt8) : numN neg (natV l base) = l5V neg base l := by
  cases l with
  | nil => rfl
  | cons c r =>
    simp only [natV, l5V]
    by_cases h1 : c = 48
    · subst h1
      by_cases h2 : r = []
      · subst h2
        have e : digs base [48] 0 = some 0 := by
          have : hexv 48 = some 0 := by decide
          simp [digs, this, hb]
        rw [if_neg (by simp), e]
        cases neg <;> simp [numN, numEnd]
      · rw [if_pos ⟨rfl, h2⟩, if_pos ⟨rfl, .inr h2⟩]
        rfl
    · rw [if_neg (by simp [h1]), if_neg (by simp [h1])]
      cases hd : digs base (c :: r) 0 with
      | none => rfl
      | some m =>
        have := digs_first hb hd h1
        simp only [numN, numEnd]
        rw [if_neg (by omega)]

theorem body_l5 (neg : Bool) (b : List UInt8) : numN neg (bodyV b) = match b with
    | 48 :: 120 :: t => l5V neg 16 t
    | b => l5V neg 10 b := by
  match b with
  | [] => exact numN_natV neg 10 (by omega) []
  | [c] =>
    have : bodyV [c] = natV [c] 10 := by unfold bodyV; split <;> simp_all
    rw [this, numN_natV neg 10 (by omega)]
    split <;> simp_all
  | c :: d :: r =>
    by_cases h : c = 48 ∧ d = 120
    · obtain ⟨rfl, rfl⟩ := h
      cases r with
      | nil =>
        have : bodyV [48, 120] = none := by rfl
        rw [this]; rfl
      | cons e r => exact numN_natV neg 16 (by omega) (e :: r)
    · have : bodyV (c :: d :: r) = natV (c :: d :: r) 10 := by
        unfold bodyV
        split
        · rename_i e; simp only [List.cons.injEq] at e; exact absurd ⟨e.1, e.2.1⟩ h
        · rfl
      rw [this, numN_natV neg 10 (by omega)]
      split
      · rename_i e; simp only [List.cons.injEq] at e; exact absurd ⟨e.1, e.2.1⟩ h
      · rfl

theorem prefix_minus_yes {s : ByteArray} {r : List UInt8} (h : L s = 45 :: r) : strings_HasPrefix s (strB [45]) = some ((true, ()), ()) := by
  rw [hasPrefix_b, L_strB, h]
  simp

theorem prefix_minus_no {s : ByteArray} (h : ∀ r, L s ≠ 45 :: r) : strings_HasPrefix s (strB [45]) = some ((false, ()), ()) := by
  rw [hasPrefix_b, L_strB]
  simp only [Option.some.injEq, Prod.mk.injEq, and_true, decide_eq_false_iff_not]
  exact fun e => h _ e

theorem prefix_hex (s : ByteArray) : strings_HasPrefix s (strB [48, 120]) = some ((match L s with
    | 48 :: 120 :: _ => true
    | _ => false, ()), ()) := by
  rw [hasPrefix_b]
  simp only [Option.some.injEq, Prod.mk.injEq, and_true]
  rw [L_strB]
  match L s with
  | [] => rfl
  | [c] => simp
  | c :: d :: r =>
    simp only [List.length_cons, List.length_nil, List.drop_succ_cons, List.drop_zero, List.cons_append, List.nil_append, List.cons.injEq, and_true]
    by_cases h : c = 48 ∧ d = 120
    · obtain ⟨rfl, rfl⟩ := h; simp
    · rw [decide_eq_false h]
      split
      · rename_i e; cases e; exact absurd ⟨rfl, rfl⟩ h
      · rfl

theorem lex_Number_l2_b (s : ByteArray) (hs : s.size ≤ 4611686018427387904) (minus : Bool) : lex_Number_l2 s minus = some (((numN minus (bodyV (L s))).1, (numN minus (bodyV (L s))).2, ()), ()) := by
  rw [lex_Number_l2_eq, prefix_hex, body_l5]
  simp only [Option.bind_some]
  split
  · rename_i t hL
    have hl := size_of hL
    simp only [List.length_cons] at hl
    rw [if_pos rfl, if_pos ⟨by omega, by omega⟩]
    have := lex_Number_l5_b (s.extract 2 s.size) (by rw [size_drop]; omega) minus 16 (by omega)
    rw [L_ext', hL] at this
    exact this
  · rw [if_neg (by simp)]
    exact lex_Number_l5_b s hs minus 10 (by omega)

theorem lex_Number_b (s : ByteArray) (hs : s.size ≤ 4611686018427387904) : lex_Number s = some (((numV (L s)).1, (numV (L s)).2, ()), ()) := by
  unfold lex_Number
  have no : (∀ r, L s ≠ 45 :: r) → numV (L s) = numN false (bodyV (L s)) → ((strings_HasPrefix s (strB [45])).bind fun y1 =>
      if y1.1.1 = true then
        if 0 ≤ (1 : Int) ∧ 1 ≤ (s.size : Int) then lex_Number_l2 (s.extract 1 s.size) y1.1.1 else none
      else lex_Number_l2 s y1.1.1) = some (((numV (L s)).1, (numV (L s)).2, ()), ()) := by
    intro h e
    rw [prefix_minus_no h, e]
    exact lex_Number_l2_b s hs false
  cases hL : L s with
  | nil =>
    rw [hL] at no
    exact no (fun r e => by cases e) rfl
  | cons c r =>
    by_cases h : c = 45
    · subst h
      have hl := size_of hL
      simp only [List.length_cons] at hl
      rw [prefix_minus_yes hL, numV_minus]
      simp only [Option.bind_some, if_true]
      rw [if_pos ⟨by omega, by omega⟩]
      have := lex_Number_l2_b (s.extract 1 s.size) (by rw [size_drop]; omega) true
      rw [L_ext', hL] at this
      exact this
    · rw [hL] at no
      exact no (fun r e => by cases e; exact h rfl) (numV_other h)

theorem ref05_Number_l7_b (neg : Bool) (o : Option Nat) (ho : ∀ n, o = some n → n ≤ 9007199254740993) : ref05_Number_l7 (if neg = true then -1 else 1) (match o with | some m => (m : Int) | none => 0) (match o with | some _ => true | none => false) = some (((numN neg o).1, (numN neg o).2, ()), ()) := by
  rw [ref05_Number_l7_eq]
  cases o with
  | none => rfl
  | some m =>
    have := ho m rfl
    simp only [Bool.not_true, Bool.false_eq_true, if_false, numN]
    cases neg with
    | true =>
      simp only [if_true, true_and]
      rw [if_pos (dT (by omega))]
      by_cases h1 : m = 0
      · subst h1; rfl
      · rw [if_neg (eF (by omega)), if_neg h1]
        by_cases h2 : m > 9007199254740992
        · rw [if_pos (dT (by omega)), if_pos h2]
        · rw [if_neg (dF (by omega)), if_neg h2, w64 (by omega) (by omega)]
          simp only [Option.some.injEq, Prod.mk.injEq, and_true]; omega
    | false =>
      simp only [Bool.false_eq_true, if_false, false_and]
      rw [if_neg (dF (by omega))]
      by_cases h2 : m > 9007199254740992
      · rw [if_pos (dT (by omega)), if_pos h2]
      · rw [if_neg (dF (by omega)), if_neg h2, w64 (by omega) (by omega)]
        simp only [Option.some.injEq, Prod.mk.injEq, and_true]; omega

theorem ref05_Number_l7_c (neg : Bool) (o : Option Nat) (ho : ∀ n, o = some n → n ≤ 9007199254740993) : ref05_Number_l7 (if neg = true then -1 else 1) (match o with | some m => ((m : Int), true, ()) | none => (0, false, ())).1 (match o with | some m => ((m : Int), true, ()) | none => (0, false, ())).2.1 = some (((numN neg o).1, (numN neg o).2, ()), ()) := by
  rw [← ref05_Number_l7_b neg o ho]
  cases o <;> rfl

theorem natV_le {l : List UInt8} {base n : Nat} (h : natV l base = some n) : n ≤ 9007199254740993 := by
  unfold natV at h
  split at h
  · cases h
  · split at h
    · cases h
    · exact digs_le _ _ _ h (by omega)

theorem bodyV_le {l : List UInt8} {n : Nat} (h : bodyV l = some n) : n ≤ 9007199254740993 := by
  unfold bodyV at h
  split at h <;> exact natV_le h

theorem ref05_Number_l3_b (s : ByteArray) (hs : s.size ≤ 4611686018427387904) (neg : Bool) : ref05_Number_l3 s (if neg = true then -1 else 1) = some (((numN neg (bodyV (L s))).1, (numN neg (bodyV (L s))).2, ()), ()) := by
  rw [ref05_Number_l3_eq]
  have ten : (ref05_plain s 10).bind (fun y3 => ref05_Number_l7 (if neg = true then -1 else 1) y3.1.1 y3.1.2.1) = some (((numN neg (natV (L s) 10)).1, (numN neg (natV (L s) 10)).2, ()), ()) := by
    have := ref05_plain_b s hs 10 (by omega)
    rw [show ref05_plain s 10 = _ from this]
    exact ref05_Number_l7_c neg (natV (L s) 10) (fun n h => natV_le h)
  by_cases h2 : s.size > 2
  · rw [if_pos (dT (by omega)), if_pos ⟨by omega, by omega, by omega⟩]
    match hL : L s with
    | [] => have := size_of hL; simp only [List.length_nil] at this; omega
    | [c] => have := size_of hL; simp only [List.length_cons, List.length_nil] at this; omega
    | [c, d] => have := size_of hL; simp only [List.length_cons, List.length_nil] at this; omega
    | c :: d :: e :: r =>
      by_cases h : c = 48 ∧ d = 120
      · obtain ⟨rfl, rfl⟩ := h
        rw [if_pos (by rw [toL, toL, L_take, hL, L_strB]; rfl), if_pos ⟨by omega, by omega⟩]
        have := ref05_plain_b (s.extract 2 s.size) (by rw [size_drop]; omega) 16 (by omega)
        rw [L_ext', hL] at this
        rw [show ref05_plain (s.extract 2 s.size) 16 = _ from this]
        rw [show bodyV (48 :: 120 :: e :: r) = natV (e :: r) 16 from rfl]
        exact ref05_Number_l7_c neg (natV (e :: r) 16) (fun n h => natV_le h)
      · rw [if_neg (by rw [toL, toL, L_take, hL, L_strB]; simp only [List.take_succ_cons, List.take_zero, beq_iff_eq, List.cons.injEq, and_true]; exact h), ten, hL]
        have : bodyV (c :: d :: e :: r) = natV (c :: d :: e :: r) 10 := by
          unfold bodyV
          split
          · rename_i q; simp only [List.cons.injEq] at q; exact absurd ⟨q.1, q.2.1⟩ h
          · rfl
        rw [this]
  · rw [if_neg (dF (by omega)), ten]
    have : bodyV (L s) = natV (L s) 10 := by
      unfold bodyV
      split
      · rename_i q; have := size_of q; simp only [List.length_cons] at this; omega
      · rfl
    rw [this]

theorem ref05_Number_b (s : ByteArray) (hs : s.size ≤ 4611686018427387904) : ref05_Number s = some (((numV (L s)).1, (numV (L s)).2, ()), ()) := by
  unfold ref05_Number
  cases hL : L s with
  | nil =>
    have hl := size_of hL
    simp only [List.length_nil] at hl
    rw [if_neg (dF (by omega))]
    have := ref05_Number_l3_b s hs false
    rw [hL] at this
    exact this
  | cons c r =>
    have hl := size_of hL
    simp only [List.length_cons] at hl
    rw [if_pos (dT (by omega)), if_pos ⟨by omega, by omega⟩, bt_cons hL]
    by_cases h : c = 45
    · subst h
      rw [if_pos (by decide), if_pos ⟨by omega, by omega⟩, numV_minus]
      have := ref05_Number_l3_b (s.extract 1 s.size) (by rw [size_drop]; omega) true
      rw [L_ext', hL] at this
      exact this
    · rw [if_neg (show ¬ ((c.toNat : Int) == 45) = true from byte_ne h), numV_other h]
      have := ref05_Number_l3_b s hs false
      rw [hL] at this
      exact this

end Go.Proofs.Ytcflnhimlidbcaa
end

section
/-
Ytcflnhimlidbcaa: signalbench.lex.plain, as one plain function, its equations, its contract. No condition.
-/
set_option maxRecDepth 100000
set_option linter.unusedVariables false
set_option maxHeartbeats 4000000
open Go Go.AM
namespace Go.Proofs.Ytcflnhimlidbcaa
noncomputable section
def lex_plain_D : FD := ⟨T, lookC [], [], (Try.f30.body.getD .skip), Try.f30.results.toList, ⟨[.one (.int .i32)], []⟩, ⟨[.one .bool], []⟩, []⟩
def lex_plain (c : Int) : (Option ((Bool × Unit) × Unit)) :=
  if (decide ((32 : Int) ≤ c)) = true then
    if (decide (c ≤ 126)) = true then
      if (c != 34) = true then
        some ((c != 92, ()), ())
      else
        some ((false, ()), ())
    else
      some ((false, ()), ())
  else
    some ((false, ()), ())
def fc30 : FC := ⟨⟨[.one (.int .i32)], []⟩, ⟨[.one .bool], []⟩, fun x => lex_plain x.1.1⟩
theorem con30 : Contract Try.prog 30 fc30 :=
  lex_plain_D.contract tok (cok_of (l := []) trivial) mixed (fn' := Try.f30) (by kernel_rfl) (by kernel_rfl) rfl (by kernel_rfl) (fun x => (FD.fn_eq _ _).trans (by kernel_rfl))
end
end Go.Proofs.Ytcflnhimlidbcaa
end

section
/-
Ytcflnhimlidbcaa: signalbench.lex.escape, as one plain function, its equations, its contract. No condition.
-/
set_option maxRecDepth 100000
set_option linter.unusedVariables false
set_option maxHeartbeats 4000000
open Go Go.AM
namespace Go.Proofs.Ytcflnhimlidbcaa
noncomputable section
def lex_escape_F6 : FSh := ⟨[(0, .one .str), (8, .one (.int .u8)), (9, .one .bool)], []⟩
def lex_escape_D : FD := ⟨T, lookC [(24, fc24)], [6], (Try.f31.body.getD .skip), Try.f31.results.toList, ⟨[.one .str], []⟩, ⟨[.one (.int .u8), .one (.int .i64)], []⟩, [(6, lex_escape_F6)]⟩
def lex_escape_l6 (s : ByteArray) (t8 : Int) (t9 : Bool) : (Option ((Int × Int × Unit) × Unit)) := lex_escape_D.lab 6 lex_escape_F6 ((s, t8, t9, ()), ())
theorem lex_escape_l6_eq (s : ByteArray) (t8 : Int) (t9 : Bool) : lex_escape_l6 s t8 t9 =
  if t9 = true then
    if 0 ≤ (1 : Int) ∧ 1 < (s.size : Int) then
      some ((bt s 1, 2, ()), ())
    else
      none
  else
    if (t8 == 110) = true then
      some ((10, 2, ()), ())
    else
      if (t8 == 120) = true then
        if (decide ((s.size : Int) < 4)) = true then
          some ((0, 0, ()), ())
        else
          if 0 ≤ (2 : Int) ∧ 2 < (s.size : Int) then
            (lex_hex (bt s 2)).bind fun y1 =>
              if (decide (y1.1.1 < 0)) = true then
                some ((0, 0, ()), ())
              else
                if 0 ≤ (3 : Int) ∧ 3 < (s.size : Int) then
                  (lex_hex (bt s 3)).bind fun y2 =>
                    if (decide (y2.1.1 < 0)) = true then
                      some ((0, 0, ()), ())
                    else
                      if 0 ≤ (2 : Int) ∧ 2 < (s.size : Int) then
                        (lex_hex (bt s 2)).bind fun y3 =>
                          if 0 ≤ (3 : Int) ∧ 3 < (s.size : Int) then
                            (lex_hex (bt s 3)).bind fun y4 =>
                              some ((IntKind.u8.wrap (IntKind.i64.wrap ((IntKind.i64.wrap (16 * y3.1.1)) + y4.1.1)), 4, ()), ())
                          else
                            none
                      else
                        none
                else
                  none
          else
            none
      else
        some ((0, 0, ()), ()) := (FD.lab_eq _ _ _ _).trans (by kernel_rfl)
def lex_escape (s : ByteArray) : (Option ((Int × Int × Unit) × Unit)) :=
  if (decide ((s.size : Int) < 2)) = true then
    some ((0, 0, ()), ())
  else
    if 0 ≤ (1 : Int) ∧ 1 < (s.size : Int) then
      if ((bt s 1) == 34) = true then
        lex_escape_l6 s (bt s 1) true
      else
        lex_escape_l6 s (bt s 1) ((bt s 1) == 92)
    else
      none
def fc31 : FC := ⟨⟨[.one .str], []⟩, ⟨[.one (.int .u8), .one (.int .i64)], []⟩, fun x => lex_escape x.1.1⟩
theorem con31 : Contract Try.prog 31 fc31 :=
  lex_escape_D.contract tok (cok_of (l := [(24, fc24)]) ⟨con24, trivial⟩) mixed (fn' := Try.f31) (by kernel_rfl) (by kernel_rfl) rfl (by kernel_rfl) (fun x => (FD.fn_eq _ _).trans (by kernel_rfl))
end
end Go.Proofs.Ytcflnhimlidbcaa
end

section
/-
Ytcflnhimlidbcaa: signalbench.lex.Unquote, as one plain function, its equations, its contract. No condition.
-/
set_option maxRecDepth 100000
set_option linter.unusedVariables false
set_option maxHeartbeats 4000000
open Go Go.AM
namespace Go.Proofs.Ytcflnhimlidbcaa
noncomputable section
def lex_Unquote_F7 : FSh := ⟨[(0, .one .str), (4, .one (.own 0))], [.arr 5 (.int .u8) true]⟩
def lex_Unquote_F14 : FSh := ⟨[(0, .one .str), (4, .one (.own 0)), (5, .one (.int .u8)), (6, .one (.int .i64))], [.arr 5 (.int .u8) true]⟩
def lex_Unquote_D : FD := ⟨T, lookC [(30, fc30), (31, fc31)], [14], (Try.f16.body.getD .skip), Try.f16.results.toList, ⟨[.one .str], []⟩, ⟨[.one .str, .one (.int .i64)], []⟩, [(7, lex_Unquote_F7), (14, lex_Unquote_F14)]⟩
def lex_Unquote_l7 (s : ByteArray) (l0 : (List Int)) : (Option ((ByteArray × Int × Unit) × Unit)) := lex_Unquote_D.lab 7 lex_Unquote_F7 ((s, (), ()), (l0, ()))
def lex_Unquote_l14 (s : ByteArray) (c : Int) (n : Int) (l0 : (List Int)) : (Option ((ByteArray × Int × Unit) × Unit)) := lex_Unquote_D.lab 14 lex_Unquote_F14 ((s, (), c, n, ()), (l0, ()))
theorem lex_Unquote_l7_eq (s : ByteArray) (l0 : (List Int)) : lex_Unquote_l7 s l0 =
  if (!(s.toList == (strB []).toList)) = true then
    if 0 ≤ (0 : Int) ∧ 0 < (s.size : Int) then
      (lex_plain (IntKind.i32.wrap (bt s 0))).bind fun y1 =>
        if y1.1.1 = true then
          if 0 ≤ (0 : Int) ∧ 0 < (s.size : Int) then
            if (l0.length + 1) * 1 ≤ 140737488355328 ∧ 0 < 1 then
              if 0 ≤ (1 : Int) ∧ 1 ≤ (s.size : Int) then
                lex_Unquote_l7 (s.extract 1 s.size) (l0 ++ [bt s 0])
              else
                none
            else
              none
          else
            none
        else
          if 0 ≤ (0 : Int) ∧ 0 < (s.size : Int) then
            if ((bt s 0) == 92) = true then
              (lex_escape s).bind fun y2 =>
                lex_Unquote_l14 s y2.1.1 y2.1.2.1 l0
            else
              lex_Unquote_l14 s 0 0 l0
          else
            none
    else
      none
  else
    some ((strOfBytes l0, 0, ()), ()) := (FD.lab_eq _ _ _ _).trans (by kernel_rfl)
theorem lex_Unquote_l14_eq (s : ByteArray) (c : Int) (n : Int) (l0 : (List Int)) : lex_Unquote_l14 s c n l0 =
  if (n == 0) = true then
    some (((strB []), 4, ()), ())
  else
    if (l0.length + 1) * 1 ≤ 140737488355328 ∧ 0 < 1 then
      if 0 ≤ n ∧ n ≤ (s.size : Int) then
        lex_Unquote_l7 (s.extract n.toNat s.size) (l0 ++ [c])
      else
        none
    else
      none := (FD.lab_eq _ _ _ _).trans (by kernel_rfl)
def lex_Unquote (s : ByteArray) : (Option ((ByteArray × Int × Unit) × Unit)) :=
  if (decide ((s.size : Int) < 2)) = true then
    some (((strB []), 4, ()), ())
  else
    if 0 ≤ (0 : Int) ∧ 0 < (s.size : Int) then
      if ((bt s 0) != 34) = true then
        some (((strB []), 4, ()), ())
      else
        if 0 ≤ IntKind.i64.wrap ((s.size : Int) - 1) ∧ IntKind.i64.wrap ((s.size : Int) - 1) < (s.size : Int) then
          if ((bt s (IntKind.i64.wrap ((s.size : Int) - 1))) != 34) = true then
            some (((strB []), 4, ()), ())
          else
            if 0 ≤ (1 : Int) ∧ (1 : Int) ≤ IntKind.i64.wrap ((s.size : Int) - 1) ∧ IntKind.i64.wrap ((s.size : Int) - 1) ≤ (s.size : Int) then
              lex_Unquote_l7 (s.extract 1 (IntKind.i64.wrap ((s.size : Int) - 1)).toNat) []
            else
              none
        else
          none
    else
      none
def fc16 : FC := ⟨⟨[.one .str], []⟩, ⟨[.one .str, .one (.int .i64)], []⟩, fun x => lex_Unquote x.1.1⟩
theorem con16 : Contract Try.prog 16 fc16 :=
  lex_Unquote_D.contract tok (cok_of (l := [(30, fc30), (31, fc31)]) ⟨con30, con31, trivial⟩) mixed (fn' := Try.f16) (by kernel_rfl) (by kernel_rfl) rfl (by kernel_rfl) (fun x => (FD.fn_eq _ _).trans (by kernel_rfl))
end
end Go.Proofs.Ytcflnhimlidbcaa
end

section
/-
Ytcflnhimlidbcaa: signalbench.signalbenchref05.quoted, as one plain function, its equations, its contract. No condition.
-/
set_option maxRecDepth 100000
set_option linter.unusedVariables false
set_option maxHeartbeats 4000000
open Go Go.AM
namespace Go.Proofs.Ytcflnhimlidbcaa
noncomputable section
def ref05_quoted_F7 : FSh := ⟨[(0, .one .str), (7, .one (.own 0)), (8, .one (.int .i64))], [.arr 5 (.int .u8) true]⟩
def ref05_quoted_D : FD := ⟨T, lookC [(45, fc45)], [], (Try.f32.body.getD .skip), Try.f32.results.toList, ⟨[.one .str, .one (.int .i64)], []⟩, ⟨[.one .str, .one (.int .i64), .one .bool], []⟩, [(7, ref05_quoted_F7)]⟩
def ref05_quoted_l7 (s : ByteArray) (i : Int) (l0 : (List Int)) : (Option ((ByteArray × Int × Bool × Unit) × Unit)) := ref05_quoted_D.lab 7 ref05_quoted_F7 ((s, (), i, ()), (l0, ()))
theorem ref05_quoted_l7_eq (s : ByteArray) (i : Int) (l0 : (List Int)) : ref05_quoted_l7 s i l0 =
  if (decide (i < (s.size : Int))) = true then
    if 0 ≤ i ∧ i < (s.size : Int) then
      if ((bt s i) == 34) = true then
        some ((strOfBytes l0, IntKind.i64.wrap (i + 1), true, ()), ())
      else
        if (decide ((bt s i) < 32)) = true then
          some (((strB []), 0, false, ()), ())
        else
          if (decide ((bt s i) > 126)) = true then
            some (((strB []), 0, false, ()), ())
          else
            if ((bt s i) != 92) = true then
              if (l0.length + 1) * 1 ≤ 140737488355328 ∧ 0 < 1 then
                ref05_quoted_l7 s (IntKind.i64.wrap (i + 1)) (l0 ++ [bt s i])
              else
                none
            else
              if (decide ((IntKind.i64.wrap (i + 1)) ≥ (s.size : Int))) = true then
                some (((strB []), 0, false, ()), ())
              else
                if 0 ≤ IntKind.i64.wrap (i + 1) ∧ IntKind.i64.wrap (i + 1) < (s.size : Int) then
                  if ((bt s (IntKind.i64.wrap (i + 1))) == 34) = true then
                    if (l0.length + 1) * 1 ≤ 140737488355328 ∧ 0 < 1 then
                      ref05_quoted_l7 s (IntKind.i64.wrap (i + 2)) (l0 ++ [bt s (IntKind.i64.wrap (i + 1))])
                    else
                      none
                  else
                    if ((bt s (IntKind.i64.wrap (i + 1))) == 92) = true then
                      if (l0.length + 1) * 1 ≤ 140737488355328 ∧ 0 < 1 then
                        ref05_quoted_l7 s (IntKind.i64.wrap (i + 2)) (l0 ++ [bt s (IntKind.i64.wrap (i + 1))])
                      else
                        none
                    else
                      if ((bt s (IntKind.i64.wrap (i + 1))) == 110) = true then
                        if (l0.length + 1) * 1 ≤ 140737488355328 ∧ 0 < 1 then
                          ref05_quoted_l7 s (IntKind.i64.wrap (i + 2)) (l0 ++ [10])
                        else
                          none
                      else
                        if ((bt s (IntKind.i64.wrap (i + 1))) == 120) = true then
                          if (decide ((IntKind.i64.wrap (i + 3)) < (s.size : Int))) = true then
                            if 0 ≤ IntKind.i64.wrap (i + 2) ∧ IntKind.i64.wrap (i + 2) < (s.size : Int) then
                              (ref05_hexa (bt s (IntKind.i64.wrap (i + 2)))).bind fun y1 =>
                                if (decide (y1.1.1 ≥ 0)) = true then
                                  if 0 ≤ IntKind.i64.wrap (i + 3) ∧ IntKind.i64.wrap (i + 3) < (s.size : Int) then
                                    (ref05_hexa (bt s (IntKind.i64.wrap (i + 3)))).bind fun y2 =>
                                      if (decide (y2.1.1 ≥ 0)) = true then
                                        if 0 ≤ IntKind.i64.wrap (i + 2) ∧ IntKind.i64.wrap (i + 2) < (s.size : Int) then
                                          (ref05_hexa (bt s (IntKind.i64.wrap (i + 2)))).bind fun y3 =>
                                            if 0 ≤ IntKind.i64.wrap (i + 3) ∧ IntKind.i64.wrap (i + 3) < (s.size : Int) then
                                              (ref05_hexa (bt s (IntKind.i64.wrap (i + 3)))).bind fun y4 =>
                                                if (l0.length + 1) * 1 ≤ 140737488355328 ∧ 0 < 1 then
                                                  ref05_quoted_l7 s (IntKind.i64.wrap (i + 4)) (l0 ++ [IntKind.u8.wrap (IntKind.i64.wrap ((IntKind.i64.wrap (y3.1.1 * 16)) + y4.1.1))])
                                                else
                                                  none
                                            else
                                              none
                                        else
                                          none
                                      else
                                        some (((strB []), 0, false, ()), ())
                                  else
                                    none
                                else
                                  some (((strB []), 0, false, ()), ())
                            else
                              none
                          else
                            some (((strB []), 0, false, ()), ())
                        else
                          some (((strB []), 0, false, ()), ())
                else
                  none
    else
      none
  else
    some (((strB []), 0, false, ()), ()) := (FD.lab_eq _ _ _ _).trans (by kernel_rfl)
def ref05_quoted (s : ByteArray) (at_ : Int) : (Option ((ByteArray × Int × Bool × Unit) × Unit)) :=
  if (decide (at_ ≥ (s.size : Int))) = true then
    some (((strB []), 0, false, ()), ())
  else
    if 0 ≤ at_ ∧ at_ < (s.size : Int) then
      if ((bt s at_) != 34) = true then
        some (((strB []), 0, false, ()), ())
      else
        ref05_quoted_l7 s (IntKind.i64.wrap (at_ + 1)) []
    else
      none
def fc32 : FC := ⟨⟨[.one .str, .one (.int .i64)], []⟩, ⟨[.one .str, .one (.int .i64), .one .bool], []⟩, fun x => ref05_quoted x.1.1 x.1.2.1⟩
theorem con32 : Contract Try.prog 32 fc32 :=
  ref05_quoted_D.contract tok (cok_of (l := [(45, fc45)]) ⟨con45, trivial⟩) mixed (fn' := Try.f32) (by kernel_rfl) (by kernel_rfl) rfl (by kernel_rfl) (fun x => (FD.fn_eq _ _).trans (by kernel_rfl))
end
end Go.Proofs.Ytcflnhimlidbcaa
end

section
/-
Ytcflnhimlidbcaa: signalbench.signalbenchref05.Unquote, as one plain function, its equations, its contract. No condition.
-/
set_option maxRecDepth 100000
set_option linter.unusedVariables false
set_option maxHeartbeats 4000000
open Go Go.AM
namespace Go.Proofs.Ytcflnhimlidbcaa
noncomputable section
def ref05_Unquote_D : FD := ⟨T, lookC [(32, fc32)], [], (Try.f17.body.getD .skip), Try.f17.results.toList, ⟨[.one .str], []⟩, ⟨[.one .str, .one (.int .i64)], []⟩, []⟩
def ref05_Unquote (s : ByteArray) : (Option ((ByteArray × Int × Unit) × Unit)) :=
  (ref05_quoted s 0).bind fun y1 =>
    if (!y1.1.2.2.1) = true then
      some (((strB []), 4, ()), ())
    else
      if (y1.1.2.1 != (s.size : Int)) = true then
        some (((strB []), 4, ()), ())
      else
        some ((y1.1.1, 0, ()), ())
def fc17 : FC := ⟨⟨[.one .str], []⟩, ⟨[.one .str, .one (.int .i64)], []⟩, fun x => ref05_Unquote x.1.1⟩
theorem con17 : Contract Try.prog 17 fc17 :=
  ref05_Unquote_D.contract tok (cok_of (l := [(32, fc32)]) ⟨con32, trivial⟩) mixed (fn' := Try.f17) (by kernel_rfl) (by kernel_rfl) rfl (by kernel_rfl) (fun x => (FD.fn_eq _ _).trans (by kernel_rfl))
end
end Go.Proofs.Ytcflnhimlidbcaa
end

section
/-
Ytcflnhimlidbcaa: the plain functions of quoted strings come to what they should. No condition.
-/
set_option maxRecDepth 100000
open Go Go.AM
namespace Go.Proofs.Ytcflnhimlidbcaa

theorem lex_plain_b (c : UInt8) : lex_plain c.toNat = some ((plainB c, ()), ()) := by
  unfold lex_plain plainB
  by_cases h : 32 ≤ c.toNat
  · rw [if_pos (dT (by omega)), decide_eq_true h]
    by_cases h2 : c.toNat ≤ 126
    · rw [if_pos (dT (by omega)), decide_eq_true h2]
      by_cases h3 : c = 34
      · subst h3; rfl
      · rw [if_pos (show ((c.toNat : Int) != 34) = true from byte_bne h3), bne_iff_ne.2 h3]
        by_cases h4 : c = 92
        · subst h4; rfl
        · rw [show ((c.toNat : Int) != 92) = true from byte_bne h4, bne_iff_ne.2 h4]; rfl
    · rw [if_neg (dF (by omega)), decide_eq_false h2]
      simp
  · rw [if_neg (dF (by omega)), decide_eq_false h]
    simp

theorem hex_pair {x y : Nat} (hx : x < 16) (hy : y < 16) : IntKind.u8.wrap (IntKind.i64.wrap (IntKind.i64.wrap (16 * (x : Int)) + y)) = ((UInt8.ofNat (16 * x + y)).toNat : Int) := by
  have e1 : IntKind.i64.wrap (16 * (x : Int)) = 16 * x := w64 (by omega) (by omega)
  have e2 : IntKind.i64.wrap (16 * (x : Int) + y) = 16 * x + y := w64 (by omega) (by omega)
  rw [e1, e2, w8 (by omega) (by omega), UInt8.toNat_ofNat', Nat.mod_eq_of_lt (by omega)]
  omega

theorem hex_pair' {x y : Nat} (hx : x < 16) (hy : y < 16) : IntKind.u8.wrap (IntKind.i64.wrap (IntKind.i64.wrap ((x : Int) * 16) + y)) = ((UInt8.ofNat (16 * x + y)).toNat : Int) := by
  rw [Int.mul_comm]; exact hex_pair hx hy

theorem bt_at {s : ByteArray} {i : Nat} {c : UInt8} {r : List UInt8} (h : (L s).drop i = c :: r) (x : Int) (hx : x = i) : bt s x = (c.toNat : Int) := by
  subst hx; exact bt_drop h

theorem lex_escape_b (s : ByteArray) (c : UInt8) (r : List UInt8) (hL : L s = c :: r) : lex_escape s = some ((match escV r with
    | some (b, n) => ((b.toNat : Int), (n : Int), ())
    | none => (0, 0, ())), ()) := by
  unfold lex_escape
  have hl := size_of hL
  cases r with
  | nil =>
    simp only [List.length_cons, List.length_nil] at hl
    rw [if_pos (dT (by omega))]; rfl
  | cons e r =>
    simp only [List.length_cons] at hl
    have b1 : bt s 1 = (e.toNat : Int) := bt_at (i := 1) (r := r) (by rw [hL]; rfl) 1 rfl
    rw [if_neg (dF (by omega)), if_pos ⟨by omega, by omega⟩, b1]
    have yes : ∀ x, lex_escape_l6 s x true = some (((e.toNat : Int), 2, ()), ()) := fun x => by
      rw [lex_escape_l6_eq, if_pos rfl, if_pos ⟨by omega, by omega⟩, b1]
    by_cases h1 : e = 34
    · subst h1
      rw [if_pos (by decide), yes]; rfl
    · rw [if_neg (show ¬ ((e.toNat : Int) == 34) = true from byte_ne h1)]
      by_cases h2 : e = 92
      · subst h2
        rw [show (((92 : UInt8).toNat : Int) == 92) = true from by decide, yes]; rfl
      · rw [show ((e.toNat : Int) == 92) = false from by simpa using byte_ne h2, lex_escape_l6_eq, if_neg Bool.false_ne_true]
        simp only [escV]
        rw [if_neg (show ¬ (e = 34 ∨ e = 92) by simp [h1, h2])]
        by_cases h3 : e = 110
        · subst h3
          rw [if_pos (by decide), if_pos rfl]; rfl
        · rw [if_neg (show ¬ ((e.toNat : Int) == 110) = true from byte_ne h3), if_neg h3]
          by_cases h4 : e = 120
          · subst h4
            rw [if_pos (by decide), if_pos rfl]
            match r, hl, hL with
            | [], hl, _ => simp only [List.length_nil] at hl; rw [if_pos (dT (by omega))]
            | [a], hl, _ => simp only [List.length_cons, List.length_nil] at hl; rw [if_pos (dT (by omega))]
            | a :: b :: r, hl, hL =>
              simp only [List.length_cons] at hl
              have b2 : bt s 2 = (a.toNat : Int) := bt_at (i := 2) (r := b :: r) (by rw [hL]; rfl) 2 rfl
              have b3 : bt s 3 = (b.toNat : Int) := bt_at (i := 3) (r := r) (by rw [hL]; rfl) 3 rfl
              rw [if_neg (dF (by omega)), if_pos ⟨by omega, by omega⟩, b2, b3, lex_hex_b, lex_hex_b]
              simp only [Option.bind_some]
              rcases hexI_cases a with ⟨e1, e2⟩ | ⟨x, e1, e2, e3⟩
              · rw [e1, e2, if_pos (by decide)]
              · rw [e1, e2, if_neg (dF (by omega)), if_pos ⟨by omega, by omega⟩]
                rcases hexI_cases b with ⟨f1, f2⟩ | ⟨y, f1, f2, f3⟩
                · rw [f1, f2, if_pos (by decide)]
                · rw [f1, f2, if_neg (dF (by omega)), if_pos ⟨by omega, by omega⟩, if_pos ⟨by omega, by omega⟩, hex_pair e3 f3]
                  rfl
          · rw [if_neg (show ¬ ((e.toNat : Int) == 120) = true from byte_ne h4), if_neg h4]

theorem lex_Unquote_loop : ∀ (k : Nat) (s : ByteArray) (acc : List UInt8), (L s).length ≤ k → acc.length + (L s).length ≤ 1099511627776 → lex_Unquote_l7 s (bI acc) = some ((match unqI k (L s) with
    | some o => (strB (acc ++ o), 0, ())
    | none => (strB [], 4, ())), ()) := by
  intro k
  induction k using Nat.strongRecOn with
  | _ k ih =>
    intro s acc hk ha
    rw [lex_Unquote_l7_eq]
    cases hL : L s with
    | nil =>
      rw [if_neg (cond_nil hL), strOf_bI]
      have : unqI k [] = some [] := by cases k <;> rfl
      rw [this]
      simp
    | cons c r =>
      have hl := size_of hL
      rw [hL] at hk ha
      simp only [List.length_cons] at hk ha hl
      obtain ⟨k, rfl⟩ : ∃ j, k = j + 1 := ⟨k - 1, by omega⟩
      rw [if_pos (cond_not_nil hL), if_pos ⟨by omega, by omega⟩, bt_cons hL, w32c, lex_plain_b]
      simp only [Option.bind_some, unqI]
      by_cases hp : plainB c = true
      · rw [if_pos hp, if_pos hp, if_pos ⟨by omega, by omega⟩, if_pos (by rw [bI_len]; omega), if_pos ⟨by omega, by omega⟩, bI_snoc]
        have e := L_ext' s 1
        rw [hL] at e
        rw [ih k (by omega) (s.extract 1 s.size) (acc ++ [c]) (by rw [e]; simpa using by omega) (by rw [e]; simp; omega), e]
        simp only [List.drop_succ_cons, List.drop_zero]
        cases unqI k r <;> simp
      · rw [if_neg hp, if_neg hp, if_pos ⟨by omega, by omega⟩]
        have bad : ∀ x : Int, lex_Unquote_l14 s x 0 (bI acc) = some ((strB [], 4, ()), ()) := fun x => by rw [lex_Unquote_l14_eq, if_pos (eT rfl)]
        by_cases hc : c = 92
        · subst hc
          rw [if_pos (by decide), if_pos rfl, lex_escape_b s 92 r hL]
          simp only [Option.bind_some]
          cases he : escV r with
          | none => exact bad 0
          | some p =>
            obtain ⟨b, n⟩ := p
            have hn := escV_len he
            simp only
            rw [lex_Unquote_l14_eq, if_neg (eF (by omega)), if_pos (by rw [bI_len]; omega), if_pos ⟨by omega, by omega⟩, bI_snoc, Int.toNat_natCast]
            have e := L_ext' s n
            rw [hL, show n = (n - 1) + 1 by omega, List.drop_succ_cons] at e
            rw [show n - 1 + 1 = n by omega] at e
            rw [ih k (by omega) (s.extract n s.size) (acc ++ [b]) (by rw [e, List.length_drop]; omega) (by rw [e, List.length_drop]; simp; omega), e]
            cases unqI k (r.drop (n - 1)) <;> simp
        · rw [if_neg (show ¬ ((c.toNat : Int) == 92) = true from byte_ne hc), if_neg hc]
          exact bad 0

theorem lex_Unquote_b (s : ByteArray) (hs : s.size ≤ 1099511627776) : lex_Unquote s = some ((match unqV (L s) with
    | some o => (strB o, 0, ())
    | none => (strB [], 4, ())), ()) := by
  unfold lex_Unquote
  match hL : L s with
  | [] =>
    have hl := size_of hL
    simp only [List.length_nil] at hl
    rw [if_pos (dT (by omega))]; rfl
  | [c] =>
    have hl := size_of hL
    simp only [List.length_cons, List.length_nil] at hl
    rw [if_pos (dT (by omega))]
    by_cases h : c = 34
    · subst h; rfl
    · have : unqV [c] = none := by
        unfold unqV
        split
        · rename_i e; cases e; exact absurd rfl h
        · rfl
      rw [this]
  | c :: d :: r =>
    have hl := size_of hL
    simp only [List.length_cons] at hl
    rw [if_neg (dF (by omega)), if_pos ⟨by omega, by omega⟩, bt_cons hL]
    by_cases h : c = 34
    · subst h
      rw [if_neg (by decide)]
      have e1 : IntKind.i64.wrap ((s.size : Int) - 1) = ((r.length + 1 : Nat) : Int) := by rw [w64 (by omega) (by omega)]; omega
      rw [e1, if_pos ⟨by omega, by omega⟩]
      obtain ⟨i, z, hi⟩ : ∃ i z, d :: r = i ++ [z] := ⟨(d :: r).dropLast, (d :: r).getLast (by simp), (List.dropLast_concat_getLast (by simp)).symm⟩
      have hil : i.length = r.length := by
        have := congrArg List.length hi
        simp at this
        omega
      have hz : bt s ((r.length + 1 : Nat) : Int) = (z.toNat : Int) := bt_at (i := r.length + 1) (r := []) (by rw [hL, hi, List.drop_succ_cons, ← hil]; simp) _ rfl
      rw [hz]
      unfold unqV
      simp only
      rw [hi, List.getLast?_concat, List.dropLast_concat]
      by_cases h2 : z = 34
      · subst h2
        rw [if_neg (by decide), if_pos rfl, if_pos ⟨by omega, by omega, by omega⟩, Int.toNat_natCast]
        have e2 : L (s.extract 1 (r.length + 1)) = i := by
          rw [L_ext, hL, hi, ← hil]
          simp
        have := lex_Unquote_loop (i ++ [34]).length (s.extract 1 (r.length + 1)) [] (by rw [e2]; simp) (by rw [e2]; simp; omega)
        rw [e2] at this
        simp only [List.nil_append] at this
        exact this
      · rw [if_pos (show ((z.toNat : Int) != 34) = true from byte_bne h2), if_neg (by simpa using h2)]
    · rw [if_pos (show ((c.toNat : Int) != 34) = true from byte_bne h)]
      have : unqV (c :: d :: r) = none := by
        unfold unqV
        split
        · rename_i e; cases e; exact absurd rfl h
        · rfl
      rw [this]

theorem ref05_quoted_loop (s : ByteArray) (hs : s.size ≤ 1099511627776) : ∀ (k : Nat) (r : List UInt8) (i : Nat) (acc : List UInt8), (L s).drop i = r → r.length ≤ k → acc.length ≤ i → i ≤ s.size → ref05_quoted_l7 s i (bI acc) = some ((match unqL k r with
    | some (o, rest) => (strB (acc ++ o), ((s.size - rest.length : Nat) : Int), true, ())
    | none => (strB [], 0, false, ())), ()) := by
  intro k
  induction k using Nat.strongRecOn with
  | _ k ih =>
    intro r i acc hr hk ha hi
    have hrl : r.length = s.size - i := by rw [← hr, List.length_drop, L_len]
    rw [ref05_quoted_l7_eq]
    cases r with
    | nil =>
      simp only [List.length_nil] at hrl
      rw [if_neg (dF (by omega))]
      have : unqL k [] = none := by cases k <;> rfl
      rw [this]
    | cons c r =>
      simp only [List.length_cons] at hk hrl
      obtain ⟨k, rfl⟩ : ∃ j, k = j + 1 := ⟨k - 1, by omega⟩
      rw [if_pos (dT (by omega)), if_pos ⟨by omega, by omega⟩, bt_drop hr]
      have d1 := drop_succ hr
      by_cases h1 : c = 34
      · subst h1
        rw [if_pos (by decide), strOf_bI, w64a i (by omega)]
        simp only [unqL, if_true]
        simp only [List.append_nil, Option.some.injEq, Prod.mk.injEq, and_true, true_and]
        omega
      · rw [if_neg (show ¬ ((c.toNat : Int) == 34) = true from byte_ne h1)]
        rw [unqL, if_neg h1]
        by_cases h2 : c.toNat < 32
        · rw [if_pos (dT (by omega)), if_pos (.inl h2)]
        · rw [if_neg (dF (by omega))]
          by_cases h3 : 126 < c.toNat
          · rw [if_pos (dT (by omega)), if_pos (.inr h3)]
          · rw [if_neg (dF (by omega)), if_neg (show ¬ (c.toNat < 32 ∨ 126 < c.toNat) by omega)]
            by_cases h4 : c = 92
            · subst h4
              rw [if_neg (show ¬ (((92 : UInt8).toNat : Int) != 92) = true by decide), if_neg (show ¬ ((92 : UInt8) ≠ 92) by simp), w64a i (by omega), w64b i (by omega), w64c i (by omega), w64d i (by omega)]
              cases r with
              | nil =>
                simp only [List.length_nil] at hrl
                rw [if_pos (dT (by omega))]; rfl
              | cons e r =>
                simp only [List.length_cons] at hrl hk
                have d2 := drop_succ d1
                rw [if_neg (dF (by omega)), if_pos ⟨by omega, by omega⟩, bt_drop d1]
                have room : ∀ x : List Int, x.length = acc.length → (x.length + 1) * 1 ≤ 140737488355328 ∧ 0 < 1 := fun x hx => by omega
                have two : ∀ b : UInt8, (if ((bI acc).length + 1) * 1 ≤ 140737488355328 ∧ 0 < 1 then ref05_quoted_l7 s ((i + 2 : Nat) : Int) (bI acc ++ [(b.toNat : Int)]) else none) = some ((match (unqL k r).map fun p => (b :: p.1, p.2) with
                    | some (o, rest) => (strB (acc ++ o), ((s.size - rest.length : Nat) : Int), true, ())
                    | none => (strB [], 0, false, ())), ()) := by
                  intro b
                  rw [if_pos (room _ (bI_len _)), bI_snoc, ih k (by omega) r (i + 2) (acc ++ [b]) d2 (by omega) (by simp; omega) (by omega)]
                  cases unqL k r with
                  | none => rfl
                  | some p => simp
                simp only [escV]
                by_cases g1 : e = 34
                · subst g1
                  rw [if_pos (by decide), if_pos (show (34 : UInt8) = 34 ∨ (34 : UInt8) = 92 from .inl rfl)]
                  exact two 34
                · rw [if_neg (show ¬ ((e.toNat : Int) == 34) = true from byte_ne g1)]
                  by_cases g2 : e = 92
                  · subst g2
                    rw [if_pos (by decide), if_pos (show (92 : UInt8) = 34 ∨ (92 : UInt8) = 92 from .inr rfl)]
                    exact two 92
                  · rw [if_neg (show ¬ ((e.toNat : Int) == 92) = true from byte_ne g2), if_neg (show ¬ (e = 34 ∨ e = 92) by simp [g1, g2])]
                    by_cases g3 : e = 110
                    · subst g3
                      rw [if_pos (by decide), if_pos (show (110 : UInt8) = 110 from rfl)]
                      exact two 10
                    · rw [if_neg (show ¬ ((e.toNat : Int) == 110) = true from byte_ne g3), if_neg g3]
                      by_cases g4 : e = 120
                      · subst g4
                        rw [if_pos (by decide), if_pos (show (120 : UInt8) = 120 from rfl)]
                        match r, hrl, hk, d2 with
                        | [], hrl, _, _ => simp only [List.length_nil] at hrl; rw [if_neg (dF (by omega))]
                        | [a], hrl, _, _ => simp only [List.length_cons, List.length_nil] at hrl; rw [if_neg (dF (by omega))]
                        | a :: b :: r, hrl, hk, d2 =>
                          simp only [List.length_cons] at hrl hk
                          have d3 := drop_succ d2
                          have d4 := drop_succ d3
                          rw [if_pos (dT (by omega)), if_pos ⟨by omega, by omega⟩, bt_drop d2, bt_drop d3, ref05_hexa_b, ref05_hexa_b]
                          simp only [Option.bind_some]
                          rcases hexI_cases a with ⟨e1, e2⟩ | ⟨x, e1, e2, e3⟩
                          · rw [e1, e2, if_neg (by decide)]
                          · rw [e1, e2, if_pos (dT (by omega)), if_pos ⟨by omega, by omega⟩]
                            rcases hexI_cases b with ⟨f1, f2⟩ | ⟨y, f1, f2, f3⟩
                            · rw [f1, f2, if_neg (by decide)]
                            · rw [f1, f2, if_pos (dT (by omega)), if_pos ⟨by omega, by omega⟩, if_pos ⟨by omega, by omega⟩, if_pos (room _ (bI_len _)), hex_pair' e3 f3, bI_snoc,
                                ih k (by omega) r (i + 4) _ d4 (by omega) (by simp; omega) (by omega)]
                              simp only [Nat.add_one_sub_one, List.drop_succ_cons, List.drop_zero]
                              cases unqL k r with
                              | none => rfl
                              | some p => simp
                      · rw [if_neg (show ¬ ((e.toNat : Int) == 120) = true from byte_ne g4), if_neg g4]
            · rw [if_pos (show ((c.toNat : Int) != 92) = true from byte_bne h4), if_pos h4, if_pos (by rw [bI_len]; omega), w64a i (by omega), bI_snoc,
                ih k (by omega) r (i + 1) _ d1 (by omega) (by simp; omega) (by omega)]
              cases unqL k r with
              | none => rfl
              | some p => simp

theorem ref05_quoted_b (s : ByteArray) (hs : s.size ≤ 1099511627776) (i : Nat) (r : List UInt8) (h : (L s).drop i = 34 :: r) : ref05_quoted s i = some ((match unqL r.length r with
    | some (o, rest) => (strB o, ((s.size - rest.length : Nat) : Int), true, ())
    | none => (strB [], 0, false, ())), ()) := by
  have h1 := drop_lt h
  rw [L_len] at h1
  unfold ref05_quoted
  rw [if_neg (dF (by omega)), if_pos ⟨by omega, by omega⟩, bt_drop h, if_neg (by decide), w64a i (by omega)]
  exact ref05_quoted_loop s hs r.length r (i + 1) [] (drop_succ h) (Nat.le_refl _) (by simp) (by omega)

theorem ref05_quoted_no (s : ByteArray) (h : ∀ r, L s ≠ 34 :: r) : ref05_quoted s 0 = some ((strB [], 0, false, ()), ()) := by
  unfold ref05_quoted
  cases hL : L s with
  | nil =>
    have hl := size_of hL
    simp only [List.length_nil] at hl
    rw [if_pos (dT (by omega))]
  | cons c r =>
    have hl := size_of hL
    simp only [List.length_cons] at hl
    rw [if_neg (dF (by omega)), if_pos ⟨by omega, by omega⟩, bt_cons hL]
    have hc : c ≠ 34 := fun e => h r (by rw [← e]; exact hL)
    rw [if_pos (show ((c.toNat : Int) != 34) = true from byte_bne hc)]

theorem ref05_Unquote_b (s : ByteArray) (hs : s.size ≤ 1099511627776) : ref05_Unquote s = some ((match unqV (L s) with
    | some o => (strB o, 0, ())
    | none => (strB [], 4, ())), ()) := by
  unfold ref05_Unquote
  have no : (∀ r, L s ≠ 34 :: r) → ((ref05_quoted s 0).bind fun y1 => if (!y1.1.2.2.1) = true then some (((strB []), (4 : Int), ()), ()) else if (y1.1.2.1 != (s.size : Int)) = true then some (((strB []), 4, ()), ()) else some ((y1.1.1, 0, ()), ())) = some ((strB [], 4, ()), ()) := by
    intro h
    rw [ref05_quoted_no s h]
    rfl
  cases hL : L s with
  | nil => exact no (fun r e => by rw [hL] at e; cases e)
  | cons c r =>
    by_cases h : c = 34
    · subst h
      have hl := size_of hL
      simp only [List.length_cons] at hl
      rw [show (0 : Int) = ((0 : Nat) : Int) from rfl, ref05_quoted_b s hs 0 r (by rw [hL]; rfl), unqV_eq]
      simp only [Option.bind_some]
      cases hu : unqL r.length r with
      | none => rfl
      | some p =>
        obtain ⟨o, rest⟩ := p
        simp only [Bool.not_true, Bool.false_eq_true, if_false]
        cases rest with
        | nil =>
          rw [if_neg (nF (by simp))]
        | cons x rest => rw [if_pos (nT (by simp only [List.length_cons]; omega))]
    · rw [no (fun r e => by rw [hL] at e; cases e; exact h rfl)]
      have : unqV (c :: r) = none := by
        unfold unqV
        split
        · rename_i e; cases e; exact absurd rfl h
        · rfl
      rw [this]

end Go.Proofs.Ytcflnhimlidbcaa
end

section
/-
The contract of strings.IndexByte at this translation, as the kit's shelf lays it in plain words (written by the kit's lay-plain tool): no condition.
-/
namespace Go.Proofs
open Go.Shelf
def Try.lays137_ren : Go.Shelf.Ren := ⟨fun | 137 => 20 | 217 => 36 | 266 => 47 | n => n, fun | 9 => 9 | 5 => 5 | 3 => 3 | n => n, fun | n => n⟩
theorem Try.lays137 : Go.Proofs.Lays.n137 Try.prog Try.lays137_ren := {
  mixed := by kernel_rfl
  f137 := Try.func20.trans (congrArg some (by kernel_rfl))
  f217 := Try.func36.trans (congrArg some (by kernel_rfl))
  f266 := Try.func47.trans (congrArg some (by kernel_rfl))
  t3 := Try.underlying3
  a3 := Try.isAgg3
  z3 := Try.sizeOf3
  v3 := Try.zeroValue3
  t5 := Try.underlying5
  a5 := Try.isAgg5
  z5 := Try.sizeOf5
  v5 := Try.zeroValue5
  t9 := Try.underlying9
  a9 := Try.isAgg9
  z9 := Try.sizeOf9
  v9 := Try.zeroValue9 }
open Go.RowKit in
/-- strings.IndexByte: "IndexByte returns the index of the first instance of c in s, or -1 if c is not present in s.": IT RETURNS 'Lib.indexByte s c'; the world is as it was. (LAID: no walk: one application.) -/
theorem Try.strings_IndexByte (s : ByteArray) (c : Int) (w : World) :
    Calls Try.prog 20 #[.string s, .int .u8 c] w fun e w' => e = .returned (.int .i64 (Lib.indexByte s.data.toList c.toNat.toUInt8)) ∧ w' = w := Any.strings_IndexByte Try.lays137 s c w
end Go.Proofs
end

section
/-
Ytcflnhimlidbcaa: strings.IndexByte, by the shelf. No condition.
-/
open Go Go.AM
namespace Go.Proofs.Ytcflnhimlidbcaa
noncomputable section
def strings_IndexByte (s : ByteArray) (c : Int) : Option ((Int × Unit) × Unit) := some ((Lib.indexByte s.data.toList c.toNat.toUInt8, ()), ())
def fc20 : FC := ⟨⟨[.one .str, .one (.int .u8)], []⟩, ⟨[.one (.int .i64)], []⟩, fun x => strings_IndexByte x.1.1 x.1.2.1⟩
theorem con20 : Contract Try.prog 20 fc20 :=
  Contract.still (P := Try.prog) (f := 20) (sa := [.one .str, .one (.int .u8)]) (sr := [.one (.int .i64)]) (fn := Try.f20) (c := Try.f20.body.getD .skip) (by kernel_rfl) (by kernel_rfl) (by kernel_rfl) (g := fun x => some (Lib.indexByte x.1.data.toList x.2.1.toNat.toUInt8, ())) (fun w M G x y vals hI hv hg => by
    obtain ⟨s, c, u⟩ := x
    obtain ⟨vs⟩ := vals
    match vs, hv with
    | [v1, v2], hv =>
      obtain ⟨⟨rfl, _⟩, ⟨rfl, _⟩, _⟩ := hv
      cases hg
      refine (Try.strings_IndexByte s c w).mono ?_
      rintro e w' ⟨rfl, rfl⟩
      exact ⟨_, rfl, rfl, rfl, rfl⟩)
end
end Go.Proofs.Ytcflnhimlidbcaa
end

section
/-
Ytcflnhimlidbcaa: signalbench.lex.words, as one plain function, its equations, its contract. No condition.
-/
set_option maxRecDepth 100000
set_option linter.unusedVariables false
set_option maxHeartbeats 4000000
open Go Go.AM
namespace Go.Proofs.Ytcflnhimlidbcaa
noncomputable section
def lex_words_F3 : FSh := ⟨[(0, .one .str), (3, .one (.int .i64))], []⟩
def lex_words_D : FD := ⟨T, lookC [(27, fc27)], [], (Try.f37.body.getD .skip), Try.f37.results.toList, ⟨[.one .str], []⟩, ⟨[.one (.int .i64)], []⟩, [(3, lex_words_F3)]⟩
def lex_words_l3 (s : ByteArray) (n : Int) : (Option ((Int × Unit) × Unit)) := lex_words_D.lab 3 lex_words_F3 ((s, n, ()), ())
theorem lex_words_l3_eq (s : ByteArray) (n : Int) : lex_words_l3 s n =
  if (decide (n < (s.size : Int))) = true then
    if 0 ≤ n ∧ n < (s.size : Int) then
      (lex_word (IntKind.i32.wrap (bt s n))).bind fun y1 =>
        if y1.1.1 = true then
          lex_words_l3 s (IntKind.i64.wrap (n + 1))
        else
          some ((n, ()), ())
    else
      none
  else
    some ((n, ()), ()) := (FD.lab_eq _ _ _ _).trans (by kernel_rfl)
def lex_words (s : ByteArray) : (Option ((Int × Unit) × Unit)) :=
  lex_words_l3 s 0
def fc37 : FC := ⟨⟨[.one .str], []⟩, ⟨[.one (.int .i64)], []⟩, fun x => lex_words x.1.1⟩
theorem con37 : Contract Try.prog 37 fc37 :=
  lex_words_D.contract tok (cok_of (l := [(27, fc27)]) ⟨con27, trivial⟩) mixed (fn' := Try.f37) (by kernel_rfl) (by kernel_rfl) rfl (by kernel_rfl) (fun x => (FD.fn_eq _ _).trans (by kernel_rfl))
end
end Go.Proofs.Ytcflnhimlidbcaa
end

section
/-
Ytcflnhimlidbcaa: signalbench.lex.quoted, as one plain function, its equations, its contract. No condition.
-/
set_option maxRecDepth 100000
set_option linter.unusedVariables false
set_option maxHeartbeats 4000000
open Go Go.AM
namespace Go.Proofs.Ytcflnhimlidbcaa
noncomputable section
def lex_quoted_F3 : FSh := ⟨[(0, .one .str), (3, .one (.int .i64))], []⟩
def lex_quoted_D : FD := ⟨T, lookC [], [], (Try.f39.body.getD .skip), Try.f39.results.toList, ⟨[.one .str], []⟩, ⟨[.one (.int .i64)], []⟩, [(3, lex_quoted_F3)]⟩
def lex_quoted_l3 (s : ByteArray) (i : Int) : (Option ((Int × Unit) × Unit)) := lex_quoted_D.lab 3 lex_quoted_F3 ((s, i, ()), ())
theorem lex_quoted_l3_eq (s : ByteArray) (i : Int) : lex_quoted_l3 s i =
  if (decide (i < (s.size : Int))) = true then
    if 0 ≤ i ∧ i < (s.size : Int) then
      if ((bt s i) == 34) = true then
        some ((IntKind.i64.wrap (i + 1), ()), ())
      else
        if ((bt s i) == 92) = true then
          lex_quoted_l3 s (IntKind.i64.wrap ((IntKind.i64.wrap (i + 1)) + 1))
        else
          lex_quoted_l3 s (IntKind.i64.wrap (i + 1))
    else
      none
  else
    some ((0, ()), ()) := (FD.lab_eq _ _ _ _).trans (by kernel_rfl)
def lex_quoted (s : ByteArray) : (Option ((Int × Unit) × Unit)) :=
  lex_quoted_l3 s 1
def fc39 : FC := ⟨⟨[.one .str], []⟩, ⟨[.one (.int .i64)], []⟩, fun x => lex_quoted x.1.1⟩
theorem con39 : Contract Try.prog 39 fc39 :=
  lex_quoted_D.contract tok (cok_of (l := []) trivial) mixed (fn' := Try.f39) (by kernel_rfl) (by kernel_rfl) rfl (by kernel_rfl) (fun x => (FD.fn_eq _ _).trans (by kernel_rfl))
end
end Go.Proofs.Ytcflnhimlidbcaa
end

section
/-
Ytcflnhimlidbcaa: signalbench.lex.mark, as one plain function, its equations, its contract. No condition.
-/
set_option maxRecDepth 100000
set_option linter.unusedVariables false
set_option maxHeartbeats 4000000
open Go Go.AM
namespace Go.Proofs.Ytcflnhimlidbcaa
noncomputable section
def lex_mark_D : FD := ⟨T, lookC [], [], (Try.f40.body.getD .skip), Try.f40.results.toList, ⟨[.one (.int .i32)], []⟩, ⟨[.one .bool], []⟩, []⟩
def lex_mark (c : Int) : (Option ((Bool × Unit) × Unit)) :=
  if (c == 40) = true then
    some ((true, ()), ())
  else
    if (c == 41) = true then
      some ((true, ()), ())
    else
      if (c == 91) = true then
        some ((true, ()), ())
      else
        if (c == 93) = true then
          some ((true, ()), ())
        else
          if (c == 123) = true then
            some ((true, ()), ())
          else
            if (c == 125) = true then
              some ((true, ()), ())
            else
              if (c == 60) = true then
                some ((true, ()), ())
              else
                if (c == 62) = true then
                  some ((true, ()), ())
                else
                  if (c == 61) = true then
                    some ((true, ()), ())
                  else
                    if (c == 44) = true then
                      some ((true, ()), ())
                    else
                      if (c == 59) = true then
                        some ((true, ()), ())
                      else
                        if (c == 58) = true then
                          some ((true, ()), ())
                        else
                          if (c == 46) = true then
                            some ((true, ()), ())
                          else
                            if (c == 47) = true then
                              some ((true, ()), ())
                            else
                              if (c == 42) = true then
                                some ((true, ()), ())
                              else
                                if (c == 43) = true then
                                  some ((true, ()), ())
                                else
                                  if (c == 33) = true then
                                    some ((true, ()), ())
                                  else
                                    if (c == 38) = true then
                                      some ((true, ()), ())
                                    else
                                      if (c == 124) = true then
                                        some ((true, ()), ())
                                      else
                                        some ((false, ()), ())
def fc40 : FC := ⟨⟨[.one (.int .i32)], []⟩, ⟨[.one .bool], []⟩, fun x => lex_mark x.1.1⟩
theorem con40 : Contract Try.prog 40 fc40 :=
  lex_mark_D.contract tok (cok_of (l := []) trivial) mixed (fn' := Try.f40) (by kernel_rfl) (by kernel_rfl) rfl (by kernel_rfl) (fun x => (FD.fn_eq _ _).trans (by kernel_rfl))
end
end Go.Proofs.Ytcflnhimlidbcaa
end

section
/-
Ytcflnhimlidbcaa: signalbench.lex.take, as one plain function, its equations, its contract. No condition.
-/
set_option maxRecDepth 100000
set_option linter.unusedVariables false
set_option maxHeartbeats 4000000
open Go Go.AM
namespace Go.Proofs.Ytcflnhimlidbcaa
noncomputable section
def lex_take_D : FD := ⟨T, lookC [(12, fc12), (14, fc14), (16, fc16), (26, fc26), (37, fc37), (38, fc38), (39, fc39), (40, fc40)], [], (Try.f21.body.getD .skip), Try.f21.results.toList, ⟨[.one .str], []⟩, ⟨[.row (.cons (.int .i64) (.cons .str (.cons (.int .i64) (.int .i64)))), .one (.int .i64), .one (.int .i64)], []⟩, []⟩
def lex_take (s : ByteArray) : (Option ((TToken × Int × Int × Unit) × Unit)) :=
  if 0 ≤ (0 : Int) ∧ 0 < (s.size : Int) then
    (lex_letter (IntKind.i32.wrap (bt s 0))).bind fun y1 =>
      if y1.1.1 = true then
        (lex_words s).bind fun y2 =>
          if 0 ≤ (0 : Int) ∧ (0 : Int) ≤ y2.1.1 ∧ y2.1.1 ≤ (s.size : Int) then
            (lex_Name (s.extract 0 y2.1.1.toNat)).bind fun y3 =>
              if (!y3.1.1) = true then
                some (((0, (strB []), 0, 0), 0, 4, ()), ())
              else
                if 0 ≤ (0 : Int) ∧ (0 : Int) ≤ y2.1.1 ∧ y2.1.1 ≤ (s.size : Int) then
                  some (((1, s.extract 0 y2.1.1.toNat, 0, 0), y2.1.1, 0, ()), ())
                else
                  none
          else
            none
      else
        (lex_digit (IntKind.i32.wrap (bt s 0))).bind fun y4 =>
          if y4.1.1 = true then
            if 0 ≤ (1 : Int) ∧ 1 ≤ (s.size : Int) then
              (lex_words (s.extract 1 s.size)).bind fun y5 =>
                if 0 ≤ (0 : Int) ∧ (0 : Int) ≤ IntKind.i64.wrap (1 + y5.1.1) ∧ IntKind.i64.wrap (1 + y5.1.1) ≤ (s.size : Int) then
                  (lex_Number (s.extract 0 (IntKind.i64.wrap (1 + y5.1.1)).toNat)).bind fun y6 =>
                    if 0 ≤ (0 : Int) ∧ (0 : Int) ≤ IntKind.i64.wrap (1 + y5.1.1) ∧ IntKind.i64.wrap (1 + y5.1.1) ≤ (s.size : Int) then
                      some (((2, s.extract 0 (IntKind.i64.wrap (1 + y5.1.1)).toNat, y6.1.1, 0), IntKind.i64.wrap (1 + y5.1.1), y6.1.2.1, ()), ())
                    else
                      none
                else
                  none
            else
              none
          else
            if ((IntKind.i32.wrap (bt s 0)) == 45) = true then
              if 0 ≤ (1 : Int) ∧ 1 ≤ (s.size : Int) then
                (lex_words (s.extract 1 s.size)).bind fun y7 =>
                  if 0 ≤ (0 : Int) ∧ (0 : Int) ≤ IntKind.i64.wrap (1 + y7.1.1) ∧ IntKind.i64.wrap (1 + y7.1.1) ≤ (s.size : Int) then
                    (lex_Number (s.extract 0 (IntKind.i64.wrap (1 + y7.1.1)).toNat)).bind fun y8 =>
                      if 0 ≤ (0 : Int) ∧ (0 : Int) ≤ IntKind.i64.wrap (1 + y7.1.1) ∧ IntKind.i64.wrap (1 + y7.1.1) ≤ (s.size : Int) then
                        some (((2, s.extract 0 (IntKind.i64.wrap (1 + y7.1.1)).toNat, y8.1.1, 0), IntKind.i64.wrap (1 + y7.1.1), y8.1.2.1, ()), ())
                      else
                        none
                  else
                    none
              else
                none
            else
              if ((IntKind.i32.wrap (bt s 0)) == 34) = true then
                (lex_quoted s).bind fun y9 =>
                  if 0 ≤ (0 : Int) ∧ (0 : Int) ≤ y9.1.1 ∧ y9.1.1 ≤ (s.size : Int) then
                    (lex_Unquote (s.extract 0 y9.1.1.toNat)).bind fun y10 =>
                      some (((3, y10.1.1, 0, 0), y9.1.1, y10.1.2.1, ()), ())
                  else
                    none
              else
                (lex_mark (IntKind.i32.wrap (bt s 0))).bind fun y11 =>
                  if y11.1.1 = true then
                    if 0 ≤ (0 : Int) ∧ (0 : Int) ≤ 1 ∧ 1 ≤ (s.size : Int) then
                      some (((4, s.extract 0 1, 0, 0), 1, 0, ()), ())
                    else
                      none
                  else
                    some (((0, (strB []), 0, 0), 0, 4, ()), ())
  else
    none
def fc21 : FC := ⟨⟨[.one .str], []⟩, ⟨[.row (.cons (.int .i64) (.cons .str (.cons (.int .i64) (.int .i64)))), .one (.int .i64), .one (.int .i64)], []⟩, fun x => lex_take x.1.1⟩
theorem con21 : Contract Try.prog 21 fc21 :=
  lex_take_D.contract tok (cok_of (l := [(12, fc12), (14, fc14), (16, fc16), (26, fc26), (37, fc37), (38, fc38), (39, fc39), (40, fc40)]) ⟨con12, con14, con16, con26, con37, con38, con39, con40, trivial⟩) mixed (fn' := Try.f21) (by kernel_rfl) (by kernel_rfl) rfl (by kernel_rfl) (fun x => (FD.fn_eq _ _).trans (by kernel_rfl))
end
end Go.Proofs.Ytcflnhimlidbcaa
end

section
/-
Ytcflnhimlidbcaa: signalbench.lex.Tokens, as one plain function, its equations, its contract. No condition.
-/
set_option maxRecDepth 100000
set_option linter.unusedVariables false
set_option maxHeartbeats 4000000
open Go Go.AM
namespace Go.Proofs.Ytcflnhimlidbcaa
noncomputable section
def lex_Tokens_F7 : FSh := ⟨[(0, .one .str), (5, .one (.own 0)), (6, .one (.int .i64))], [.arr 34 (.cons (.int .i64) (.cons .str (.cons (.int .i64) (.int .i64)))) true]⟩
def lex_Tokens_F15 : FSh := ⟨[(0, .one .str), (5, .one (.own 0)), (6, .one (.int .i64)), (17, .one (.int .u8)), (24, .one .bool)], [.arr 34 (.cons (.int .i64) (.cons .str (.cons (.int .i64) (.int .i64)))) true]⟩
def lex_Tokens_D : FD := ⟨T, lookC [(20, fc20), (21, fc21)], [15], (Try.f8.body.getD .skip), Try.f8.results.toList, ⟨[.one .str], []⟩, ⟨[.one (.sl (.cons (.int .i64) (.cons .str (.cons (.int .i64) (.int .i64))))), .one (.int .i64), .one (.int .i64)], []⟩, [(7, lex_Tokens_F7), (15, lex_Tokens_F15)]⟩
def lex_Tokens_l7 (s : ByteArray) (line : Int) (l0 : (List TToken)) : (Option (((List TToken) × Int × Int × Unit) × Unit)) := lex_Tokens_D.lab 7 lex_Tokens_F7 ((s, (), line, ()), (l0, ()))
def lex_Tokens_l15 (s : ByteArray) (line : Int) (t17 : Int) (t24 : Bool) (l0 : (List TToken)) : (Option (((List TToken) × Int × Int × Unit) × Unit)) := lex_Tokens_D.lab 15 lex_Tokens_F15 ((s, (), line, t17, t24, ()), (l0, ()))
theorem lex_Tokens_l7_eq (s : ByteArray) (line : Int) (l0 : (List TToken)) : lex_Tokens_l7 s line l0 =
  if (!(s.toList == (strB []).toList)) = true then
    if 0 ≤ (0 : Int) ∧ 0 < (s.size : Int) then
      if ((bt s 0) == 10) = true then
        if 0 ≤ (1 : Int) ∧ 1 ≤ (s.size : Int) then
          lex_Tokens_l7 (s.extract 1 s.size) (IntKind.i64.wrap (line + 1)) l0
        else
          none
      else
        if ((bt s 0) == 32) = true then
          lex_Tokens_l15 s line (bt s 0) true l0
        else
          lex_Tokens_l15 s line (bt s 0) ((bt s 0) == 9) l0
    else
      none
  else
    some ((l0, 0, 0, ()), ()) := (FD.lab_eq _ _ _ _).trans (by kernel_rfl)
theorem lex_Tokens_l15_eq (s : ByteArray) (line : Int) (t17 : Int) (t24 : Bool) (l0 : (List TToken)) : lex_Tokens_l15 s line t17 t24 l0 =
  if t24 = true then
    if 0 ≤ (1 : Int) ∧ 1 ≤ (s.size : Int) then
      lex_Tokens_l7 (s.extract 1 s.size) line l0
    else
      none
  else
    if (t17 == 35) = true then
      (strings_IndexByte s 10).bind fun y1 =>
        if (decide (y1.1.1 < 0)) = true then
          if 0 ≤ (s.size : Int) ∧ (s.size : Int) ≤ (s.size : Int) then
            lex_Tokens_l7 (s.extract (s.size : Int).toNat s.size) line l0
          else
            none
        else
          if 0 ≤ y1.1.1 ∧ y1.1.1 ≤ (s.size : Int) then
            lex_Tokens_l7 (s.extract y1.1.1.toNat s.size) line l0
          else
            none
    else
      (lex_take s).bind fun y2 =>
        if (y2.1.2.2.1 != 0) = true then
          some (([], line, y2.1.2.2.1, ()), ())
        else
          if (l0.length + 1) * 40 ≤ 140737488355328 ∧ 0 < 40 then
            if 0 ≤ y2.1.2.1 ∧ y2.1.2.1 ≤ (s.size : Int) then
              lex_Tokens_l7 (s.extract y2.1.2.1.toNat s.size) line (l0 ++ [(y2.1.1.1, y2.1.1.2.1, y2.1.1.2.2.1, line)])
            else
              none
          else
            none := (FD.lab_eq _ _ _ _).trans (by kernel_rfl)
def lex_Tokens (s : ByteArray) : (Option (((List TToken) × Int × Int × Unit) × Unit)) :=
  if (decide ((s.size : Int) > 1048576)) = true then
    some (([], 0, 6, ()), ())
  else
    lex_Tokens_l7 s 1 []
def fc8 : FC := ⟨⟨[.one .str], []⟩, ⟨[.one (.sl (.cons (.int .i64) (.cons .str (.cons (.int .i64) (.int .i64))))), .one (.int .i64), .one (.int .i64)], []⟩, fun x => lex_Tokens x.1.1⟩
theorem con8 : Contract Try.prog 8 fc8 :=
  lex_Tokens_D.contract tok (cok_of (l := [(20, fc20), (21, fc21)]) ⟨con20, con21, trivial⟩) mixed (fn' := Try.f8) (by kernel_rfl) (by kernel_rfl) rfl (by kernel_rfl) (fun x => (FD.fn_eq _ _).trans (by kernel_rfl))
end
end Go.Proofs.Ytcflnhimlidbcaa
end

section
/-
Ytcflnhimlidbcaa: signalbench.signalbenchref05.word, as one plain function, its equations, its contract. No condition.
-/
set_option maxRecDepth 100000
set_option linter.unusedVariables false
set_option maxHeartbeats 4000000
open Go Go.AM
namespace Go.Proofs.Ytcflnhimlidbcaa
noncomputable section
def ref05_word_F3 : FSh := ⟨[(0, .one .str), (5, .one (.int .i64))], []⟩
def ref05_word_D : FD := ⟨T, lookC [(29, fc29)], [], (Try.f41.body.getD .skip), Try.f41.results.toList, ⟨[.one .str, .one (.int .i64)], []⟩, ⟨[.one (.int .i64)], []⟩, [(3, ref05_word_F3)]⟩
def ref05_word_l3 (s : ByteArray) (i : Int) : (Option ((Int × Unit) × Unit)) := ref05_word_D.lab 3 ref05_word_F3 ((s, i, ()), ())
theorem ref05_word_l3_eq (s : ByteArray) (i : Int) : ref05_word_l3 s i =
  if (decide (i < (s.size : Int))) = true then
    if 0 ≤ i ∧ i < (s.size : Int) then
      (ref05_inner (bt s i)).bind fun y1 =>
        if y1.1.1 = true then
          ref05_word_l3 s (IntKind.i64.wrap (i + 1))
        else
          some ((i, ()), ())
    else
      none
  else
    some ((i, ()), ()) := (FD.lab_eq _ _ _ _).trans (by kernel_rfl)
def ref05_word (s : ByteArray) (at_ : Int) : (Option ((Int × Unit) × Unit)) :=
  ref05_word_l3 s (IntKind.i64.wrap (at_ + 1))
def fc41 : FC := ⟨⟨[.one .str, .one (.int .i64)], []⟩, ⟨[.one (.int .i64)], []⟩, fun x => ref05_word x.1.1 x.1.2.1⟩
theorem con41 : Contract Try.prog 41 fc41 :=
  ref05_word_D.contract tok (cok_of (l := [(29, fc29)]) ⟨con29, trivial⟩) mixed (fn' := Try.f41) (by kernel_rfl) (by kernel_rfl) rfl (by kernel_rfl) (fun x => (FD.fn_eq _ _).trans (by kernel_rfl))
end
end Go.Proofs.Ytcflnhimlidbcaa
end

section
/-
Ytcflnhimlidbcaa: signalbench.signalbenchref05.Mark, as one plain function, its equations, its contract. No condition.
-/
set_option maxRecDepth 100000
set_option linter.unusedVariables false
set_option maxHeartbeats 4000000
open Go Go.AM
namespace Go.Proofs.Ytcflnhimlidbcaa
noncomputable section
def ref05_Mark_F4 : FSh := ⟨[(0, .one (.int .u8)), (3, .one .str), (4, .one (.int .i64))], []⟩
def ref05_Mark_D : FD := ⟨T, lookC [], [], (Try.f43.body.getD .skip), Try.f43.results.toList, ⟨[.one (.int .u8)], []⟩, ⟨[.one .bool], []⟩, [(4, ref05_Mark_F4)]⟩
def ref05_Mark_l4 (c : Int) (marks : ByteArray) (i : Int) : (Option ((Bool × Unit) × Unit)) := ref05_Mark_D.lab 4 ref05_Mark_F4 ((c, marks, i, ()), ())
theorem ref05_Mark_l4_eq (c : Int) (marks : ByteArray) (i : Int) : ref05_Mark_l4 c marks i =
  if (decide (i < (marks.size : Int))) = true then
    if 0 ≤ i ∧ i < (marks.size : Int) then
      if ((bt marks i) == c) = true then
        some ((true, ()), ())
      else
        ref05_Mark_l4 c marks (IntKind.i64.wrap (i + 1))
    else
      none
  else
    some ((false, ()), ()) := (FD.lab_eq _ _ _ _).trans (by kernel_rfl)
def ref05_Mark (c : Int) : (Option ((Bool × Unit) × Unit)) :=
  ref05_Mark_l4 c (strB [40, 41, 91, 93, 123, 125, 60, 62, 61, 44, 59, 58, 46, 47, 42, 43, 33, 38, 124]) 0
def fc43 : FC := ⟨⟨[.one (.int .u8)], []⟩, ⟨[.one .bool], []⟩, fun x => ref05_Mark x.1.1⟩
theorem con43 : Contract Try.prog 43 fc43 :=
  ref05_Mark_D.contract tok (cok_of (l := []) trivial) mixed (fn' := Try.f43) (by kernel_rfl) (by kernel_rfl) rfl (by kernel_rfl) (fun x => (FD.fn_eq _ _).trans (by kernel_rfl))
end
end Go.Proofs.Ytcflnhimlidbcaa
end

section
/-
Ytcflnhimlidbcaa: signalbench.signalbenchref05.token, as one plain function, its equations, its contract. No condition.
-/
set_option maxRecDepth 100000
set_option linter.unusedVariables false
set_option maxHeartbeats 4000000
open Go Go.AM
namespace Go.Proofs.Ytcflnhimlidbcaa
noncomputable section
def ref05_token_D : FD := ⟨T, lookC [(13, fc13), (15, fc15), (28, fc28), (32, fc32), (41, fc41), (42, fc42), (43, fc43)], [], (Try.f22.body.getD .skip), Try.f22.results.toList, ⟨[.one .str, .one (.int .i64), .one (.int .i64)], []⟩, ⟨[.row (.cons (.int .i64) (.cons .str (.cons (.int .i64) (.int .i64)))), .one (.int .i64), .one (.int .i64)], []⟩, []⟩
def ref05_token (s : ByteArray) (at_ : Int) (line : Int) : (Option ((TToken × Int × Int × Unit) × Unit)) :=
  if 0 ≤ at_ ∧ at_ < (s.size : Int) then
    (ref05_letter (bt s at_)).bind fun y1 =>
      if y1.1.1 = true then
        (ref05_word s at_).bind fun y2 =>
          if 0 ≤ at_ ∧ at_ ≤ y2.1.1 ∧ y2.1.1 ≤ (s.size : Int) then
            (ref05_Name (s.extract at_.toNat y2.1.1.toNat)).bind fun y3 =>
              if (!y3.1.1) = true then
                some (((0, (strB []), 0, 0), 0, 4, ()), ())
              else
                if 0 ≤ at_ ∧ at_ ≤ y2.1.1 ∧ y2.1.1 ≤ (s.size : Int) then
                  some (((1, s.extract at_.toNat y2.1.1.toNat, 0, line), y2.1.1, 0, ()), ())
                else
                  none
          else
            none
      else
        (ref05_digit (bt s at_)).bind fun y4 =>
          if y4.1.1 = true then
            (ref05_word s at_).bind fun y5 =>
              if 0 ≤ at_ ∧ at_ ≤ y5.1.1 ∧ y5.1.1 ≤ (s.size : Int) then
                (ref05_Number (s.extract at_.toNat y5.1.1.toNat)).bind fun y6 =>
                  if (y6.1.2.1 != 0) = true then
                    some (((0, (strB []), 0, 0), 0, y6.1.2.1, ()), ())
                  else
                    if 0 ≤ at_ ∧ at_ ≤ y5.1.1 ∧ y5.1.1 ≤ (s.size : Int) then
                      some (((2, s.extract at_.toNat y5.1.1.toNat, y6.1.1, line), y5.1.1, 0, ()), ())
                    else
                      none
              else
                none
          else
            if ((bt s at_) == 45) = true then
              (ref05_word s at_).bind fun y7 =>
                if 0 ≤ at_ ∧ at_ ≤ y7.1.1 ∧ y7.1.1 ≤ (s.size : Int) then
                  (ref05_Number (s.extract at_.toNat y7.1.1.toNat)).bind fun y8 =>
                    if (y8.1.2.1 != 0) = true then
                      some (((0, (strB []), 0, 0), 0, y8.1.2.1, ()), ())
                    else
                      if 0 ≤ at_ ∧ at_ ≤ y7.1.1 ∧ y7.1.1 ≤ (s.size : Int) then
                        some (((2, s.extract at_.toNat y7.1.1.toNat, y8.1.1, line), y7.1.1, 0, ()), ())
                      else
                        none
                else
                  none
            else
              if ((bt s at_) == 34) = true then
                (ref05_quoted s at_).bind fun y9 =>
                  if (!y9.1.2.2.1) = true then
                    some (((0, (strB []), 0, 0), 0, 4, ()), ())
                  else
                    some (((3, y9.1.1, 0, line), y9.1.2.1, 0, ()), ())
              else
                (ref05_Mark (bt s at_)).bind fun y10 =>
                  if y10.1.1 = true then
                    if 0 ≤ at_ ∧ at_ ≤ IntKind.i64.wrap (at_ + 1) ∧ IntKind.i64.wrap (at_ + 1) ≤ (s.size : Int) then
                      some (((4, s.extract at_.toNat (IntKind.i64.wrap (at_ + 1)).toNat, 0, line), IntKind.i64.wrap (at_ + 1), 0, ()), ())
                    else
                      none
                  else
                    some (((0, (strB []), 0, 0), 0, 4, ()), ())
  else
    none
def fc22 : FC := ⟨⟨[.one .str, .one (.int .i64), .one (.int .i64)], []⟩, ⟨[.row (.cons (.int .i64) (.cons .str (.cons (.int .i64) (.int .i64)))), .one (.int .i64), .one (.int .i64)], []⟩, fun x => ref05_token x.1.1 x.1.2.1 x.1.2.2.1⟩
theorem con22 : Contract Try.prog 22 fc22 :=
  ref05_token_D.contract tok (cok_of (l := [(13, fc13), (15, fc15), (28, fc28), (32, fc32), (41, fc41), (42, fc42), (43, fc43)]) ⟨con13, con15, con28, con32, con41, con42, con43, trivial⟩) mixed (fn' := Try.f22) (by kernel_rfl) (by kernel_rfl) rfl (by kernel_rfl) (fun x => (FD.fn_eq _ _).trans (by kernel_rfl))
end
end Go.Proofs.Ytcflnhimlidbcaa
end

section
/-
Ytcflnhimlidbcaa: signalbench.signalbenchref05.Tokens, as one plain function, its equations, its contract. No condition.
-/
set_option maxRecDepth 100000
set_option linter.unusedVariables false
set_option maxHeartbeats 4000000
open Go Go.AM
namespace Go.Proofs.Ytcflnhimlidbcaa
noncomputable section
def ref05_Tokens_F8 : FSh := ⟨[(0, .one .str), (5, .one (.own 0)), (6, .one (.int .i64)), (7, .one (.int .i64))], [.arr 34 (.cons (.int .i64) (.cons .str (.cons (.int .i64) (.int .i64)))) true]⟩
def ref05_Tokens_F16 : FSh := ⟨[(0, .one .str), (5, .one (.own 0)), (6, .one (.int .i64)), (7, .one (.int .i64))], [.arr 34 (.cons (.int .i64) (.cons .str (.cons (.int .i64) (.int .i64)))) true]⟩
def ref05_Tokens_D : FD := ⟨T, lookC [(22, fc22)], [], (Try.f9.body.getD .skip), Try.f9.results.toList, ⟨[.one .str], []⟩, ⟨[.one (.sl (.cons (.int .i64) (.cons .str (.cons (.int .i64) (.int .i64))))), .one (.int .i64), .one (.int .i64)], []⟩, [(8, ref05_Tokens_F8), (16, ref05_Tokens_F16)]⟩
def ref05_Tokens_l8 (s : ByteArray) (line : Int) (i : Int) (l0 : (List TToken)) : (Option (((List TToken) × Int × Int × Unit) × Unit)) := ref05_Tokens_D.lab 8 ref05_Tokens_F8 ((s, (), line, i, ()), (l0, ()))
def ref05_Tokens_l16 (s : ByteArray) (line : Int) (i : Int) (l0 : (List TToken)) : (Option (((List TToken) × Int × Int × Unit) × Unit)) := ref05_Tokens_D.lab 16 ref05_Tokens_F16 ((s, (), line, i, ()), (l0, ()))
theorem ref05_Tokens_l8_eq (s : ByteArray) (line : Int) (i : Int) (l0 : (List TToken)) : ref05_Tokens_l8 s line i l0 =
  if (decide (i < (s.size : Int))) = true then
    if 0 ≤ i ∧ i < (s.size : Int) then
      if ((bt s i) == 10) = true then
        ref05_Tokens_l8 s (IntKind.i64.wrap (line + 1)) (IntKind.i64.wrap (i + 1)) l0
      else
        if ((bt s i) == 32) = true then
          ref05_Tokens_l8 s line (IntKind.i64.wrap (i + 1)) l0
        else
          if ((bt s i) == 9) = true then
            ref05_Tokens_l8 s line (IntKind.i64.wrap (i + 1)) l0
          else
            if ((bt s i) == 35) = true then
              ref05_Tokens_l16 s line i l0
            else
              (ref05_token s i line).bind fun y1 =>
                if (y1.1.2.2.1 != 0) = true then
                  some (([], line, y1.1.2.2.1, ()), ())
                else
                  if (l0.length + 1) * 40 ≤ 140737488355328 ∧ 0 < 40 then
                    ref05_Tokens_l8 s line y1.1.2.1 (l0 ++ [y1.1.1])
                  else
                    none
    else
      none
  else
    some ((l0, 0, 0, ()), ()) := (FD.lab_eq _ _ _ _).trans (by kernel_rfl)
theorem ref05_Tokens_l16_eq (s : ByteArray) (line : Int) (i : Int) (l0 : (List TToken)) : ref05_Tokens_l16 s line i l0 =
  if (decide (i < (s.size : Int))) = true then
    if 0 ≤ i ∧ i < (s.size : Int) then
      if ((bt s i) != 10) = true then
        ref05_Tokens_l16 s line (IntKind.i64.wrap (i + 1)) l0
      else
        ref05_Tokens_l8 s line i l0
    else
      none
  else
    ref05_Tokens_l8 s line i l0 := (FD.lab_eq _ _ _ _).trans (by kernel_rfl)
def ref05_Tokens (s : ByteArray) : (Option (((List TToken) × Int × Int × Unit) × Unit)) :=
  if (decide ((s.size : Int) > 1048576)) = true then
    some (([], 0, 6, ()), ())
  else
    ref05_Tokens_l8 s 1 0 []
def fc9 : FC := ⟨⟨[.one .str], []⟩, ⟨[.one (.sl (.cons (.int .i64) (.cons .str (.cons (.int .i64) (.int .i64))))), .one (.int .i64), .one (.int .i64)], []⟩, fun x => ref05_Tokens x.1.1⟩
theorem con9 : Contract Try.prog 9 fc9 :=
  ref05_Tokens_D.contract tok (cok_of (l := [(22, fc22)]) ⟨con22, trivial⟩) mixed (fn' := Try.f9) (by kernel_rfl) (by kernel_rfl) rfl (by kernel_rfl) (fun x => (FD.fn_eq _ _).trans (by kernel_rfl))
end
end Go.Proofs.Ytcflnhimlidbcaa
end

section
/-
Ytcflnhimlidbcaa: the plain functions of tokens come to what they should. No condition.
-/
set_option maxRecDepth 100000
open Go Go.AM
namespace Go.Proofs.Ytcflnhimlidbcaa

theorem lex_words_loop (s : ByteArray) (hs : s.size ≤ 1099511627776) : ∀ (r : List UInt8) (n : Nat), (L s).drop n = r → n ≤ s.size → lex_words_l3 s n = some ((((n + (r.takeWhile wordB).length : Nat) : Int), ()), ())
  | [], n, h, hn => by
    have := drop_nil h
    rw [L_len] at this
    rw [lex_words_l3_eq, if_neg (dF (by omega))]
    rfl
  | c :: r, n, h, hn => by
    have h1 := drop_lt h
    rw [L_len] at h1
    rw [lex_words_l3_eq, if_pos (dT (by omega)), if_pos ⟨by omega, by omega⟩, bt_drop h, w32c, lex_word_b]
    simp only [Option.bind_some, List.takeWhile_cons]
    cases hw : wordB c
    · simp
    · rw [if_pos rfl, w64a n (by omega), lex_words_loop s hs r (n + 1) (drop_succ h) (by omega)]
      simp only [if_true, List.length_cons]
      rw [show n + 1 + (r.takeWhile wordB).length = n + ((r.takeWhile wordB).length + 1) by omega]

theorem lex_words_b (s : ByteArray) (hs : s.size ≤ 1099511627776) : lex_words s = some (((((L s).takeWhile wordB).length : Int), ()), ()) := by
  have := lex_words_loop s hs (L s) 0 rfl (by omega)
  rw [Nat.zero_add] at this
  exact this

theorem ref05_word_loop (s : ByteArray) (hs : s.size ≤ 1099511627776) : ∀ (r : List UInt8) (n : Nat), (L s).drop n = r → n ≤ s.size → ref05_word_l3 s n = some ((((n + (r.takeWhile wordB).length : Nat) : Int), ()), ())
  | [], n, h, hn => by
    have := drop_nil h
    rw [L_len] at this
    rw [ref05_word_l3_eq, if_neg (dF (by omega))]
    rfl
  | c :: r, n, h, hn => by
    have h1 := drop_lt h
    rw [L_len] at h1
    rw [ref05_word_l3_eq, if_pos (dT (by omega)), if_pos ⟨by omega, by omega⟩, bt_drop h, ref05_inner_b]
    simp only [Option.bind_some, List.takeWhile_cons]
    cases hw : wordB c
    · simp
    · rw [if_pos rfl, w64a n (by omega), ref05_word_loop s hs r (n + 1) (drop_succ h) (by omega)]
      simp only [if_true, List.length_cons]
      rw [show n + 1 + (r.takeWhile wordB).length = n + ((r.takeWhile wordB).length + 1) by omega]

theorem ref05_word_b (s : ByteArray) (hs : s.size ≤ 1099511627776) (i : Nat) (c : UInt8) (r : List UInt8) (h : (L s).drop i = c :: r) : ref05_word s i = some ((((i + (1 + (r.takeWhile wordB).length) : Nat) : Int), ()), ()) := by
  have h1 := drop_lt h
  rw [L_len] at h1
  unfold ref05_word
  rw [w64a i (by omega), ref05_word_loop s hs r (i + 1) (drop_succ h) (by omega), Nat.add_assoc]

theorem lex_quoted_loop (s : ByteArray) (hs : s.size ≤ 1099511627776) : ∀ (k : Nat) (r : List UInt8) (i : Nat), (L s).drop i = r → r.length ≤ k → i ≤ s.size + 2 → lex_quoted_l3 s i = some ((match scanQ r with
    | some m => ((i + m + 1 : Nat) : Int)
    | none => 0, ()), ()) := by
  intro k
  induction k using Nat.strongRecOn with
  | _ k ih =>
    intro r i hr hk hi
    rw [lex_quoted_l3_eq]
    cases r with
    | nil =>
      have := drop_nil hr
      rw [L_len] at this
      rw [if_neg (dF (by omega))]; rfl
    | cons c r =>
      have h1 := drop_lt hr
      rw [L_len] at h1
      simp only [List.length_cons] at hk
      rw [if_pos (dT (by omega)), if_pos ⟨by omega, by omega⟩, bt_drop hr, scanQ_cons, w64a i (by omega)]
      have d1 := drop_succ hr
      by_cases g1 : c = 34
      · subst g1
        rw [if_pos (by decide), if_pos rfl]
      · rw [if_neg (show ¬ ((c.toNat : Int) == 34) = true from byte_ne g1), if_neg g1]
        by_cases g2 : c = 92
        · subst g2
          rw [if_pos (by decide), if_pos rfl, w64a (i + 1) (by omega)]
          cases r with
          | nil =>
            have := drop_nil d1
            rw [L_len] at this
            exact ih (k - 1) (by omega) [] (i + 1 + 1) (by rw [List.drop_of_length_le]; rw [L_len]; omega) (by simp) (by omega)
          | cons d r =>
            simp only [List.length_cons] at hk
            dsimp only
            rw [ih (k - 1) (by omega) r (i + 1 + 1) (drop_succ d1) (by omega) (by omega)]
            cases scanQ r with
            | none => rfl
            | some m => simp only [Option.map_some]; rw [show i + 1 + 1 + m + 1 = i + (m + 2) + 1 by omega]
        · rw [if_neg (show ¬ ((c.toNat : Int) == 92) = true from byte_ne g2), if_neg g2, ih (k - 1) (by omega) r (i + 1) d1 (by omega) (by omega)]
          cases scanQ r with
          | none => rfl
          | some m => simp only [Option.map_some]; rw [show i + 1 + m + 1 = i + (m + 1) + 1 by omega]

theorem or_if (b x : Bool) : (if b = true then some ((true, ()), ()) else some ((x, ()), ())) = some ((b || x, ()), ()) := by cases b <;> rfl

theorem lex_mark_b (c : UInt8) : lex_mark c.toNat = some ((markB c, ()), ()) := by
  unfold lex_mark markB marks
  simp only [or_if]
  simp only [show ((c.toNat : Int) == 40) = (c == 40) from int_beq c 40, show ((c.toNat : Int) == 41) = (c == 41) from int_beq c 41, show ((c.toNat : Int) == 91) = (c == 91) from int_beq c 91, show ((c.toNat : Int) == 93) = (c == 93) from int_beq c 93,
    show ((c.toNat : Int) == 123) = (c == 123) from int_beq c 123, show ((c.toNat : Int) == 125) = (c == 125) from int_beq c 125, show ((c.toNat : Int) == 60) = (c == 60) from int_beq c 60, show ((c.toNat : Int) == 62) = (c == 62) from int_beq c 62,
    show ((c.toNat : Int) == 61) = (c == 61) from int_beq c 61, show ((c.toNat : Int) == 44) = (c == 44) from int_beq c 44, show ((c.toNat : Int) == 59) = (c == 59) from int_beq c 59, show ((c.toNat : Int) == 58) = (c == 58) from int_beq c 58,
    show ((c.toNat : Int) == 46) = (c == 46) from int_beq c 46, show ((c.toNat : Int) == 47) = (c == 47) from int_beq c 47, show ((c.toNat : Int) == 42) = (c == 42) from int_beq c 42, show ((c.toNat : Int) == 43) = (c == 43) from int_beq c 43,
    show ((c.toNat : Int) == 33) = (c == 33) from int_beq c 33, show ((c.toNat : Int) == 38) = (c == 38) from int_beq c 38, show ((c.toNat : Int) == 124) = (c == 124) from int_beq c 124, List.contains_cons, List.contains_nil]

theorem ref05_Mark_loop (c : UInt8) (s : ByteArray) (hs : s.size ≤ 1000) : ∀ (r : List UInt8) (n : Nat), (L s).drop n = r → ref05_Mark_l4 c.toNat s n = some ((r.contains c, ()), ())
  | [], n, h => by
    have := drop_nil h
    rw [L_len] at this
    rw [ref05_Mark_l4_eq, if_neg (dF (by omega))]; rfl
  | d :: r, n, h => by
    have h1 := drop_lt h
    rw [L_len] at h1
    rw [ref05_Mark_l4_eq, if_pos (dT (by omega)), if_pos ⟨by omega, by omega⟩, bt_drop h, w64a n (by omega), ref05_Mark_loop c s hs r (n + 1) (drop_succ h), int_beq, or_if, List.contains_cons]
    rw [show (d == c) = (c == d) from by rw [Bool.eq_iff_iff, beq_iff_eq, beq_iff_eq]; exact eq_comm]

theorem ref05_Mark_b (c : UInt8) : ref05_Mark c.toNat = some ((markB c, ()), ()) := ref05_Mark_loop c _ (by decide) marks 0 rfl

theorem takeWhile_le (p : UInt8 → Bool) (l : List UInt8) : (l.takeWhile p).length ≤ l.length := (List.takeWhile_sublist p).length_le

theorem takeV_len {c : UInt8} {r : List UInt8} {t : Int × List UInt8 × Int} {n : Nat} (h : takeV (c :: r) = .ok (t, n)) : 1 ≤ n ∧ n ≤ r.length + 1 := by
  simp only [takeV] at h
  split at h
  · rename_i hc
    split at h
    · cases h
      have hw : wordB c = true := by simp [wordB, hc]
      rw [List.takeWhile_cons, if_pos hw]
      have := takeWhile_le wordB r
      simp only [List.length_cons]
      omega
    · cases h
  · split at h
    · split at h
      · cases h
        have := takeWhile_le wordB r
        omega
      · cases h
    · split at h
      · split at h
        · rename_i o rest hu
          cases h
          rw [unqL_scan _ _ (Nat.le_refl _)] at hu
          split at hu
          · cases hu
          · rename_i m hs
            have := scanQ_lt _ _ (Nat.le_refl _) m hs
            cases hi : unqI r.length (r.take m) with
            | none => rw [hi] at hu; cases hu
            | some o' =>
              rw [hi] at hu
              cases hu
              simp only [List.length_cons, List.length_drop]
              omega
        · cases h
      · split at h
        · cases h; omega
        · cases h

theorem numV_err (l : List UInt8) : (numV l).2 = 0 ∨ (numV l).2 = 4 ∨ (numV l).2 = 2 := by
  have key : ∀ b o, (numN b o).2 = 0 ∨ (numN b o).2 = 4 ∨ (numN b o).2 = 2 := by
    intro b o
    unfold numN
    split
    · simp
    · split
      · simp
      · split <;> simp
  unfold numV
  split <;> exact key _ _

theorem takeV_err {l : List UInt8} {e : Int} (h : takeV l = .error e) : e ≠ 0 := by
  cases l with
  | nil => cases h; decide
  | cons c r =>
    simp only [takeV] at h
    split at h
    · split at h
      · cases h
      · cases h; decide
    · split at h
      · split at h
        · cases h
        · rename_i hv
          cases h
          exact hv
      · split at h
        · split at h
          · cases h
          · cases h; decide
        · split at h
          · cases h
          · cases h; decide

/-- Numbers, as both functions take them. -/
theorem lex_take_num (s : ByteArray) (hs : s.size ≤ 1099511627776) (c : UInt8) (r : List UInt8) (hL : L s = c :: r) : (if 0 ≤ (1 : Int) ∧ 1 ≤ (s.size : Int) then
      (lex_words (s.extract 1 s.size)).bind fun y5 =>
        if 0 ≤ (0 : Int) ∧ (0 : Int) ≤ IntKind.i64.wrap (1 + y5.1.1) ∧ IntKind.i64.wrap (1 + y5.1.1) ≤ (s.size : Int) then
          (lex_Number (s.extract 0 (IntKind.i64.wrap (1 + y5.1.1)).toNat)).bind fun y6 =>
            if 0 ≤ (0 : Int) ∧ (0 : Int) ≤ IntKind.i64.wrap (1 + y5.1.1) ∧ IntKind.i64.wrap (1 + y5.1.1) ≤ (s.size : Int) then
              some ((((2 : Int), s.extract 0 (IntKind.i64.wrap (1 + y5.1.1)).toNat, y6.1.1, (0 : Int)), IntKind.i64.wrap (1 + y5.1.1), y6.1.2.1, ()), ())
            else
              none
        else
          none
    else
      none) = some (((2, strB ((c :: r).take (1 + (r.takeWhile wordB).length)), (numV ((c :: r).take (1 + (r.takeWhile wordB).length))).1, 0), ((1 + (r.takeWhile wordB).length : Nat) : Int), (numV ((c :: r).take (1 + (r.takeWhile wordB).length))).2, ()), ()) := by
  have hl := size_of hL
  simp only [List.length_cons] at hl
  have e := L_ext' s 1
  rw [hL, List.drop_succ_cons, List.drop_zero] at e
  have hw := takeWhile_le wordB r
  rw [if_pos ⟨by omega, by omega⟩, lex_words_b _ (by rw [size_drop]; omega), e]
  simp only [Option.bind_some]
  rw [show (1 : Int) + ((r.takeWhile wordB).length : Int) = (((1 + (r.takeWhile wordB).length : Nat)) : Int) by omega, w64 (by omega) (by omega), Int.toNat_natCast]
  rw [if_pos ⟨by omega, by omega, by omega⟩]
  have e2 : s.extract 0 (1 + (r.takeWhile wordB).length) = strB ((c :: r).take (1 + (r.takeWhile wordB).length)) := L_inj (by rw [L_take, hL, L_strB])
  rw [e2, lex_Number_b _ (by rw [strB_size, List.length_take]; simp only [List.length_cons]; omega), L_strB]
  simp only [Option.bind_some]
  rw [if_pos ⟨by omega, by omega, by omega⟩]

/-- What a function that takes a token comes to. -/
def TakeOk (line : Int) (i : Nat) (o : Option ((TToken × Int × Int × Unit) × Unit)) (v : Except Int ((Int × List UInt8 × Int) × Nat)) : Prop := match v with
  | .ok (t, n) => o = some (((t.1, strB t.2.1, t.2.2, line), ((i + n : Nat) : Int), 0, ()), ())
  | .error e => ∃ x n, o = some ((x, n, e, ()), ())

theorem take_ok {line : Int} {i n : Nat} {t : Int × List UInt8 × Int} {o : Option ((TToken × Int × Int × Unit) × Unit)} (h : o = some (((t.1, strB t.2.1, t.2.2, line), ((i + n : Nat) : Int), 0, ()), ())) : TakeOk line i o (.ok (t, n)) := h
theorem take_err {line : Int} {i : Nat} {e : Int} {x : TToken} {n : Int} : TakeOk line i (some ((x, n, e, ()), ())) (.error e) := ⟨x, n, rfl⟩

theorem lex_take_b (s : ByteArray) (hs : s.size ≤ 1099511627776) (c : UInt8) (r : List UInt8) (hL : L s = c :: r) : TakeOk 0 0 (lex_take s) (takeV (c :: r)) := by
  have hl := size_of hL
  simp only [List.length_cons] at hl
  unfold lex_take
  rw [if_pos ⟨by omega, by omega⟩, bt_cons hL, w32c, lex_letter_b, lex_digit_b]
  simp only [Option.bind_some]
  rw [lex_take_num s hs c r hL]
  simp only [takeV]
  by_cases h1 : letterB c = true
  · rw [if_pos h1, if_pos h1]
    have hw : ((c :: r).takeWhile wordB).length ≤ r.length + 1 := takeWhile_le wordB (c :: r)
    rw [lex_words_b s hs, hL]
    simp only [Option.bind_some, Int.toNat_natCast]
    rw [if_pos ⟨by omega, by omega, by omega⟩, if_pos ⟨by omega, by omega, by omega⟩]
    have e2 : s.extract 0 ((c :: r).takeWhile wordB).length = strB ((c :: r).take ((c :: r).takeWhile wordB).length) := L_inj (by rw [L_take, hL, L_strB])
    rw [e2, lex_Name_b, L_strB]
    simp only [Option.bind_some]
    cases hn : nameB ((c :: r).take ((c :: r).takeWhile wordB).length)
    · exact take_err
    · exact take_ok (by rw [Nat.zero_add]; rfl)
  · rw [if_neg h1, if_neg h1]
    by_cases h2 : digitB c = true ∨ c = 45
    · have e3 : ∀ (x y : Option ((TToken × Int × Int × Unit) × Unit)), (if digitB c = true then x else if ((c.toNat : Int) == 45) = true then x else y) = x := by
        intro x y
        rcases h2 with h2 | h2
        · rw [if_pos h2]
        · subst h2
          rw [if_neg (by decide), if_pos (by decide)]
      rw [e3, if_pos h2]
      by_cases hv : (numV ((c :: r).take (1 + (r.takeWhile wordB).length))).2 = 0
      · rw [if_pos hv, hv]
        exact take_ok (by rw [Nat.zero_add])
      · rw [if_neg hv]
        exact take_err
    · rw [if_neg (fun q => h2 (.inl q)), if_neg (show ¬ ((c.toNat : Int) == 45) = true from byte_ne (fun q => h2 (.inr q))), if_neg h2]
      by_cases h3 : c = 34
      · subst h3
        rw [if_pos (by decide), if_pos rfl]
        have hq := lex_quoted_loop s hs r.length r 1 (by rw [hL]; rfl) (Nat.le_refl _) (by omega)
        unfold lex_quoted
        rw [show (1 : Int) = ((1 : Nat) : Int) from rfl, hq, unqL_scan r.length r (Nat.le_refl _)]
        simp only [Option.bind_some]
        cases hsc : scanQ r with
        | none =>
          simp only
          rw [if_pos ⟨by omega, by omega, by omega⟩, lex_Unquote_b _ (by rw [size_take _ _ (by simp)]; simp), L_take]
          exact take_err
        | some m =>
          have hm := scanQ_lt _ _ (Nat.le_refl _) m hsc
          simp only [Int.toNat_natCast]
          have hm' := hm.1
          rw [if_pos ⟨by omega, by omega, by omega⟩, lex_Unquote_b _ (by rw [size_take _ _ (by omega)]; omega), L_take, hL]
          have e4 : (34 :: r).take (1 + m + 1) = 34 :: (r.take m ++ [34]) := by
            rw [show 1 + m + 1 = (m + 1) + 1 by omega, List.take_succ_cons, List.take_succ_eq_append_getElem hm', (List.getElem?_eq_some_iff.1 hm.2).2]
          rw [e4]
          have e5 : unqV (34 :: (r.take m ++ [34])) = unqI r.length (r.take m) := by
            unfold unqV
            simp only
            rw [List.getLast?_concat, if_pos rfl, List.dropLast_concat, unqI_fuel _ _ (by simp), unqI_fuel r.length _ (by rw [List.length_take]; omega)]
          rw [e5]
          cases hu : unqI r.length (r.take m) with
          | none => exact take_err
          | some o =>
            refine take_ok ?_
            simp only [Option.bind_some, Option.some.injEq, Prod.mk.injEq, and_true, true_and, List.length_cons, List.length_drop]
            omega
      · rw [if_neg (show ¬ ((c.toNat : Int) == 34) = true from byte_ne h3), if_neg h3, lex_mark_b]
        simp only [Option.bind_some]
        by_cases h4 : markB c = true
        · rw [if_pos h4, if_pos ⟨by omega, by omega, by omega⟩, if_pos h4]
          have e6 : s.extract 0 1 = strB [c] := L_inj (by rw [L_take, hL]; rfl)
          rw [e6]
          exact take_ok rfl
        · rw [if_neg h4, if_neg h4]
          exact take_err

theorem ref05_token_b (s : ByteArray) (hs : s.size ≤ 1099511627776) (line : Int) (i : Nat) (c : UInt8) (r : List UInt8) (h : (L s).drop i = c :: r) : TakeOk line i (ref05_token s i line) (takeV (c :: r)) := by
  have hi := drop_lt h
  rw [L_len] at hi
  have hrl : r.length + 1 = s.size - i := by
    have := congrArg List.length h
    rw [List.length_drop, L_len, List.length_cons] at this
    omega
  have hw := takeWhile_le wordB r
  have cut : ∀ n, s.extract i (i + n) = strB ((c :: r).take n) := fun n => L_inj (by rw [L_ext, L_strB, ← h, List.drop_take]; congr 1; omega)
  unfold ref05_token
  rw [if_pos ⟨by omega, by omega⟩, bt_drop h, ref05_letter_b, ref05_digit_b, ref05_word_b s hs i c r h]
  simp only [Option.bind_some, Int.toNat_natCast, takeV]
  rw [cut, ref05_Number_b _ (by rw [strB_size, List.length_take]; simp only [List.length_cons]; omega), L_strB]
  simp only [Option.bind_some]
  by_cases h1 : letterB c = true
  · rw [if_pos h1, if_pos h1]
    have hwc : wordB c = true := by simp [wordB, h1]
    have e1 : ((c :: r).takeWhile wordB).length = 1 + (r.takeWhile wordB).length := by rw [List.takeWhile_cons, if_pos hwc, List.length_cons]; omega
    rw [if_pos ⟨by omega, by omega, by omega⟩, if_pos ⟨by omega, by omega, by omega⟩, ref05_Name_b, L_strB, e1]
    simp only [Option.bind_some]
    cases hn : nameB ((c :: r).take (1 + (r.takeWhile wordB).length))
    · exact take_err
    · exact take_ok rfl
  · rw [if_neg h1, if_neg h1]
    by_cases h2 : digitB c = true ∨ c = 45
    · have e3 : ∀ (x y : Option ((TToken × Int × Int × Unit) × Unit)), (if digitB c = true then x else if ((c.toNat : Int) == 45) = true then x else y) = x := by
        intro x y
        rcases h2 with h2 | h2
        · rw [if_pos h2]
        · subst h2
          rw [if_neg (by decide), if_pos (by decide)]
      rw [e3, if_pos h2, if_pos ⟨by omega, by omega, by omega⟩]
      by_cases hv : (numV ((c :: r).take (1 + (r.takeWhile wordB).length))).2 = 0
      · rw [if_neg (nF hv), if_pos ⟨by omega, by omega, by omega⟩, if_pos hv]
        exact take_ok rfl
      · rw [if_pos (nT hv), if_neg hv]
        exact take_err
    · rw [if_neg (fun q => h2 (.inl q)), if_neg (show ¬ ((c.toNat : Int) == 45) = true from byte_ne (fun q => h2 (.inr q))), if_neg h2]
      by_cases h3 : c = 34
      · subst h3
        rw [if_pos (by decide), if_pos rfl, ref05_quoted_b s hs i r h]
        simp only [Option.bind_some]
        cases hu : unqL r.length r with
        | none => exact take_err
        | some p =>
          obtain ⟨o, rest⟩ := p
          have hrest : rest.length ≤ r.length := by
            rw [unqL_scan _ _ (Nat.le_refl _)] at hu
            split at hu
            · cases hu
            · cases hi' : unqI r.length (r.take _) with
              | none => rw [hi'] at hu; cases hu
              | some o' =>
                rw [hi'] at hu
                cases hu
                rw [List.length_drop]; omega
          refine take_ok ?_
          simp only [Bool.not_true, Bool.false_eq_true, if_false, Option.some.injEq, Prod.mk.injEq, and_true, true_and, List.length_cons]
          omega
      · rw [if_neg (show ¬ ((c.toNat : Int) == 34) = true from byte_ne h3), if_neg h3, ref05_Mark_b]
        simp only [Option.bind_some]
        by_cases h4 : markB c = true
        · rw [if_pos h4, w64a i (by omega), if_pos ⟨by omega, by omega, by omega⟩, if_pos h4, Int.toNat_natCast, cut 1]
          exact take_ok rfl
        · rw [if_neg h4, if_neg h4]
          exact take_err

theorem indexByte_drop : ∀ (l : List UInt8) (c : UInt8), (Lib.indexByte l c = -1 ∧ l.dropWhile (· ≠ c) = []) ∨ ∃ n : Nat, Lib.indexByte l c = n ∧ n ≤ l.length ∧ l.dropWhile (· ≠ c) = l.drop n
  | [], c => .inl ⟨rfl, rfl⟩
  | b :: l, c => by
    simp only [Lib.indexByte]
    by_cases h : b = c
    · subst h
      refine .inr ⟨0, by simp, by simp, by simp⟩
    · rw [if_neg (by simpa using h)]
      have e : (b :: l).dropWhile (· ≠ c) = l.dropWhile (· ≠ c) := by simp [List.dropWhile_cons, h]
      rw [e]
      rcases indexByte_drop l c with ⟨h1, h2⟩ | ⟨n, h1, h2, h3⟩
      · rw [h1]; exact .inl ⟨by decide, h2⟩
      · rw [h1, if_neg (by simp)]
        exact .inr ⟨n + 1, by simp, by simp; omega, by rw [h3]; rfl⟩

/-- What the loops over a text come to. -/
def tokOut (l0 : List TToken) : Except (Int × Int) (List TToken) → (List TToken × Int × Int × Unit)
  | .ok ts => (l0 ++ ts, 0, 0, ())
  | .error e => ([], e.1, e.2, ())

theorem dropWhile_le (p : UInt8 → Bool) (l : List UInt8) : (l.dropWhile p).length ≤ l.length := (List.dropWhile_sublist p).length_le

theorem lex_Tokens_loop : ∀ (k : Nat) (s : ByteArray) (line : Nat) (l0 : List TToken), (L s).length ≤ k → l0.length + (L s).length ≤ 1048576 → line + (L s).length ≤ 2097152 →
    lex_Tokens_l7 s line l0 = some (tokOut l0 (tokF k line (L s)), ()) := by
  intro k
  induction k using Nat.strongRecOn with
  | _ k ih =>
    intro s line l0 hk ha hb
    rw [lex_Tokens_l7_eq]
    cases hL : L s with
    | nil =>
      rw [if_neg (cond_nil hL)]
      have : tokF k line [] = .ok [] := by cases k <;> rfl
      rw [this]
      simp only [tokOut, List.append_nil]
    | cons c r =>
      have hl := size_of hL
      rw [hL] at hk ha hb
      simp only [List.length_cons] at hk ha hb hl
      obtain ⟨k, rfl⟩ : ∃ j, k = j + 1 := ⟨k - 1, by omega⟩
      have e1 := L_ext' s 1
      rw [hL, List.drop_succ_cons, List.drop_zero] at e1
      rw [if_pos (cond_not_nil hL), if_pos ⟨by omega, by omega⟩, bt_cons hL, tokF]
      by_cases h1 : c = 10
      · subst h1
        rw [if_pos (by decide), if_pos rfl, if_pos ⟨by omega, by omega⟩, w64a line (by omega), ih k (by omega) _ (line + 1) l0 (by rw [e1]; omega) (by rw [e1]; omega) (by rw [e1]; omega), e1]
        rfl
      · rw [if_neg (show ¬ ((c.toNat : Int) == 10) = true from byte_ne h1), if_neg h1]
        have blank : ∀ t, lex_Tokens_l15 s line t true l0 = some (tokOut l0 (tokF k line r), ()) := by
          intro t
          rw [lex_Tokens_l15_eq, if_pos rfl, if_pos ⟨by omega, by omega⟩, ih k (by omega) _ line l0 (by rw [e1]; omega) (by rw [e1]; omega) (by rw [e1]; omega), e1]
        by_cases h2 : c = 32
        · subst h2
          rw [if_pos (by decide), if_pos (.inl rfl)]
          exact blank _
        · rw [if_neg (show ¬ ((c.toNat : Int) == 32) = true from byte_ne h2)]
          by_cases h3 : c = 9
          · subst h3
            rw [show (((9 : UInt8).toNat : Int) == 9) = true from by decide, if_pos (.inr rfl)]
            exact blank _
          · rw [show ((c.toNat : Int) == 9) = false from by simpa using byte_ne h3, if_neg (by simp [h2, h3]), lex_Tokens_l15_eq, if_neg Bool.false_ne_true]
            by_cases h4 : c = 35
            · subst h4
              rw [if_pos (by decide), if_pos rfl]
              simp only [strings_IndexByte, Option.bind_some]
              rw [show (10 : Int).toNat.toUInt8 = 10 from rfl, show s.data.toList = L s from rfl, hL]
              have e2 : ((35 : UInt8) :: r).dropWhile (· ≠ 10) = r.dropWhile (· ≠ 10) := by simp [List.dropWhile_cons]
              have hdl := dropWhile_le (· ≠ 10) r
              rcases indexByte_drop (35 :: r) 10 with ⟨f1, f2⟩ | ⟨n, f1, f2, f3⟩
              · rw [f1, if_pos (by decide), if_pos ⟨by omega, by omega⟩, Int.toNat_natCast]
                have e3 := L_ext' s s.size
                rw [List.drop_of_length_le (by rw [L_len]; exact Nat.le_refl _)] at e3
                rw [ih k (by omega) _ line l0 (by rw [e3]; simp) (by rw [e3]; simp; omega) (by rw [e3]; simp; omega), e3, ← e2, f2]
              · simp only [List.length_cons] at f2
                rw [f1, if_neg (dF (by omega)), if_pos ⟨by omega, by omega⟩, Int.toNat_natCast]
                have e3 := L_ext' s n
                rw [hL, ← f3, e2] at e3
                rw [ih k (by omega) _ line l0 (by rw [e3]; omega) (by rw [e3]; omega) (by rw [e3]; omega), e3]
            · rw [if_neg (show ¬ ((c.toNat : Int) == 35) = true from byte_ne h4), if_neg h4]
              have ht := lex_take_b s (by omega) c r hL
              cases hv : takeV (c :: r) with
              | error e =>
                rw [hv] at ht
                obtain ⟨x, n, ht⟩ := ht
                rw [ht]
                simp only [Option.bind_some]
                rw [if_pos (nT (takeV_err hv))]
                rfl
              | ok p =>
                obtain ⟨t, n⟩ := p
                rw [hv] at ht
                have hn := takeV_len hv
                rw [show lex_take s = _ from ht]
                simp only [Option.bind_some]
                have e3 := L_ext' s n
                rw [hL] at e3
                have e4 : (L (s.extract n s.size)).length = r.length + 1 - n := by rw [e3, List.length_drop, List.length_cons]
                rw [if_neg (nF rfl), if_pos ⟨by omega, by omega⟩, if_pos ⟨by omega, by omega⟩, Int.toNat_natCast, Nat.zero_add,
                  ih k (by omega) _ line _ (by rw [e4]; omega) (by rw [e4, List.length_append, List.length_cons, List.length_nil]; omega) (by rw [e4]; omega), e3]
                cases tokF k line ((c :: r).drop n) with
                | error e => rfl
                | ok ts => simp only [tokOut, List.append_assoc, List.cons_append, List.nil_append]

theorem ref05_comment_loop (s : ByteArray) (hs : s.size ≤ 1048576) (line : Int) (l0 : List TToken) : ∀ (r : List UInt8) (i : Nat), (L s).drop i = r → i ≤ s.size → ref05_Tokens_l16 s line i l0 = ref05_Tokens_l8 s line ((s.size - (r.dropWhile (· ≠ 10)).length : Nat) : Int) l0
  | [], i, h, hi => by
    have := drop_nil h
    rw [L_len] at this
    rw [ref05_Tokens_l16_eq, if_neg (dF (by omega)), show i = s.size by omega]
    rfl
  | c :: r, i, h, hi => by
    have h1 := drop_lt h
    rw [L_len] at h1
    rw [ref05_Tokens_l16_eq, if_pos (dT (by omega)), if_pos ⟨by omega, by omega⟩, bt_drop h, w64a i (by omega)]
    by_cases g : c = 10
    · subst g
      rw [if_neg (by decide)]
      have : r.length + 1 = s.size - i := by
        have := congrArg List.length h
        rw [List.length_drop, L_len, List.length_cons] at this
        omega
      have e : ((10 : UInt8) :: r).dropWhile (· ≠ 10) = 10 :: r := by simp [List.dropWhile_cons]
      rw [e, List.length_cons, show s.size - (r.length + 1) = i by omega]
    · rw [if_pos (show ((c.toNat : Int) != 10) = true from byte_bne g), ref05_comment_loop s hs line l0 r (i + 1) (drop_succ h) (by omega)]
      have e : (c :: r).dropWhile (· ≠ 10) = r.dropWhile (· ≠ 10) := by simp [List.dropWhile_cons, g]
      rw [e]

theorem ref05_Tokens_loop (s : ByteArray) (hs : s.size ≤ 1048576) : ∀ (k : Nat) (r : List UInt8) (i line : Nat) (l0 : List TToken), (L s).drop i = r → r.length ≤ k → l0.length ≤ i → i ≤ s.size → line ≤ i + 1 →
    ref05_Tokens_l8 s line i l0 = some (tokOut l0 (tokF k line r), ()) := by
  intro k
  induction k using Nat.strongRecOn with
  | _ k ih =>
    intro r i line l0 hr hk ha hi hb
    rw [ref05_Tokens_l8_eq]
    cases r with
    | nil =>
      have := drop_nil hr
      rw [L_len] at this
      rw [if_neg (dF (by omega))]
      have : tokF k line [] = .ok [] := by cases k <;> rfl
      rw [this]
      simp only [tokOut, List.append_nil]
    | cons c r =>
      have h1 := drop_lt hr
      rw [L_len] at h1
      simp only [List.length_cons] at hk
      obtain ⟨k, rfl⟩ : ∃ j, k = j + 1 := ⟨k - 1, by omega⟩
      have hrl : r.length + 1 = s.size - i := by
        have := congrArg List.length hr
        rw [List.length_drop, L_len, List.length_cons] at this
        omega
      have d1 := drop_succ hr
      rw [if_pos (dT (by omega)), if_pos ⟨by omega, by omega⟩, bt_drop hr, tokF, w64a i (by omega)]
      by_cases g1 : c = 10
      · subst g1
        rw [if_pos (by decide), if_pos rfl, w64a line (by omega), ih k (by omega) r (i + 1) (line + 1) l0 d1 (by omega) (by omega) (by omega) (by omega)]
        rfl
      · rw [if_neg (show ¬ ((c.toNat : Int) == 10) = true from byte_ne g1), if_neg g1]
        by_cases g2 : c = 32
        · subst g2
          rw [if_pos (by decide), if_pos (.inl rfl), ih k (by omega) r (i + 1) line l0 d1 (by omega) (by omega) (by omega) (by omega)]
        · rw [if_neg (show ¬ ((c.toNat : Int) == 32) = true from byte_ne g2)]
          by_cases g3 : c = 9
          · subst g3
            rw [if_pos (by decide), if_pos (.inr rfl), ih k (by omega) r (i + 1) line l0 d1 (by omega) (by omega) (by omega) (by omega)]
          · rw [if_neg (show ¬ ((c.toNat : Int) == 9) = true from byte_ne g3), if_neg (show ¬ (c = 32 ∨ c = 9) by simp [g2, g3])]
            by_cases g4 : c = 35
            · subst g4
              rw [if_pos (by decide), if_pos rfl, ref05_comment_loop s hs line l0 (35 :: r) i hr hi]
              have e2 : ((35 : UInt8) :: r).dropWhile (· ≠ 10) = r.dropWhile (· ≠ 10) := by simp [List.dropWhile_cons]
              have hdl := dropWhile_le (· ≠ 10) r
              rw [e2]
              have e3 : (L s).drop (s.size - (r.dropWhile (· ≠ 10)).length) = r.dropWhile (· ≠ 10) := by
                obtain ⟨t, ht⟩ : ∃ t, t ++ r.dropWhile (· ≠ 10) = r := ⟨_, List.takeWhile_append_dropWhile⟩
                have hlen : t.length + (r.dropWhile (· ≠ 10)).length = r.length := by rw [← List.length_append, ht]
                rw [show s.size - (r.dropWhile (· ≠ 10)).length = (i + 1) + t.length by omega, ← List.drop_drop, d1]
                conv => lhs; rw [← ht]
                rw [List.drop_left]
              rw [ih k (by omega) _ _ line l0 e3 (by omega) (by omega) (by omega) (by omega)]
            · rw [if_neg (show ¬ ((c.toNat : Int) == 35) = true from byte_ne g4), if_neg g4]
              have ht := ref05_token_b s (by omega) line i c r hr
              cases hv : takeV (c :: r) with
              | error e =>
                rw [hv] at ht
                obtain ⟨x, n, ht⟩ := ht
                rw [ht]
                simp only [Option.bind_some]
                rw [if_pos (nT (takeV_err hv))]
                rfl
              | ok p =>
                obtain ⟨t, n⟩ := p
                rw [hv] at ht
                have hn := takeV_len hv
                rw [show ref05_token s i line = _ from ht]
                simp only [Option.bind_some]
                have e3 : (L s).drop (i + n) = (c :: r).drop n := by rw [← hr, List.drop_drop]
                rw [if_neg (nF rfl), if_pos ⟨by omega, by omega⟩,
                  ih k (by omega) _ (i + n) line _ e3 (by rw [List.length_drop, List.length_cons]; omega) (by rw [List.length_append, List.length_cons, List.length_nil]; omega) (by omega) (by omega)]
                cases tokF k line ((c :: r).drop n) with
                | error e => rfl
                | ok ts => simp only [tokOut, List.append_assoc, List.cons_append, List.nil_append]

theorem lex_Tokens_b (s : ByteArray) : lex_Tokens s = some (tokOut [] (tokV (L s)), ()) := by
  unfold lex_Tokens tokV
  rw [L_len]
  by_cases h : s.size > 1048576
  · rw [if_pos (dT (by omega)), if_pos h]; rfl
  · rw [if_neg (dF (by omega)), if_neg h]
    exact lex_Tokens_loop s.size s 1 [] (by rw [L_len]; exact Nat.le_refl _) (by rw [L_len]; simp; omega) (by rw [L_len]; omega)

theorem ref05_Tokens_b (s : ByteArray) : ref05_Tokens s = some (tokOut [] (tokV (L s)), ()) := by
  unfold ref05_Tokens tokV
  rw [L_len]
  by_cases h : s.size > 1048576
  · rw [if_pos (dT (by omega)), if_pos h]; rfl
  · rw [if_neg (dF (by omega)), if_neg h]
    exact ref05_Tokens_loop s (by omega) s.size (L s) 0 1 [] rfl (by rw [L_len]; exact Nat.le_refl _) (by simp) (by omega) (by omega)

end Go.Proofs.Ytcflnhimlidbcaa
end

section
/-
Ytcflnhimlidbcaa: signalbench.signalbenchlaw05.same, as one plain function, its equations, its contract. No condition.
-/
set_option maxRecDepth 100000
set_option linter.unusedVariables false
set_option maxHeartbeats 4000000
open Go Go.AM
namespace Go.Proofs.Ytcflnhimlidbcaa
noncomputable section
def law05_same_F6 : FSh := ⟨[(0, .one (.sl (.cons (.int .i64) (.cons .str (.cons (.int .i64) (.int .i64)))))), (1, .one (.sl (.cons (.int .i64) (.cons .str (.cons (.int .i64) (.int .i64)))))), (5, .one (.int .i64))], []⟩
def law05_same_D : FD := ⟨T, lookC [], [], (Try.f10.body.getD .skip), Try.f10.results.toList, ⟨[.one (.sl (.cons (.int .i64) (.cons .str (.cons (.int .i64) (.int .i64))))), .one (.sl (.cons (.int .i64) (.cons .str (.cons (.int .i64) (.int .i64)))))], []⟩, ⟨[.one .bool], []⟩, [(6, law05_same_F6)]⟩
def law05_same_l6 (a : (List TToken)) (b : (List TToken)) (i : Int) : (Option ((Bool × Unit) × Unit)) := law05_same_D.lab 6 law05_same_F6 ((a, b, i, ()), ())
theorem law05_same_l6_eq (a : (List TToken)) (b : (List TToken)) (i : Int) : law05_same_l6 a b i =
  if (decide (i < (a.length : Int))) = true then
    if 0 ≤ i ∧ i < (a.length : Int) then
      if 0 ≤ i ∧ i < (b.length : Int) then
        if (!(eqU uToken (a.getD i.toNat dToken) (b.getD i.toNat dToken))) = true then
          some ((false, ()), ())
        else
          law05_same_l6 a b (IntKind.i64.wrap (i + 1))
      else
        none
    else
      none
  else
    some ((true, ()), ()) := (FD.lab_eq _ _ _ _).trans (by kernel_rfl)
def law05_same (a : (List TToken)) (b : (List TToken)) : (Option ((Bool × Unit) × Unit)) :=
  if ((a.length : Int) != (b.length : Int)) = true then
    some ((false, ()), ())
  else
    law05_same_l6 a b 0
def fc10 : FC := ⟨⟨[.one (.sl (.cons (.int .i64) (.cons .str (.cons (.int .i64) (.int .i64))))), .one (.sl (.cons (.int .i64) (.cons .str (.cons (.int .i64) (.int .i64)))))], []⟩, ⟨[.one .bool], []⟩, fun x => law05_same x.1.1 x.1.2.1⟩
theorem con10 : Contract Try.prog 10 fc10 :=
  law05_same_D.contract tok (cok_of (l := []) trivial) mixed (fn' := Try.f10) (by kernel_rfl) (by kernel_rfl) rfl (by kernel_rfl) (fun x => (FD.fn_eq _ _).trans (by kernel_rfl))
end
end Go.Proofs.Ytcflnhimlidbcaa
end

section
/-
Ytcflnhimlidbcaa: signalbench.signalbenchlaw05.awake, as one plain function, its equations, its contract. No condition.
-/
set_option maxRecDepth 100000
set_option linter.unusedVariables false
set_option maxHeartbeats 4000000
open Go Go.AM
namespace Go.Proofs.Ytcflnhimlidbcaa
noncomputable section
def law05_awake_D : FD := ⟨T, lookC [(8, fc8), (10, fc10), (12, fc12), (14, fc14), (16, fc16)], [], (Try.f11.body.getD .skip), Try.f11.results.toList, ⟨[], []⟩, ⟨[.one .bool], []⟩, []⟩
def law05_awake : (Option ((Bool × Unit) × Unit)) :=
  (lex_Tokens (strB [97, 50, 32, 61, 32, 45, 48, 120, 49, 102, 59, 32, 35, 32, 101, 110, 100])).bind fun y1 =>
    (lex_Number (strB [57, 48, 48, 55, 49, 57, 57, 50, 53, 52, 55, 52, 48, 57, 57, 50])).bind fun y2 =>
      (lex_Unquote (strB [34, 97, 92, 110, 92, 34, 92, 120, 102, 102, 34])).bind fun y3 =>
        (law05_same y1.1.1 [(1, (strB [97, 50]), 0, 1), (4, (strB [61]), 0, 1), (2, (strB [45, 48, 120, 49, 102]), (-31), 1), (4, (strB [59]), 0, 1)]).bind fun y4 =>
          if y4.1.1 = true then
            if (y1.1.2.1 == 0) = true then
              if (y1.1.2.2.1 == 0) = true then
                if (y2.1.1 == 9007199254740992) = true then
                  if (y2.1.2.1 == 0) = true then
                    if (y3.1.1.toList == (strB [97, 10, 34, 255]).toList) = true then
                      if (y3.1.2.1 == 0) = true then
                        (lex_Name (strB [97, 95, 49])).bind fun y5 =>
                          if y5.1.1 = true then
                            (lex_Name (strB [49, 97])).bind fun y6 =>
                              some ((!y6.1.1, ()), ())
                          else
                            some ((false, ()), ())
                      else
                        some ((false, ()), ())
                    else
                      some ((false, ()), ())
                  else
                    some ((false, ()), ())
                else
                  some ((false, ()), ())
              else
                some ((false, ()), ())
            else
              some ((false, ()), ())
          else
            some ((false, ()), ())
def fc11 : FC := ⟨⟨[], []⟩, ⟨[.one .bool], []⟩, fun x => law05_awake⟩
theorem con11 : Contract Try.prog 11 fc11 :=
  law05_awake_D.contract tok (cok_of (l := [(8, fc8), (10, fc10), (12, fc12), (14, fc14), (16, fc16)]) ⟨con8, con10, con12, con14, con16, trivial⟩) mixed (fn' := Try.f11) (by kernel_rfl) (by kernel_rfl) rfl (by kernel_rfl) (fun x => (FD.fn_eq _ _).trans (by kernel_rfl))
end
end Go.Proofs.Ytcflnhimlidbcaa
end

section
/-
Ytcflnhimlidbcaa: signalbench.signalbenchlaw05.LexTokens, as one plain function, its equations, its contract. No condition.
-/
set_option maxRecDepth 100000
set_option linter.unusedVariables false
set_option maxHeartbeats 4000000
open Go Go.AM
namespace Go.Proofs.Ytcflnhimlidbcaa
noncomputable section
def law05_LexTokens_D : FD := ⟨T, lookC [(8, fc8), (9, fc9), (10, fc10), (11, fc11)], [], (Try.f3.body.getD .skip), Try.f3.results.toList, ⟨[.one .str], []⟩, ⟨[.one .bool], []⟩, []⟩
def law05_LexTokens (s : ByteArray) : (Option ((Bool × Unit) × Unit)) :=
  (lex_Tokens s).bind fun y1 =>
    (ref05_Tokens s).bind fun y2 =>
      (law05_same y1.1.1 y2.1.1).bind fun y3 =>
        if y3.1.1 = true then
          if (y1.1.2.1 == y2.1.2.1) = true then
            if (y1.1.2.2.1 == y2.1.2.2.1) = true then
              (law05_awake).bind fun y4 =>
                some ((y4.1.1, ()), ())
            else
              some ((false, ()), ())
          else
            some ((false, ()), ())
        else
          some ((false, ()), ())
def fc3 : FC := ⟨⟨[.one .str], []⟩, ⟨[.one .bool], []⟩, fun x => law05_LexTokens x.1.1⟩
theorem con3 : Contract Try.prog 3 fc3 :=
  law05_LexTokens_D.contract tok (cok_of (l := [(8, fc8), (9, fc9), (10, fc10), (11, fc11)]) ⟨con8, con9, con10, con11, trivial⟩) mixed (fn' := Try.f3) (by kernel_rfl) (by kernel_rfl) rfl (by kernel_rfl) (fun x => (FD.fn_eq _ _).trans (by kernel_rfl))
end
end Go.Proofs.Ytcflnhimlidbcaa
end

section
/-
Ytcflnhimlidbcaa: signalbench.signalbenchlaw05.LexNumbers, as one plain function, its equations, its contract. No condition.
-/
set_option maxRecDepth 100000
set_option linter.unusedVariables false
set_option maxHeartbeats 4000000
open Go Go.AM
namespace Go.Proofs.Ytcflnhimlidbcaa
noncomputable section
def law05_LexNumbers_D : FD := ⟨T, lookC [(11, fc11), (12, fc12), (13, fc13), (14, fc14), (15, fc15)], [], (Try.f4.body.getD .skip), Try.f4.results.toList, ⟨[.one .str], []⟩, ⟨[.one .bool], []⟩, []⟩
def law05_LexNumbers (s : ByteArray) : (Option ((Bool × Unit) × Unit)) :=
  (lex_Number s).bind fun y1 =>
    (ref05_Number s).bind fun y2 =>
      if (y1.1.1 == y2.1.1) = true then
        if (y1.1.2.1 == y2.1.2.1) = true then
          (lex_Name s).bind fun y3 =>
            (ref05_Name s).bind fun y4 =>
              if (y3.1.1 == y4.1.1) = true then
                (law05_awake).bind fun y5 =>
                  some ((y5.1.1, ()), ())
              else
                some ((false, ()), ())
        else
          some ((false, ()), ())
      else
        some ((false, ()), ())
def fc4 : FC := ⟨⟨[.one .str], []⟩, ⟨[.one .bool], []⟩, fun x => law05_LexNumbers x.1.1⟩
theorem con4 : Contract Try.prog 4 fc4 :=
  law05_LexNumbers_D.contract tok (cok_of (l := [(11, fc11), (12, fc12), (13, fc13), (14, fc14), (15, fc15)]) ⟨con11, con12, con13, con14, con15, trivial⟩) mixed (fn' := Try.f4) (by kernel_rfl) (by kernel_rfl) rfl (by kernel_rfl) (fun x => (FD.fn_eq _ _).trans (by kernel_rfl))
end
end Go.Proofs.Ytcflnhimlidbcaa
end

section
/-
Ytcflnhimlidbcaa: signalbench.signalbenchlaw05.LexUnquotes, as one plain function, its equations, its contract. No condition.
-/
set_option maxRecDepth 100000
set_option linter.unusedVariables false
set_option maxHeartbeats 4000000
open Go Go.AM
namespace Go.Proofs.Ytcflnhimlidbcaa
noncomputable section
def law05_LexUnquotes_D : FD := ⟨T, lookC [(11, fc11), (16, fc16), (17, fc17)], [], (Try.f5.body.getD .skip), Try.f5.results.toList, ⟨[.one .str], []⟩, ⟨[.one .bool], []⟩, []⟩
def law05_LexUnquotes (s : ByteArray) : (Option ((Bool × Unit) × Unit)) :=
  (lex_Unquote s).bind fun y1 =>
    (ref05_Unquote s).bind fun y2 =>
      if (y1.1.1.toList == y2.1.1.toList) = true then
        if (y1.1.2.1 == y2.1.2.1) = true then
          (law05_awake).bind fun y3 =>
            some ((y3.1.1, ()), ())
        else
          some ((false, ()), ())
      else
        some ((false, ()), ())
def fc5 : FC := ⟨⟨[.one .str], []⟩, ⟨[.one .bool], []⟩, fun x => law05_LexUnquotes x.1.1⟩
theorem con5 : Contract Try.prog 5 fc5 :=
  law05_LexUnquotes_D.contract tok (cok_of (l := [(11, fc11), (16, fc16), (17, fc17)]) ⟨con11, con16, con17, trivial⟩) mixed (fn' := Try.f5) (by kernel_rfl) (by kernel_rfl) rfl (by kernel_rfl) (fun x => (FD.fn_eq _ _).trans (by kernel_rfl))
end
end Go.Proofs.Ytcflnhimlidbcaa
end

section
/-
Ytcflnhimlidbcaa: the laws of tokens, numbers and quoted strings, as plain functions, come to true. No condition.
-/
set_option maxRecDepth 100000
open Go Go.AM
namespace Go.Proofs.Ytcflnhimlidbcaa

theorem same_loop (a : List TToken) (ha : a.length ≤ 4611686018427387904) : ∀ (d i : Nat), a.length - i = d → i ≤ a.length → law05_same_l6 a a i = some ((true, ()), ())
  | 0, i, h, hi => by rw [law05_same_l6_eq, if_neg (dF (by omega))]
  | d + 1, i, h, hi => by
    rw [law05_same_l6_eq, if_pos (dT (by omega)), if_pos ⟨by omega, by omega⟩, if_pos ⟨by omega, by omega⟩, (eqU_iff uToken rfl _ _).2 rfl, if_neg (by simp), w64a i (by omega)]
    exact same_loop a ha d (i + 1) (by omega) (by omega)

theorem same_refl (a : List TToken) (ha : a.length ≤ 4611686018427387904) : law05_same a a = some ((true, ()), ()) := by
  unfold law05_same
  rw [if_neg (nF rfl)]
  exact same_loop a ha a.length 0 (by omega) (by omega)

theorem awake_tokens : tokV [97, 50, 32, 61, 32, 45, 48, 120, 49, 102, 59, 32, 35, 32, 101, 110, 100] = .ok [(1, strB [97, 50], 0, 1), (4, strB [61], 0, 1), (2, strB [45, 48, 120, 49, 102], (-31), 1), (4, strB [59], 0, 1)] := by kernel_rfl

theorem awake_b : law05_awake = some ((true, ()), ()) := by
  unfold law05_awake
  rw [lex_Tokens_b, L_strB, awake_tokens, lex_Number_b _ (by decide), lex_Unquote_b _ (by decide)]
  simp only [Option.bind_some, tokOut, List.nil_append]
  rw [same_refl _ (by decide), lex_Name_b, lex_Name_b]
  kernel_rfl

theorem tokF_length : ∀ (k : Nat) (line : Int) (l : List UInt8) (ts : List TToken), tokF k line l = .ok ts → ts.length ≤ l.length := by
  intro k
  induction k with
  | zero => intro line l ts h; cases l <;> cases h <;> simp
  | succ k ih =>
    intro line l ts h
    cases l with
    | nil => cases h; simp
    | cons c r =>
      rw [tokF] at h
      split at h
      · have := ih _ _ _ h; simp only [List.length_cons]; omega
      · split at h
        · have := ih _ _ _ h; simp only [List.length_cons]; omega
        · split at h
          · have := ih _ _ _ h
            have := dropWhile_le (· ≠ 10) r
            simp only [List.length_cons]; omega
          · split at h
            · cases h
            · rename_i t n hv
              have hn := takeV_len hv
              split at h
              · rename_i ts' ht
                cases h
                have := ih _ _ _ ht
                rw [List.length_drop] at this
                simp only [List.length_cons] at this ⊢
                omega
              · cases h

theorem tokOut_length (s : ByteArray) : (tokOut [] (tokV (L s))).1.length ≤ 1048576 := by
  unfold tokV
  split
  · simp [tokOut]
  · cases h : tokF (L s).length 1 (L s) with
    | ok ts =>
      have := tokF_length _ _ _ _ h
      simp only [tokOut, List.nil_append]
      omega
    | error e => simp [tokOut]

theorem LexTokens_true (s : ByteArray) : law05_LexTokens s = some ((true, ()), ()) := by
  unfold law05_LexTokens
  rw [lex_Tokens_b, ref05_Tokens_b, awake_b]
  simp only [Option.bind_some]
  rw [same_refl _ (Nat.le_trans (tokOut_length s) (by decide))]
  simp

theorem LexNumbers_true (s : ByteArray) (hs : s.size ≤ 1048576) : law05_LexNumbers s = some ((true, ()), ()) := by
  unfold law05_LexNumbers
  rw [lex_Number_b s (by omega), ref05_Number_b s (by omega), lex_Name_b, ref05_Name_b, awake_b]
  simp

theorem LexUnquotes_true (s : ByteArray) (hs : s.size ≤ 1048576) : law05_LexUnquotes s = some ((true, ()), ()) := by
  unfold law05_LexUnquotes
  rw [lex_Unquote_b s (by omega), ref05_Unquote_b s (by omega), awake_b]
  simp

end Go.Proofs.Ytcflnhimlidbcaa
end

section
/-
Ytcflnhimlidbcaa: the given measure of what is read is the machine's. No condition.
-/
namespace Go.Proofs.Ytcflnhimlidbcaa
open Go

mutual
theorem bulk_eq {H : Type} : ∀ d : DataW H, Rows.uptoBulk d = AM.bulkW d
  | .lit (.string _) => by simp [Rows.uptoBulk, AM.bulkW]
  | .lit (.bool _) => by simp [Rows.uptoBulk, AM.bulkW]
  | .lit (.int _ _) => by simp [Rows.uptoBulk, AM.bulkW]
  | .lit (.float _ _) => by simp [Rows.uptoBulk, AM.bulkW]
  | .lit .nil => by simp [Rows.uptoBulk, AM.bulkW]
  | .nil => by simp [Rows.uptoBulk, AM.bulkW]
  | .ptr d => by simp [Rows.uptoBulk, AM.bulkW, bulk_eq d]
  | .slice a b => by simp [Rows.uptoBulk, AM.bulkW, bulkAll_eq a, bulkAll_eq b]
  | .agg a => by simp [Rows.uptoBulk, AM.bulkW, bulkAll_eq a]
  | .iface _ d => by simp [Rows.uptoBulk, AM.bulkW, bulk_eq d]
  | .map es => by simp [Rows.uptoBulk, AM.bulkW, bulkEntries_eq es]
  | .held _ => by simp [Rows.uptoBulk, AM.bulkW]
theorem bulkAll_eq {H : Type} : ∀ l : List (DataW H), Rows.uptoBulkAll l = AM.bulkAll l
  | [] => by simp [Rows.uptoBulkAll, AM.bulkAll]
  | d :: r => by simp [Rows.uptoBulkAll, AM.bulkAll, bulk_eq d, bulkAll_eq r]
theorem bulkEntries_eq {H : Type} : ∀ l : List (Lit × DataW H), Rows.uptoBulkEntries l = AM.bulkEntries l
  | [] => by simp [Rows.uptoBulkEntries, AM.bulkEntries]
  | x :: r => by simp [Rows.uptoBulkEntries, AM.bulkEntries, bulkEntry_eq x, bulkEntries_eq r]
theorem bulkEntry_eq {H : Type} : ∀ x : Lit × DataW H, Rows.uptoBulkEntry x = AM.bulkEntry x
  | (.string _, d) => by simp [Rows.uptoBulkEntry, AM.bulkEntry, bulk_eq d]
  | (.bool _, d) => by simp [Rows.uptoBulkEntry, AM.bulkEntry, bulk_eq d]
  | (.int _ _, d) => by simp [Rows.uptoBulkEntry, AM.bulkEntry, bulk_eq d]
  | (.float _ _, d) => by simp [Rows.uptoBulkEntry, AM.bulkEntry, bulk_eq d]
  | (.nil, d) => by simp [Rows.uptoBulkEntry, AM.bulkEntry, bulk_eq d]
end

theorem bulk_bound {H : Type} {l : List (DataW H)} (hk : Rows.uptoSmall H l = true) : AM.bulkAll l ≤ 1048576 := by
  rw [← bulkAll_eq]
  exact of_decide_eq_true hk

theorem own : ownKnob Try.prog.godebug = none := by kernel_rfl
theorem laidOut : laidOutB Try.prog = true := by kernel_rfl

end Go.Proofs.Ytcflnhimlidbcaa
end
