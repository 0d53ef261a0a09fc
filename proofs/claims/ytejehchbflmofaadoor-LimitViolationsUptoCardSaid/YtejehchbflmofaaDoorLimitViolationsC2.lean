/-
The plain functions of the program that the law LimitViolations reaches, that the program computes them, and what they come to. No condition.
-/
import Derived.Test.YtejehchbflmofaaDoorAm1
import Derived.Test.YtejehchbflmofaaDoorAm2
import Derived.Test.YtejehchbflmofaaDoorAm3
import Derived.Test.YtejehchbflmofaaDoorLimitViolationsC1
set_option linter.unusedVariables false
set_option linter.unusedSimpArgs false
set_option linter.unusedSectionVars false

section
/-
YtejehchbflmofaaDoor: signalbench.signalbenchlaw49.awake, as one plain function, its equations, its contract. No condition.
-/
set_option maxRecDepth 100000
set_option linter.unusedVariables false
set_option maxHeartbeats 4000000
open Go Go.AM
namespace Go.Proofs.YtejehchbflmofaaDoor
noncomputable section
def law49_awake_D : FD := ⟨T, lookC [(11, fc11), (12, fc12), (15, fc15), (16, fc16)], [], (Tryd.f8.body.getD .skip), Tryd.f8.results.toList, ⟨[], []⟩, ⟨[.one .bool], []⟩, []⟩
def law49_awake : (Option ((Bool × Unit) × Unit)) :=
  (limit_Print [(4, (strB [100]), (strB [99]), true, 4, 9)]).bind fun y1 =>
    (limit_Gaps ([(strB [100]), (strB [99])], [(0, 10), (1, 4), (3, 5)]) (4, (strB [100]), (strB [99]), true, 4, 9)).bind fun y2 =>
      (limit_Parse y1.1.1).bind fun y3 =>
        (limit_Find ([(strB [100]), (strB [99])], [(0, 10), (1, 4), (3, 5)]) [(4, (strB [100]), (strB [99]), true, 4, 9)]).bind fun y4 =>
          (limit_Find ([(strB [100]), (strB [99])], [(0, 10), (1, 4), (3, 5)]) [(4, (strB [100]), (strB [99]), true, 5, 9)]).bind fun y5 =>
            if (y1.1.2.1 != 0) = true then
              some ((false, ()), ())
            else
              if (y2.1.2.1 != 0) = true then
                some ((false, ()), ())
              else
                if (y3.1.2.2.1 != 0) = true then
                  some ((false, ()), ())
                else
                  if (y4.1.2.1 != 0) = true then
                    some ((false, ()), ())
                  else
                    if (y5.1.2.1 != 0) = true then
                      some ((false, ()), ())
                    else
                      if (y3.1.2.1 != 0) = true then
                        some ((false, ()), ())
                      else
                        if ((y2.1.1.length : Int) != 1) = true then
                          some ((false, ()), ())
                        else
                          if ((y3.1.1.length : Int) != 1) = true then
                            some ((false, ()), ())
                          else
                            if ((y4.1.1.length : Int) != 0) = true then
                              some ((false, ()), ())
                            else
                              if ((y5.1.1.length : Int) != 1) = true then
                                some ((false, ()), ())
                              else
                                if (y1.1.1.toList == (strB [115, 101, 116, 117, 112, 32, 100, 32, 99, 32, 114, 105, 115, 101, 32, 52, 32, 46, 32, 46, 32, 57, 32, 59]).toList) = true then
                                  if 0 ≤ (0 : Int) ∧ 0 < (y2.1.1.length : Int) then
                                    if (eqU uGap (y2.1.1.getD 0 dGap) (10, 4)) = true then
                                      if 0 ≤ (0 : Int) ∧ 0 < (y3.1.1.length : Int) then
                                        if ((y3.1.1.getD 0 dLimit).2.2.2.2.1 == 4) = true then
                                          if 0 ≤ (0 : Int) ∧ 0 < (y5.1.1.length : Int) then
                                            if 0 ≤ (0 : Int) ∧ 0 < (y2.1.1.length : Int) then
                                              some ((eqU uViolation (y5.1.1.getD 0 dViolation) (0, (y2.1.1.getD 0 dGap)), ()), ())
                                            else
                                              none
                                          else
                                            none
                                        else
                                          some ((false, ()), ())
                                      else
                                        none
                                    else
                                      some ((false, ()), ())
                                  else
                                    none
                                else
                                  some ((false, ()), ())
def fc8 : FC := ⟨⟨[], []⟩, ⟨[.one .bool], []⟩, fun x => law49_awake⟩
theorem con8 : Contract Tryd.prog 8 fc8 :=
  law49_awake_D.contract tok (cok_of (l := [(11, fc11), (12, fc12), (15, fc15), (16, fc16)]) ⟨con11, con12, con15, con16, trivial⟩) mixed (fn' := Tryd.f8) (by kernel_rfl) (by kernel_rfl) rfl (by kernel_rfl) (fun x => (FD.fn_eq _ _).trans (by kernel_rfl))
end
end Go.Proofs.YtejehchbflmofaaDoor
end

section
/-
YtejehchbflmofaaDoor: signalbench.signalbenchlaw49.LimitChecks, as one plain function, its equations, its contract. No condition.
-/
set_option maxRecDepth 100000
set_option linter.unusedVariables false
set_option maxHeartbeats 4000000
open Go Go.AM
namespace Go.Proofs.YtejehchbflmofaaDoor
noncomputable section
def law49_LimitChecks_D : FD := ⟨T, lookC [(6, fc6), (7, fc7), (8, fc8), (9, fc9), (10, fc10)], [], (Tryd.f3.body.getD .skip), Tryd.f3.results.toList, ⟨[.row (.cons (.sl .str) (.sl (.cons (.int .i64) (.int .i64)))), .one (.sl (.cons (.int .i64) (.cons .str (.cons .str (.cons .bool (.cons (.int .i64) (.int .i64)))))))], []⟩, ⟨[.one .bool], []⟩, []⟩
def law49_LimitChecks (c : TCapture) (l : (List TLimit)) : (Option ((Bool × Unit) × Unit)) :=
  (law49_small c).bind fun y1 =>
    if (!y1.1.1) = true then
      (law49_awake).bind fun y2 =>
        some ((y2.1.1, ()), ())
    else
      (law49_few l).bind fun y3 =>
        if (!y3.1.1) = true then
          (law49_awake).bind fun y4 =>
            some ((y4.1.1, ()), ())
        else
          (limit_Check c l).bind fun y5 =>
            (ref49_Check c l).bind fun y6 =>
              if (y5.1.1 == y6.1.1) = true then
                if (y5.1.2.1 == y6.1.2.1) = true then
                  (law49_awake).bind fun y7 =>
                    some ((y7.1.1, ()), ())
                else
                  some ((false, ()), ())
              else
                some ((false, ()), ())
def fc3 : FC := ⟨⟨[.row (.cons (.sl .str) (.sl (.cons (.int .i64) (.int .i64)))), .one (.sl (.cons (.int .i64) (.cons .str (.cons .str (.cons .bool (.cons (.int .i64) (.int .i64)))))))], []⟩, ⟨[.one .bool], []⟩, fun x => law49_LimitChecks x.1.1 x.1.2.1⟩
theorem con3 : Contract Tryd.prog 3 fc3 :=
  law49_LimitChecks_D.contract tok (cok_of (l := [(6, fc6), (7, fc7), (8, fc8), (9, fc9), (10, fc10)]) ⟨con6, con7, con8, con9, con10, trivial⟩) mixed (fn' := Tryd.f3) (by kernel_rfl) (by kernel_rfl) rfl (by kernel_rfl) (fun x => (FD.fn_eq _ _).trans (by kernel_rfl))
end
end Go.Proofs.YtejehchbflmofaaDoor
end

section
/-
YtejehchbflmofaaDoor: signalbench.signalbenchlaw49.LimitRoundTrips, as one plain function, its equations, its contract. No condition.
-/
set_option maxRecDepth 100000
set_option linter.unusedVariables false
set_option maxHeartbeats 4000000
open Go Go.AM
namespace Go.Proofs.YtejehchbflmofaaDoor
noncomputable section
def law49_LimitRoundTrips_F5 : FSh := ⟨[(1, .one .str)], []⟩
def law49_LimitRoundTrips_D : FD := ⟨T, lookC [(7, fc7), (8, fc8), (11, fc11), (12, fc12), (13, fc13)], [5], (Tryd.f4.body.getD .skip), Tryd.f4.results.toList, ⟨[.one (.sl (.cons (.int .i64) (.cons .str (.cons .str (.cons .bool (.cons (.int .i64) (.int .i64))))))), .one .str], []⟩, ⟨[.one .bool], []⟩, [(5, law49_LimitRoundTrips_F5)]⟩
def law49_LimitRoundTrips_l5 (s : ByteArray) : (Option ((Bool × Unit) × Unit)) := law49_LimitRoundTrips_D.lab 5 law49_LimitRoundTrips_F5 ((s, ()), ())
theorem law49_LimitRoundTrips_l5_eq (s : ByteArray) : law49_LimitRoundTrips_l5 s =
  (limit_Parse s).bind fun y1 =>
    if (y1.1.2.2.1 != 0) = true then
      if ((y1.1.1.length : Int) == 0) = true then
        (law49_awake).bind fun y2 =>
          some ((y2.1.1, ()), ())
      else
        some ((false, ()), ())
    else
      (limit_Print y1.1.1).bind fun y3 =>
        (limit_Parse y3.1.1).bind fun y4 =>
          if (y3.1.2.1 == 0) = true then
            if (y4.1.2.2.1 == 0) = true then
              (ref49_Same y4.1.1 y1.1.1).bind fun y5 =>
                if y5.1.1 = true then
                  (law49_awake).bind fun y6 =>
                    some ((y6.1.1, ()), ())
                else
                  some ((false, ()), ())
            else
              some ((false, ()), ())
          else
            some ((false, ()), ()) := (FD.lab_eq _ _ _ _).trans (by kernel_rfl)
def law49_LimitRoundTrips (l : (List TLimit)) (s : ByteArray) : (Option ((Bool × Unit) × Unit)) :=
  (law49_few l).bind fun y1 =>
    if (!y1.1.1) = true then
      (law49_awake).bind fun y2 =>
        some ((y2.1.1, ()), ())
    else
      if (decide ((s.size : Int) > 500)) = true then
        (law49_awake).bind fun y3 =>
          some ((y3.1.1, ()), ())
      else
        (limit_Print l).bind fun y4 =>
          if (y4.1.2.1 == 0) = true then
            (limit_Parse y4.1.1).bind fun y5 =>
              if (y5.1.2.2.1 != 0) = true then
                some ((false, ()), ())
              else
                if (y5.1.2.1 != 0) = true then
                  some ((false, ()), ())
                else
                  (ref49_Same y5.1.1 l).bind fun y6 =>
                    if (!y6.1.1) = true then
                      some ((false, ()), ())
                    else
                      law49_LimitRoundTrips_l5 s
          else
            law49_LimitRoundTrips_l5 s
def fc4 : FC := ⟨⟨[.one (.sl (.cons (.int .i64) (.cons .str (.cons .str (.cons .bool (.cons (.int .i64) (.int .i64))))))), .one .str], []⟩, ⟨[.one .bool], []⟩, fun x => law49_LimitRoundTrips x.1.1 x.1.2.1⟩
theorem con4 : Contract Tryd.prog 4 fc4 :=
  law49_LimitRoundTrips_D.contract tok (cok_of (l := [(7, fc7), (8, fc8), (11, fc11), (12, fc12), (13, fc13)]) ⟨con7, con8, con11, con12, con13, trivial⟩) mixed (fn' := Tryd.f4) (by kernel_rfl) (by kernel_rfl) rfl (by kernel_rfl) (fun x => (FD.fn_eq _ _).trans (by kernel_rfl))
end
end Go.Proofs.YtejehchbflmofaaDoor
end

section
/-
YtejehchbflmofaaDoor: signalbench.signalbenchlaw49.LimitViolations, as one plain function, its equations, its contract. No condition.
-/
set_option maxRecDepth 100000
set_option linter.unusedVariables false
set_option maxHeartbeats 4000000
open Go Go.AM
namespace Go.Proofs.YtejehchbflmofaaDoor
noncomputable section
def law49_LimitViolations_F16 : FSh := ⟨[(3, .one (.ptr 0 0)), (5, .one (.sl (.cons (.int .i64) (.int .i64)))), (7, .one (.sl (.cons (.int .i64) (.cons (.int .i64) (.int .i64))))), (9, .one (.ptr 1 0)), (10, .one .bool), (11, .one (.int .i64)), (12, .one (.int .i64))], [.boxr 41 (.cons (.int .i64) (.cons .str (.cons .str (.cons .bool (.cons (.int .i64) (.int .i64)))))), .boxr 50 (.cons (.int .i64) (.int .i64))]⟩
def law49_LimitViolations_D : FD := ⟨T, lookC [(6, fc6), (8, fc8), (14, fc14), (15, fc15), (16, fc16), (17, fc17)], [], (Tryd.f5.body.getD .skip), Tryd.f5.results.toList, ⟨[.row (.cons (.sl .str) (.sl (.cons (.int .i64) (.int .i64)))), .row (.cons (.int .i64) (.cons .str (.cons .str (.cons .bool (.cons (.int .i64) (.int .i64))))))], []⟩, ⟨[.one .bool], []⟩, [(16, law49_LimitViolations_F16)]⟩
def law49_LimitViolations_l16 (gaps : (List TGap)) (l : (List TViolation)) (ok : Bool) (k0 : Int) (i : Int) (h0 : TLimit) (h1 : TGap) : (Option ((Bool × Unit) × Unit)) := law49_LimitViolations_D.lab 16 law49_LimitViolations_F16 (((), gaps, l, (), ok, k0, i, ()), (h0, h1, ()))
theorem law49_LimitViolations_l16_eq (gaps : (List TGap)) (l : (List TViolation)) (ok : Bool) (k0 : Int) (i : Int) (h0 : TLimit) (h1 : TGap) : law49_LimitViolations_l16 gaps l ok k0 i h0 h1 =
  if (decide (i < (gaps.length : Int))) = true then
    if 0 ≤ i ∧ i < (gaps.length : Int) then
      if (decide ((gaps.getD i.toNat dGap).2 < h0.2.2.2.2.1)) = true then
        if (decide (k0 ≥ (l.length : Int))) = true then
          some ((false, ()), ())
        else
          if 0 ≤ k0 ∧ k0 < (l.length : Int) then
            if 0 ≤ i ∧ i < (gaps.length : Int) then
              if (!(eqU uViolation (l.getD k0.toNat dViolation) (0, (gaps.getD i.toNat dGap)))) = true then
                some ((false, ()), ())
              else
                law49_LimitViolations_l16 gaps l ok (IntKind.i64.wrap (k0 + 1)) (IntKind.i64.wrap (i + 1)) h0 h1
            else
              none
          else
            none
      else
        if 0 ≤ i ∧ i < (gaps.length : Int) then
          if (decide ((gaps.getD i.toNat dGap).2 > h0.2.2.2.2.2)) = true then
            if (decide (k0 ≥ (l.length : Int))) = true then
              some ((false, ()), ())
            else
              if 0 ≤ k0 ∧ k0 < (l.length : Int) then
                if 0 ≤ i ∧ i < (gaps.length : Int) then
                  if (!(eqU uViolation (l.getD k0.toNat dViolation) (0, (gaps.getD i.toNat dGap)))) = true then
                    some ((false, ()), ())
                  else
                    law49_LimitViolations_l16 gaps l ok (IntKind.i64.wrap (k0 + 1)) (IntKind.i64.wrap (i + 1)) h0 h1
                else
                  none
              else
                none
          else
            law49_LimitViolations_l16 gaps l ok k0 (IntKind.i64.wrap (i + 1)) h0 h1
        else
          none
    else
      none
  else
    if ok = true then
      if (decide (h1.2 < h0.2.2.2.2.1)) = true then
        if (k0 == (l.length : Int)) = true then
          if (true == (decide (k0 > 0))) = true then
            (law49_awake).bind fun y1 =>
              some ((y1.1.1, ()), ())
          else
            some ((false, ()), ())
        else
          some ((false, ()), ())
      else
        if (k0 == (l.length : Int)) = true then
          if ((decide (h1.2 > h0.2.2.2.2.2)) == (decide (k0 > 0))) = true then
            (law49_awake).bind fun y2 =>
              some ((y2.1.1, ()), ())
          else
            some ((false, ()), ())
        else
          some ((false, ()), ())
    else
      if (k0 == (l.length : Int)) = true then
        if (false == (decide (k0 > 0))) = true then
          (law49_awake).bind fun y3 =>
            some ((y3.1.1, ()), ())
        else
          some ((false, ()), ())
      else
        some ((false, ()), ()) := (FD.lab_eq _ _ _ _).trans (by kernel_rfl)
def law49_LimitViolations (c : TCapture) (x0 : TLimit) : (Option ((Bool × Unit) × Unit)) :=
  (law49_small c).bind fun y1 =>
    if (!y1.1.1) = true then
      (law49_awake).bind fun y2 =>
        some ((y2.1.1, ()), ())
    else
      (law49_brief x0.2.1).bind fun y3 =>
        if (!y3.1.1) = true then
          (law49_awake).bind fun y4 =>
            some ((y4.1.1, ()), ())
        else
          (law49_brief x0.2.2.1).bind fun y5 =>
            if (!y5.1.1) = true then
              (law49_awake).bind fun y6 =>
                some ((y6.1.1, ()), ())
            else
              (limit_Gaps c x0).bind fun y7 =>
                (limit_Find c [x0]).bind fun y8 =>
                  (limit_Worst c x0).bind fun y9 =>
                    if (y7.1.2.1 != y8.1.2.1) = true then
                      some ((false, ()), ())
                    else
                      if (!(y9.1.2.1 == (decide ((y7.1.1.length : Int) > 0)))) = true then
                        some ((false, ()), ())
                      else
                        if (y7.1.2.1 != 0) = true then
                          if ((y7.1.1.length : Int) == 0) = true then
                            if ((y8.1.1.length : Int) == 0) = true then
                              if (!y9.1.2.1) = true then
                                (law49_awake).bind fun y10 =>
                                  some ((y10.1.1, ()), ())
                              else
                                some ((false, ()), ())
                            else
                              some ((false, ()), ())
                          else
                            some ((false, ()), ())
                        else
                          law49_LimitViolations_l16 y7.1.1 y8.1.1 y9.1.2.1 0 0 x0 y9.1.1
def fc5 : FC := ⟨⟨[.row (.cons (.sl .str) (.sl (.cons (.int .i64) (.int .i64)))), .row (.cons (.int .i64) (.cons .str (.cons .str (.cons .bool (.cons (.int .i64) (.int .i64))))))], []⟩, ⟨[.one .bool], []⟩, fun x => law49_LimitViolations x.1.1 x.1.2.1⟩
theorem con5 : Contract Tryd.prog 5 fc5 :=
  law49_LimitViolations_D.contract tok (cok_of (l := [(6, fc6), (8, fc8), (14, fc14), (15, fc15), (16, fc16), (17, fc17)]) ⟨con6, con8, con14, con15, con16, con17, trivial⟩) mixed (fn' := Tryd.f5) (by kernel_rfl) (by kernel_rfl) rfl (by kernel_rfl) (fun x => (FD.fn_eq _ _).trans (by kernel_rfl))
end
end Go.Proofs.YtejehchbflmofaaDoor
end

section
/-
YtejehchbflmofaaDoor: the plain functions of names and numbers come to what they should. No condition.
-/
set_option maxRecDepth 100000
open Go Go.AM
namespace Go.Proofs.YtejehchbflmofaaDoor

theorem lex_letter_b (c : UInt8) : lex_letter c.toNat = some ((letterB c, ()), ()) := by
  unfold lex_letter letterB
  by_cases h : 97 ≤ c.toNat
  · rw [if_pos (decide_eq_true (by omega)), decide_eq_true h, Bool.true_and]
    by_cases h2 : c.toNat ≤ 122
    · rw [decide_eq_true h2, decide_eq_true (by omega)]
    · rw [decide_eq_false h2, decide_eq_false (by omega)]
  · rw [if_neg (dF (by omega)), decide_eq_false h, Bool.false_and]

theorem lex_digit_b (c : UInt8) : lex_digit c.toNat = some ((digitB c, ()), ()) := by
  unfold lex_digit digitB
  by_cases h : 48 ≤ c.toNat
  · rw [if_pos (decide_eq_true (by omega)), decide_eq_true h, Bool.true_and]
    by_cases h2 : c.toNat ≤ 57
    · rw [decide_eq_true h2, decide_eq_true (by omega)]
    · rw [decide_eq_false h2, decide_eq_false (by omega)]
  · rw [if_neg (dF (by omega)), decide_eq_false h, Bool.false_and]

theorem int_beq (c d : UInt8) : ((c.toNat : Int) == (d.toNat : Int)) = (c == d) := by
  rw [Bool.eq_iff_iff, beq_iff_eq, beq_iff_eq, u8_eq]

theorem lex_word_b (c : UInt8) : lex_word c.toNat = some ((wordB c, ()), ()) := by
  unfold lex_word wordB
  rw [lex_letter_b, lex_digit_b]
  have := int_beq c 95
  cases letterB c <;> cases digitB c <;> simp <;> exact this

theorem lex_hex_b (c : UInt8) : lex_hex c.toNat = some ((hexI c, ()), ()) := by
  have hc := c.toNat_lt
  unfold lex_hex hexI hexv
  by_cases h : 48 ≤ c.toNat ∧ c.toNat ≤ 57
  · rw [if_pos (decide_eq_true (by omega)), if_pos (decide_eq_true (by omega)), if_pos h, w8 (by omega) (by omega), w64 (by omega) (by omega)]
    simp only [Option.some.injEq, Prod.mk.injEq, and_true]; omega
  · rw [if_neg h]
    by_cases h2 : 97 ≤ c.toNat ∧ c.toNat ≤ 102
    · have e1 : IntKind.u8.wrap ((c.toNat : Int) - 97) = c.toNat - 97 := w8 (by omega) (by omega)
      have e2 : IntKind.i64.wrap ((c.toNat : Int) - 97) = c.toNat - 97 := w64 (by omega) (by omega)
      have e3 : IntKind.i64.wrap ((c.toNat : Int) - 97 + 10) = c.toNat - 97 + 10 := w64 (by omega) (by omega)
      rw [if_pos (decide_eq_true (by omega)), if_neg (dF (by omega)), if_pos (decide_eq_true (by omega)), if_pos (decide_eq_true (by omega)), if_pos h2, e1, e2, e3]
      simp only [Option.some.injEq, Prod.mk.injEq, and_true]; omega
    · rw [if_neg h2]
      simp only [decide_eq_true_eq]
      repeat' split
      all_goals first | rfl | (exfalso; omega)

theorem hasPrefix_b (s p : ByteArray) : strings_HasPrefix s p = some ((decide (L s = L p ++ (L s).drop (L p).length), ()), ()) := by
  unfold strings_HasPrefix stringslite_HasPrefix
  by_cases h : p.size ≤ s.size
  · rw [if_pos (decide_eq_true (by omega)), if_pos ⟨by omega, by omega, by omega⟩]
    simp only [Option.bind_some, Option.some.injEq, Prod.mk.injEq, and_true]
    rw [Bool.eq_iff_iff, beq_iff_eq, decide_eq_true_eq, toL, toL, L_ext]
    simp only [Int.toNat_natCast, List.drop_zero]
    rw [← L_len p]
    constructor
    · intro e
      conv => lhs; rw [← List.take_append_drop (L p).length (L s), e]
    · intro e
      rw [e, List.take_left]
  · rw [if_neg (dF (by omega))]
    simp only [Option.bind_some, Option.some.injEq, Prod.mk.injEq, and_true]
    symm
    rw [decide_eq_false_iff_not]
    intro e
    have := congrArg List.length e
    simp only [List.length_append, L_len] at this
    omega

theorem lex_Name_loop (s : ByteArray) (hs : s.size ≤ 4611686018427387904) : ∀ (r : List UInt8) (n : Nat), (L s).drop n = r → lex_Name_l6 s s.size n = some ((r.all wordB, ()), ())
  | [], n, h => by
    have := drop_nil h
    rw [L_len] at this
    rw [lex_Name_l6_eq, if_neg (dF (by omega))]
    rfl
  | c :: r, n, h => by
    have h1 := drop_lt h
    rw [L_len] at h1
    rw [lex_Name_l6_eq, if_pos (decide_eq_true (by omega)), if_pos ⟨by omega, by omega⟩, bt_drop h, w32c, lex_word_b]
    simp only [Option.bind_some, List.all_cons]
    cases hw : wordB c
    · rfl
    · simp only [Bool.not_true, Bool.false_eq_true, if_false, Bool.true_and]
      rw [w64 (by omega) (by omega)]
      exact lex_Name_loop s hs r (n + 1) (drop_succ h)

theorem lex_Name_b (s : ByteArray) : lex_Name s = some ((nameB (L s), ()), ()) := by
  unfold lex_Name
  have hl := L_len s
  cases hL : L s with
  | nil => rw [if_pos (by rw [toL, toL, hL, L_strB]; rfl)]; rfl
  | cons c r =>
    rw [hL] at hl
    simp only [List.length_cons] at hl
    rw [if_neg (by rw [toL, toL, hL, L_strB]; simp)]
    rw [nameB_cons]
    by_cases h : s.size ≤ 16
    · rw [if_neg (dF (by omega)), if_pos ⟨by omega, by omega⟩, bt_cons hL, w32c, lex_letter_b, decide_eq_true (by omega : r.length + 1 ≤ 16)]
      simp only [Option.bind_some, Bool.true_and]
      cases letterB c
      · rfl
      · simp only [Bool.not_true, Bool.false_eq_true, if_false, Bool.true_and]
        exact lex_Name_loop s (by omega) (c :: r) 0 (by rw [hL]; rfl)
    · rw [if_pos (decide_eq_true (by omega)), decide_eq_false (by omega : ¬ r.length + 1 ≤ 16)]
      rfl

theorem hexI_cases (c : UInt8) : (hexv c = none ∧ hexI c = -1) ∨ ∃ d : Nat, hexv c = some d ∧ hexI c = d ∧ d < 16 := by
  unfold hexI
  cases h : hexv c with
  | none => exact .inl ⟨rfl, rfl⟩
  | some d => exact .inr ⟨d, rfl, rfl, hexv_lt h⟩

/-- What the loop over the digits comes to. -/
def numEnd (minus : Bool) : Option Nat → Int × Int
  | none => (0, 4)
  | some n => if n > 9007199254740992 then (0, 2) else (if minus = true then -(n : Int) else n, 0)

theorem lex_Number_loop (s : ByteArray) (hs : s.size ≤ 4611686018427387904) (minus : Bool) (base : Nat) (hb : base ≤ 16) : ∀ (r : List UInt8) (i n : Nat), (L s).drop i = r → n ≤ 9007199254740993 →
    lex_Number_l13 s minus base n s.size i = some (((numEnd minus (digs base r n)).1, (numEnd minus (digs base r n)).2, ()), ())
  | [], i, n, h, hn => by
    have := drop_nil h
    rw [L_len] at this
    rw [lex_Number_l13_eq, if_neg (dF (by omega))]
    simp only [digs, numEnd]
    by_cases h2 : n > 9007199254740992
    · rw [if_pos (decide_eq_true (by omega)), if_pos h2]
    · rw [if_neg (dF (by omega)), if_neg h2]
      cases minus
      · rfl
      · simp only [if_true, Option.some.injEq, Prod.mk.injEq, and_true]
        rw [w64 (by omega) (by omega)]; omega
  | c :: r, i, n, h, hn => by
    have h1 := drop_lt h
    rw [L_len] at h1
    rw [lex_Number_l13_eq, if_pos (decide_eq_true (by omega)), if_pos ⟨by omega, by omega⟩, bt_drop h, lex_hex_b]
    simp only [Option.bind_some, digs]
    rcases hexI_cases c with ⟨e1, e2⟩ | ⟨d, e1, e2, e3⟩
    · rw [e1, e2, if_pos (by decide)]
      try rfl
    · rw [e1, e2, if_neg (dF (by omega))]
      simp only
      by_cases hd : d < base
      · rw [if_neg (dF (by omega)), if_pos hd]
        have b1 : base * n ≤ 16 * 9007199254740993 := Nat.mul_le_mul hb hn
        have e4 : IntKind.i64.wrap ((base : Int) * n) = ((base * n : Nat) : Int) := by rw [← Int.natCast_mul, w64 (by omega) (by omega)]
        have e5 : IntKind.i64.wrap (((base * n : Nat) : Int) + d) = ((base * n + d : Nat) : Int) := by rw [w64 (by omega) (by omega)]; omega
        have e6 : IntKind.i64.wrap ((i : Int) + 1) = ((i + 1 : Nat) : Int) := by rw [w64 (by omega) (by omega)]; omega
        rw [e4, e5, e6, show (if (9007199254740993 : Int) < ((base * n + d : Nat) : Int) then (9007199254740993 : Int) else ((base * n + d : Nat) : Int)) = ((min (base * n + d) 9007199254740993 : Nat) : Int) by
          split <;> omega]
        exact lex_Number_loop s hs minus base hb r (i + 1) _ (drop_succ h) (by omega)
      · rw [if_pos (decide_eq_true (by omega)), if_neg hd]
        try rfl

end Go.Proofs.YtejehchbflmofaaDoor
end

section
/-
YtejehchbflmofaaDoor: the plain functions of numbers and quoted strings come to what they should. No condition.
-/
set_option maxRecDepth 100000
open Go Go.AM
namespace Go.Proofs.YtejehchbflmofaaDoor

def l5V (minus : Bool) (base : Nat) (l : List UInt8) : Int × Int := match l with
  | [] => (0, 4)
  | c :: r => if c = 48 ∧ (minus = true ∨ r ≠ []) then (0, 4) else numEnd minus (digs base (c :: r) 0)

theorem lex_Number_l5_b (s : ByteArray) (hs : s.size ≤ 4611686018427387904) (minus : Bool) (base : Nat) (hb : base ≤ 16) : lex_Number_l5 s minus base = some (((l5V minus base (L s)).1, (l5V minus base (L s)).2, ()), ()) := by
  rw [lex_Number_l5_eq]
  cases hL : L s with
  | nil => rw [if_pos (is_nil hL)]; rfl
  | cons c r =>
    have hl := size_of hL
    simp only [List.length_cons] at hl
    rw [if_neg (not_nil hL), if_pos ⟨by omega, by omega⟩, bt_cons hL]
    have loop := lex_Number_loop s hs minus base hb (c :: r) 0 0 (by rw [hL]; rfl) (by omega)
    simp only [l5V]
    by_cases h1 : c = 48
    · subst h1
      rw [if_pos (by decide)]
      cases minus with
      | true => simp
      | false =>
        simp only [Bool.false_eq_true, if_false, false_or, true_and]
        by_cases h2 : r = []
        · subst h2
          simp only [List.length_nil] at hl
          rw [if_neg (dF (by omega)), if_neg (by simp)]
          exact loop
        · have := List.length_pos_iff.2 h2
          rw [if_pos (dT (by omega)), if_pos h2]
    · rw [if_neg (show ¬ ((c.toNat : Int) == 48) = true from byte_ne h1), if_neg (by simp [h1])]
      exact loop

theorem numN_natV (neg : Bool) (base : Nat) (hb : 0 < base) (l : List UInt8) : numN neg (natV l base) = l5V neg base l := by
  cases l with
  | nil => rfl
  | cons c r =>
    simp only [natV, l5V]
    by_cases h1 : c = 48
    · subst h1
      by_cases h2 : r = []
      · subst h2
        have e : digs base [48] 0 = some 0 := by
          have : hexv 48 = some 0 := by decide
          simp [digs, this, hb]
        rw [if_neg (by simp), e]
        cases neg <;> simp [numN, numEnd]
      · rw [if_pos ⟨rfl, h2⟩, if_pos ⟨rfl, .inr h2⟩]
        rfl
    · rw [if_neg (by simp [h1]), if_neg (by simp [h1])]
      cases hd : digs base (c :: r) 0 with
      | none => rfl
      | some m =>
        have := digs_first hb hd h1
        simp only [numN, numEnd]
        rw [if_neg (by omega)]

theorem body_l5 (neg : Bool) (b : List UInt8) : numN neg (bodyV b) = match b with
    | 48 :: 120 :: t => l5V neg 16 t
    | b => l5V neg 10 b := by
  match b with
  | [] => exact numN_natV neg 10 (by omega) []
  | [c] =>
    have : bodyV [c] = natV [c] 10 := by unfold bodyV; split <;> simp_all
    rw [this, numN_natV neg 10 (by omega)]
    split <;> simp_all
  | c :: d :: r =>
    by_cases h : c = 48 ∧ d = 120
    · obtain ⟨rfl, rfl⟩ := h
      cases r with
      | nil =>
        have : bodyV [48, 120] = none := by rfl
        rw [this]; rfl
      | cons e r => exact numN_natV neg 16 (by omega) (e :: r)
    · have : bodyV (c :: d :: r) = natV (c :: d :: r) 10 := by
        unfold bodyV
        split
        · rename_i e; simp only [List.cons.injEq] at e; exact absurd ⟨e.1, e.2.1⟩ h
        · rfl
      rw [this, numN_natV neg 10 (by omega)]
      split
      · rename_i e; simp only [List.cons.injEq] at e; exact absurd ⟨e.1, e.2.1⟩ h
      · rfl

theorem prefix_minus_yes {s : ByteArray} {r : List UInt8} (h : L s = 45 :: r) : strings_HasPrefix s (strB [45]) = some ((true, ()), ()) := by
  rw [hasPrefix_b, L_strB, h]
  simp

theorem prefix_minus_no {s : ByteArray} (h : ∀ r, L s ≠ 45 :: r) : strings_HasPrefix s (strB [45]) = some ((false, ()), ()) := by
  rw [hasPrefix_b, L_strB]
  simp only [Option.some.injEq, Prod.mk.injEq, and_true, decide_eq_false_iff_not]
  exact fun e => h _ e

theorem prefix_hex (s : ByteArray) : strings_HasPrefix s (strB [48, 120]) = some ((match L s with
    | 48 :: 120 :: _ => true
    | _ => false, ()), ()) := by
  rw [hasPrefix_b]
  simp only [Option.some.injEq, Prod.mk.injEq, and_true]
  rw [L_strB]
  match L s with
  | [] => rfl
  | [c] => simp
  | c :: d :: r =>
    simp only [List.length_cons, List.length_nil, List.drop_succ_cons, List.drop_zero, List.cons_append, List.nil_append, List.cons.injEq, and_true]
    by_cases h : c = 48 ∧ d = 120
    · obtain ⟨rfl, rfl⟩ := h; simp
    · rw [decide_eq_false h]
      split
      · rename_i e; cases e; exact absurd ⟨rfl, rfl⟩ h
      · rfl

theorem lex_Number_l2_b (s : ByteArray) (hs : s.size ≤ 4611686018427387904) (minus : Bool) : lex_Number_l2 s minus = some (((numN minus (bodyV (L s))).1, (numN minus (bodyV (L s))).2, ()), ()) := by
  rw [lex_Number_l2_eq, prefix_hex, body_l5]
  simp only [Option.bind_some]
  split
  · rename_i t hL
    have hl := size_of hL
    simp only [List.length_cons] at hl
    rw [if_pos rfl, if_pos ⟨by omega, by omega⟩]
    have := lex_Number_l5_b (s.extract 2 s.size) (by rw [size_drop]; omega) minus 16 (by omega)
    rw [L_ext', hL] at this
    exact this
  · rw [if_neg (by simp)]
    exact lex_Number_l5_b s hs minus 10 (by omega)

theorem lex_Number_b (s : ByteArray) (hs : s.size ≤ 4611686018427387904) : lex_Number s = some (((numV (L s)).1, (numV (L s)).2, ()), ()) := by
  unfold lex_Number
  have no : (∀ r, L s ≠ 45 :: r) → numV (L s) = numN false (bodyV (L s)) → ((strings_HasPrefix s (strB [45])).bind fun y1 =>
      if y1.1.1 = true then
        if 0 ≤ (1 : Int) ∧ 1 ≤ (s.size : Int) then lex_Number_l2 (s.extract 1 s.size) y1.1.1 else none
      else lex_Number_l2 s y1.1.1) = some (((numV (L s)).1, (numV (L s)).2, ()), ()) := by
    intro h e
    rw [prefix_minus_no h, e]
    exact lex_Number_l2_b s hs false
  cases hL : L s with
  | nil =>
    rw [hL] at no
    exact no (fun r e => by cases e) rfl
  | cons c r =>
    by_cases h : c = 45
    · subst h
      have hl := size_of hL
      simp only [List.length_cons] at hl
      rw [prefix_minus_yes hL, numV_minus]
      simp only [Option.bind_some, if_true]
      rw [if_pos ⟨by omega, by omega⟩]
      have := lex_Number_l2_b (s.extract 1 s.size) (by rw [size_drop]; omega) true
      rw [L_ext', hL] at this
      exact this
    · rw [hL] at no
      exact no (fun r e => by cases e; exact h rfl) (numV_other h)

theorem natV_le {l : List UInt8} {base n : Nat} (h : natV l base = some n) : n ≤ 9007199254740993 := by
  unfold natV at h
  split at h
  · cases h
  · split at h
    · cases h
    · exact digs_le _ _ _ h (by omega)

theorem bodyV_le {l : List UInt8} {n : Nat} (h : bodyV l = some n) : n ≤ 9007199254740993 := by
  unfold bodyV at h
  split at h <;> exact natV_le h

end Go.Proofs.YtejehchbflmofaaDoor
end

section
/-
YtejehchbflmofaaDoor: the plain functions of quoted strings come to what they should. No condition.
-/
set_option maxRecDepth 100000
open Go Go.AM
namespace Go.Proofs.YtejehchbflmofaaDoor

theorem lex_plain_b (c : UInt8) : lex_plain c.toNat = some ((plainB c, ()), ()) := by
  unfold lex_plain plainB
  by_cases h : 32 ≤ c.toNat
  · rw [if_pos (dT (by omega)), decide_eq_true h]
    by_cases h2 : c.toNat ≤ 126
    · rw [if_pos (dT (by omega)), decide_eq_true h2]
      by_cases h3 : c = 34
      · subst h3; rfl
      · rw [if_pos (show ((c.toNat : Int) != 34) = true from byte_bne h3), bne_iff_ne.2 h3]
        by_cases h4 : c = 92
        · subst h4; rfl
        · rw [show ((c.toNat : Int) != 92) = true from byte_bne h4, bne_iff_ne.2 h4]; rfl
    · rw [if_neg (dF (by omega)), decide_eq_false h2]
      simp
  · rw [if_neg (dF (by omega)), decide_eq_false h]
    simp

theorem hex_pair {x y : Nat} (hx : x < 16) (hy : y < 16) : IntKind.u8.wrap (IntKind.i64.wrap (IntKind.i64.wrap (16 * (x : Int)) + y)) = ((UInt8.ofNat (16 * x + y)).toNat : Int) := by
  have e1 : IntKind.i64.wrap (16 * (x : Int)) = 16 * x := w64 (by omega) (by omega)
  have e2 : IntKind.i64.wrap (16 * (x : Int) + y) = 16 * x + y := w64 (by omega) (by omega)
  rw [e1, e2, w8 (by omega) (by omega), UInt8.toNat_ofNat', Nat.mod_eq_of_lt (by omega)]
  omega

theorem hex_pair' {x y : Nat} (hx : x < 16) (hy : y < 16) : IntKind.u8.wrap (IntKind.i64.wrap (IntKind.i64.wrap ((x : Int) * 16) + y)) = ((UInt8.ofNat (16 * x + y)).toNat : Int) := by
  rw [Int.mul_comm]; exact hex_pair hx hy

theorem bt_at {s : ByteArray} {i : Nat} {c : UInt8} {r : List UInt8} (h : (L s).drop i = c :: r) (x : Int) (hx : x = i) : bt s x = (c.toNat : Int) := by
  subst hx; exact bt_drop h

theorem lex_escape_b (s : ByteArray) (c : UInt8) (r : List UInt8) (hL : L s = c :: r) : lex_escape s = some ((match escV r with
    | some (b, n) => ((b.toNat : Int), (n : Int), ())
    | none => (0, 0, ())), ()) := by
  unfold lex_escape
  have hl := size_of hL
  cases r with
  | nil =>
    simp only [List.length_cons, List.length_nil] at hl
    rw [if_pos (dT (by omega))]; rfl
  | cons e r =>
    simp only [List.length_cons] at hl
    have b1 : bt s 1 = (e.toNat : Int) := bt_at (i := 1) (r := r) (by rw [hL]; rfl) 1 rfl
    rw [if_neg (dF (by omega)), if_pos ⟨by omega, by omega⟩, b1]
    have yes : ∀ x, lex_escape_l6 s x true = some (((e.toNat : Int), 2, ()), ()) := fun x => by
      rw [lex_escape_l6_eq, if_pos rfl, if_pos ⟨by omega, by omega⟩, b1]
    by_cases h1 : e = 34
    · subst h1
      rw [if_pos (by decide), yes]; rfl
    · rw [if_neg (show ¬ ((e.toNat : Int) == 34) = true from byte_ne h1)]
      by_cases h2 : e = 92
      · subst h2
        rw [show (((92 : UInt8).toNat : Int) == 92) = true from by decide, yes]; rfl
      · rw [show ((e.toNat : Int) == 92) = false from by simpa using byte_ne h2, lex_escape_l6_eq, if_neg Bool.false_ne_true]
        simp only [escV]
        rw [if_neg (show ¬ (e = 34 ∨ e = 92) by simp [h1, h2])]
        by_cases h3 : e = 110
        · subst h3
          rw [if_pos (by decide), if_pos rfl]; rfl
        · rw [if_neg (show ¬ ((e.toNat : Int) == 110) = true from byte_ne h3), if_neg h3]
          by_cases h4 : e = 120
          · subst h4
            rw [if_pos (by decide), if_pos rfl]
            match r, hl, hL with
            | [], hl, _ => simp only [List.length_nil] at hl; rw [if_pos (dT (by omega))]
            | [a], hl, _ => simp only [List.length_cons, List.length_nil] at hl; rw [if_pos (dT (by omega))]
            | a :: b :: r, hl, hL =>
              simp only [List.length_cons] at hl
              have b2 : bt s 2 = (a.toNat : Int) := bt_at (i := 2) (r := b :: r) (by rw [hL]; rfl) 2 rfl
              have b3 : bt s 3 = (b.toNat : Int) := bt_at (i := 3) (r := r) (by rw [hL]; rfl) 3 rfl
              rw [if_neg (dF (by omega)), if_pos ⟨by omega, by omega⟩, b2, b3, lex_hex_b, lex_hex_b]
              simp only [Option.bind_some]
              rcases hexI_cases a with ⟨e1, e2⟩ | ⟨x, e1, e2, e3⟩
              · rw [e1, e2, if_pos (by decide)]
              · rw [e1, e2, if_neg (dF (by omega)), if_pos ⟨by omega, by omega⟩]
                rcases hexI_cases b with ⟨f1, f2⟩ | ⟨y, f1, f2, f3⟩
                · rw [f1, f2, if_pos (by decide)]
                · rw [f1, f2, if_neg (dF (by omega)), if_pos ⟨by omega, by omega⟩, if_pos ⟨by omega, by omega⟩, hex_pair e3 f3]
                  rfl
          · rw [if_neg (show ¬ ((e.toNat : Int) == 120) = true from byte_ne h4), if_neg h4]

theorem lex_Unquote_loop : ∀ (k : Nat) (s : ByteArray) (acc : List UInt8), (L s).length ≤ k → acc.length + (L s).length ≤ 1099511627776 → lex_Unquote_l7 s (bI acc) = some ((match unqI k (L s) with
    | some o => (strB (acc ++ o), 0, ())
    | none => (strB [], 4, ())), ()) := by
  intro k
  induction k using Nat.strongRecOn with
  | _ k ih =>
    intro s acc hk ha
    rw [lex_Unquote_l7_eq]
    cases hL : L s with
    | nil =>
      rw [if_neg (cond_nil hL), strOf_bI]
      have : unqI k [] = some [] := by cases k <;> rfl
      rw [this]
      simp
    | cons c r =>
      have hl := size_of hL
      rw [hL] at hk ha
      simp only [List.length_cons] at hk ha hl
      obtain ⟨k, rfl⟩ : ∃ j, k = j + 1 := ⟨k - 1, by omega⟩
      rw [if_pos (cond_not_nil hL), if_pos ⟨by omega, by omega⟩, bt_cons hL, w32c, lex_plain_b]
      simp only [Option.bind_some, unqI]
      by_cases hp : plainB c = true
      · rw [if_pos hp, if_pos hp, if_pos ⟨by omega, by omega⟩, if_pos (by rw [bI_len]; omega), if_pos ⟨by omega, by omega⟩, bI_snoc]
        have e := L_ext' s 1
        rw [hL] at e
        rw [ih k (by omega) (s.extract 1 s.size) (acc ++ [c]) (by rw [e]; simpa using by omega) (by rw [e]; simp; omega), e]
        simp only [List.drop_succ_cons, List.drop_zero]
        cases unqI k r <;> simp
      · rw [if_neg hp, if_neg hp, if_pos ⟨by omega, by omega⟩]
        have bad : ∀ x : Int, lex_Unquote_l14 s x 0 (bI acc) = some ((strB [], 4, ()), ()) := fun x => by rw [lex_Unquote_l14_eq, if_pos (eT rfl)]
        by_cases hc : c = 92
        · subst hc
          rw [if_pos (by decide), if_pos rfl, lex_escape_b s 92 r hL]
          simp only [Option.bind_some]
          cases he : escV r with
          | none => exact bad 0
          | some p =>
            obtain ⟨b, n⟩ := p
            have hn := escV_len he
            simp only
            rw [lex_Unquote_l14_eq, if_neg (eF (by omega)), if_pos (by rw [bI_len]; omega), if_pos ⟨by omega, by omega⟩, bI_snoc, Int.toNat_natCast]
            have e := L_ext' s n
            rw [hL, show n = (n - 1) + 1 by omega, List.drop_succ_cons] at e
            rw [show n - 1 + 1 = n by omega] at e
            rw [ih k (by omega) (s.extract n s.size) (acc ++ [b]) (by rw [e, List.length_drop]; omega) (by rw [e, List.length_drop]; simp; omega), e]
            cases unqI k (r.drop (n - 1)) <;> simp
        · rw [if_neg (show ¬ ((c.toNat : Int) == 92) = true from byte_ne hc), if_neg hc]
          exact bad 0

theorem lex_Unquote_b (s : ByteArray) (hs : s.size ≤ 1099511627776) : lex_Unquote s = some ((match unqV (L s) with
    | some o => (strB o, 0, ())
    | none => (strB [], 4, ())), ()) := by
  unfold lex_Unquote
  match hL : L s with
  | [] =>
    have hl := size_of hL
    simp only [List.length_nil] at hl
    rw [if_pos (dT (by omega))]; rfl
  | [c] =>
    have hl := size_of hL
    simp only [List.length_cons, List.length_nil] at hl
    rw [if_pos (dT (by omega))]
    by_cases h : c = 34
    · subst h; rfl
    · have : unqV [c] = none := by
        unfold unqV
        split
        · rename_i e; cases e; exact absurd rfl h
        · rfl
      rw [this]
  | c :: d :: r =>
    have hl := size_of hL
    simp only [List.length_cons] at hl
    rw [if_neg (dF (by omega)), if_pos ⟨by omega, by omega⟩, bt_cons hL]
    by_cases h : c = 34
    · subst h
      rw [if_neg (by decide)]
      have e1 : IntKind.i64.wrap ((s.size : Int) - 1) = ((r.length + 1 : Nat) : Int) := by rw [w64 (by omega) (by omega)]; omega
      rw [e1, if_pos ⟨by omega, by omega⟩]
      obtain ⟨i, z, hi⟩ : ∃ i z, d :: r = i ++ [z] := ⟨(d :: r).dropLast, (d :: r).getLast (by simp), (List.dropLast_concat_getLast (by simp)).symm⟩
      have hil : i.length = r.length := by
        have := congrArg List.length hi
        simp at this
        omega
      have hz : bt s ((r.length + 1 : Nat) : Int) = (z.toNat : Int) := bt_at (i := r.length + 1) (r := []) (by rw [hL, hi, List.drop_succ_cons, ← hil]; simp) _ rfl
      rw [hz]
      unfold unqV
      simp only
      rw [hi, List.getLast?_concat, List.dropLast_concat]
      by_cases h2 : z = 34
      · subst h2
        rw [if_neg (by decide), if_pos rfl, if_pos ⟨by omega, by omega, by omega⟩, Int.toNat_natCast]
        have e2 : L (s.extract 1 (r.length + 1)) = i := by
          rw [L_ext, hL, hi, ← hil]
          simp
        have := lex_Unquote_loop (i ++ [34]).length (s.extract 1 (r.length + 1)) [] (by rw [e2]; simp) (by rw [e2]; simp; omega)
        rw [e2] at this
        simp only [List.nil_append] at this
        exact this
      · rw [if_pos (show ((z.toNat : Int) != 34) = true from byte_bne h2), if_neg (by simpa using h2)]
    · rw [if_pos (show ((c.toNat : Int) != 34) = true from byte_bne h)]
      have : unqV (c :: d :: r) = none := by
        unfold unqV
        split
        · rename_i e; cases e; exact absurd rfl h
        · rfl
      rw [this]

end Go.Proofs.YtejehchbflmofaaDoor
end

section
/-
YtejehchbflmofaaDoor: the plain functions of tokens come to what they should. No condition.
-/
set_option maxRecDepth 100000
open Go Go.AM
namespace Go.Proofs.YtejehchbflmofaaDoor

theorem lex_words_loop (s : ByteArray) (hs : s.size ≤ 1099511627776) : ∀ (r : List UInt8) (n : Nat), (L s).drop n = r → n ≤ s.size → lex_words_l3 s n = some ((((n + (r.takeWhile wordB).length : Nat) : Int), ()), ())
  | [], n, h, hn => by
    have := drop_nil h
    rw [L_len] at this
    rw [lex_words_l3_eq, if_neg (dF (by omega))]
    rfl
  | c :: r, n, h, hn => by
    have h1 := drop_lt h
    rw [L_len] at h1
    rw [lex_words_l3_eq, if_pos (dT (by omega)), if_pos ⟨by omega, by omega⟩, bt_drop h, w32c, lex_word_b]
    simp only [Option.bind_some, List.takeWhile_cons]
    cases hw : wordB c
    · simp
    · rw [if_pos rfl, w64a n (by omega), lex_words_loop s hs r (n + 1) (drop_succ h) (by omega)]
      simp only [if_true, List.length_cons]
      rw [show n + 1 + (r.takeWhile wordB).length = n + ((r.takeWhile wordB).length + 1) by omega]

theorem lex_words_b (s : ByteArray) (hs : s.size ≤ 1099511627776) : lex_words s = some (((((L s).takeWhile wordB).length : Int), ()), ()) := by
  have := lex_words_loop s hs (L s) 0 rfl (by omega)
  rw [Nat.zero_add] at this
  exact this

theorem lex_quoted_loop (s : ByteArray) (hs : s.size ≤ 1099511627776) : ∀ (k : Nat) (r : List UInt8) (i : Nat), (L s).drop i = r → r.length ≤ k → i ≤ s.size + 2 → lex_quoted_l3 s i = some ((match scanQ r with
    | some m => ((i + m + 1 : Nat) : Int)
    | none => 0, ()), ()) := by
  intro k
  induction k using Nat.strongRecOn with
  | _ k ih =>
    intro r i hr hk hi
    rw [lex_quoted_l3_eq]
    cases r with
    | nil =>
      have := drop_nil hr
      rw [L_len] at this
      rw [if_neg (dF (by omega))]; rfl
    | cons c r =>
      have h1 := drop_lt hr
      rw [L_len] at h1
      simp only [List.length_cons] at hk
      rw [if_pos (dT (by omega)), if_pos ⟨by omega, by omega⟩, bt_drop hr, scanQ_cons, w64a i (by omega)]
      have d1 := drop_succ hr
      by_cases g1 : c = 34
      · subst g1
        rw [if_pos (by decide), if_pos rfl]
      · rw [if_neg (show ¬ ((c.toNat : Int) == 34) = true from byte_ne g1), if_neg g1]
        by_cases g2 : c = 92
        · subst g2
          rw [if_pos (by decide), if_pos rfl, w64a (i + 1) (by omega)]
          cases r with
          | nil =>
            have := drop_nil d1
            rw [L_len] at this
            exact ih (k - 1) (by omega) [] (i + 1 + 1) (by rw [List.drop_of_length_le]; rw [L_len]; omega) (by simp) (by omega)
          | cons d r =>
            simp only [List.length_cons] at hk
            dsimp only
            rw [ih (k - 1) (by omega) r (i + 1 + 1) (drop_succ d1) (by omega) (by omega)]
            cases scanQ r with
            | none => rfl
            | some m => simp only [Option.map_some]; rw [show i + 1 + 1 + m + 1 = i + (m + 2) + 1 by omega]
        · rw [if_neg (show ¬ ((c.toNat : Int) == 92) = true from byte_ne g2), if_neg g2, ih (k - 1) (by omega) r (i + 1) d1 (by omega) (by omega)]
          cases scanQ r with
          | none => rfl
          | some m => simp only [Option.map_some]; rw [show i + 1 + m + 1 = i + (m + 1) + 1 by omega]

theorem or_if (b x : Bool) : (if b = true then some ((true, ()), ()) else some ((x, ()), ())) = some ((b || x, ()), ()) := by cases b <;> rfl

theorem lex_mark_b (c : UInt8) : lex_mark c.toNat = some ((markB c, ()), ()) := by
  unfold lex_mark markB marks
  simp only [or_if]
  simp only [show ((c.toNat : Int) == 40) = (c == 40) from int_beq c 40, show ((c.toNat : Int) == 41) = (c == 41) from int_beq c 41, show ((c.toNat : Int) == 91) = (c == 91) from int_beq c 91, show ((c.toNat : Int) == 93) = (c == 93) from int_beq c 93,
    show ((c.toNat : Int) == 123) = (c == 123) from int_beq c 123, show ((c.toNat : Int) == 125) = (c == 125) from int_beq c 125, show ((c.toNat : Int) == 60) = (c == 60) from int_beq c 60, show ((c.toNat : Int) == 62) = (c == 62) from int_beq c 62,
    show ((c.toNat : Int) == 61) = (c == 61) from int_beq c 61, show ((c.toNat : Int) == 44) = (c == 44) from int_beq c 44, show ((c.toNat : Int) == 59) = (c == 59) from int_beq c 59, show ((c.toNat : Int) == 58) = (c == 58) from int_beq c 58,
    show ((c.toNat : Int) == 46) = (c == 46) from int_beq c 46, show ((c.toNat : Int) == 47) = (c == 47) from int_beq c 47, show ((c.toNat : Int) == 42) = (c == 42) from int_beq c 42, show ((c.toNat : Int) == 43) = (c == 43) from int_beq c 43,
    show ((c.toNat : Int) == 33) = (c == 33) from int_beq c 33, show ((c.toNat : Int) == 38) = (c == 38) from int_beq c 38, show ((c.toNat : Int) == 124) = (c == 124) from int_beq c 124, List.contains_cons, List.contains_nil]

theorem takeWhile_le (p : UInt8 → Bool) (l : List UInt8) : (l.takeWhile p).length ≤ l.length := (List.takeWhile_sublist p).length_le

theorem takeV_len {c : UInt8} {r : List UInt8} {t : Int × List UInt8 × Int} {n : Nat} (h : takeV (c :: r) = .ok (t, n)) : 1 ≤ n ∧ n ≤ r.length + 1 := by
  simp only [takeV] at h
  split at h
  · rename_i hc
    split at h
    · cases h
      have hw : wordB c = true := by simp [wordB, hc]
      rw [List.takeWhile_cons, if_pos hw]
      have := takeWhile_le wordB r
      simp only [List.length_cons]
      omega
    · cases h
  · split at h
    · split at h
      · cases h
        have := takeWhile_le wordB r
        omega
      · cases h
    · split at h
      · split at h
        · rename_i o rest hu
          cases h
          rw [unqL_scan _ _ (Nat.le_refl _)] at hu
          split at hu
          · cases hu
          · rename_i m hs
            have := scanQ_lt _ _ (Nat.le_refl _) m hs
            cases hi : unqI r.length (r.take m) with
            | none => rw [hi] at hu; cases hu
            | some o' =>
              rw [hi] at hu
              cases hu
              simp only [List.length_cons, List.length_drop]
              omega
        · cases h
      · split at h
        · cases h; omega
        · cases h

theorem numV_err (l : List UInt8) : (numV l).2 = 0 ∨ (numV l).2 = 4 ∨ (numV l).2 = 2 := by
  have key : ∀ b o, (numN b o).2 = 0 ∨ (numN b o).2 = 4 ∨ (numN b o).2 = 2 := by
    intro b o
    unfold numN
    split
    · simp
    · split
      · simp
      · split <;> simp
  unfold numV
  split <;> exact key _ _

theorem takeV_err {l : List UInt8} {e : Int} (h : takeV l = .error e) : e ≠ 0 := by
  cases l with
  | nil => cases h; decide
  | cons c r =>
    simp only [takeV] at h
    split at h
    · split at h
      · cases h
      · cases h; decide
    · split at h
      · split at h
        · cases h
        · rename_i hv
          cases h
          exact hv
      · split at h
        · split at h
          · cases h
          · cases h; decide
        · split at h
          · cases h
          · cases h; decide

/-- Numbers, as both functions take them. -/
theorem lex_take_num (s : ByteArray) (hs : s.size ≤ 1099511627776) (c : UInt8) (r : List UInt8) (hL : L s = c :: r) : (if 0 ≤ (1 : Int) ∧ 1 ≤ (s.size : Int) then
      (lex_words (s.extract 1 s.size)).bind fun y5 =>
        if 0 ≤ (0 : Int) ∧ (0 : Int) ≤ IntKind.i64.wrap (1 + y5.1.1) ∧ IntKind.i64.wrap (1 + y5.1.1) ≤ (s.size : Int) then
          (lex_Number (s.extract 0 (IntKind.i64.wrap (1 + y5.1.1)).toNat)).bind fun y6 =>
            if 0 ≤ (0 : Int) ∧ (0 : Int) ≤ IntKind.i64.wrap (1 + y5.1.1) ∧ IntKind.i64.wrap (1 + y5.1.1) ≤ (s.size : Int) then
              some ((((2 : Int), s.extract 0 (IntKind.i64.wrap (1 + y5.1.1)).toNat, y6.1.1, (0 : Int)), IntKind.i64.wrap (1 + y5.1.1), y6.1.2.1, ()), ())
            else
              none
        else
          none
    else
      none) = some (((2, strB ((c :: r).take (1 + (r.takeWhile wordB).length)), (numV ((c :: r).take (1 + (r.takeWhile wordB).length))).1, 0), ((1 + (r.takeWhile wordB).length : Nat) : Int), (numV ((c :: r).take (1 + (r.takeWhile wordB).length))).2, ()), ()) := by
  have hl := size_of hL
  simp only [List.length_cons] at hl
  have e := L_ext' s 1
  rw [hL, List.drop_succ_cons, List.drop_zero] at e
  have hw := takeWhile_le wordB r
  rw [if_pos ⟨by omega, by omega⟩, lex_words_b _ (by rw [size_drop]; omega), e]
  simp only [Option.bind_some]
  rw [show (1 : Int) + ((r.takeWhile wordB).length : Int) = (((1 + (r.takeWhile wordB).length : Nat)) : Int) by omega, w64 (by omega) (by omega), Int.toNat_natCast]
  rw [if_pos ⟨by omega, by omega, by omega⟩]
  have e2 : s.extract 0 (1 + (r.takeWhile wordB).length) = strB ((c :: r).take (1 + (r.takeWhile wordB).length)) := L_inj (by rw [L_take, hL, L_strB])
  rw [e2, lex_Number_b _ (by rw [strB_size, List.length_take]; simp only [List.length_cons]; omega), L_strB]
  simp only [Option.bind_some]
  rw [if_pos ⟨by omega, by omega, by omega⟩]

/-- What a function that takes a token comes to. -/
def TakeOk (line : Int) (i : Nat) (o : Option ((TToken × Int × Int × Unit) × Unit)) (v : Except Int ((Int × List UInt8 × Int) × Nat)) : Prop := match v with
  | .ok (t, n) => o = some (((t.1, strB t.2.1, t.2.2, line), ((i + n : Nat) : Int), 0, ()), ())
  | .error e => ∃ x n, o = some ((x, n, e, ()), ())

theorem take_ok {line : Int} {i n : Nat} {t : Int × List UInt8 × Int} {o : Option ((TToken × Int × Int × Unit) × Unit)} (h : o = some (((t.1, strB t.2.1, t.2.2, line), ((i + n : Nat) : Int), 0, ()), ())) : TakeOk line i o (.ok (t, n)) := h
theorem take_err {line : Int} {i : Nat} {e : Int} {x : TToken} {n : Int} : TakeOk line i (some ((x, n, e, ()), ())) (.error e) := ⟨x, n, rfl⟩

theorem lex_take_b (s : ByteArray) (hs : s.size ≤ 1099511627776) (c : UInt8) (r : List UInt8) (hL : L s = c :: r) : TakeOk 0 0 (lex_take s) (takeV (c :: r)) := by
  have hl := size_of hL
  simp only [List.length_cons] at hl
  unfold lex_take
  rw [if_pos ⟨by omega, by omega⟩, bt_cons hL, w32c, lex_letter_b, lex_digit_b]
  simp only [Option.bind_some]
  rw [lex_take_num s hs c r hL]
  simp only [takeV]
  by_cases h1 : letterB c = true
  · rw [if_pos h1, if_pos h1]
    have hw : ((c :: r).takeWhile wordB).length ≤ r.length + 1 := takeWhile_le wordB (c :: r)
    rw [lex_words_b s hs, hL]
    simp only [Option.bind_some, Int.toNat_natCast]
    rw [if_pos ⟨by omega, by omega, by omega⟩, if_pos ⟨by omega, by omega, by omega⟩]
    have e2 : s.extract 0 ((c :: r).takeWhile wordB).length = strB ((c :: r).take ((c :: r).takeWhile wordB).length) := L_inj (by rw [L_take, hL, L_strB])
    rw [e2, lex_Name_b, L_strB]
    simp only [Option.bind_some]
    cases hn : nameB ((c :: r).take ((c :: r).takeWhile wordB).length)
    · exact take_err
    · exact take_ok (by rw [Nat.zero_add]; rfl)
  · rw [if_neg h1, if_neg h1]
    by_cases h2 : digitB c = true ∨ c = 45
    · have e3 : ∀ (x y : Option ((TToken × Int × Int × Unit) × Unit)), (if digitB c = true then x else if ((c.toNat : Int) == 45) = true then x else y) = x := by
        intro x y
        rcases h2 with h2 | h2
        · rw [if_pos h2]
        · subst h2
          rw [if_neg (by decide), if_pos (by decide)]
      rw [e3, if_pos h2]
      by_cases hv : (numV ((c :: r).take (1 + (r.takeWhile wordB).length))).2 = 0
      · rw [if_pos hv, hv]
        exact take_ok (by rw [Nat.zero_add])
      · rw [if_neg hv]
        exact take_err
    · rw [if_neg (fun q => h2 (.inl q)), if_neg (show ¬ ((c.toNat : Int) == 45) = true from byte_ne (fun q => h2 (.inr q))), if_neg h2]
      by_cases h3 : c = 34
      · subst h3
        rw [if_pos (by decide), if_pos rfl]
        have hq := lex_quoted_loop s hs r.length r 1 (by rw [hL]; rfl) (Nat.le_refl _) (by omega)
        unfold lex_quoted
        rw [show (1 : Int) = ((1 : Nat) : Int) from rfl, hq, unqL_scan r.length r (Nat.le_refl _)]
        simp only [Option.bind_some]
        cases hsc : scanQ r with
        | none =>
          simp only
          rw [if_pos ⟨by omega, by omega, by omega⟩, lex_Unquote_b _ (by rw [size_take _ _ (by simp)]; simp), L_take]
          exact take_err
        | some m =>
          have hm := scanQ_lt _ _ (Nat.le_refl _) m hsc
          simp only [Int.toNat_natCast]
          have hm' := hm.1
          rw [if_pos ⟨by omega, by omega, by omega⟩, lex_Unquote_b _ (by rw [size_take _ _ (by omega)]; omega), L_take, hL]
          have e4 : (34 :: r).take (1 + m + 1) = 34 :: (r.take m ++ [34]) := by
            rw [show 1 + m + 1 = (m + 1) + 1 by omega, List.take_succ_cons, List.take_succ_eq_append_getElem hm', (List.getElem?_eq_some_iff.1 hm.2).2]
          rw [e4]
          have e5 : unqV (34 :: (r.take m ++ [34])) = unqI r.length (r.take m) := by
            unfold unqV
            simp only
            rw [List.getLast?_concat, if_pos rfl, List.dropLast_concat, unqI_fuel _ _ (by simp), unqI_fuel r.length _ (by rw [List.length_take]; omega)]
          rw [e5]
          cases hu : unqI r.length (r.take m) with
          | none => exact take_err
          | some o =>
            refine take_ok ?_
            simp only [Option.bind_some, Option.some.injEq, Prod.mk.injEq, and_true, true_and, List.length_cons, List.length_drop]
            omega
      · rw [if_neg (show ¬ ((c.toNat : Int) == 34) = true from byte_ne h3), if_neg h3, lex_mark_b]
        simp only [Option.bind_some]
        by_cases h4 : markB c = true
        · rw [if_pos h4, if_pos ⟨by omega, by omega, by omega⟩, if_pos h4]
          have e6 : s.extract 0 1 = strB [c] := L_inj (by rw [L_take, hL]; rfl)
          rw [e6]
          exact take_ok rfl
        · rw [if_neg h4, if_neg h4]
          exact take_err

theorem indexByte_drop : ∀ (l : List UInt8) (c : UInt8), (Lib.indexByte l c = -1 ∧ l.dropWhile (· ≠ c) = []) ∨ ∃ n : Nat, Lib.indexByte l c = n ∧ n ≤ l.length ∧ l.dropWhile (· ≠ c) = l.drop n
  | [], c => .inl ⟨rfl, rfl⟩
  | b :: l, c => by
    simp only [Lib.indexByte]
    by_cases h : b = c
    · subst h
      refine .inr ⟨0, by simp, by simp, by simp⟩
    · rw [if_neg (by simpa using h)]
      have e : (b :: l).dropWhile (· ≠ c) = l.dropWhile (· ≠ c) := by simp [List.dropWhile_cons, h]
      rw [e]
      rcases indexByte_drop l c with ⟨h1, h2⟩ | ⟨n, h1, h2, h3⟩
      · rw [h1]; exact .inl ⟨by decide, h2⟩
      · rw [h1, if_neg (by simp)]
        exact .inr ⟨n + 1, by simp, by simp; omega, by rw [h3]; rfl⟩

/-- What the loops over a text come to. -/
def tokOut (l0 : List TToken) : Except (Int × Int) (List TToken) → (List TToken × Int × Int × Unit)
  | .ok ts => (l0 ++ ts, 0, 0, ())
  | .error e => ([], e.1, e.2, ())

theorem dropWhile_le (p : UInt8 → Bool) (l : List UInt8) : (l.dropWhile p).length ≤ l.length := (List.dropWhile_sublist p).length_le

theorem lex_Tokens_loop : ∀ (k : Nat) (s : ByteArray) (line : Nat) (l0 : List TToken), (L s).length ≤ k → l0.length + (L s).length ≤ 1048576 → line + (L s).length ≤ 2097152 →
    lex_Tokens_l7 s line l0 = some (tokOut l0 (tokF k line (L s)), ()) := by
  intro k
  induction k using Nat.strongRecOn with
  | _ k ih =>
    intro s line l0 hk ha hb
    rw [lex_Tokens_l7_eq]
    cases hL : L s with
    | nil =>
      rw [if_neg (cond_nil hL)]
      have : tokF k line [] = .ok [] := by cases k <;> rfl
      rw [this]
      simp only [tokOut, List.append_nil]
    | cons c r =>
      have hl := size_of hL
      rw [hL] at hk ha hb
      simp only [List.length_cons] at hk ha hb hl
      obtain ⟨k, rfl⟩ : ∃ j, k = j + 1 := ⟨k - 1, by omega⟩
      have e1 := L_ext' s 1
      rw [hL, List.drop_succ_cons, List.drop_zero] at e1
      rw [if_pos (cond_not_nil hL), if_pos ⟨by omega, by omega⟩, bt_cons hL, tokF]
      by_cases h1 : c = 10
      · subst h1
        rw [if_pos (by decide), if_pos rfl, if_pos ⟨by omega, by omega⟩, w64a line (by omega), ih k (by omega) _ (line + 1) l0 (by rw [e1]; omega) (by rw [e1]; omega) (by rw [e1]; omega), e1]
        rfl
      · rw [if_neg (show ¬ ((c.toNat : Int) == 10) = true from byte_ne h1), if_neg h1]
        have blank : ∀ t, lex_Tokens_l15 s line t true l0 = some (tokOut l0 (tokF k line r), ()) := by
          intro t
          rw [lex_Tokens_l15_eq, if_pos rfl, if_pos ⟨by omega, by omega⟩, ih k (by omega) _ line l0 (by rw [e1]; omega) (by rw [e1]; omega) (by rw [e1]; omega), e1]
        by_cases h2 : c = 32
        · subst h2
          rw [if_pos (by decide), if_pos (.inl rfl)]
          exact blank _
        · rw [if_neg (show ¬ ((c.toNat : Int) == 32) = true from byte_ne h2)]
          by_cases h3 : c = 9
          · subst h3
            rw [show (((9 : UInt8).toNat : Int) == 9) = true from by decide, if_pos (.inr rfl)]
            exact blank _
          · rw [show ((c.toNat : Int) == 9) = false from by simpa using byte_ne h3, if_neg (by simp [h2, h3]), lex_Tokens_l15_eq, if_neg Bool.false_ne_true]
            by_cases h4 : c = 35
            · subst h4
              rw [if_pos (by decide), if_pos rfl]
              simp only [strings_IndexByte, Option.bind_some]
              rw [show (10 : Int).toNat.toUInt8 = 10 from rfl, show s.data.toList = L s from rfl, hL]
              have e2 : ((35 : UInt8) :: r).dropWhile (· ≠ 10) = r.dropWhile (· ≠ 10) := by simp [List.dropWhile_cons]
              have hdl := dropWhile_le (· ≠ 10) r
              rcases indexByte_drop (35 :: r) 10 with ⟨f1, f2⟩ | ⟨n, f1, f2, f3⟩
              · rw [f1, if_pos (by decide), if_pos ⟨by omega, by omega⟩, Int.toNat_natCast]
                have e3 := L_ext' s s.size
                rw [List.drop_of_length_le (by rw [L_len]; exact Nat.le_refl _)] at e3
                rw [ih k (by omega) _ line l0 (by rw [e3]; simp) (by rw [e3]; simp; omega) (by rw [e3]; simp; omega), e3, ← e2, f2]
              · simp only [List.length_cons] at f2
                rw [f1, if_neg (dF (by omega)), if_pos ⟨by omega, by omega⟩, Int.toNat_natCast]
                have e3 := L_ext' s n
                rw [hL, ← f3, e2] at e3
                rw [ih k (by omega) _ line l0 (by rw [e3]; omega) (by rw [e3]; omega) (by rw [e3]; omega), e3]
            · rw [if_neg (show ¬ ((c.toNat : Int) == 35) = true from byte_ne h4), if_neg h4]
              have ht := lex_take_b s (by omega) c r hL
              cases hv : takeV (c :: r) with
              | error e =>
                rw [hv] at ht
                obtain ⟨x, n, ht⟩ := ht
                rw [ht]
                simp only [Option.bind_some]
                rw [if_pos (nT (takeV_err hv))]
                rfl
              | ok p =>
                obtain ⟨t, n⟩ := p
                rw [hv] at ht
                have hn := takeV_len hv
                rw [show lex_take s = _ from ht]
                simp only [Option.bind_some]
                have e3 := L_ext' s n
                rw [hL] at e3
                have e4 : (L (s.extract n s.size)).length = r.length + 1 - n := by rw [e3, List.length_drop, List.length_cons]
                rw [if_neg (nF rfl), if_pos ⟨by omega, by omega⟩, if_pos ⟨by omega, by omega⟩, Int.toNat_natCast, Nat.zero_add,
                  ih k (by omega) _ line _ (by rw [e4]; omega) (by rw [e4, List.length_append, List.length_cons, List.length_nil]; omega) (by rw [e4]; omega), e3]
                cases tokF k line ((c :: r).drop n) with
                | error e => rfl
                | ok ts => simp only [tokOut, List.append_assoc, List.cons_append, List.nil_append]

theorem lex_Tokens_b (s : ByteArray) : lex_Tokens s = some (tokOut [] (tokV (L s)), ()) := by
  unfold lex_Tokens tokV
  rw [L_len]
  by_cases h : s.size > 1048576
  · rw [if_pos (dT (by omega)), if_pos h]; rfl
  · rw [if_neg (dF (by omega)), if_neg h]
    exact lex_Tokens_loop s.size s 1 [] (by rw [L_len]; exact Nat.le_refl _) (by rw [L_len]; simp; omega) (by rw [L_len]; omega)

end Go.Proofs.YtejehchbflmofaaDoor
end

section
/-
YtejehchbflmofaaDoor: the laws of tokens, numbers and quoted strings, as plain functions, come to true. No condition.
-/
set_option maxRecDepth 100000
open Go Go.AM
namespace Go.Proofs.YtejehchbflmofaaDoor

theorem awake_tokens : tokV [97, 50, 32, 61, 32, 45, 48, 120, 49, 102, 59, 32, 35, 32, 101, 110, 100] = .ok [(1, strB [97, 50], 0, 1), (4, strB [61], 0, 1), (2, strB [45, 48, 120, 49, 102], (-31), 1), (4, strB [59], 0, 1)] := by kernel_rfl

theorem tokF_length : ∀ (k : Nat) (line : Int) (l : List UInt8) (ts : List TToken), tokF k line l = .ok ts → ts.length ≤ l.length := by
  intro k
  induction k with
  | zero => intro line l ts h; cases l <;> cases h <;> simp
  | succ k ih =>
    intro line l ts h
    cases l with
    | nil => cases h; simp
    | cons c r =>
      rw [tokF] at h
      split at h
      · have := ih _ _ _ h; simp only [List.length_cons]; omega
      · split at h
        · have := ih _ _ _ h; simp only [List.length_cons]; omega
        · split at h
          · have := ih _ _ _ h
            have := dropWhile_le (· ≠ 10) r
            simp only [List.length_cons]; omega
          · split at h
            · cases h
            · rename_i t n hv
              have hn := takeV_len hv
              split at h
              · rename_i ts' ht
                cases h
                have := ih _ _ _ ht
                rw [List.length_drop] at this
                simp only [List.length_cons] at this ⊢
                omega
              · cases h

theorem tokOut_length (s : ByteArray) : (tokOut [] (tokV (L s))).1.length ≤ 1048576 := by
  unfold tokV
  split
  · simp [tokOut]
  · cases h : tokF (L s).length 1 (L s) with
    | ok ts =>
      have := tokF_length _ _ _ _ h
      simp only [tokOut, List.nil_append]
      omega
    | error e => simp [tokOut]

end Go.Proofs.YtejehchbflmofaaDoor
end

section
/-
YtejehchbflmofaaDoor: quoting, as plain functions, comes to what the plain law says; quoted strings are read back. No condition.
-/
set_option maxRecDepth 100000
set_option linter.unusedVariables false
open Go Go.AM
namespace Go.Proofs.YtejehchbflmofaaDoor

theorem writeByte_b (c : Int) (l : List Int) (h : l.length ≤ 1099511627776) : strings_Builder_WriteByte c l = some (((), ()), (((), (), ()), (), l ++ [c], ())) := by
  unfold strings_Builder_WriteByte strings_Builder_copyCheck
  simp only [Option.bind_some]
  rw [if_pos ⟨by omega, by decide⟩]

theorem writeString_b (s : ByteArray) (l : List Int) (h : l.length + s.size ≤ 1099511627776) : strings_Builder_WriteString s l = some (((s.size : Int), (), ()), (((), (), ()), (), l ++ bytesOfStr s, ())) := by
  have e : (bytesOfStr s).length = s.size := by unfold bytesOfStr; rw [List.length_map]; exact Array.length_toList
  unfold strings_Builder_WriteString strings_Builder_copyCheck
  simp only [Option.bind_some]
  rw [if_pos ⟨by rw [e]; omega, by decide⟩]

theorem byteL_bI (l : List UInt8) : byteL (bI l) = true := by
  unfold byteL bI
  rw [List.all_eq_true]
  intro x hx
  obtain ⟨c, _, rfl⟩ := List.mem_map.1 hx
  have := c.toNat_lt
  exact decide_eq_true (by omega)

theorem string_b (l : List UInt8) : strings_Builder_String (bI l) = some ((strB l, ()), ((), (), ())) := by
  unfold strings_Builder_String
  rw [if_pos (byteL_bI l), strOf_bI]

theorem lex_Quote_loop (s : ByteArray) (hs : s.size ≤ 4294967296) : ∀ (r : List UInt8) (n : Nat) (acc : List UInt8), (L s).drop n = r → acc.length ≤ 4 * n + 1 → n ≤ s.size → lex_Quote_l5 s s.size n (bI acc) = some ((strB (acc ++ (quoteL r ++ [34])), ()), ())
  | [], n, acc, h, ha, hn => by
    have h1 := drop_nil h
    rw [L_len] at h1
    rw [lex_Quote_l5_eq, if_neg (dF (by omega)), writeByte_b _ _ (by rw [bI_len]; omega)]
    simp only [Option.bind_some]
    rw [show bI acc ++ [34] = bI (acc ++ [34]) from bI_snoc acc 34, string_b]
    rfl
  | c :: r, n, acc, h, ha, hn => by
    have h1 := drop_lt h
    rw [L_len] at h1
    have hc := c.toNat_lt
    have ih : ∀ q : List UInt8, q = quoteC c → lex_Quote_l5 s s.size (n + 1 : Nat) (bI (acc ++ q)) = some ((strB (acc ++ (quoteL (c :: r) ++ [34])), ()), ()) := fun q hq => by
      have hl := quoteC_len c
      rw [lex_Quote_loop s hs r (n + 1) (acc ++ q) (dropS h) (by rw [List.length_append, hq]; omega) (by omega), hq, quoteL_cons]
      simp [List.append_assoc]
    rw [lex_Quote_l5_eq, if_pos (dT (by omega)), if_pos ⟨by omega, by omega⟩, bt_drop h, w32c, lex_plain_b, w64a n (by omega)]
    simp only [Option.bind_some]
    by_cases hp : plainB c = true
    · rw [if_pos hp, writeByte_b _ _ (by rw [bI_len]; omega)]
      simp only [Option.bind_some]
      rw [bI_snoc]
      exact ih [c] (by unfold quoteC; rw [if_pos hp])
    · rw [if_neg hp]
      have two : ∀ k : Nat, k ≤ 4 → (bI acc).length + k ≤ 1099511627776 := fun k hk => by rw [bI_len]; omega
      by_cases h34 : c = 34
      · subst h34
        rw [if_pos (by decide), writeByte_b _ _ (by have := two 0 (by omega); omega)]
        simp only [Option.bind_some]
        rw [writeByte_b _ _ (by rw [List.length_append]; have := two 1 (by omega); simp only [List.length_cons, List.length_nil]; omega)]
        simp only [Option.bind_some]
        have := ih [92, 34] rfl
        rw [← bI_app, show bI [92, 34] = [(92 : Int)] ++ [(34 : Int)] from rfl, ← List.append_assoc] at this
        exact this
      rw [if_neg (show ¬ ((c.toNat : Int) == 34) = true from byte_ne h34)]
      by_cases h92 : c = 92
      · subst h92
        rw [if_pos (by decide), writeByte_b _ _ (by have := two 0 (by omega); omega)]
        simp only [Option.bind_some]
        rw [writeByte_b _ _ (by rw [List.length_append]; have := two 1 (by omega); simp only [List.length_cons, List.length_nil]; omega)]
        simp only [Option.bind_some]
        have := ih [92, 92] rfl
        rw [← bI_app, show bI [92, 92] = [(92 : Int)] ++ [(92 : Int)] from rfl, ← List.append_assoc] at this
        exact this
      rw [if_neg (show ¬ ((c.toNat : Int) == 92) = true from byte_ne h92)]
      by_cases h10 : c = 10
      · subst h10
        rw [if_pos (by decide), writeString_b _ _ (two 2 (by omega))]
        simp only [Option.bind_some]
        have := ih [92, 110] rfl
        rw [← bI_app] at this
        exact this
      rw [if_neg (show ¬ ((c.toNat : Int) == 10) = true from byte_ne h10), writeString_b _ _ (two 2 (by omega))]
      simp only [Option.bind_some]
      obtain ⟨a1, a2, a3⟩ := dig_hi c.toNat hc
      obtain ⟨b1, b2, b3⟩ := dig_lo c.toNat hc
      have e2 : (bytesOfStr (strB [92, 120])) = [92, 120] := rfl
      rw [if_pos ⟨a1, a2⟩, e2, writeByte_b _ _ (by rw [List.length_append]; have := two 2 (by omega); simp only [List.length_cons, List.length_nil]; omega)]
      simp only [Option.bind_some]
      rw [if_pos ⟨b1, b2⟩, writeByte_b _ _ (by simp only [List.length_append, List.length_cons, List.length_nil]; have := two 3 (by omega); omega)]
      simp only [Option.bind_some]
      have := ih [92, 120, hexD (c.toNat / 16), hexD (c.toNat % 16)] (by unfold quoteC; rw [if_neg hp, if_neg (by simp [h34, h92]), if_neg h10])
      rw [← bI_app] at this
      have e3 : bI acc ++ [92, 120] ++ [bt digsB ((c.toNat : Int).fdiv 16)] ++ [bt digsB (IntKind.u8.wrap (BitVec.ofInt 8 (c.toNat : Int) &&& BitVec.ofInt 8 15).toNat)] = bI acc ++ bI [92, 120, hexD (c.toNat / 16), hexD (c.toNat % 16)] := by
        rw [a3, b3]
        simp [bI]
      rw [← e3] at this
      exact this

theorem lex_Quote_b (s : ByteArray) (hs : s.size ≤ 4294967296) : lex_Quote s = some ((strB (quoteV (L s)), ()), ()) := by
  unfold lex_Quote
  rw [writeByte_b _ _ (by simp)]
  simp only [Option.bind_some]
  exact lex_Quote_loop s hs (L s) 0 [34] rfl (by simp) (by omega)

end Go.Proofs.YtejehchbflmofaaDoor
end

section
/-
YtejehchbflmofaaDoor: the text of tokens, as plain functions, comes to what the plain law says. No condition.
-/
set_option maxRecDepth 100000
set_option linter.unusedVariables false
open Go Go.AM
namespace Go.Proofs.YtejehchbflmofaaDoor

theorem strB_L (s : ByteArray) : strB (L s) = s := L_inj (L_strB _)
theorem strB_app (a b : List UInt8) : strB a ++ strB b = strB (a ++ b) := L_inj (by rw [L_app]; rfl)
theorem beq_dec (x y : Int) : (x == y) = decide (x = y) := by rw [Bool.eq_iff_iff]; simp
theorem bytesOf_strB (l : List UInt8) : bytesOfStr (strB l) = bI l := rfl

theorem itoa_b (n : Int) (h : -9223372036854775808 ≤ n ∧ n ≤ 9223372036854775807) : strconv_Itoa n = some ((strB (Lib.itoa n), ()), ()) := by
  unfold strconv_Itoa itoaG
  rw [if_pos h]
  rfl

theorem lex_form_b (t : TToken) (hs : t.2.1.size ≤ 1048576) (hv : -9223372036854775808 ≤ t.2.2.1 ∧ t.2.2.1 ≤ 9223372036854775807) : ∃ s, lex_form t = some ((s, formOk t, ()), ()) ∧ (formOk t = true → s = strB (formB t)) := by
  unfold lex_form formOk formB
  by_cases h1 : t.1 = 1
  · have e2 : ¬ t.1 = 2 := by omega
    have e3 : ¬ t.1 = 3 := by omega
    rw [if_pos (eT h1), if_pos h1, if_neg e2, if_neg e3, lex_Name_b, beq_dec]
    simp only [Option.bind_some]
    refine ⟨t.2.1, ?_, fun _ => (strB_L _).symm⟩
    cases nameB (L t.2.1) <;> simp
  rw [if_neg (eF h1), if_neg h1]
  by_cases h2 : t.1 = 2
  · rw [if_pos (eT h2), if_pos h2, if_pos h2, lex_Number_b _ (by omega), itoa_b _ hv]
    simp only [Option.bind_some, beq_dec]
    refine ⟨strB (Lib.itoa t.2.2.1), ?_, fun _ => rfl⟩
    by_cases he : (numV (L t.2.1)).2 = 0
    · rw [if_pos (by simpa using he)]; simp [he]
    · rw [if_neg (by simpa using he)]; simp [he]
  rw [if_neg (eF h2), if_neg h2, if_neg h2]
  by_cases h3 : t.1 = 3
  · rw [if_pos (eT h3), if_pos h3, if_pos h3, lex_Quote_b _ (by omega), beq_dec]
    simp only [Option.bind_some]
    exact ⟨_, rfl, fun _ => rfl⟩
  rw [if_neg (eF h3), if_neg h3, if_neg h3]
  by_cases h4 : t.1 = 4
  · rw [if_pos (eT h4), if_pos h4]
    refine ⟨t.2.1, ?_, fun _ => (strB_L _).symm⟩
    by_cases hz : (t.2.1.size : Int) = 1
    · rw [if_pos (eT hz), if_pos ⟨by omega, by omega⟩]
      have hl : (L t.2.1).length = 1 := by rw [L_len]; omega
      obtain ⟨c, hc⟩ : ∃ c, L t.2.1 = [c] := by
        match L t.2.1, hl with
        | [c], _ => exact ⟨c, rfl⟩
      rw [bt_at (i := 0) (c := c) (r := []) (by rw [hc]; rfl) 0 rfl, w32c, lex_mark_b, hc, beq_dec]
      simp only [Option.bind_some, markL]
      cases markB c <;> simp
    · rw [if_neg (eF hz)]
      have hm : markL (L t.2.1) = false := by
        have hl : (L t.2.1).length ≠ 1 := by rw [L_len]; omega
        match L t.2.1, hl with
        | [], _ => rfl
        | [c], hl => exact absurd rfl hl
        | _ :: _ :: _, _ => rfl
      rw [hm]
      simp
  rw [if_neg (eF h4), if_neg h4]
  exact ⟨strB [], rfl, fun h => by cases h⟩

theorem digit_b : ∀ d : Nat, d < 10 → (strB [48, 49, 50, 51, 52, 53, 54, 55, 56, 57]).extract d (d + 1) = strB [UInt8.ofNat (48 + d)]
  | 0, _ => by kernel_rfl
  | 1, _ => by kernel_rfl
  | 2, _ => by kernel_rfl
  | 3, _ => by kernel_rfl
  | 4, _ => by kernel_rfl
  | 5, _ => by kernel_rfl
  | 6, _ => by kernel_rfl
  | 7, _ => by kernel_rfl
  | 8, _ => by kernel_rfl
  | 9, _ => by kernel_rfl
  | n + 10, h => by omega

def okTok (t : TToken) : Prop := t.2.1.size ≤ 1048576 ∧ -9223372036854775808 ≤ t.2.2.1 ∧ t.2.2.1 ≤ 9223372036854775807

theorem len_b (l : List Int) : strings_Builder_Len l = some (((l.length : Int), ()), (((), (), ()), (), l, ())) := rfl

theorem lex_Text_loop (l : List TToken) (hl : l.length ≤ 1048576) (ho : ∀ t ∈ l, okTok t) : ∀ (r : List TToken) (n : Nat) (acc : List UInt8), l.drop n = r → acc.length + (r.map wt).sum ≤ 1073741824 →
    lex_Text_l4 l (l.length : Int) n (bI acc) = some (if r.all formOk = true then (if 1048576 < (acc ++ joinB (decide (n = 0)) r).length then (strB [], 6, ()) else (strB (acc ++ joinB (decide (n = 0)) r), 0, ())) else (strB [], 1, ()), ())
  | [], n, acc, h, ha => by
    have h1 := drop_nil h
    have hj : ∀ b, joinB b [] = [] := fun b => by cases b <;> rfl
    rw [lex_Text_l4_eq, if_neg (dF (by omega)), len_b, hj, List.append_nil]
    simp only [Option.bind_some, List.all_nil, if_true]
    by_cases hx : 1048576 < acc.length
    · rw [if_pos (dT (by rw [bI_len]; omega)), if_pos hx]
    · rw [if_neg (dF (by rw [bI_len]; omega)), if_neg hx, string_b]
      rfl
  | t :: r, n, acc, h, ha => by
    have h1 := drop_lt h
    have hg : l.getD (n : Int).toNat dToken = t := getD_drop h
    have ht := ho t (mem_drop h)
    obtain ⟨s, e1, e2⟩ := lex_form_b t ht.1 ht.2
    simp only [List.map_cons, List.sum_cons] at ha
    rw [lex_Text_l4_eq, if_pos (dT (by omega)), if_pos ⟨by omega, by omega⟩, hg, e1, w64a n (by omega)]
    simp only [Option.bind_some]
    by_cases hf : formOk t = true
    · have hs := e2 hf
      have hlen := formB_len hf
      subst hs
      refine (if_neg (by simp [hf])).trans ?_
      rw [show (t :: r).all formOk = r.all formOk by simp [hf]]
      have ih : ∀ p : List UInt8, p.length ≤ wt t → lex_Text_l4 l (l.length : Int) (n + 1 : Nat) (bI acc ++ bI p) = some (if r.all formOk = true then (if 1048576 < (acc ++ (p ++ joinB false r)).length then (strB [], 6, ()) else (strB (acc ++ (p ++ joinB false r)), 0, ())) else (strB [], 1, ()), ()) := fun p hp => by
        rw [bI_app, ← List.append_assoc]
        exact lex_Text_loop l hl ho r (n + 1) (acc ++ p) (dropS h) (by rw [List.length_append]; omega)
      by_cases hn : n = 0
      · subst hn
        rw [if_neg (dF (by omega)), writeString_b _ _ (by rw [bI_len, strB_size]; omega)]
        simp only [Option.bind_some]
        rw [bytesOf_strB]
        exact ih (formB t) (by omega)
      · rw [if_pos (dT (by omega)), writeByte_b _ _ (by rw [bI_len]; omega)]
        simp only [Option.bind_some]
        rw [writeString_b _ _ (by rw [List.length_append, bI_len, strB_size]; simp only [List.length_cons, List.length_nil]; omega)]
        simp only [Option.bind_some]
        rw [bytesOf_strB]
        have := ih (32 :: formB t) (by simp only [List.length_cons]; omega)
        rw [show bI (32 :: formB t) = [(32 : Int)] ++ bI (formB t) from rfl, ← List.append_assoc] at this
        rw [show joinB (decide (n = 0)) (t :: r) = 32 :: formB t ++ joinB false r by rw [decide_eq_false hn]; rfl]
        exact this
    · refine (if_pos (by simpa using hf)).trans ?_
      rw [show (t :: r).all formOk = false by simp [hf]]
      simp

theorem lex_Text_b (l : List TToken) (hl : l.length ≤ 1048576) (ho : ∀ t ∈ l, okTok t) (hw : (l.map wt).sum ≤ 1073741824) : lex_Text l = some ((strB (textV l).1, (textV l).2, ()), ()) := by
  unfold lex_Text textV
  refine (lex_Text_loop l hl ho l 0 [] rfl (by simpa using hw)).trans ?_
  simp only [List.nil_append, decide_true]
  split
  · split <;> rfl
  · rfl

/-! ### what is read is small -/
abbrev kTok : U := .cons (.int .i64) (.cons .str (.cons (.int .i64) (.int .i64)))

theorem toks_small (l : List TToken) (hb : bk (.sl kTok) l ≤ 1048576) : l.length ≤ 1048576 ∧ (l.map wt).sum ≤ 67108864 ∧ ∀ t ∈ l, t.2.1.size ≤ 1048576 := by
  have e1 : bk (.sl kTok) l = (l.map (bk kTok)).sum + 1 := rfl
  rw [e1] at hb
  have h1 := len_le_bk (e := kTok) (fun x => by simp only [bk]; omega) l
  refine ⟨by omega, ?_, fun t ht => ?_⟩
  · have key : ∀ m : List TToken, (m.map wt).sum ≤ 64 * (m.map (bk kTok)).sum := by
      intro m
      induction m with
      | nil => simp
      | cons t m ih =>
        have e2 : bk kTok t = 1 + ((t.2.1.size + 1) + (1 + 1)) := rfl
        simp only [List.map_cons, List.sum_cons]
        rw [e2]
        unfold wt at ih ⊢
        omega
    have := key l
    omega
  · have h2 := mem_le_bk (e := kTok) ht
    have e2 : bk kTok t = 1 + ((t.2.1.size + 1) + (1 + 1)) := rfl
    omega

theorem toks_ok (l : List TToken) (hw : Wf (.sl kTok) l) (hb : bk (.sl kTok) l ≤ 1048576) : ∀ t ∈ l, okTok t := by
  intro t ht
  have h1 := (toks_small l hb).2.2 t ht
  have h2 : Wf kTok t := hw.2 t ht
  have h3 : IntKind.i64.min ≤ t.2.2.1 ∧ t.2.2.1 ≤ IntKind.i64.max := h2.2.2.1
  exact ⟨h1, h3.1, h3.2⟩

end Go.Proofs.YtejehchbflmofaaDoor
end

section
/-
YtejehchbflmofaaDoor: checks of captures and limits, as plain functions, come to the plain law. No condition.
-/
set_option maxRecDepth 100000
set_option linter.unusedVariables false
open Go Go.AM
namespace Go.Proofs.YtejehchbflmofaaDoor

theorem takeS {α : Type} {l : List α} {k : Nat} {b : α} {r : List α} (h : l.drop k = b :: r) : l.take (k + 1) = l.take k ++ [b] := by
  have h1 := drop_lt h
  rw [List.take_add_one, List.getElem?_eq_getElem h1]
  have : l[k] = b := by
    have := List.drop_eq_getElem_cons h1
    rw [h] at this
    exact (List.cons.inj this).1.symm
  rw [this]
  rfl

/-! ### limits -/
theorem clocked_b (x : TLimit) : limit_clocked x = some ((clkB x.1, ()), ()) := by
  unfold limit_clocked clkB
  by_cases h4 : x.1 = 4
  · rw [if_pos (eT h4), decide_eq_true (by omega)]
  rw [if_neg (eF h4)]
  by_cases h5 : x.1 = 5
  · rw [if_pos (eT h5), decide_eq_true (by omega)]
  rw [if_neg (eF h5)]
  by_cases h6 : x.1 = 6
  · rw [eT h6, decide_eq_true (by omega)]
  · rw [show (x.1 == 6) = false from beq_eq_false_iff_ne.2 h6, decide_eq_false (by omega)]

theorem rclocked_b (x : TLimit) : ref49_clocked x = some ((clkB x.1, ()), ()) := by
  unfold ref49_clocked clkB
  by_cases h4 : x.1 ≥ 4
  · rw [if_pos (dT h4)]
    by_cases h6 : x.1 ≤ 6
    · rw [decide_eq_true h6, decide_eq_true (by omega)]
    · rw [decide_eq_false h6, decide_eq_false (by omega)]
  · rw [if_neg (dF h4), decide_eq_false (by omega)]

theorem form_b (x : TLimit) : limit_form x = some ((formE x, ()), ()) := by
  unfold limit_form formE
  rw [clocked_b]
  simp only [Option.bind_some]
  by_cases h1 : x.1 < 1
  · rw [if_pos (dT h1), if_neg (by omega)]
  rw [if_neg (dF h1)]
  by_cases h2 : x.1 > 6
  · rw [if_pos (dT h2), if_neg (by omega)]
  rw [if_neg (dF h2)]
  by_cases h3 : x.2.2.2.2.1 < 0
  · rw [if_pos (dT h3), if_neg (by omega)]
  rw [if_neg (dF h3)]
  by_cases h4 : x.2.2.2.2.1 > x.2.2.2.2.2
  · rw [if_pos (dT h4), if_neg (by omega)]
  rw [if_neg (dF h4)]
  by_cases h5 : x.2.2.2.2.2 > 1099511627776
  · rw [if_pos (dT h5), if_neg (by omega)]
  have hok : (1 ≤ x.1 ∧ x.1 ≤ 6) ∧ (0 ≤ x.2.2.2.2.1 ∧ x.2.2.2.2.1 ≤ x.2.2.2.2.2 ∧ x.2.2.2.2.2 ≤ 1099511627776) := by omega
  rw [if_neg (dF h5), if_pos hok]
  cases hc : clkB x.1 with
  | true => rfl
  | false =>
    refine (if_pos (by simp)).trans ?_
    by_cases he : x.2.2.1 = strB []
    · rw [if_neg (by rw [he]; simp)]
      cases hr : x.2.2.2.1 with
      | true => rw [if_pos rfl, if_neg (by simp)]
      | false => rw [if_neg (by simp), if_pos (.inr ⟨he, rfl⟩)]
    · have hq : (x.2.2.1.toList == (strB []).toList) = false := by
        rw [beq_eq_false_iff_ne]
        intro q
        exact he (by rw [toL, toL] at q; exact L_inj q)
      rw [if_pos (by rw [hq]; rfl), if_neg (fun q => by rcases q with q | q; exact absurd q (by simp); exact he q.1)]

theorem rbad_b (x : TLimit) : ref49_bad x = some ((!decide (formE x = 0), ()), ()) := by
  unfold ref49_bad formE
  rw [rclocked_b]
  simp only [Option.bind_some]
  by_cases h1 : x.1 < 1
  · rw [if_pos (dT h1), if_neg (by omega)]; rfl
  rw [if_neg (dF h1)]
  by_cases h2 : x.1 > 6
  · rw [if_pos (dT h2), if_neg (by omega)]; rfl
  rw [if_neg (dF h2)]
  by_cases h3 : x.2.2.2.2.1 < 0
  · rw [if_pos (dT h3), if_neg (by omega)]; rfl
  rw [if_neg (dF h3)]
  by_cases h4 : x.2.2.2.2.1 > x.2.2.2.2.2
  · rw [if_pos (dT h4), if_neg (by omega)]; rfl
  rw [if_neg (dF h4)]
  by_cases h5 : x.2.2.2.2.2 > 1099511627776
  · rw [if_pos (dT h5), if_neg (by omega)]; rfl
  have hok : (1 ≤ x.1 ∧ x.1 ≤ 6) ∧ (0 ≤ x.2.2.2.2.1 ∧ x.2.2.2.2.1 ≤ x.2.2.2.2.2 ∧ x.2.2.2.2.2 ≤ 1099511627776) := by omega
  rw [if_neg (dF h5), if_pos hok]
  cases hc : clkB x.1 with
  | true => rfl
  | false =>
    refine (if_pos (by simp)).trans ?_
    by_cases he : x.2.2.1 = strB []
    · rw [if_neg (by rw [he]; simp)]
      cases hr : x.2.2.2.1 with
      | true => rw [if_neg (by simp)]; rfl
      | false => rw [if_pos (.inr ⟨he, rfl⟩)]; rfl
    · have hq : (x.2.2.1.toList == (strB []).toList) = false := by
        rw [beq_eq_false_iff_ne]
        intro q
        exact he (by rw [toL, toL] at q; exact L_inj q)
      rw [if_pos (by rw [hq]; rfl), if_neg (fun q => by rcases q with q | q; exact absurd q (by simp); exact he q.1)]
      rfl

/-! ### names of captures -/
theorem index_loop (l : List ByteArray) (hl : l.length ≤ 1048577) (v : ByteArray) : ∀ (r : List ByteArray) (k : Nat), l.drop k = r → k ≤ l.length → slices_Index_string_string_l3 l v (l.length : Int) k = some ((optI ((r.findIdx? fun b => L b == L v).map (· + k)), ()), ())
  | [], k, h, hk => by
    have h1 := drop_nil h
    rw [slices_Index_string_string_l3_eq, if_neg (dF (by omega))]
    rfl
  | b :: r, k, h, hk => by
    have h1 := drop_lt h
    have hg : l.getD (k : Int).toNat (strB []) = b := getD_drop h
    rw [slices_Index_string_string_l3_eq, if_pos (dT (by omega)), if_pos ⟨by omega, by omega⟩, hg, w64a k (by omega), List.findIdx?_cons, toL, toL]
    by_cases he : L v = L b
    · rw [if_pos (by simpa using he), he]
      simp [optI]
    · rw [if_neg (by simpa using he), index_loop l hl v r (k + 1) (dropS h) (by omega), show (L b == L v) = false from beq_eq_false_iff_ne.2 fun q => he q.symm]
      simp only [Option.map_map, Bool.false_eq_true, if_false]
      congr 4
      cases r.findIdx? (fun b => L b == L v) with
      | none => rfl
      | some i => simp; omega

theorem index_b (l : List ByteArray) (hl : l.length ≤ 1048577) (v : ByteArray) : slices_Index_string_string l v = some ((optI (l.findIdx? fun b => L b == L v), ()), ()) := by
  unfold slices_Index_string_string
  have := index_loop l hl v l 0 rfl (by omega)
  simpa using this

theorem contains_b (l : List ByteArray) (hl : l.length ≤ 1048577) (v : ByteArray) : slices_Contains_string_string l v = some ((hasB l v, ()), ()) := by
  unfold slices_Contains_string_string hasB
  rw [index_b l hl]
  simp only [Option.bind_some]
  cases h : l.findIdx? (fun b => L b == L v) with
  | none =>
    have : l.any (fun b => L b == L v) = false := by
      rw [List.any_eq_false]
      intro b hb
      have := List.findIdx?_eq_none_iff.1 h b hb
      simpa using this
    rw [this]
    rfl
  | some i =>
    have : l.any (fun b => L b == L v) = true := by
      obtain ⟨hi, hp, _⟩ := List.findIdx?_eq_some_iff_getElem.1 h
      exact List.any_eq_true.2 ⟨_, List.getElem_mem hi, hp⟩
    rw [this]
    show some ((decide ((i : Int) ≥ 0), ()), ()) = _
    rw [decide_eq_true (by omega)]

theorem names15 (l : List ByteArray) (hl : l.length ≤ 1048577) : ∀ (r : List ByteArray) (k : Nat), l.drop k = r → capture_checkNames_l15 l l (l.length : Int) k = some ((if dupB (l.take k) r = true then 9 else 0, ()), ())
  | [], k, h => by
    have h1 := drop_nil h
    rw [capture_checkNames_l15_eq, if_neg (dF (by omega))]
    rfl
  | b :: r, k, h => by
    have h1 := drop_lt h
    have hg : l.getD (k : Int).toNat (strB []) = b := getD_drop h
    have ht : l.take (k + 1) = l.take k ++ [b] := takeS h
    rw [capture_checkNames_l15_eq, if_pos (dT (by omega)), if_pos ⟨by omega, by omega⟩, if_pos ⟨by omega, by omega, by omega⟩, hg, Int.toNat_natCast, contains_b _ (by rw [List.length_take]; omega), w64a k (by omega)]
    simp only [Option.bind_some]
    unfold dupB
    by_cases he : hasB (l.take k) b = true
    · rw [if_pos he]
      have : (l.take k).any (fun c => L c == L b) = true := he
      rw [this]
      rfl
    · rw [if_neg he, names15 l hl r (k + 1) (dropS h), ht]
      have : (l.take k).any (fun c => L c == L b) = false := by simpa [hasB] using he
      rw [this, Bool.false_or]

theorem names6 (l : List ByteArray) (hl : l.length ≤ 1048577) : ∀ (r : List ByteArray) (k : Nat), l.drop k = r → capture_checkNames_l6 l l (l.length : Int) k = some ((if (r.all fun s => nameB (L s)) = true then (if dupB [] l = true then 9 else 0) else 4, ()), ())
  | [], k, h => by
    have h1 := drop_nil h
    rw [capture_checkNames_l6_eq, if_neg (dF (by omega))]
    exact names15 l hl l 0 rfl
  | b :: r, k, h => by
    have h1 := drop_lt h
    have hg : l.getD (k : Int).toNat (strB []) = b := getD_drop h
    rw [capture_checkNames_l6_eq, if_pos (dT (by omega)), if_pos ⟨by omega, by omega⟩, hg, lex_Name_b, w64a k (by omega)]
    simp only [Option.bind_some, List.all_cons]
    by_cases hn : nameB (L b) = true
    · simp only [hn, Bool.not_true, Bool.false_eq_true, if_false, Bool.true_and]
      exact names6 l hl r (k + 1) (dropS h)
    · simp only [Bool.eq_false_iff.2 hn, Bool.not_false, if_true, Bool.false_and, Bool.false_eq_true, if_false]

theorem checkNames_b (l : List ByteArray) (hl : l.length ≤ 1048577) : capture_checkNames l = some ((namesE l, ()), ()) := by
  unfold capture_checkNames namesE
  by_cases h : l = []
  · rw [if_pos (eT (by rw [h]; rfl)), if_pos h]
  · have h' : ¬ (l.length : Int) = 0 := fun q => h (List.length_eq_zero_iff.1 (by omega))
    rw [if_neg (eF h'), if_neg h]
    exact names6 l hl l 0 rfl

theorem mask_b (n : Nat) (h : n ≤ 16) : IntKind.i64.wrap ((IntKind.i64.wrap (1 * 2 ^ (min n 64))) - 1) = maskI n := by
  have : ∀ n, n < 17 → IntKind.i64.wrap ((IntKind.i64.wrap (1 * 2 ^ (min n 64))) - 1) = maskI n := by decide
  exact this n (by omega)

theorem runs11 (l : List TGap) (hl : l.length ≤ 1048577) (mask : Int) : ∀ (r : List TGap) (k : Nat) (left : Int), l.drop k = r → 0 ≤ left → left ≤ 1099511627776 → capture_Check_l11 mask left l (l.length : Int) k = some ((if runsB mask left r = true then 0 else 2, ()), ())
  | [], k, left, h, h0, h9 => by
    have h1 := drop_nil h
    rw [capture_Check_l11_eq, if_neg (dF (by omega))]
    rfl
  | b :: r, k, left, h, h0, h9 => by
    have h1 := drop_lt h
    have hg : l.getD (k : Int).toNat dGap = b := getD_drop h
    rw [capture_Check_l11_eq, if_pos (dT (by omega)), if_pos ⟨by omega, by omega⟩, hg, w64a k (by omega)]
    unfold runsB
    by_cases a1 : b.1 < 0
    · rw [if_pos (dT a1), decide_eq_false (by omega)]; rfl
    rw [if_neg (dF a1)]
    by_cases a2 : b.1 > mask
    · rw [if_pos (dT a2), decide_eq_false (by omega)]; rfl
    rw [if_neg (dF a2)]
    by_cases a3 : b.2 < 1
    · rw [if_pos (dT a3), decide_eq_false (by omega)]; rfl
    rw [if_neg (dF a3)]
    by_cases a4 : b.2 > left
    · rw [if_pos (dT a4), decide_eq_false (by omega)]; rfl
    rw [if_neg (dF a4), decide_eq_true (by omega), Bool.true_and, w64 (by omega) (by omega), runs11 l hl mask r (k + 1) (left - b.2) (dropS h) (by omega) (by omega)]

theorem ccheck_b (c : TCapture) (h1 : c.1.length ≤ 1048576) (h2 : c.2.length ≤ 1048576) : capture_Check c = some ((capE c, ()), ()) := by
  unfold capture_Check capE
  by_cases a1 : 16 < c.1.length
  · rw [if_pos (dT (by omega)), if_pos (.inl a1)]
  rw [if_neg (dF (by omega))]
  by_cases a2 : 262144 < c.2.length
  · rw [if_pos (dT (by omega)), if_pos (.inr a2)]
  rw [if_neg (dF (by omega)), if_neg (show ¬ (16 < c.1.length ∨ 262144 < c.2.length) by omega), checkNames_b _ (by omega)]
  simp only [Option.bind_some]
  by_cases a3 : namesE c.1 = 0
  · rw [if_neg (nF a3), if_pos a3, if_pos (by omega), Int.toNat_natCast, mask_b _ (by omega)]
    exact runs11 c.2 (by omega) _ c.2 0 _ rfl (by omega) (by omega)
  · rw [if_pos (nT a3), if_neg a3]

/-! ### the specification's -/
theorem rname_loop (s : ByteArray) (hs : s.size ≤ 4611686018427387904) : ∀ (r : List UInt8) (n : Nat), (L s).drop n = r → ref09_name_l6 s n = some ((r.all wordB, ()), ())
  | [], n, h => by
    have := drop_nil h
    rw [L_len] at this
    rw [ref09_name_l6_eq, if_neg (dF (by omega))]
    rfl
  | c :: r, n, h => by
    have h1 := drop_lt h
    rw [L_len] at h1
    have ih := rname_loop s hs r (n + 1) (drop_succ h)
    rw [ref09_name_l6_eq, if_pos (dT (by omega)), bt_drop h, w64 (by omega) (by omega), show ((n : Int) + 1) = ((n + 1 : Nat) : Int) by omega, ih]
    have e : 0 ≤ (n : Int) ∧ (n : Int) < (s.size : Int) := ⟨by omega, by omega⟩
    simp only [if_pos e, List.all_cons]
    have hw : wordB c = ((decide (97 ≤ c.toNat) && decide (c.toNat ≤ 122)) || (decide (48 ≤ c.toNat) && decide (c.toNat ≤ 57)) || (c == 95)) := rfl
    have h95 : ((c.toNat : Int) != 95) = !(c == 95) := by
      have := int_beq c 95
      show (!((c.toNat : Int) == 95)) = _
      rw [show ((95 : UInt8).toNat : Int) = 95 from rfl] at this
      rw [this]
    rw [hw, h95]
    have d1 : decide ((c.toNat : Int) ≥ 97) = decide (97 ≤ c.toNat) := by rw [Bool.eq_iff_iff]; simp only [decide_eq_true_eq]; omega
    have d2 : decide ((c.toNat : Int) ≥ 48) = decide (48 ≤ c.toNat) := by rw [Bool.eq_iff_iff]; simp only [decide_eq_true_eq]; omega
    have d3 : decide ((c.toNat : Int) ≤ 122) = decide (c.toNat ≤ 122) := by rw [Bool.eq_iff_iff]; simp only [decide_eq_true_eq]; omega
    have d4 : decide ((c.toNat : Int) ≤ 57) = decide (c.toNat ≤ 57) := by rw [Bool.eq_iff_iff]; simp only [decide_eq_true_eq]; omega
    rw [d1, d2, d3, d4]
    cases decide (97 ≤ c.toNat) <;> cases decide (48 ≤ c.toNat) <;> cases decide (c.toNat ≤ 122) <;> cases decide (c.toNat ≤ 57) <;> cases (c == 95) <;> rfl

theorem rname_b (s : ByteArray) : ref09_name s = some ((nameB (L s), ()), ()) := by
  unfold ref09_name
  have hl := L_len s
  cases hL : L s with
  | nil => rw [if_pos (by rw [toL, toL, hL, L_strB]; rfl)]; rfl
  | cons c r =>
    rw [hL] at hl
    simp only [List.length_cons] at hl
    rw [if_neg (by rw [toL, toL, hL, L_strB]; simp)]
    rw [nameB_cons]
    by_cases h : s.size ≤ 16
    · have e : 0 ≤ (0 : Int) ∧ 0 < (s.size : Int) := ⟨by omega, by omega⟩
      rw [if_neg (dF (by omega)), if_pos e, if_pos e, bt_cons hL, decide_eq_true (by omega : r.length + 1 ≤ 16), Bool.true_and]
      have hw : letterB c = (decide (97 ≤ c.toNat) && decide (c.toNat ≤ 122)) := rfl
      rw [hw]
      by_cases a1 : c.toNat < 97
      · rw [if_pos (dT (by omega)), decide_eq_false (by omega)]; rfl
      rw [if_neg (dF (by omega)), decide_eq_true (by omega : 97 ≤ c.toNat)]
      by_cases a2 : c.toNat > 122
      · rw [if_pos (dT (by omega)), decide_eq_false (by omega)]; rfl
      rw [if_neg (dF (by omega)), decide_eq_true (by omega : c.toNat ≤ 122)]
      exact rname_loop s (by omega) (c :: r) 0 (by rw [hL]; rfl)
    · rw [if_pos (dT (by omega)), decide_eq_false (by omega : ¬ r.length + 1 ≤ 16)]
      rfl

theorem rdup22 (l : List ByteArray) (hl : l.length ≤ 1048577) (i : Nat) (hi : i < l.length) : ∀ (d k : Nat), d = i - k → k ≤ i → ref09_names_l22 l i k = if ((l.take i).drop k).any (fun c => L c == L (l.getD i (strB []))) = true then some ((9, ()), ()) else ref09_names_l17 l ((i + 1 : Nat) : Int)
  | 0, k, hd, hk => by
    have : k = i := by omega
    subst this
    rw [ref09_names_l22_eq, if_neg (dF (by omega)), w64a k (by omega), List.drop_of_length_le (by rw [List.length_take]; omega)]
    rfl
  | d + 1, k, hd, hk => by
    have hk2 : k < (l.take i).length := by rw [List.length_take]; omega
    rw [ref09_names_l22_eq, if_pos (dT (by omega)), if_pos ⟨by omega, by omega⟩, if_pos ⟨by omega, by omega⟩, Int.toNat_natCast, Int.toNat_natCast, toL, toL, w64a k (by omega), List.drop_eq_getElem_cons hk2, List.any_cons, List.getElem_take, getD_in (strB []) (show k < l.length by omega)]
    by_cases he : L (l.getD i (strB [])) = L l[k]
    · rw [if_pos (by simpa using he), he]
      simp
    · rw [if_neg (by simpa using he), rdup22 l hl i hi d (k + 1) (by omega) (by omega), show (L l[k] == L (l.getD i (strB []))) = false from beq_eq_false_iff_ne.2 fun q => he q.symm, Bool.false_or]

theorem rnames17 (l : List ByteArray) (hl : l.length ≤ 1048577) : ∀ (r : List ByteArray) (k : Nat), l.drop k = r → ref09_names_l17 l k = some ((if dupB (l.take k) r = true then 9 else 0, ()), ())
  | [], k, h => by
    have h1 := drop_nil h
    rw [ref09_names_l17_eq, if_neg (dF (by omega))]
    rfl
  | b :: r, k, h => by
    have h1 := drop_lt h
    have hg : l.getD k (strB []) = b := getD_drop h
    have ht : l.take (k + 1) = l.take k ++ [b] := takeS h
    have e := rdup22 l hl k h1 k 0 (by omega) (by omega)
    rw [ref09_names_l17_eq, if_pos (dT (by omega))]
    refine Eq.trans e ?_
    rw [List.drop_zero, hg]
    unfold dupB
    by_cases he : (l.take k).any (fun c => L c == L b) = true
    · rw [if_pos he, he]
      rfl
    · rw [if_neg he, rnames17 l hl r (k + 1) (dropS h), ht]
      have : (l.take k).any (fun c => L c == L b) = false := by simpa using he
      rw [this, Bool.false_or]

theorem rnames9 (l : List ByteArray) (hl : l.length ≤ 1048577) : ∀ (r : List ByteArray) (k : Nat), l.drop k = r → ref09_names_l9 l k = some ((if (r.all fun s => nameB (L s)) = true then (if dupB [] l = true then 9 else 0) else 4, ()), ())
  | [], k, h => by
    have h1 := drop_nil h
    rw [ref09_names_l9_eq, if_neg (dF (by omega))]
    exact rnames17 l hl l 0 rfl
  | b :: r, k, h => by
    have h1 := drop_lt h
    have hg : l.getD (k : Int).toNat (strB []) = b := getD_drop h
    rw [ref09_names_l9_eq, if_pos (dT (by omega)), if_pos ⟨by omega, by omega⟩, hg, rname_b, w64a k (by omega)]
    simp only [Option.bind_some, List.all_cons]
    by_cases hn : nameB (L b) = true
    · simp only [hn, Bool.not_true, Bool.false_eq_true, if_false, Bool.true_and]
      exact rnames9 l hl r (k + 1) (dropS h)
    · simp only [Bool.eq_false_iff.2 hn, Bool.not_false, if_true, Bool.false_and, Bool.false_eq_true, if_false]

theorem rruns4 (l : List TGap) (hl : l.length ≤ 1048577) (mask : Int) : ∀ (r : List TGap) (k : Nat) (left : Int), l.drop k = r → 0 ≤ left → left ≤ 1099511627776 → ref09_runs_l4 l mask left k = some ((runsB mask left r, ()), ())
  | [], k, left, h, h0, h9 => by
    have h1 := drop_nil h
    rw [ref09_runs_l4_eq, if_neg (dF (by omega))]
    rfl
  | b :: r, k, left, h, h0, h9 => by
    have h1 := drop_lt h
    have hg : l.getD (k : Int).toNat dGap = b := getD_drop h
    have e : 0 ≤ (k : Int) ∧ (k : Int) < (l.length : Int) := ⟨by omega, by omega⟩
    rw [ref09_runs_l4_eq, if_pos (dT (by omega)), if_pos e, hg, w64a k (by omega)]
    unfold runsB
    by_cases a1 : b.1 < 0
    · rw [if_pos (dT a1), decide_eq_false (by omega)]; rfl
    rw [if_neg (dF a1), if_pos e]
    by_cases a2 : b.1 > mask
    · rw [if_pos (dT a2), decide_eq_false (by omega)]; rfl
    rw [if_neg (dF a2), if_pos e]
    by_cases a3 : b.2 < 1
    · rw [if_pos (dT a3), decide_eq_false (by omega)]; rfl
    rw [if_neg (dF a3), if_pos e]
    by_cases a4 : b.2 > left
    · rw [if_pos (dT a4), decide_eq_false (by omega)]; rfl
    rw [if_neg (dF a4), if_pos e, decide_eq_true (by omega), Bool.true_and, w64 (by omega) (by omega), rruns4 l hl mask r (k + 1) (left - b.2) (dropS h) (by omega) (by omega)]

theorem rnames_b (l : List ByteArray) (hl : l.length ≤ 1048577) : ref09_names l = some ((if 16 < l.length then 6 else namesE l, ()), ()) := by
  unfold ref09_names namesE
  by_cases a1 : 16 < l.length
  · rw [if_pos (dT (by omega)), if_pos a1]
  rw [if_neg (dF (by omega)), if_neg a1]
  by_cases h : l = []
  · rw [if_pos (eT (by rw [h]; rfl)), if_pos h]
  · have h' : ¬ (l.length : Int) = 0 := fun q => h (List.length_eq_zero_iff.1 (by omega))
    rw [if_neg (eF h'), if_neg h]
    exact rnames9 l hl l 0 rfl

theorem rccheck_b (c : TCapture) (h1 : c.1.length ≤ 1048576) (h2 : c.2.length ≤ 1048576) : ref09_Check c = some ((capE c, ()), ()) := by
  unfold ref09_Check capE
  by_cases a2 : 262144 < c.2.length
  · rw [if_pos (dT (by omega)), if_pos (.inr a2)]
  rw [if_neg (dF (by omega)), rnames_b _ (by omega)]
  simp only [Option.bind_some]
  by_cases a1 : 16 < c.1.length
  · rw [if_pos a1, if_pos (show 16 < c.1.length ∨ 262144 < c.2.length from .inl a1)]; rfl
  rw [if_neg a1, if_neg (show ¬ (16 < c.1.length ∨ 262144 < c.2.length) by omega)]
  by_cases a3 : namesE c.1 = 0
  · rw [if_neg (nF a3), if_pos a3, if_pos (by omega), Int.toNat_natCast, mask_b _ (by omega)]
    have e : ref09_runs c.2 (maskI c.1.length) = some ((runsB (maskI c.1.length) 1099511627776 c.2, ()), ()) := rruns4 c.2 (by omega) _ c.2 0 _ rfl (by omega) (by omega)
    rw [e]
    simp only [Option.bind_some]
    cases runsB (maskI c.1.length) 1099511627776 c.2 <;> rfl
  · rw [if_pos (nT a3), if_neg a3]

/-! ### limits of captures -/
theorem has_loop (v : ByteArray) (l : List ByteArray) (hl : l.length ≤ 1048577) : ∀ (r : List ByteArray) (k : Nat), l.drop k = r → limit_has_l3 v l (l.length : Int) k = some ((hasB r v, ()), ())
  | [], k, h => by
    have h1 := drop_nil h
    rw [limit_has_l3_eq, if_neg (dF (by omega))]
    rfl
  | b :: r, k, h => by
    have h1 := drop_lt h
    have hg : l.getD (k : Int).toNat (strB []) = b := getD_drop h
    rw [limit_has_l3_eq, if_pos (dT (by omega)), if_pos ⟨by omega, by omega⟩, hg, w64a k (by omega), toL, toL]
    unfold hasB
    rw [List.any_cons]
    by_cases he : L b = L v
    · rw [if_pos (by simpa using he), show (L b == L v) = true by simpa using he]; rfl
    · rw [if_neg (by simpa using he), show (L b == L v) = false by simpa using he, Bool.false_or]
      exact has_loop v l hl r (k + 1) (dropS h)
theorem has_b (c : TCapture) (hl : c.1.length ≤ 1048576) (v : ByteArray) : limit_has c v = some ((hasB c.1 v, ()), ()) := has_loop v c.1 (by omega) c.1 0 rfl

theorem rhas_loop (v : ByteArray) (l : List ByteArray) (hl : l.length ≤ 1048577) : ∀ (r : List ByteArray) (k : Nat), l.drop k = r → ref49_has_l3 l v k = some ((hasB r v, ()), ())
  | [], k, h => by
    have h1 := drop_nil h
    rw [ref49_has_l3_eq, if_neg (dF (by omega))]
    rfl
  | b :: r, k, h => by
    have h1 := drop_lt h
    have hg : l.getD (k : Int).toNat (strB []) = b := getD_drop h
    rw [ref49_has_l3_eq, if_pos (dT (by omega)), if_pos ⟨by omega, by omega⟩, hg, w64a k (by omega), toL, toL]
    unfold hasB
    rw [List.any_cons]
    by_cases he : L b = L v
    · rw [if_pos (by simpa using he), show (L b == L v) = true by simpa using he]; rfl
    · rw [if_neg (by simpa using he), show (L b == L v) = false by simpa using he, Bool.false_or]
      exact rhas_loop v l hl r (k + 1) (dropS h)
theorem rhas_b (l : List ByteArray) (hl : l.length ≤ 1048576) (v : ByteArray) : ref49_has l v = some ((hasB l v, ()), ()) := rhas_loop v l (by omega) l 0 rfl

theorem limsE_cons (ns : List ByteArray) (i : Nat) (x : LimT) (r : List LimT) : limsE ns i (x :: r) = if formE x = 0 then (if hasB ns x.2.1 = true ∧ (clkB x.1 = true → hasB ns x.2.2.1 = true) then limsE ns (i + 1) r else ((i : Int), 8)) else ((i : Int), formE x) := rfl

theorem lims_loop (c : TCapture) (hc : c.1.length ≤ 1048576) (l : List TLimit) (hl : l.length ≤ 1048577) : ∀ (r : List TLimit) (k : Nat), l.drop k = r → limit_Check_l10 l (l.length : Int) k c = some (((limsE c.1 k r).1, (limsE c.1 k r).2, ()), ())
  | [], k, h => by
    have h1 := drop_nil h
    rw [limit_Check_l10_eq, if_neg (dF (by omega))]
    rfl
  | x :: r, k, h => by
    have h1 := drop_lt h
    have hg : l.getD (k : Int).toNat dLimit = x := getD_drop h
    have ih := lims_loop c hc l hl r (k + 1) (dropS h)
    rw [limit_Check_l10_eq, if_pos (dT (by omega)), if_pos ⟨by omega, by omega⟩, hg, form_b, has_b c hc, has_b c hc, clocked_b, w64a k (by omega), ih]
    simp only [Option.bind_some]
    rw [limsE_cons]
    by_cases h0 : formE x = 0
    · rw [if_neg (nF h0), if_pos h0]
      cases hasB c.1 x.2.1 with
      | false => rfl
      | true =>
        refine (if_neg (by simp)).trans ?_
        cases clkB x.1 with
        | false => rw [if_neg (by simp), if_pos ⟨rfl, fun q => by simp at q⟩]
        | true =>
          rw [if_pos rfl]
          cases hasB c.1 x.2.2.1 with
          | false => rw [if_pos (by rfl), if_neg (fun q => by simpa using q.2 rfl)]
          | true => rw [if_neg (by simp), if_pos ⟨rfl, fun _ => rfl⟩]
    · rw [if_pos (nT h0), if_neg h0]

theorem lcheck_b (c : TCapture) (l : List TLimit) (h1 : c.1.length ≤ 1048576) (h2 : c.2.length ≤ 1048576) (hl : l.length ≤ 1048576) : limit_Check c l = some (((lcheckV c l).1, (lcheckV c l).2, ()), ()) := by
  unfold limit_Check lcheckV
  rw [ccheck_b c h1 h2]
  simp only [Option.bind_some]
  by_cases a : capE c = 0
  · rw [if_neg (nF a), if_pos a]
    by_cases b : 64 < l.length
    · rw [if_pos (dT (by omega)), if_pos b]
    · rw [if_neg (dF (by omega)), if_neg b]
      exact lims_loop c h1 l (by omega) l 0 rfl
  · rw [if_pos (nT a), if_neg a]

theorem rlims_loop (c : TCapture) (hc : c.1.length ≤ 1048576) (l : List TLimit) (hl : l.length ≤ 1048577) : ∀ (r : List TLimit) (k : Nat), l.drop k = r → ref49_Check_l10 l k c = some (((limsE c.1 k r).1, (limsE c.1 k r).2, ()), ())
  | [], k, h => by
    have h1 := drop_nil h
    rw [ref49_Check_l10_eq, if_neg (dF (by omega))]
    rfl
  | x :: r, k, h => by
    have h1 := drop_lt h
    have hg : l.getD (k : Int).toNat dLimit = x := getD_drop h
    have ih := rlims_loop c hc l hl r (k + 1) (dropS h)
    have e : 0 ≤ (k : Int) ∧ (k : Int) < (l.length : Int) := ⟨by omega, by omega⟩
    rw [ref49_Check_l10_eq, if_pos (dT (by omega)), if_pos e, if_pos e, if_pos e, if_pos e, hg, rbad_b, rhas_b _ hc, rhas_b _ hc, rclocked_b, w64a k (by omega), ih]
    simp only [Option.bind_some]
    rw [limsE_cons]
    by_cases h0 : formE x = 0
    · rw [decide_eq_true h0, if_neg (by simp), if_pos h0]
      cases hasB c.1 x.2.1 with
      | false => rfl
      | true =>
        refine (if_neg (by simp)).trans ?_
        cases clkB x.1 with
        | false => rw [if_neg (by simp), if_pos ⟨rfl, fun q => by simp at q⟩]
        | true =>
          rw [if_pos rfl]
          cases hasB c.1 x.2.2.1 with
          | false => rw [if_pos (by rfl), if_neg (fun q => by simpa using q.2 rfl)]
          | true => rw [if_neg (by simp), if_pos ⟨rfl, fun _ => rfl⟩]
    · rw [decide_eq_false h0, if_pos (by simp), if_neg h0]
      have : formE x = 1 := by
        unfold formE at h0 ⊢
        split at h0
        · split at h0
          · exact absurd rfl h0
          · rename_i q1 q2
            rw [if_pos q1, if_neg q2]
        · rename_i q1
          rw [if_neg q1]
      rw [this]

theorem rlcheck_b (c : TCapture) (l : List TLimit) (h1 : c.1.length ≤ 1048576) (h2 : c.2.length ≤ 1048576) (hl : l.length ≤ 1048576) : ref49_Check c l = some (((lcheckV c l).1, (lcheckV c l).2, ()), ()) := by
  unfold ref49_Check lcheckV
  rw [rccheck_b c h1 h2]
  simp only [Option.bind_some]
  by_cases a : capE c = 0
  · rw [if_neg (nF a), if_pos a]
    by_cases b : 64 < l.length
    · rw [if_pos (dT (by omega)), if_pos b]
    · rw [if_neg (dF (by omega)), if_neg b]
      exact rlims_loop c h1 l (by omega) l 0 rfl
  · rw [if_pos (nT a), if_neg a]

end Go.Proofs.YtejehchbflmofaaDoor
end

section
/-
YtejehchbflmofaaDoor: limit.Print, as plain functions, comes to the text of the tokens. No condition.
-/
set_option maxRecDepth 100000
set_option linter.unusedVariables false
open Go Go.AM
namespace Go.Proofs.YtejehchbflmofaaDoor

theorem lname_b (b : ByteArray) : limit_name b = some ((wTok b, ()), ()) := rfl
theorem lmark_b (c : UInt8) : limit_mark (strB [c]) = some ((mTok c, ()), ()) := rfl
theorem lnumber_b (n : Int) (h : -9007199254740992 ≤ n ∧ n ≤ 9007199254740992) : limit_number n = some ((nTok n, ()), ()) := by
  unfold limit_number
  rw [itoa_b n (by omega)]
  rfl
theorem lword_b (n : Int) (h : 1 ≤ n ∧ n ≤ 6) : limit_word n = some ((measW n, ()), ()) := by
  unfold limit_word
  rw [if_pos ⟨by omega, by omega⟩]
  rfl

theorem okTok_goodG {t : TToken} (h : goodG t) : okTok t := ⟨by have := h.2.1; omega, by have := h.2.2.1; omega, by have := h.2.2.2; omega⟩

theorem print20 (l : List TLimit) (n i : Int) (q : List TToken) (x : TLimit) (hx : OkLim x) (hq : q.length ≤ 2000) : limit_Print_l20 l n i q x = limit_Print_l7 l n (IntKind.i64.wrap (i + 1)) (q ++ [nTok x.2.2.2.2.1, mTok 46, mTok 46, nTok x.2.2.2.2.2, mTok 59]) := by
  have h1 := hx.lo
  have h2 := hx.le
  have h3 := hx.hi
  rw [limit_Print_l20_eq, lnumber_b _ (by omega), lnumber_b _ (by omega), lmark_b, lmark_b]
  simp only [Option.bind_some]
  rw [if_pos ⟨by omega, by decide⟩]
theorem print23 (e : ByteArray) (l : List TLimit) (n i : Int) (q : List TToken) (x : TLimit) (hq : q.length ≤ 2000) : limit_Print_l23 e l n i q x = limit_Print_l20 l n i (q ++ [wTok x.2.2.1, wTok e]) x := by
  rw [limit_Print_l23_eq, lname_b, lname_b]
  simp only [Option.bind_some]
  rw [if_pos ⟨by omega, by decide⟩]

theorem errL_cons (e : Int) (r : List Int) : errL (e :: r) = if e = 0 then errL r else e := rfl

theorem print7 (l : List TLimit) (hl : l.length ≤ 64) : ∀ (r : List TLimit) (k : Nat) (acc : List TToken), l.drop k = r → acc.length + 9 * r.length ≤ 1000 → (∀ t ∈ acc, goodG t) →
    limit_Print_l7 l (l.length : Int) k acc = some ((if errL (r.map limE) = 0 then (strB (textV (acc ++ limsT r)).1, (textV (acc ++ limsT r)).2, ()) else (strB [], errL (r.map limE), ())), ())
  | [], k, acc, h, ha, hg => by
    have h1 := drop_nil h
    simp only [List.length_nil] at ha
    have hw := wt_sumG acc hg
    rw [limit_Print_l7_eq, if_neg (dF (by omega)), lex_Text_b _ (by omega) (fun t ht => okTok_goodG (hg t ht)) (by omega), limsT, List.append_nil]
    rfl
  | x :: r, k, acc, h, ha, hg => by
    have h1 := drop_lt h
    have hgd : l.getD (k : Int).toNat dLimit = x := getD_drop h
    simp only [List.length_cons] at ha
    rw [limit_Print_l7_eq, if_pos (dT (by omega)), if_pos ⟨by omega, by omega⟩, hgd, form_b, lex_Name_b, lex_Name_b, clocked_b, List.map_cons, errL_cons]
    simp only [Option.bind_some]
    by_cases h0 : formE x = 0
    · have hm := (formE_zero.1 h0).1.1
      rw [if_neg (nF h0)]
      by_cases hd : nameB (L x.2.1) = true
      · rw [if_neg (by rw [hd]; simp)]
        by_cases hk : clkB x.1 = true
        · rw [if_pos hk]
          by_cases hc : nameB (L x.2.2.1) = true
          · have e0 : limE x = 0 := by unfold limE; rw [if_pos h0, if_pos ⟨hd, fun _ => hc⟩]
            have ok := limE_zero.1 e0
            have g9 := good_lim ok
            rw [if_neg (by rw [hc]; simp), if_pos e0, lword_b _ hm]
            simp only [Option.bind_some, lname_b]
            rw [if_pos ⟨by omega, by decide⟩, if_pos hk, print23 _ _ _ _ _ _ (by simp; omega), print23 _ _ _ _ _ _ (by simp; omega), print20 _ _ _ _ _ ok (by simp; omega), print20 _ _ _ _ _ ok (by simp; omega), w64a k (by omega)]
            have ih := fun hq => print7 l hl r (k + 1) (acc ++ limT x) (dropS h) (by rw [List.length_append]; have := g9.2; omega) hq
            have hq : ∀ t ∈ acc ++ limT x, goodG t := fun t ht => by
              rcases List.mem_append.1 ht with q | q
              · exact hg t q
              · exact g9.1 t q
            have et : acc ++ limsT (x :: r) = (acc ++ limT x) ++ limsT r := by rw [limsT, List.append_assoc]
            rw [et, ← ih hq]
            unfold limT edgeT
            rw [if_pos hk]
            by_cases hr : x.2.2.2.1 = true
            · rw [if_pos hr, if_pos hr]
              simp [sRise]
            · rw [if_neg hr, if_neg hr]
              simp [sFall]
          · have e4 : limE x = 4 := by unfold limE; rw [if_pos h0, if_neg (fun q => hc (q.2 hk))]
            rw [if_pos (by simp [hc]), if_neg (show ¬ limE x = 0 by omega), if_neg (show ¬ limE x = 0 by omega), e4]
        · have e0 : limE x = 0 := by unfold limE; rw [if_pos h0, if_pos ⟨hd, fun q => absurd q hk⟩]
          have ok := limE_zero.1 e0
          have g9 := good_lim ok
          rw [if_neg hk, if_pos e0, lword_b _ hm]
          simp only [Option.bind_some, lname_b]
          rw [if_pos ⟨by omega, by decide⟩, if_neg hk, print20 _ _ _ _ _ ok (by simp; omega), w64a k (by omega)]
          have ih := fun hq => print7 l hl r (k + 1) (acc ++ limT x) (dropS h) (by rw [List.length_append]; have := g9.2; omega) hq
          have hq : ∀ t ∈ acc ++ limT x, goodG t := fun t ht => by
            rcases List.mem_append.1 ht with q | q
            · exact hg t q
            · exact g9.1 t q
          have et : acc ++ limsT (x :: r) = (acc ++ limT x) ++ limsT r := by rw [limsT, List.append_assoc]
          rw [et, ← ih hq]
          unfold limT edgeT
          rw [if_neg hk]
          simp
      · have e4 : limE x = 4 := by unfold limE; rw [if_pos h0, if_neg (fun q => hd q.1)]
        rw [if_pos (by simp [hd]), if_neg (show ¬ limE x = 0 by omega), if_neg (show ¬ limE x = 0 by omega), e4]
    · have e1 : limE x = formE x := by unfold limE; rw [if_neg h0]
      rw [if_pos (nT h0), if_neg (show ¬ limE x = 0 by omega), if_neg (show ¬ limE x = 0 by omega), e1]

theorem lprint_b (l : List TLimit) (hl : l.length ≤ 1048577) : limit_Print l = some ((strB (printL l).1, (printL l).2, ()), ()) := by
  unfold limit_Print printL wrongL
  by_cases h : 64 < l.length
  · rw [if_pos (dT (by omega)), if_pos h, if_neg (by omega)]
  · rw [if_neg (dF (by omega)), if_neg h]
    refine (print7 l (by omega) l 0 [] rfl (by simp only [List.length_nil]; omega) (by simp)).trans ?_
    rw [List.nil_append]
    by_cases he : errL (l.map limE) = 0
    · rw [if_pos he, if_pos he]
    · rw [if_neg he, if_neg he]

end Go.Proofs.YtejehchbflmofaaDoor
end

section
/-
YtejehchbflmofaaDoor: limit.Parse, as plain functions, comes to the plain reader of limits. No condition.
-/
set_option maxRecDepth 100000
set_option linter.unusedVariables false
open Go Go.AM
namespace Go.Proofs.YtejehchbflmofaaDoor

structure Ctx (l : List TToken) : Prop where
  len : l.length ≤ 1048576
  good : ∀ t ∈ l, tokGood t

def ixn (l q : List TToken) : Int := ((l.length - q.length : Nat) : Int)
def rd (l q : List TToken) : Treader := (l, ixn l q, 0)
def bad (l e : List TToken) : Treader := (l, ixn l e, lineV l e)
def zT : TToken := (0, strB [], 0, 0)

theorem suf_drop {l q : List TToken} (h : q <:+ l) : l.drop (l.length - q.length) = q := (List.suffix_iff_eq_drop.1 h).symm
theorem sufk {α : Type} {l q r : List TToken} (h : q <:+ l) {x : PR α} {n : Nat} (g : Goes n q x) {a : α} (e : x = .ok (a, r)) : r <:+ l := by
  subst e
  exact List.IsSuffix.trans g.1 h
theorem sufe {α : Type} {l q r : List TToken} (h : q <:+ l) {x : PR α} {n : Nat} (g : Goes n q x) (e : x = .error r) : r <:+ l := by
  subst e
  exact List.IsSuffix.trans g h
theorem okLen {α : Type} {q r : List TToken} {x : PR α} {n : Nat} (g : Goes n q x) {a : α} (e : x = .ok (a, r)) : r.length + n ≤ q.length := by
  subst e
  exact g.2

theorem at_cons {l r : List TToken} {t : TToken} (h : (t :: r) <:+ l) : l.length - (t :: r).length < l.length ∧ l.getD (ixn l (t :: r)).toNat dToken = t ∧ l.length - r.length = l.length - (t :: r).length + 1 := by
  have h1 := suf_drop h
  have h2 := drop_lt h1
  have h3 := h.length_le
  refine ⟨h2, getD_drop h1, ?_⟩
  simp only [List.length_cons] at h3 ⊢
  omega

theorem ixn_nil (l : List TToken) : ixn l [] = (l.length : Int) := by unfold ixn; simp
theorem ixn_in {l r : List TToken} {t : TToken} (h : (t :: r) <:+ l) : 0 ≤ ixn l (t :: r) ∧ ixn l (t :: r) < (l.length : Int) := by
  have := (at_cons h).1
  unfold ixn
  omega
theorem ixn_next {l r : List TToken} {t : TToken} (c : Ctx l) (h : (t :: r) <:+ l) : IntKind.i64.wrap (ixn l (t :: r) + 1) = ixn l r := by
  obtain ⟨h1, _, h3⟩ := at_cons h
  have := c.len
  unfold ixn
  rw [w64a _ (by omega), h3]

theorem lineV_pos {l e : List TToken} (c : Ctx l) (h : e <:+ l) : lineV l e > 0 := by
  unfold lineV
  cases e with
  | cons t r =>
    have : t ∈ l := h.subset (by simp)
    have := (c.good t this).1
    show t.2.2.2 > 0
    omega
  | nil =>
    cases hq : l.getLast? with
    | none => decide
    | some t =>
      have := (c.good t (List.mem_of_getLast? hq)).1
      show t.2.2.2 > 0
      omega

theorem need_bad {r : Treader} (h : r.2.2 > 0) (k : Int) (x : ByteArray) : limit_reader_need k x r = some ((zT, ()), (r, ())) := by
  unfold limit_reader_need
  rw [if_pos (dT h)]
  rfl

theorem need_ok {l q r : List TToken} {t : TToken} (c : Ctx l) (h : q <:+ l) {k : Int} {text : ByteArray} {x : List UInt8} (hx : L text = x) (hp : pNeed k x q = .ok (t, r)) : limit_reader_need k text (rd l q) = some ((t, ()), (rd l r, ())) := by
  subst hx
  obtain ⟨rfl, hy⟩ := need_ok_inv hp
  obtain ⟨_, h2, _⟩ := at_cons h
  have hin := ixn_in h
  have hv : (decide (t.1 = k) && ((L text).isEmpty || (L t.2.1 == L text))) = true := hy
  simp only [Bool.and_eq_true, decide_eq_true_eq, Bool.or_eq_true] at hv
  have c0 : ¬ (rd l (t :: r)).2.2 > 0 := by show ¬ (0 : Int) > 0; omega
  have c1 : ¬ (rd l (t :: r)).2.1 ≥ ((rd l (t :: r)).1.length : Int) := by show ¬ ixn l (t :: r) ≥ (l.length : Int); omega
  have c2 : 0 ≤ (rd l (t :: r)).2.1 ∧ (rd l (t :: r)).2.1 < ((rd l (t :: r)).1.length : Int) := hin
  have h2' : (rd l (t :: r)).1.getD (rd l (t :: r)).2.1.toNat dToken = t := h2
  have e1 : IntKind.i64.wrap ((rd l (t :: r)).2.1 + 1) = ixn l r := ixn_next c h
  unfold limit_reader_need
  rw [if_neg (dF c0), if_neg (dF c1), if_pos c2, h2', if_neg (nF hv.1), e1]
  simp only [toL, L_strB]
  by_cases he : L text = []
  · rw [if_neg (by rw [he]; simp)]
    rfl
  · have h3 : L t.2.1 = L text := by
      rcases hv.2 with q | q
      · exact absurd (List.isEmpty_iff.1 q) he
      · exact beq_iff_eq.1 q
    rw [if_pos (by simpa using he), if_neg (by rw [h3]; simp)]
    rfl

theorem need_err {l q e : List TToken} (c : Ctx l) (h0 : 0 < l.length) (h : q <:+ l) {k : Int} {text : ByteArray} {x : List UInt8} (hx : L text = x) (hp : pNeed k x q = .error e) : limit_reader_need k text (rd l q) = some ((zT, ()), (bad l e, ())) := by
  subst hx
  obtain ⟨rfl, hy⟩ := need_err_inv hp
  have hl := c.len
  unfold limit_reader_need
  refine (if_neg (dF (by show ¬ (0 : Int) > 0; omega))).trans ?_
  cases e with
  | nil =>
    have c1 : (rd l []).2.1 ≥ ((rd l []).1.length : Int) := by show ixn l [] ≥ (l.length : Int); rw [ixn_nil]; omega
    have e1 : IntKind.i64.wrap ((l.length : Int) - 1) = ((l.length - 1 : Nat) : Int) := by rw [w64 (by omega) (by omega)]; omega
    rw [if_pos (dT c1)]
    show (if 0 ≤ IntKind.i64.wrap ((l.length : Int) - 1) ∧ IntKind.i64.wrap ((l.length : Int) - 1) < (l.length : Int) then some ((zT, ()), ((l, ixn l [], (l.getD (IntKind.i64.wrap ((l.length : Int) - 1)).toNat dToken).2.2.2), ())) else none) = _
    rw [e1, if_pos ⟨by omega, by omega⟩, Int.toNat_natCast, getD_in dToken (by omega)]
    unfold bad lineV
    have : l.getLast? = some l[l.length - 1] := by rw [List.getLast?_eq_getElem?, List.getElem?_eq_getElem (by omega)]
    rw [this]
  | cons t r =>
    obtain ⟨_, h2, _⟩ := at_cons h
    have hin := ixn_in h
    have hv : (decide (t.1 = k) && ((L text).isEmpty || (L t.2.1 == L text))) = false := hy
    have c1 : ¬ (rd l (t :: r)).2.1 ≥ ((rd l (t :: r)).1.length : Int) := by show ¬ ixn l (t :: r) ≥ (l.length : Int); omega
    have c2 : 0 ≤ (rd l (t :: r)).2.1 ∧ (rd l (t :: r)).2.1 < ((rd l (t :: r)).1.length : Int) := hin
    have h2' : (rd l (t :: r)).1.getD (rd l (t :: r)).2.1.toNat dToken = t := h2
    rw [if_neg (dF c1), if_pos c2, h2']
    by_cases hk : t.1 = k
    · have h4 : ¬ L text = [] ∧ ¬ L t.2.1 = L text := by
        rw [decide_eq_true hk, Bool.true_and, Bool.or_eq_false_iff] at hv
        exact ⟨fun q => by rw [q] at hv; simp at hv, fun q => by rw [q] at hv; simp at hv⟩
      simp only [toL, L_strB]
      rw [if_neg (nF hk), if_pos (by simpa using h4.1), if_pos (by simpa using h4.2)]
      rfl
    · rw [if_pos (nT hk)]
      rfl

def Out {α : Type} (l : List TToken) (o : Option ((α × Unit) × (Treader × Unit))) : PR α → Prop
  | .ok (a, q) => o = some ((a, ()), (rd l q, ()))
  | .error e => ∃ z r, r.1 = l ∧ r.2.2 = lineV l e ∧ o = some ((z, ()), ((r : Treader), ()))

theorem l16_bad {r : Treader} (h : r.2.2 > 0) (x y : TLimit) : ∃ z, limit_reader_limit_l16 r x y = some ((z, ()), (r, ())) := by
  rw [limit_reader_limit_l16_eq, need_bad h]
  simp only [Option.bind_some]
  rw [need_bad h]
  simp only [Option.bind_some]
  rw [need_bad h]
  simp only [Option.bind_some]
  rw [need_bad h]
  simp only [Option.bind_some]
  rw [need_bad h]
  exact ⟨_, rfl⟩

theorem range_rd {l q : List TToken} (c : Ctx l) (h0 : 0 < l.length) (h : q <:+ l) (x : TLimit) (m : Nat) (d ck : ByteArray) (e : Bool) (z : RunT) : Out l (limit_reader_limit_l16 (rd l q) x ((m : Int), d, ck, e, z)) (pRange m d ck e q) := by
  rw [limit_reader_limit_l16_eq]
  unfold pRange
  cases h1 : pNeed 2 [] q with
  | error w =>
    have hw := lineV_pos c (sufe h (goes_need 2 [] q) h1)
    rw [need_err c h0 h (L_strB _) h1]
    simp only [Option.bind_some]
    rw [need_bad (r := bad l w) hw]
    simp only [Option.bind_some]
    rw [need_bad (r := bad l w) hw]
    simp only [Option.bind_some]
    rw [need_bad (r := bad l w) hw]
    simp only [Option.bind_some]
    rw [need_bad (r := bad l w) hw]
    exact ⟨_, bad l w, rfl, rfl, rfl⟩
  | ok p =>
    obtain ⟨t1, q1⟩ := p
    have g1 := sufk h (goes_need 2 [] q) h1
    rw [need_ok c h (L_strB _) h1]
    simp only [Option.bind_some, andP_ok']
    cases h2 : pNeed 4 [46] q1 with
    | error w =>
      have hw := lineV_pos c (sufe g1 (goes_need 4 [46] q1) h2)
      rw [need_err c h0 g1 (L_strB _) h2]
      simp only [Option.bind_some]
      rw [need_bad (r := bad l w) hw]
      simp only [Option.bind_some]
      rw [need_bad (r := bad l w) hw]
      simp only [Option.bind_some]
      rw [need_bad (r := bad l w) hw]
      exact ⟨_, bad l w, rfl, rfl, rfl⟩
    | ok p =>
      obtain ⟨t2, q2⟩ := p
      have g2 := sufk g1 (goes_need 4 [46] q1) h2
      rw [need_ok c g1 (L_strB _) h2]
      simp only [Option.bind_some, andP_ok']
      cases h3 : pNeed 4 [46] q2 with
      | error w =>
        have hw := lineV_pos c (sufe g2 (goes_need 4 [46] q2) h3)
        rw [need_err c h0 g2 (L_strB _) h3]
        simp only [Option.bind_some]
        rw [need_bad (r := bad l w) hw]
        simp only [Option.bind_some]
        rw [need_bad (r := bad l w) hw]
        exact ⟨_, bad l w, rfl, rfl, rfl⟩
      | ok p =>
        obtain ⟨t3, q3⟩ := p
        have g3 := sufk g2 (goes_need 4 [46] q2) h3
        rw [need_ok c g2 (L_strB _) h3]
        simp only [Option.bind_some, andP_ok']
        cases h4 : pNeed 2 [] q3 with
        | error w =>
          have hw := lineV_pos c (sufe g3 (goes_need 2 [] q3) h4)
          rw [need_err c h0 g3 (L_strB _) h4]
          simp only [Option.bind_some]
          rw [need_bad (r := bad l w) hw]
          exact ⟨_, bad l w, rfl, rfl, rfl⟩
        | ok p =>
          obtain ⟨t4, q4⟩ := p
          have g4 := sufk g3 (goes_need 2 [] q3) h4
          rw [need_ok c g3 (L_strB _) h4]
          simp only [Option.bind_some, andP_ok']
          cases h5 : pNeed 4 [59] q4 with
          | error w =>
            rw [need_err c h0 g4 (L_strB _) h5]
            exact ⟨_, bad l w, rfl, rfl, rfl⟩
          | ok p =>
            obtain ⟨t5, q5⟩ := p
            rw [need_ok c g4 (L_strB _) h5]
            rfl

theorem edge_eq {l q : List TToken} : pEdge q = andP (pNeed 1 [] q) fun t r => if L t.2.1 = L sRise then .ok (true, r) else if L t.2.1 = L sFall then .ok (false, r) else .error q := by
  unfold pEdge
  cases q with
  | nil => rfl
  | cons t r =>
    have e1 : ∀ w, hdT 1 w (t :: r) = (decide (t.1 = 1) && (w.isEmpty || (L t.2.1 == w))) := fun w => rfl
    have e2 : ∀ w, pNeed 1 w (t :: r) = if (decide (t.1 = 1) && (w.isEmpty || (L t.2.1 == w))) = true then .ok (t, r) else .error (t :: r) := fun w => rfl
    rw [e1, e2, e2]
    by_cases h1 : t.1 = 1
    · rw [decide_eq_true h1]
      by_cases h2 : L t.2.1 = L sRise
      · rw [if_pos (show (true && ((L sRise).isEmpty || (L t.2.1 == L sRise))) = true by rw [h2]; simp), if_pos (show (true && (([] : List UInt8).isEmpty || (L t.2.1 == []))) = true by simp)]
        show _ = (if L t.2.1 = L sRise then _ else _)
        rw [if_pos h2]
        rfl
      · have n2 : (L t.2.1 == L sRise) = false := beq_eq_false_iff_ne.2 h2
        rw [if_neg (show ¬ (true && ((L sRise).isEmpty || (L t.2.1 == L sRise))) = true by rw [n2]; decide), if_pos (show (true && (([] : List UInt8).isEmpty || (L t.2.1 == []))) = true by simp)]
        by_cases h3 : L t.2.1 = L sFall
        · rw [if_pos (show (true && ((L sFall).isEmpty || (L t.2.1 == L sFall))) = true by rw [h3]; simp)]
          show _ = (if L t.2.1 = L sRise then _ else if L t.2.1 = L sFall then _ else _)
          rw [if_neg h2, if_pos h3]
          rfl
        · have n3 : (L t.2.1 == L sFall) = false := beq_eq_false_iff_ne.2 h3
          rw [if_neg (show ¬ (true && ((L sFall).isEmpty || (L t.2.1 == L sFall))) = true by rw [n3]; decide)]
          show _ = (if L t.2.1 = L sRise then _ else if L t.2.1 = L sFall then _ else _)
          rw [if_neg h2, if_neg h3]
          rfl
    · rw [decide_eq_false h1]
      rfl

theorem lim7 {l r : List TToken} {t : TToken} (c : Ctx l) (h : (t :: r) <:+ l) (x : TLimit) (m : Nat) (hm : 1 ≤ m ∧ m ≤ 6) : Out l (limit_reader_limit_l4 7 (rd l (t :: r)) x ((m : Int), strB [], strB [], false, 0, 0)) (andP (pNeed 1 [] r) fun d q => andP (pClock m q) fun ce q => pRange m d.2.1 ce.1 ce.2 q) := by
  have h0 : 0 < l.length := by have := (at_cons h).1; omega
  have hr : r <:+ l := (List.suffix_cons t r).trans h
  have bindOut : ∀ {e : List TToken} {rr : Treader} (y : TLimit), e <:+ l → rr.1 = l → rr.2.2 = lineV l e → ∃ z r, r.1 = l ∧ r.2.2 = lineV l e ∧ limit_reader_limit_l16 rr x y = some ((z, ()), ((r : Treader), ())) := fun y he h1 h2 => by
    obtain ⟨z, hz⟩ := l16_bad (r := _) (by rw [h2]; exact lineV_pos c he) x y
    exact ⟨z, _, h1, h2, hz⟩
  have e4 : ∀ mm : Nat, clkB (mm : Int) = true ↔ 4 ≤ mm ∧ mm ≤ 6 := fun mm => by
    unfold clkB
    rw [decide_eq_true_eq]
    omega
  rw [limit_reader_limit_l4_eq, if_neg (dF (by omega)), if_neg (eF (show ¬ ((m : Int)) = 0 by omega))]
  have er : ((rd l (t :: r)).1, IntKind.i64.wrap ((rd l (t :: r)).2.1 + 1), (rd l (t :: r)).2.2) = rd l r := by
    show (l, IntKind.i64.wrap (ixn l (t :: r) + 1), (0 : Int)) = _
    rw [ixn_next c h]
    rfl
  rw [er]
  cases h1 : pNeed 1 [] r with
  | error e =>
    have he := sufe hr (goes_need 1 [] r) h1
    have hw := lineV_pos c he
    rw [need_err c h0 hr (L_strB _) h1]
    simp only [Option.bind_some]
    rw [clocked_b]
    simp only [Option.bind_some]
    by_cases hk : clkB (m : Int) = true
    · rw [if_pos hk, need_bad (r := bad l e) hw]
      simp only [Option.bind_some]
      rw [need_bad (r := bad l e) hw]
      simp only [Option.bind_some]
      rw [if_neg (eF (by show ¬ lineV l e = 0; omega))]
      exact bindOut _ he rfl rfl
    · rw [if_neg hk]
      exact bindOut _ he rfl rfl
  | ok p =>
    obtain ⟨t1, q1⟩ := p
    have g1 := sufk hr (goes_need 1 [] r) h1
    rw [need_ok c hr (L_strB _) h1]
    simp only [Option.bind_some, andP_ok']
    rw [clocked_b]
    simp only [Option.bind_some]
    unfold pClock
    by_cases hk : 4 ≤ m
    · rw [if_pos ((e4 m).2 (by omega)), if_pos hk]
      cases h2 : pNeed 1 [] q1 with
      | error e =>
        have he := sufe g1 (goes_need 1 [] q1) h2
        have hw := lineV_pos c he
        rw [need_err c h0 g1 (L_strB _) h2]
        simp only [Option.bind_some]
        rw [need_bad (r := bad l e) hw]
        simp only [Option.bind_some]
        rw [if_neg (eF (by show ¬ lineV l e = 0; omega))]
        exact bindOut _ he rfl rfl
      | ok p =>
        obtain ⟨t2, q2⟩ := p
        have g2 := sufk g1 (goes_need 1 [] q1) h2
        rw [need_ok c g1 (L_strB _) h2]
        simp only [Option.bind_some, andP_ok']
        rw [edge_eq (l := l)]
        cases h3 : pNeed 1 [] q2 with
        | error e =>
          have he := sufe g2 (goes_need 1 [] q2) h3
          have hw := lineV_pos c he
          rw [need_err c h0 g2 (L_strB _) h3]
          simp only [Option.bind_some]
          rw [if_neg (eF (by show ¬ lineV l e = 0; omega))]
          exact bindOut _ he rfl rfl
        | ok p =>
          obtain ⟨t3, q3⟩ := p
          have g3 := sufk g2 (goes_need 1 [] q2) h3
          have e2 : q2 = t3 :: q3 := (need_ok_inv h3).1
          rw [need_ok c g2 (L_strB _) h3]
          simp only [Option.bind_some, andP_ok']
          rw [if_pos (eT (show (rd l q3).2.2 = 0 from rfl))]
          simp only [toL]
          have er : L (strB [114, 105, 115, 101]) = L sRise := rfl
          have ef : L (strB [102, 97, 108, 108]) = L sFall := rfl
          rw [er, ef]
          by_cases a1 : L t3.2.1 = L sRise
          · have b1 : (L t3.2.1 == L sRise) = true := beq_iff_eq.2 a1
            rw [b1, if_neg (by simp), if_pos a1, andP_ok', andP_ok']
            exact range_rd c h0 g3 x m _ _ true _
          · have b1 : (L t3.2.1 == L sRise) = false := beq_eq_false_iff_ne.2 a1
            rw [b1, if_pos (by simp), if_neg a1]
            by_cases a2 : L t3.2.1 = L sFall
            · have b2 : (L t3.2.1 == L sFall) = true := beq_iff_eq.2 a2
              rw [b2, if_neg (by simp), if_pos a2, andP_ok', andP_ok']
              exact range_rd c h0 g3 x m _ _ false _
            · have b2 : (L t3.2.1 == L sFall) = false := beq_eq_false_iff_ne.2 a2
              rw [b2, if_pos (by simp), if_neg a2]
              exact bindOut _ g2 rfl (by rw [e2]; rfl)
    · rw [if_neg (fun q => hk ((e4 m).1 q).1), if_neg hk, andP_ok']
      exact range_rd c h0 g1 x m _ _ false _

theorem lim_step {l r : List TToken} {t : TToken} (h : (t :: r) <:+ l) (x : TLimit) (z : ByteArray × ByteArray × Bool × RunT) (v m : Int) (hm : 1 ≤ m ∧ m ≤ 6) :
    limit_reader_limit_l4 m (rd l (t :: r)) x (v, z) = limit_reader_limit_l4 (m + 1) (rd l (t :: r)) x (if t.1 = 1 ∧ L t.2.1 = L (measW m) then m else v, z) := by
  obtain ⟨_, h2, _⟩ := at_cons h
  have c2 : 0 ≤ (rd l (t :: r)).2.1 ∧ (rd l (t :: r)).2.1 < ((rd l (t :: r)).1.length : Int) := ixn_in h
  have h2' : (rd l (t :: r)).1.getD (rd l (t :: r)).2.1.toNat dToken = t := h2
  rw [limit_reader_limit_l4_eq, if_pos (dT (by omega)), if_pos c2, h2', lword_b m hm, w64 (by omega) (by omega)]
  simp only [Option.bind_some, toL]
  by_cases a : t.1 = 1
  · rw [if_pos (eT a)]
    by_cases b : L t.2.1 = L (measW m)
    · rw [if_pos (beq_iff_eq.2 b), if_pos ⟨a, b⟩]
    · rw [if_neg (by simpa using b), if_neg (fun q => b q.2)]
  · rw [if_neg (eF a), if_neg (fun q => a q.1)]

theorem meas_last (b : List UInt8) : (if b = L (measW 6) then (6 : Int) else if b = L (measW 5) then 5 else if b = L (measW 4) then 4 else if b = L (measW 3) then 3 else if b = L (measW 2) then 2 else if b = L (measW 1) then 1 else 0) = (measNo b : Int) := by
  unfold measNo
  by_cases h1 : b = L (measW 1)
  · subst h1; decide
  by_cases h2 : b = L (measW 2)
  · subst h2; decide
  by_cases h3 : b = L (measW 3)
  · subst h3; decide
  by_cases h4 : b = L (measW 4)
  · subst h4; decide
  by_cases h5 : b = L (measW 5)
  · subst h5; decide
  by_cases h6 : b = L (measW 6)
  · subst h6; decide
  rw [if_neg h1, if_neg h2, if_neg h3, if_neg h4, if_neg h5, if_neg h6, if_neg h1, if_neg h2, if_neg h3, if_neg h4, if_neg h5, if_neg h6]
  rfl

theorem measNo_le (b : List UInt8) : measNo b ≤ 6 := by
  unfold measNo
  repeat' split
  all_goals omega

theorem limit_rd {l r : List TToken} {t : TToken} (c : Ctx l) (h : (t :: r) <:+ l) : Out l (limit_reader_limit (rd l (t :: r))) (pLim (t :: r)) := by
  unfold limit_reader_limit pLim
  rw [lim_step h _ _ _ _ (by omega)]
  rw [show (1 : Int) + 1 = 2 from rfl, lim_step h _ _ _ _ (by omega)]
  rw [show (2 : Int) + 1 = 3 from rfl, lim_step h _ _ _ _ (by omega)]
  rw [show (3 : Int) + 1 = 4 from rfl, lim_step h _ _ _ _ (by omega)]
  rw [show (4 : Int) + 1 = 5 from rfl, lim_step h _ _ _ _ (by omega)]
  rw [show (5 : Int) + 1 = 6 from rfl, lim_step h _ _ _ _ (by omega)]
  rw [show (6 : Int) + 1 = 7 from rfl]
  by_cases a : t.1 = 1
  · simp only [a, true_and]
    rw [meas_last]
    by_cases b : measNo (L t.2.1) = 0
    · have ep : pMeas (t :: r) = .error (t :: r) := by
        show (if t.1 = 1 ∧ measNo (L t.2.1) ≠ 0 then _ else _) = _
        rw [if_neg (fun q => q.2 b)]
      have c2 : 0 ≤ (rd l (t :: r)).2.1 ∧ (rd l (t :: r)).2.1 < ((rd l (t :: r)).1.length : Int) := ixn_in h
      have h2' : (rd l (t :: r)).1.getD (rd l (t :: r)).2.1.toNat dToken = t := (at_cons h).2.1
      rw [ep, b, limit_reader_limit_l4_eq, if_neg (dF (by omega)), if_pos (by rfl), if_pos c2, h2']
      exact ⟨_, _, rfl, rfl, rfl⟩
    · have ep : pMeas (t :: r) = .ok (measNo (L t.2.1), r) := by
        show (if t.1 = 1 ∧ measNo (L t.2.1) ≠ 0 then _ else _) = _
        rw [if_pos ⟨a, b⟩]
      rw [ep, andP_ok']
      exact lim7 c h _ _ ⟨by omega, measNo_le _⟩
  · have ep : pMeas (t :: r) = .error (t :: r) := by
      show (if t.1 = 1 ∧ measNo (L t.2.1) ≠ 0 then _ else _) = _
      rw [if_neg (fun q => a q.1)]
    have c2 : 0 ≤ (rd l (t :: r)).2.1 ∧ (rd l (t :: r)).2.1 < ((rd l (t :: r)).1.length : Int) := ixn_in h
    have h2' : (rd l (t :: r)).1.getD (rd l (t :: r)).2.1.toNat dToken = t := (at_cons h).2.1
    simp only [a, false_and, if_false]
    rw [ep, limit_reader_limit_l4_eq, if_neg (dF (by omega)), if_pos (by rfl), if_pos c2, h2']
    exact ⟨_, _, rfl, rfl, rfl⟩

/-! ### lists of limits -/
theorem l8_bad {r : Treader} (h : r.2.2 > 0) (acc : List TLimit) : limit_Parse_l8 r acc = some (([], r.2.2, 4, ()), ()) := by
  rw [limit_Parse_l8_eq, if_pos (dT h), if_neg (eF (by omega))]
  split <;> rfl

def OutT (o : Option ((List TLimit × Int × Int × Unit) × Unit)) (l : List TToken) : PR (List LimT) → Prop
  | .ok (x, _) => o = some ((if wrongL x = 0 then (x, 0, 0, ()) else ([], 0, wrongL x, ())), ())
  | .error e => o = some (([], lineV l e, 4, ()), ())

theorem l8_rd {l : List TToken} (c : Ctx l) : ∀ (k : Nat) (acc : List TLimit) (q : List TToken), q <:+ l → q.length ≤ k → acc.length + k ≤ 1048577 → OutT (limit_Parse_l8 (rd l q) acc) l (pLims k acc q) := by
  have endk : ∀ (acc : List TLimit), acc.length ≤ 1048577 → limit_Parse_l8 (rd l []) acc = some ((if wrongL acc = 0 then (acc, 0, 0, ()) else ([], 0, wrongL acc, ())), ()) := fun acc ha => by
    rw [limit_Parse_l8_eq]
    refine (if_neg (dF (by show ¬ ixn l [] < (l.length : Int); rw [ixn_nil]; omega))).trans ?_
    refine (if_neg (dF (by show ¬ (0 : Int) > 0; omega))).trans ?_
    rw [lprint_b acc ha, printL_err]
    simp only [Option.bind_some]
    by_cases he : wrongL acc = 0
    · rw [if_neg (nF he), if_pos he]
    · rw [if_pos (nT he), if_neg he]
  intro k
  induction k with
  | zero =>
    intro acc q h hk hb
    have : q = [] := List.length_eq_zero_iff.1 (by omega)
    subst this
    exact endk acc (by omega)
  | succ k ih =>
    intro acc q h hk hb
    unfold pLims
    cases q with
    | nil =>
      rw [if_pos rfl]
      exact endk acc (by omega)
    | cons t r =>
      rw [if_neg (by simp), limit_Parse_l8_eq]
      have hin := ixn_in h
      have hl := c.len
      refine Eq.subst (motive := fun o => OutT o l _) (if_pos (dT (by show ixn l (t :: r) < (l.length : Int); omega))).symm ?_
      refine Eq.subst (motive := fun o => OutT o l _) (if_pos (eT (show (rd l (t :: r)).2.2 = 0 from rfl))).symm ?_
      have ho := limit_rd c h
      cases h1 : pLim (t :: r) with
      | error e =>
        have he := sufe h (goes_lim (t :: r)) h1
        rw [h1] at ho
        obtain ⟨z, rr, hr1, hr2, hz⟩ := ho
        rw [hz]
        simp only [Option.bind_some]
        rw [if_pos ⟨by omega, by decide⟩]
        have hp := lineV_pos c he
        refine (l8_bad (r := rr) (by omega) _).trans ?_
        rw [hr2]
      | ok p =>
        obtain ⟨x, q1⟩ := p
        have g1 := sufk h (goes_lim (t :: r)) h1
        have o1 := okLen (goes_lim (t :: r)) h1
        rw [h1] at ho
        rw [show limit_reader_limit (rd l (t :: r)) = some ((x, ()), (rd l q1, ())) from ho]
        simp only [Option.bind_some, andP_ok']
        rw [if_pos ⟨by omega, by decide⟩]
        exact ih (acc ++ [x]) q1 g1 (by omega) (by rw [List.length_append]; simp only [List.length_cons, List.length_nil]; omega)

theorem lparse_b (s : ByteArray) : limit_Parse s = some (((parseL (L s)).1, (parseL (L s)).2.1, (parseL (L s)).2.2, ()), ()) := by
  unfold limit_Parse parseL
  have hlen := tokOut_length s
  rw [lex_Tokens_b]
  simp only [Option.bind_some]
  cases h : tokV (L s) with
  | error e =>
    simp only [tokOut]
    by_cases he : e.2 = 0
    · exact absurd he (tokV_err h)
    · refine (if_pos (nT he)).trans ?_
      rfl
  | ok l =>
    rw [h] at hlen
    simp only [tokOut, List.nil_append] at hlen ⊢
    refine (if_neg (nF rfl)).trans ?_
    have c : Ctx l := ⟨hlen, tokV_good h⟩
    have e0 : ((l, 0, 0) : Treader) = rd l l := by unfold rd ixn; simp
    have ho := l8_rd c l.length [] l (List.suffix_refl l) (Nat.le_refl _) (by simp only [List.length_nil]; omega)
    rw [← e0] at ho
    cases ha : pLims l.length [] l with
    | error e =>
      rw [ha] at ho
      exact ho
    | ok d =>
      obtain ⟨t, q⟩ := d
      rw [ha] at ho
      refine Eq.trans ho ?_
      simp only
      split <;> rfl

end Go.Proofs.YtejehchbflmofaaDoor
end

section
/-
YtejehchbflmofaaDoor: channels of captures, measurements, gaps, violations and the worst gap, as plain functions, come to the plain law. No condition.
-/
set_option maxRecDepth 100000
set_option linter.unusedVariables false
open Go Go.AM
namespace Go.Proofs.YtejehchbflmofaaDoor

theorem sum0 : ∀ (l : List RunT), (∀ r ∈ l, 1 ≤ r.2) → 0 ≤ (l.map (·.2)).sum
  | [], _ => by simp
  | x :: l, h => by
    have h1 := sum0 l (fun r hr => h r (by simp [hr]))
    have h2 := h x (by simp)
    simp only [List.map_cons, List.sum_cons]
    omega
theorem le_sum : ∀ (l : List RunT), (∀ r ∈ l, 1 ≤ r.2) → ∀ r ∈ l, r.2 ≤ (l.map (·.2)).sum
  | [], _, r, hr => by simp at hr
  | x :: l, h, r, hr => by
    have h1 := sum0 l (fun r hr => h r (by simp [hr]))
    have h2 := h x (by simp)
    simp only [List.map_cons, List.sum_cons]
    rcases List.mem_cons.1 hr with rfl | hr
    · omega
    · have := le_sum l (fun r hr => h r (by simp [hr])) r hr
      omega

def bitF (k v : Int) : Int := IntKind.i64.wrap (BitVec.ofInt 64 (v.fdiv (2 ^ (min k.toNat 64))) &&& BitVec.ofInt 64 1).toNat
theorem bitF01 (k v : Int) : bitF k v = 0 ∨ bitF k v = 1 := by
  unfold bitF
  have h : (BitVec.ofInt 64 (v.fdiv (2 ^ (min k.toNat 64))) &&& BitVec.ofInt 64 1).toNat = 0 ∨ (BitVec.ofInt 64 (v.fdiv (2 ^ (min k.toNat 64))) &&& BitVec.ofInt 64 1).toNat = 1 := by
    rw [BitVec.toNat_and, show (BitVec.ofInt 64 1).toNat = 1 from rfl, Nat.and_one_is_mod]
    omega
  rcases h with h | h
  · rw [h]; exact .inl (by decide)
  · rw [h]; exact .inr (by decide)

def ixN (l : List ByteArray) (v : ByteArray) : Nat := (l.findIdx? fun b => L b == L v).getD 0
def chanOf (c : TCapture) (v : ByteArray) : List RunT := chanW (bitF (ixN c.1 v)) c.2
def gapsC (c : TCapture) (x : LimT) : List GapT := gapsV x (chanOf c x.2.1) (if clkB x.1 = true then chanOf c x.2.2.1 else [])

structure CapOk (c : TCapture) : Prop where
  n : c.1.length ≤ 16
  r : c.2.length ≤ 262144
  names : namesE c.1 = 0
  runs : runsB (maskI c.1.length) 1099511627776 c.2 = true

theorem capE_zero {c : TCapture} (h : capE c = 0) : CapOk c := by
  unfold capE at h
  by_cases a : 16 < c.1.length ∨ 262144 < c.2.length
  · rw [if_pos a] at h; omega
  · rw [if_neg a] at h
    by_cases b : namesE c.1 = 0
    · rw [if_pos b] at h
      by_cases d : runsB (maskI c.1.length) 1099511627776 c.2 = true
      · exact ⟨by omega, by omega, b, d⟩
      · rw [if_neg d] at h; omega
    · rw [if_neg b] at h; exact absurd h b

theorem chanOf_ok {c : TCapture} (h : capE c = 0) (v : ByteArray) : WaveOk (chanOf c v) ∧ AltW (chanOf c v) := chan_ok (fun v => bitF01 _ v) (capE_zero h).runs (capE_zero h).r
theorem nil_ok : WaveOk [] ∧ AltW [] := ⟨⟨by simp, by simp, by simp, by simp⟩, trivial⟩

/-! ### channels -/
theorem last_ix (b : List RunT) (y : TGap) (h : b.length ≤ 1048577) : IntKind.i64.wrap (((b ++ [y]).length : Int) - 1) = (b.length : Int) := by
  have : (b ++ [y]).length = b.length + 1 := by simp
  rw [w64 (by omega) (by omega)]
  omega

theorem join_b (lv t : Int) (l : List RunT) (hl : l.length ≤ 1048577) (ht : 0 ≤ t ∧ t ≤ 1099511627776) (hr : ∀ r ∈ l, 0 ≤ r.2 ∧ r.2 ≤ 1099511627776) : capture_join lv t l = some (((), ()), ((), putW l (lv, t), ())) := by
  unfold capture_join
  rcases snoc_cases l with rfl | ⟨b, y, rfl⟩
  · rw [if_neg (dF (by simp)), if_pos ⟨by simp, by decide⟩]; rfl
  · have hb : (b ++ [y]).length = b.length + 1 := by simp
    have hy := hr y (by simp)
    have hg : (b ++ [y]).getD b.length dGap = y := by simp
    have hs : ∀ v, (b ++ [y]).set b.length v = b ++ [v] := by simp
    have hin : 0 ≤ (b.length : Int) ∧ (b.length : Int) < ((b ++ [y]).length : Int) := by omega
    rw [if_pos (dT (by omega)), last_ix b y (by omega), if_pos hin, if_pos hin, if_pos hin, Int.toNat_natCast, hg, hs, putW_snoc]
    by_cases he : y.1 = lv
    · rw [if_pos (eT he), if_pos he, w64 (by omega) (by omega)]
    · rw [if_neg (eF he), if_neg he, if_pos ⟨by omega, by decide⟩]; simp

theorem acc_ok {acc r : List RunT} (h1 : ∀ x ∈ acc, 1 ≤ x.2) (h2 : ∀ x ∈ r, 1 ≤ x.2) (h3 : (acc.map (·.2)).sum + (r.map (·.2)).sum ≤ 1099511627776) : ∀ x ∈ acc, 0 ≤ x.2 ∧ x.2 ≤ 1099511627776 := fun x hx => by
  have a := h1 x hx
  have b := le_sum acc h1 x hx
  have d := sum0 r h2
  omega

theorem chan12 (k : Nat) (l : List RunT) (hl : l.length ≤ 1048576) : ∀ (r : List RunT) (i : Nat) (acc : List RunT), l.drop i = r → acc.length ≤ i → (∀ x ∈ acc, 1 ≤ x.2) → (∀ x ∈ r, 1 ≤ x.2) → (acc.map (·.2)).sum + (r.map (·.2)).sum ≤ 1099511627776 →
    capture_Channel_l12 k l (l.length : Int) i acc = some (((r.map fun x => (bitF k x.1, x.2)).foldl putW acc, 0, ()), ())
  | [], i, acc, h, ha, h1, h2, h3 => by
    have h0 := drop_nil h
    rw [capture_Channel_l12_eq, if_neg (dF (by omega))]
    rfl
  | x :: r, i, acc, h, ha, h1, h2, h3 => by
    have h0 := drop_lt h
    have hg : l.getD (i : Int).toNat dGap = x := getD_drop h
    have hx := h2 x (by simp)
    have hr : ∀ x ∈ r, 1 ≤ x.2 := fun y hy => h2 y (by simp [hy])
    have s0 := sum0 r hr
    have sa := sum0 acc h1
    have ok := acc_ok h1 h2 h3
    simp only [List.map_cons, List.sum_cons] at h3
    rw [capture_Channel_l12_eq, if_pos (dT (by omega)), if_pos ⟨by omega, by omega⟩, if_pos (show 0 ≤ (k : Int) by omega), hg, join_b _ _ _ (by omega) (by omega) ok, w64a i (by omega)]
    simp only [Option.bind_some]
    have ln := putW_len acc (bitF k x.1, x.2)
    exact chan12 k l hl r (i + 1) (putW acc (bitF k x.1, x.2)) (dropS h) (by omega) (putW_mem (p := fun r => 1 ≤ r.2) (fun l t t' q q' => by show 1 ≤ t + t'; have q : 1 ≤ t := q; have q' : 1 ≤ t' := q'; omega) h1 hx) hr (by rw [putW_sum]; show _ + x.2 + _ ≤ _; omega)

theorem ix_of {l : List ByteArray} {v : ByteArray} (h : hasB l v = true) : l.findIdx? (fun b => L b == L v) = some (ixN l v) := by
  unfold ixN
  cases hf : l.findIdx? (fun b => L b == L v) with
  | some i => rfl
  | none =>
    obtain ⟨b, hb, hp⟩ := List.any_eq_true.1 h
    have := List.findIdx?_eq_none_iff.1 hf b hb
    rw [hp] at this
    cases this

theorem channel_b (c : TCapture) (hc : capE c = 0) (v : ByteArray) (hv : hasB c.1 v = true) : capture_Channel c v = some ((chanOf c v, 0, ()), ()) := by
  have ok := capE_zero hc
  have h1 := ok.n
  have h2 := ok.r
  obtain ⟨f1, f2⟩ := runsB_facts c.2 _ ok.runs (by omega)
  unfold capture_Channel
  rw [ccheck_b c (by omega) (by omega), hc, index_b _ (by omega), ix_of hv]
  simp only [Option.bind_some]
  refine (if_neg (by decide)).trans ?_
  refine (if_neg (dF (by show ¬ ((ixN c.1 v : Nat) : Int) < 0; omega))).trans ?_
  exact chan12 (ixN c.1 v) c.2 (by omega) c.2 0 [] rfl (by simp) (by simp) (fun x hx => (f1 x hx).1) (by simpa using f2)

/-! ### waves -/
theorem bit_ok {v : Int} (h : v = 0 ∨ v = 1) : IntKind.i64.wrap (BitVec.ofInt 64 v &&& ~~~ BitVec.ofInt 64 1).toNat = 0 := by
  rcases h with rfl | rfl <;> decide

theorem valid_loop (l : List RunT) (hl : l.length ≤ 262144) (hv : ∀ r ∈ l, r.1 = 0 ∨ r.1 = 1) (ht : ∀ r ∈ l, 1 ≤ r.2) : ∀ (r : List RunT) (k : Nat) (left : Int), l.drop k = r → (r.map (·.2)).sum ≤ left → left ≤ 1099511627776 → wave_Valid_l7 left l (l.length : Int) k = some ((true, ()), ())
  | [], k, left, h, h1, h2 => by
    have h0 := drop_nil h
    rw [wave_Valid_l7_eq, if_neg (dF (by omega))]
  | x :: r, k, left, h, h1, h2 => by
    have h0 := drop_lt h
    have hg : l.getD (k : Int).toNat dGap = x := getD_drop h
    have hx := ht x (mem_drop h)
    have s0 := sum0 r (fun y hy => ht y (by
      have : y ∈ l.drop k := by rw [h]; simp [hy]
      exact List.mem_of_mem_drop this))
    simp only [List.map_cons, List.sum_cons] at h1
    rw [wave_Valid_l7_eq, if_pos (dT (by omega)), if_pos ⟨by omega, by omega⟩, hg, if_neg (nF (bit_ok (hv x (mem_drop h)))), if_neg (dF (by omega)), if_neg (dF (by omega)), w64 (by omega) (by omega), w64a k (by omega)]
    exact valid_loop l hl hv ht r (k + 1) (left - x.2) (dropS h) (by omega) (by omega)

theorem wvalid_b {w : List RunT} (h : WaveOk w) : wave_Valid w = some ((true, ()), ()) := by
  have hl := h.len
  unfold wave_Valid
  rw [if_neg (dF (by omega))]
  exact valid_loop w hl h.level h.ticks w 0 _ rfl h.sum (by omega)

theorem alt_mid : ∀ (b : List RunT) (y x : RunT) (l : List RunT), AltW (b ++ y :: x :: l) → y.1 ≠ x.1
  | [], y, x, l, h => h.1
  | [c], y, x, l, h => h.2.1
  | c :: d :: b, y, x, l, h => alt_mid (d :: b) y x l h.2

theorem joined_loop (l : List RunT) (hl : l.length ≤ 262144) : ∀ (r : List RunT) (k : Nat) (acc : List RunT), l.drop k = r → acc.length ≤ k → AltW (acc ++ r) → wave_joined_l4 l (l.length : Int) k acc = some ((acc ++ r, ()), ())
  | [], k, acc, h, ha, hw => by
    have h0 := drop_nil h
    rw [wave_joined_l4_eq, if_neg (dF (by omega)), List.append_nil]
  | x :: r, k, acc, h, ha, hw => by
    have h0 := drop_lt h
    have hg : l.getD (k : Int).toNat dGap = x := getD_drop h
    have ih := joined_loop l hl r (k + 1) (acc ++ [x]) (dropS h) (by simp; omega) (by simpa using hw)
    rw [wave_joined_l4_eq, if_pos (dT (by omega)), if_pos ⟨by omega, by omega⟩, hg, w64a k (by omega)]
    rw [List.append_assoc] at ih
    rcases snoc_cases acc with rfl | ⟨b, y, rfl⟩
    · rw [if_neg (dF (by simp)), if_pos ⟨by simp, by decide⟩]
      exact ih
    · have hb : (b ++ [y]).length = b.length + 1 := by simp
      have hg2 : (b ++ [y]).getD b.length dGap = y := by simp
      have hin : 0 ≤ (b.length : Int) ∧ (b.length : Int) < ((b ++ [y]).length : Int) := by omega
      have hne : y.1 ≠ x.1 := alt_mid b y x r (by simpa using hw)
      rw [if_pos (dT (by omega)), last_ix b y (by omega), if_pos hin, Int.toNat_natCast, hg2, if_neg (eF hne), if_pos ⟨by omega, by decide⟩]
      exact ih

theorem clean_b {w : List RunT} (h : WaveOk w) (ha : AltW w) : wave_Clean w = some ((w, ()), ()) := by
  have hl := h.len
  unfold wave_Clean wave_joined
  rw [wvalid_b h]
  simp only [Option.bind_some]
  refine (if_neg (by decide)).trans ?_
  have := joined_loop w hl w 0 [] rfl (by simp) ha
  rw [List.nil_append] at this
  rw [show wave_joined_l4 w (w.length : Int) 0 [] = _ from this]
  rfl

def riseC (p : Int × Int) : Tchange := (p.1, p.2 == 1)

theorem changes_loop (l : List RunT) (hl : l.length ≤ 262144) : ∀ (r : List RunT) (k : Nat) (t : Int) (acc : List Tchange), l.drop k = r → 1 ≤ k → acc.length ≤ k → 0 ≤ t → (∀ x ∈ r, 1 ≤ x.2) → t + (r.map (·.2)).sum ≤ 1099511627776 →
    measure_changes_l5 t l (l.length : Int) k acc = some ((acc ++ (chg t r).map riseC, ()), ())
  | [], k, t, acc, h, hk, ha, h0, h1, h2 => by
    have h3 := drop_nil h
    rw [measure_changes_l5_eq, if_neg (dF (by omega))]
    simp [chg]
  | x :: r, k, t, acc, h, hk, ha, h0, h1, h2 => by
    have h3 := drop_lt h
    have hg : l.getD (k : Int).toNat dGap = x := getD_drop h
    have hr : ∀ x ∈ r, 1 ≤ x.2 := fun y hy => h1 y (by simp [hy])
    have hx := h1 x (by simp)
    have s0 := sum0 r hr
    simp only [List.map_cons, List.sum_cons] at h2
    rw [measure_changes_l5_eq, if_pos (dT (by omega)), if_pos ⟨by omega, by omega⟩, hg, if_pos (dT (by omega)), if_pos ⟨by omega, by decide⟩, w64 (by omega) (by omega), w64a k (by omega), changes_loop l hl r (k + 1) (t + x.2) _ (dropS h) (by omega) (by simp; omega) (by omega) hr (by omega)]
    simp [chg, riseC]

theorem changes_b {w : List RunT} (h : WaveOk w) (ha : AltW w) : measure_changes w = some (((chgs w).map riseC, ()), ()) := by
  have hl := h.len
  have hs := h.sum
  unfold measure_changes
  rw [clean_b h ha]
  simp only [Option.bind_some]
  cases w with
  | nil => rw [measure_changes_l5_eq, if_neg (dF (by simp))]; rfl
  | cons x r =>
    have hx := h.ticks x (by simp)
    have hr : ∀ x ∈ r, 1 ≤ x.2 := fun y hy => h.ticks y (by simp [hy])
    have s0 := sum0 r hr
    simp only [List.map_cons, List.sum_cons] at hs
    have e := changes_loop (x :: r) hl r 1 x.2 [] rfl (by omega) (by simp) (by omega) hr (by omega)
    rw [measure_changes_l5_eq, if_pos (dT (by simp)), if_pos ⟨by omega, by simp⟩, if_neg (dF (by omega)), show ((x :: r).getD (0 : Int).toNat dGap) = x from rfl, Int.zero_add, w64 (by omega) (by omega), show IntKind.i64.wrap (0 + 1) = ((1 : Nat) : Int) from by decide]
    exact e

theorem rises_loop (rising : Bool) (l : List (Int × Int)) (hl : l.length ≤ 262144) (hv : ∀ p ∈ l, p.2 = 0 ∨ p.2 = 1) : ∀ (r : List (Int × Int)) (k : Nat) (acc : List Int), l.drop k = r → acc.length ≤ k →
    measure_rises_l4 rising (l.map riseC) ((l.map riseC).length : Int) k acc = some ((acc ++ actV' rising r, ()), ())
  | [], k, acc, h, ha => by
    have h3 := drop_nil h
    rw [measure_rises_l4_eq, if_neg (dF (by rw [List.length_map]; omega))]
    simp [actV', toV]
  | x :: r, k, acc, h, ha => by
    have h3 := drop_lt h
    have hg : (l.map riseC).getD (k : Int).toNat dchange = riseC x := getD_drop (by rw [← List.map_drop, Int.toNat_natCast, h]; rfl)
    have hx := hv x (mem_drop h)
    have hlen : (l.map riseC).length = l.length := List.length_map ..
    rw [measure_rises_l4_eq, if_pos (dT (by omega)), if_pos ⟨by omega, by omega⟩, hg, w64a k (by omega)]
    have e : ((riseC x).2 == rising) = (x.2 == (if rising = true then (1 : Int) else 0)) := by
      unfold riseC
      rcases hx with q | q <;> rw [q] <;> cases rising <;> rfl
    rw [e]
    have ec : actV' rising (x :: r) = (if (x.2 == (if rising = true then (1 : Int) else 0)) = true then [x.1] else []) ++ actV' rising r := by
      unfold actV' toV
      generalize (if rising = true then (1 : Int) else 0) = v
      rw [List.filter_cons]
      by_cases q : (x.2 == v) = true
      · rw [if_pos q, if_pos q]; rfl
      · rw [if_neg q, if_neg q]; rfl
    rw [ec]
    by_cases q : (x.2 == (if rising = true then (1 : Int) else 0)) = true
    · rw [if_pos q, if_pos q, if_pos ⟨by omega, by decide⟩, rises_loop rising l hl hv r (k + 1) _ (dropS h) (by simp; omega)]
      simp [riseC]
    · rw [if_neg q, if_neg q, rises_loop rising l hl hv r (k + 1) _ (dropS h) (by omega)]
      simp

theorem rises_b {w : List RunT} (h : WaveOk w) (ha : AltW w) (rising : Bool) : measure_rises w rising = some ((actV' rising (chgs w), ()), ()) := by
  have ok := chgs_ok h
  unfold measure_rises
  rw [changes_b h ha]
  simp only [Option.bind_some]
  exact rises_loop rising (chgs w) ok.len ok.level (chgs w) 0 [] rfl (by simp)

theorem act_ok {w : List RunT} (h : WaveOk w) (rising : Bool) : TimesOk (actV' rising (chgs w)) := toV_ok (chgs_ok h) _

theorem edges_loop (l : List RunT) (hl : l.length ≤ 262144) (hw : AltW l) : ∀ (r : List RunT) (k : Nat) (t : Int) (acc : List Int), l.drop k = r → 1 ≤ k → acc.length ≤ k → 0 ≤ t → (∀ x ∈ r, 1 ≤ x.2) → t + (r.map (·.2)).sum ≤ 1099511627776 →
    wave_Edges_l8 l t l (l.length : Int) k acc = some ((acc ++ (chg t r).map (·.1), ()), ())
  | [], k, t, acc, h, hk, ha, h0, h1, h2 => by
    have h3 := drop_nil h
    rw [wave_Edges_l8_eq, if_neg (dF (by omega))]
    simp [chg]
  | x :: r, k, t, acc, h, hk, ha, h0, h1, h2 => by
    have h3 := drop_lt h
    have hg : l.getD (k : Int).toNat dGap = x := getD_drop h
    have hr : ∀ x ∈ r, 1 ≤ x.2 := fun y hy => h1 y (by simp [hy])
    have hx := h1 x (by simp)
    have s0 := sum0 r hr
    obtain ⟨j, rfl⟩ : ∃ j, k = j + 1 := ⟨k - 1, by omega⟩
    have hj : j < l.length := by omega
    have hd : l = l.take j ++ l[j] :: x :: r := by
      have e1 := List.take_append_drop j l
      rw [List.drop_eq_getElem_cons hj, h] at e1
      exact e1.symm
    have hne : l[j].1 ≠ x.1 := alt_mid (l.take j) l[j] x r (by rw [← hd]; exact hw)
    have hgj : l.getD ((j : Int)).toNat dGap = l[j] := by rw [Int.toNat_natCast]; exact getD_in _ hj
    simp only [List.map_cons, List.sum_cons] at h2
    rw [wave_Edges_l8_eq, if_pos (dT (by omega)), if_pos ⟨by omega, by omega⟩, hg, if_pos (dT (by omega)), w64 (x := ((j + 1 : Nat) : Int) - 1) (by omega) (by omega), show ((j + 1 : Nat) : Int) - 1 = (j : Int) by omega, if_pos ⟨by omega, by omega⟩, hgj, if_pos (nT hne), if_pos ⟨by omega, by decide⟩, w64 (by omega) (by omega), w64a (j + 1) (by omega), edges_loop l hl hw r (j + 1 + 1) (t + x.2) _ (dropS h) (by omega) (by simp; omega) (by omega) hr (by omega)]
    simp [chg]

theorem edges_b {w : List RunT} (h : WaveOk w) (ha : AltW w) : wave_Edges w = some (((chgs w).map (·.1), ()), ()) := by
  have hl := h.len
  have hs := h.sum
  unfold wave_Edges
  rw [wvalid_b h]
  simp only [Option.bind_some]
  refine (if_neg (by decide)).trans ?_
  cases w with
  | nil => rw [wave_Edges_l8_eq, if_neg (dF (by simp))]; rfl
  | cons x r =>
    have hx := h.ticks x (by simp)
    have hr : ∀ x ∈ r, 1 ≤ x.2 := fun y hy => h.ticks y (by simp [hy])
    have s0 := sum0 r hr
    simp only [List.map_cons, List.sum_cons] at hs
    have e := edges_loop (x :: r) hl ha r 1 x.2 [] rfl (by omega) (by simp) (by omega) hr (by omega)
    rw [wave_Edges_l8_eq, if_pos (dT (by simp)), if_pos ⟨by omega, by simp⟩, if_neg (dF (by omega)), show ((x :: r).getD (0 : Int).toNat dGap) = x from rfl, Int.zero_add, w64 (by omega) (by omega), show IntKind.i64.wrap (0 + 1) = ((1 : Nat) : Int) from by decide]
    exact e

/-! ### measurements -/
theorem perV_cons (a b : Int) (r : List Int) : perV (a :: b :: r) = (a, b - a) :: perV (b :: r) := rfl

theorem periods_loop (l : List Int) (hl : l.length ≤ 262144) (ht : ∀ t ∈ l, 1 ≤ t ∧ t ≤ 1099511627776) : ∀ (r : List Int) (a : Int) (k : Nat) (acc : List RunT), l.drop k = a :: r → acc.length ≤ k →
    measure_Periods_l5 l ((k + 1 : Nat) : Int) acc = some ((acc ++ perV (a :: r), ()), ())
  | [], a, k, acc, h, ha => by
    have h1 := drop_nil (dropS h)
    rw [measure_Periods_l5_eq, if_neg (dF (by omega))]
    simp [perV]
  | b :: r, a, k, acc, h, ha => by
    have h1 := drop_lt h
    have h2 := dropS h
    have h3 := drop_lt h2
    have hg : l.getD (k : Int).toNat 0 = a := getD_drop h
    have hg2 : l.getD ((k + 1 : Nat) : Int).toNat 0 = b := getD_drop h2
    have ta := ht a (mem_drop h)
    have tb := ht b (mem_drop h2)
    have hin : 0 ≤ (k : Int) ∧ (k : Int) < (l.length : Int) := by omega
    rw [measure_Periods_l5_eq, if_pos (dT (by omega)), w64 (x := ((k + 1 : Nat) : Int) - 1) (by omega) (by omega), show ((k + 1 : Nat) : Int) - 1 = (k : Int) by omega, if_pos hin, if_pos ⟨by omega, by omega⟩, if_pos hin, if_pos ⟨by omega, by decide⟩, hg, hg2, w64 (x := b - a) (by omega) (by omega), w64a (k + 1) (by omega), periods_loop l hl ht r b (k + 1) _ h2 (by simp; omega), perV_cons]
    simp

theorem periods_b {w : List RunT} (h : WaveOk w) (ha : AltW w) : measure_Periods w = some ((perV (toV 1 (chgs w)), ()), ()) := by
  have ok := act_ok h true
  have hl := ok.len
  unfold measure_Periods
  rw [rises_b h ha true]
  simp only [Option.bind_some]
  show measure_Periods_l5 (toV 1 (chgs w)) 1 [] = _
  have ok : TimesOk (toV 1 (chgs w)) := ok
  have hl : (toV 1 (chgs w)).length ≤ 262144 := hl
  cases hq : toV 1 (chgs w) with
  | nil => rw [measure_Periods_l5_eq, if_neg (dF (by simp))]; rfl
  | cons a r =>
    rw [hq] at ok hl
    exact periods_loop (a :: r) hl ok.top r a 0 [] rfl (by simp)

theorem pulV_cons (v : Int) (p q : Int × Int) (r : List (Int × Int)) : pulV v (p :: q :: r) = (if p.2 = v then [(p.1, q.1 - p.1)] else []) ++ pulV v (q :: r) := rfl

theorem pulses_loop (v : Int) (l : List RunT) (hl : l.length ≤ 262144) : ∀ (r : List RunT) (k : Nat) (t : Int) (acc : List RunT), l.drop k = r → 1 ≤ k → acc.length ≤ k → 0 ≤ t → (∀ x ∈ r, 1 ≤ x.2) → t + (r.map (·.2)).sum ≤ 1099511627776 →
    measure_Pulses_l6 v l t l (l.length : Int) k acc = some ((acc ++ pulV v (chg t r), ()), ())
  | [], k, t, acc, h, hk, ha, h0, h1, h2 => by
    have h3 := drop_nil h
    rw [measure_Pulses_l6_eq, if_neg (dF (by omega))]
    simp [chg, pulV]
  | [x], k, t, acc, h, hk, ha, h0, h1, h2 => by
    have h3 := drop_lt h
    have h4 := drop_nil (dropS h)
    have hg : l.getD (k : Int).toNat dGap = x := getD_drop h
    have hx := h1 x (by simp)
    simp only [List.map_cons, List.sum_cons, List.map_nil, List.sum_nil] at h2
    rw [measure_Pulses_l6_eq, if_pos (dT (by omega)), if_pos ⟨by omega, by omega⟩, hg, if_pos (dT (by omega)), w64 (x := (l.length : Int) - 1) (by omega) (by omega), if_neg (dF (by omega)), w64 (x := t + x.2) (by omega) (by omega), w64a k (by omega), pulses_loop v l hl [] (k + 1) (t + x.2) _ (dropS h) (by omega) (by omega) (by omega) (by simp) (by simp; omega)]
    simp [chg, pulV]
  | x :: y :: r, k, t, acc, h, hk, ha, h0, h1, h2 => by
    have h3 := drop_lt h
    have h4 := drop_lt (dropS h)
    have hg : l.getD (k : Int).toNat dGap = x := getD_drop h
    have hr : ∀ x ∈ y :: r, 1 ≤ x.2 := fun z hz => h1 z (List.mem_cons_of_mem _ hz)
    have hx := h1 x (by simp)
    have s0 := sum0 (y :: r) hr
    have e2 : ((x :: y :: r).map (·.2)).sum = x.2 + ((y :: r).map (·.2)).sum := by simp
    rw [e2] at h2
    rw [measure_Pulses_l6_eq, if_pos (dT (by omega)), if_pos ⟨by omega, by omega⟩, hg, if_pos (dT (by omega)), w64 (x := (l.length : Int) - 1) (by omega) (by omega), if_pos (dT (by omega)), w64 (x := t + x.2) (by omega) (by omega), w64a k (by omega)]
    have ec : chg t (x :: y :: r) = (t, x.1) :: (t + x.2, y.1) :: chg (t + x.2 + y.2) r := rfl
    have ec2 : chg (t + x.2) (y :: r) = (t + x.2, y.1) :: chg (t + x.2 + y.2) r := rfl
    rw [ec, pulV_cons, ← ec2]
    have e3 : (t + x.2, y.1).1 - (t, x.1).1 = x.2 := by show t + x.2 - t = x.2; omega
    rw [e3]
    by_cases q : x.1 = v
    · rw [if_pos (eT q), if_pos (show (t, x.1).2 = v from q), if_pos ⟨by omega, by decide⟩, pulses_loop v l hl (y :: r) (k + 1) (t + x.2) _ (dropS h) (by omega) (by simp; omega) (by omega) hr (by omega)]
      simp
    · rw [if_neg (eF q), if_neg (show ¬ (t, x.1).2 = v from q), pulses_loop v l hl (y :: r) (k + 1) (t + x.2) _ (dropS h) (by omega) (by omega) (by omega) hr (by omega)]
      simp

theorem pulses_b {w : List RunT} (h : WaveOk w) (ha : AltW w) (v : Int) : measure_Pulses w v = some ((pulV v (chgs w), ()), ()) := by
  have hl := h.len
  have hs := h.sum
  unfold measure_Pulses
  rw [clean_b h ha]
  simp only [Option.bind_some]
  cases w with
  | nil => rw [measure_Pulses_l6_eq, if_neg (dF (by simp))]; rfl
  | cons x r =>
    have hx := h.ticks x (by simp)
    have hr : ∀ x ∈ r, 1 ≤ x.2 := fun y hy => h.ticks y (by simp [hy])
    have s0 := sum0 r hr
    simp only [List.map_cons, List.sum_cons] at hs
    have e := pulses_loop v (x :: r) hl r 1 x.2 [] rfl (by omega) (by simp) (by omega) hr (by omega)
    rw [measure_Pulses_l6_eq, if_pos (dT (by simp)), if_pos ⟨by omega, by simp⟩, if_neg (dF (by omega)), show ((x :: r).getD (0 : Int).toNat dGap) = x from rfl, Int.zero_add, w64 (by omega) (by omega), show IntKind.i64.wrap (0 + 1) = ((1 : Nat) : Int) from by decide]
    exact e

theorem both_b {a b : List RunT} (h : WaveOk a) (h2 : WaveOk b) : measure_both a b = some ((true, ()), ()) := by
  unfold measure_both
  rw [wvalid_b h, wvalid_b h2]
  rfl

theorem setup14 (d : List Int) (hd : TimesOk d) (t : Int) (ht : 1 ≤ t ∧ t ≤ 1099511627776) (a : List Int) (n i : Int) (acc : List RunT) (ha : acc.length ≤ 1048577) : ∀ (m k : Nat), m = uptoV d t - k → k ≤ uptoV d t →
    measure_Setup_l14 d k t a n i acc = measure_Setup_l8 d ((uptoV d t : Nat) : Int) a n (IntKind.i64.wrap (i + 1)) (acc ++ supG d t)
  | 0, k, hm, hk => by
    have hl := hd.len
    have hu := uptoV_le d t
    have ek : uptoV d t = k := by omega
    unfold supG
    rw [ek, measure_Setup_l14_eq]
    by_cases h1 : k < d.length
    rw [if_pos (dT (by omega)), if_pos ⟨by omega, by omega⟩, Int.toNat_natCast, if_neg (dF (by have := uptoV_end d t (by omega); rw [ek] at this; omega))]
    rotate_left
    rw [if_neg (dF (by omega))]
    all_goals
      by_cases h0 : 0 < k
      · have hin : 0 ≤ (k : Int) - 1 ∧ (k : Int) - 1 < (d.length : Int) := by omega
        have hn : ((k : Int) - 1).toNat = k - 1 := by omega
        have hv := hd.top _ (getD_mem (l := d) (k := k - 1) (by omega))
        rw [if_pos (dT (by omega)), w64 (x := (k : Int) - 1) (by omega) (by omega), if_pos hin, if_pos hin, if_pos ⟨by omega, by decide⟩, hn, w64 (x := t - d.getD (k - 1) 0) (by omega) (by omega), if_pos h0]
      · rw [if_neg (dF (by omega)), if_neg h0, List.append_nil]
  | m + 1, k, hm, hk => by
    have hl := hd.len
    have hu := uptoV_le d t
    have hlt := uptoV_at d t k (by omega)
    rw [measure_Setup_l14_eq, if_pos (dT (by omega)), if_pos ⟨by omega, by omega⟩, Int.toNat_natCast, if_pos (dT hlt), w64a k (by omega)]
    exact setup14 d hd t ht a n i acc ha m (k + 1) (by omega) (by omega)

theorem setup8 (d a : List Int) (hd : TimesOk d) (hta : TimesOk a) : ∀ (r : List Int) (i k : Nat) (acc : List RunT) (b : Int), a.drop i = r → Asc b r → k ≤ uptoV d b → acc.length ≤ i →
    measure_Setup_l8 d k a (a.length : Int) i acc = some ((acc ++ r.flatMap (supG d), ()), ())
  | [], i, k, acc, b, h, hb, hk, ha => by
    have h0 := drop_nil h
    rw [measure_Setup_l8_eq, if_neg (dF (by omega))]
    simp
  | t :: r, i, k, acc, b, h, hb, hk, ha => by
    have h0 := drop_lt h
    have hl := hta.len
    have hg : a.getD (i : Int).toNat 0 = t := getD_drop h
    have h1 : b ≤ t := hb.1
    have hm := uptoV_mono d h1
    have hs : (supG d t).length ≤ 1 := by unfold supG; split <;> simp
    rw [measure_Setup_l8_eq, if_pos (dT (by omega)), if_pos ⟨by omega, by omega⟩, hg, setup14 d hd t (hta.top t (mem_drop h)) a _ _ acc (by omega) _ k rfl (by omega), w64a i (by omega), setup8 d a hd hta r (i + 1) (uptoV d t) (acc ++ supG d t) (t + 1) (dropS h) hb.2 (uptoV_mono d (by omega)) (by rw [List.length_append]; omega)]
    simp

theorem setup_b {d c : List RunT} (hd : WaveOk d) (ad : AltW d) (hc : WaveOk c) (ac : AltW c) (rising : Bool) : measure_Setup d c rising = some ((supV ((chgs d).map (·.1)) (actV' rising (chgs c)), ()), ()) := by
  unfold measure_Setup
  rw [both_b hd hc, edges_b hd ad, rises_b hc ac]
  simp only [Option.bind_some]
  refine (if_neg (by decide)).trans ?_
  have ok := act_ok hc rising
  exact setup8 _ _ (times_ok (chgs_ok hd)) ok _ 0 0 [] 1 rfl ok.asc (by omega) (by simp)

theorem fol2 (d : List Int) (hd : TimesOk d) (t : Int) : ∀ (m k : Nat), m = uptoV d t - k → k ≤ uptoV d t →
    measure_follower_1_l2 t k d = if uptoV d t < d.length then some ((d.getD (uptoV d t) 0, true, ()), ((((uptoV d t : Nat) : Int), ()), (d, ()), ())) else some ((0, false, ()), ((((uptoV d t : Nat) : Int), ()), (d, ()), ()))
  | 0, k, hm, hk => by
    have hl := hd.len
    have hu := uptoV_le d t
    have ek : uptoV d t = k := by omega
    rw [ek, measure_follower_1_l2_eq]
    by_cases h1 : k < d.length
    · have hin : 0 ≤ (k : Int) ∧ (k : Int) < (d.length : Int) := by omega
      rw [if_pos (dT (by omega)), if_pos hin, Int.toNat_natCast, if_neg (dF (by have := uptoV_end d t (by omega); rw [ek] at this; omega)), if_neg (eF (by omega)), if_pos hin, if_pos h1]
    · rw [if_neg (dF (by omega)), if_pos (eT (by omega)), if_neg h1]
  | m + 1, k, hm, hk => by
    have hl := hd.len
    have hu := uptoV_le d t
    have hlt := uptoV_at d t k (by omega)
    rw [measure_follower_1_l2_eq, if_pos (dT (by omega)), if_pos ⟨by omega, by omega⟩, Int.toNat_natCast, if_pos (dT hlt), w64a k (by omega)]
    exact fol2 d hd t m (k + 1) (by omega) (by omega)

theorem behind5 (d a : List Int) (hd : TimesOk d) (hta : TimesOk a) : ∀ (r : List Int) (i k : Nat) (acc : List RunT) (b : Int), a.drop i = r → Asc b r → k ≤ uptoV d b → acc.length ≤ i →
    measure_behind_l5 a (a.length : Int) i acc k d = some ((acc ++ r.flatMap (aftG d), ()), ())
  | [], i, k, acc, b, h, hb, hk, ha => by
    have h0 := drop_nil h
    rw [measure_behind_l5_eq, if_neg (dF (by omega))]
    simp
  | t :: r, i, k, acc, b, h, hb, hk, ha => by
    have h0 := drop_lt h
    have hl := hta.len
    have hg : a.getD (i : Int).toNat 0 = t := getD_drop h
    have h1 : b ≤ t := hb.1
    have hm := uptoV_mono d h1
    have ht := hta.top t (mem_drop h)
    have hf : measure_follower_1 t k d = _ := fol2 d hd t _ k rfl (by omega)
    have e : (t :: r).flatMap (aftG d) = aftG d t ++ r.flatMap (aftG d) := by simp
    rw [measure_behind_l5_eq, if_pos (dT (by omega)), if_pos ⟨by omega, by omega⟩, hg, hf, w64a i (by omega), e]
    unfold aftG
    by_cases q : uptoV d t < d.length
    · have hv := hd.top _ (getD_mem (l := d) q)
      rw [if_pos q, if_pos q]
      show (if true = true then (if (acc.length + 1) * 16 ≤ 140737488355328 ∧ 0 < 16 then measure_behind_l5 a (a.length : Int) ((i + 1 : Nat) : Int) (acc ++ [(t, IntKind.i64.wrap (d.getD (uptoV d t) 0 - t))]) ((uptoV d t : Nat) : Int) d else none) else measure_behind_l5 a (a.length : Int) ((i + 1 : Nat) : Int) acc ((uptoV d t : Nat) : Int) d) = _
      rw [if_pos rfl, if_pos ⟨by omega, by decide⟩, w64 (x := d.getD (uptoV d t) 0 - t) (by omega) (by omega)]
      refine (behind5 d a hd hta r (i + 1) (uptoV d t) _ (t + 1) (dropS h) hb.2 (uptoV_mono d (by omega)) (by simp; omega)).trans ?_
      rw [List.append_assoc]
      rfl
    · rw [if_neg q, if_neg q]
      show (if false = true then (if (acc.length + 1) * 16 ≤ 140737488355328 ∧ 0 < 16 then measure_behind_l5 a (a.length : Int) ((i + 1 : Nat) : Int) (acc ++ [(t, IntKind.i64.wrap (0 - t))]) ((uptoV d t : Nat) : Int) d else none) else measure_behind_l5 a (a.length : Int) ((i + 1 : Nat) : Int) acc ((uptoV d t : Nat) : Int) d) = _
      rw [if_neg (show ¬ false = true by simp), List.nil_append]
      exact behind5 d a hd hta r (i + 1) (uptoV d t) _ (t + 1) (dropS h) hb.2 (uptoV_mono d (by omega)) (by omega)

theorem behind_b (d a : List Int) (hd : TimesOk d) (hta : TimesOk a) : measure_behind d a = some ((aftV d a, ()), ()) := by
  unfold measure_behind measure_follower
  simp only [Option.bind_some]
  exact behind5 d a hd hta a 0 0 [] 1 rfl hta.asc (by omega) (by simp)

theorem hold_b {d c : List RunT} (hd : WaveOk d) (ad : AltW d) (hc : WaveOk c) (ac : AltW c) (rising : Bool) : measure_Hold d c rising = some ((aftV ((chgs d).map (·.1)) (actV' rising (chgs c)), ()), ()) := by
  unfold measure_Hold
  rw [both_b hd hc, edges_b hd ad, rises_b hc ac]
  simp only [Option.bind_some]
  refine (if_neg (by decide)).trans ?_
  rw [behind_b _ _ (times_ok (chgs_ok hd)) (act_ok hc rising)]
  rfl
theorem delay_b {d c : List RunT} (hd : WaveOk d) (ad : AltW d) (hc : WaveOk c) (ac : AltW c) (rising : Bool) : measure_Delay d c rising = some ((aftV (toV 1 (chgs d)) (actV' rising (chgs c)), ()), ()) := by
  unfold measure_Delay
  rw [both_b hd hc, rises_b hd ad, rises_b hc ac]
  simp only [Option.bind_some]
  refine (if_neg (by decide)).trans ?_
  rw [behind_b _ _ (act_ok hd true) (act_ok hc rising)]
  rfl

/-! ### gaps -/
theorem orK_some {α β : Type} (a : α) (f : α → Option β) (y : Option β) : orK (some a) f y = f a := rfl
theorem orK_none {α β : Type} (f : α → Option β) (y : Option β) : orK none f y = y := rfl

theorem meas_pick (x : TLimit) (h : 1 ≤ x.1 ∧ x.1 ≤ 6) {β : Type} (f1 f2 f3 f4 f5 f6 : (Unit × Unit) × Unit → Option β) :
    orK (limit_measurementvperiod x) f1 (orK (limit_measurementvhigh x) f2 (orK (limit_measurementvlow x) f3 (orK (limit_measurementvsetup x) f4 (orK (limit_measurementvhold x) f5 ((limit_measurementvdelay x).bind f6))))) =
    if x.1 = 1 then f1 (((), ()), ()) else if x.1 = 2 then f2 (((), ()), ()) else if x.1 = 3 then f3 (((), ()), ()) else if x.1 = 4 then f4 (((), ()), ()) else if x.1 = 5 then f5 (((), ()), ()) else f6 (((), ()), ()) := by
  unfold limit_measurementvperiod limit_measurementvhigh limit_measurementvlow limit_measurementvsetup limit_measurementvhold limit_measurementvdelay
  have : x.1 = 1 ∨ x.1 = 2 ∨ x.1 = 3 ∨ x.1 = 4 ∨ x.1 = 5 ∨ x.1 = 6 := by omega
  rcases this with e | e | e | e | e | e <;> rw [e] <;> rfl

structure LimOk (c : TCapture) (x : LimT) : Prop where
  form : formE x = 0
  data : hasB c.1 x.2.1 = true
  clock : clkB x.1 = true → hasB c.1 x.2.2.1 = true

theorem gaps_b (c : TCapture) (hc : capE c = 0) (x : TLimit) (hx : LimOk c x) : limit_gaps c x = some ((gapsC c x, ()), ()) := by
  have hm := (formE_zero.1 hx.form).1.1
  obtain ⟨dk, da⟩ := chanOf_ok hc x.2.1
  unfold limit_gaps gapsC
  rw [channel_b c hc _ hx.data, clocked_b]
  simp only [Option.bind_some]
  by_cases hk : clkB x.1 = true
  · obtain ⟨ck, ca⟩ := chanOf_ok hc x.2.2.1
    rw [if_pos hk, if_pos hk, channel_b c hc _ (hx.clock hk)]
    simp only [Option.bind_some]
    rw [meas_pick x hm]
    unfold limit_waves_period limit_waves_high limit_waves_low limit_waves_setup limit_waves_hold limit_waves_delay
    simp only
    rw [periods_b dk da, pulses_b dk da, pulses_b dk da, setup_b dk da ck ca, hold_b dk da ck ca, delay_b dk da ck ca]
    simp only [Option.bind_some]
    unfold gapsV
    repeat' split
    all_goals rfl
  · obtain ⟨ck, ca⟩ := nil_ok
    rw [if_neg hk, if_neg hk, meas_pick x hm]
    unfold limit_waves_period limit_waves_high limit_waves_low limit_waves_setup limit_waves_hold limit_waves_delay
    simp only
    rw [periods_b dk da, pulses_b dk da, pulses_b dk da, setup_b dk da ck ca, hold_b dk da ck ca, delay_b dk da ck ca]
    simp only [Option.bind_some]
    unfold gapsV
    repeat' split
    all_goals rfl

theorem gapsC_ok {c : TCapture} (hc : capE c = 0) (x : LimT) : GapsOk (gapsC c x) := by
  unfold gapsC
  refine gapsV_ok x (chanOf_ok hc _).1 ?_
  split
  · exact (chanOf_ok hc _).1
  · exact nil_ok.1

theorem limsE_ok (c : TCapture) : ∀ (l : List LimT) (i : Nat), (limsE c.1 i l).2 = 0 → ∀ x ∈ l, LimOk c x
  | [], i, _, x, hx => by simp at hx
  | y :: l, i, h, x, hx => by
    rw [limsE_cons] at h
    split at h
    · rename_i h0
      split at h
      · rename_i h1
        rcases List.mem_cons.1 hx with rfl | hx
        · exact ⟨h0, h1.1, h1.2⟩
        · exact limsE_ok c l (i + 1) h x hx
      · simp at h
    · rename_i h0
      exact absurd h h0

theorem lcheck_zero {c : TCapture} {l : List LimT} (h : (lcheckV c l).2 = 0) : capE c = 0 ∧ l.length ≤ 64 ∧ ∀ x ∈ l, LimOk c x := by
  unfold lcheckV at h
  split at h
  · rename_i h0
    split at h
    · simp at h
    · exact ⟨h0, by omega, limsE_ok c l 0 h⟩
  · rename_i h0
    exact absurd h h0

def gapsR (c : TCapture) (x : LimT) : List GapT × Int := if (lcheckV c [x]).2 = 0 then (gapsC c x, 0) else ([], (lcheckV c [x]).2)

theorem Gaps_b (c : TCapture) (x : TLimit) (h1 : c.1.length ≤ 1048576) (h2 : c.2.length ≤ 1048576) : limit_Gaps c x = some (((gapsR c x).1, (gapsR c x).2, ()), ()) := by
  unfold limit_Gaps gapsR
  rw [lcheck_b c [x] h1 h2 (by simp)]
  simp only [Option.bind_some]
  by_cases h : (lcheckV c [x]).2 = 0
  · obtain ⟨a, _, b⟩ := lcheck_zero h
    rw [if_neg (nF h), if_pos h, gaps_b c a x (b x (by simp))]
    rfl
  · rw [if_pos (nT h), if_neg h]

/-! ### violations -/
def findC (c : TCapture) : Nat → List LimT → List (Int × GapT)
  | _, [] => []
  | i, x :: r => violV i x (gapsC c x) ++ findC c (i + 1) r
def findR (c : TCapture) (l : List LimT) : List (Int × GapT) × Int := if (lcheckV c l).2 = 0 then (findC c 0 l, 0) else ([], (lcheckV c l).2)

theorem viol_len (i : Nat) (x : LimT) (g : List GapT) : (violV i x g).length ≤ g.length := by
  unfold violV
  rw [List.length_map]
  exact List.length_filter_le _ _

theorem violV_cons (i : Nat) (x : LimT) (g : GapT) (l : List GapT) : violV i x (g :: l) = (if outB x g = true then [((i : Int), g)] else []) ++ violV i x l := by
  unfold violV
  rw [List.filter_cons]
  split <;> simp

theorem find14 (c : TCapture) (l : List TLimit) (n : Int) (x : TLimit) (g : List RunT) (hg : g.length ≤ 262144) (i : Nat) : ∀ (r : List RunT) (k : Nat) (acc : List TViolation), g.drop k = r → acc.length + r.length ≤ 100000000 →
    limit_Find_l14 i l n i g (g.length : Int) k c acc x = limit_Find_l8 l n (IntKind.i64.wrap ((i : Int) + 1)) c (acc ++ violV i x r)
  | [], k, acc, h, ha => by
    have h0 := drop_nil h
    rw [limit_Find_l14_eq, if_neg (dF (by omega))]
    simp [violV]
  | y :: r, k, acc, h, ha => by
    have h0 := drop_lt h
    have hgd : g.getD (k : Int).toNat dGap = y := getD_drop h
    simp only [List.length_cons] at ha
    rw [limit_Find_l14_eq, if_pos (dT (by omega)), if_pos ⟨by omega, by omega⟩, hgd, w64a k (by omega), violV_cons, ← List.append_assoc]
    unfold outB
    by_cases a : y.2 < x.2.2.2.2.1
    · rw [if_pos (dT a), if_pos (dT (show y.2 < x.2.2.2.2.1 ∨ x.2.2.2.2.2 < y.2 from .inl a)), if_pos ⟨by omega, by decide⟩]
      exact find14 c l n x g hg i r (k + 1) _ (dropS h) (by simp; omega)
    · rw [if_neg (dF a)]
      by_cases b : y.2 > x.2.2.2.2.2
      · rw [if_pos (dT b), if_pos (dT (show y.2 < x.2.2.2.2.1 ∨ x.2.2.2.2.2 < y.2 from .inr b)), if_pos ⟨by omega, by decide⟩]
        exact find14 c l n x g hg i r (k + 1) _ (dropS h) (by simp; omega)
      · rw [if_neg (dF b), if_neg (dF (show ¬ (y.2 < x.2.2.2.2.1 ∨ x.2.2.2.2.2 < y.2) by omega)), List.append_nil]
        exact find14 c l n x g hg i r (k + 1) _ (dropS h) (by omega)

theorem find8 (c : TCapture) (hc : capE c = 0) (l : List TLimit) (hl : l.length ≤ 64) (hx : ∀ x ∈ l, LimOk c x) : ∀ (r : List TLimit) (i : Nat) (acc : List TViolation), l.drop i = r → acc.length + 262144 * r.length ≤ 100000000 →
    limit_Find_l8 l (l.length : Int) i c acc = some ((acc ++ findC c i r, 0, ()), ())
  | [], i, acc, h, ha => by
    have h0 := drop_nil h
    rw [limit_Find_l8_eq, if_neg (dF (by omega))]
    simp [findC]
  | x :: r, i, acc, h, ha => by
    have h0 := drop_lt h
    have hg : l.getD (i : Int).toNat dLimit = x := getD_drop h
    have ok := (gapsC_ok hc x).len
    have vl := viol_len i x (gapsC c x)
    simp only [List.length_cons] at ha
    rw [limit_Find_l8_eq, if_pos (dT (by omega)), if_pos ⟨by omega, by omega⟩, hg, gaps_b c hc x (hx x (mem_drop h))]
    simp only [Option.bind_some]
    refine (find14 c l _ x (gapsC c x) ok i (gapsC c x) 0 acc rfl (by omega)).trans ?_
    rw [w64a i (by omega), find8 c hc l hl hx r (i + 1) _ (dropS h) (by rw [List.length_append]; omega)]
    simp [findC]

theorem Find_b (c : TCapture) (l : List TLimit) (h1 : c.1.length ≤ 1048576) (h2 : c.2.length ≤ 1048576) (hl : l.length ≤ 1048576) : limit_Find c l = some (((findR c l).1, (findR c l).2, ()), ()) := by
  unfold limit_Find findR
  rw [lcheck_b c l h1 h2 hl]
  simp only [Option.bind_some]
  by_cases h : (lcheckV c l).2 = 0
  · obtain ⟨a, b, d⟩ := lcheck_zero h
    rw [if_neg (nF h), if_pos h]
    refine (find8 c a l b d l 0 [] rfl (by simp only [List.length_nil]; omega)).trans ?_
    simp
  · rw [if_pos (nT h), if_neg h]

/-! ### the worst gap -/
theorem away_b (x : TLimit) (g : TGap) (hx : formE x = 0) (hg : 0 ≤ g.2 ∧ g.2 ≤ 1099511627776) : limit_away x g = some ((awayI x g, ()), ()) := by
  have h := (formE_zero.1 hx).1.2
  unfold limit_away awayI
  rw [w64 (x := 2 * g.2) (by omega) (by omega), w64 (x := 2 * g.2 - x.2.2.2.2.1) (by omega) (by omega), w64 (x := 2 * g.2 - x.2.2.2.2.1 - x.2.2.2.2.2) (by omega) (by omega), w64 (x := 0 - (2 * g.2 - x.2.2.2.2.1 - x.2.2.2.2.2)) (by omega) (by omega)]
  have : (if 2 * g.2 - x.2.2.2.2.1 - x.2.2.2.2.2 < 0 - (2 * g.2 - x.2.2.2.2.1 - x.2.2.2.2.2) then 0 - (2 * g.2 - x.2.2.2.2.1 - x.2.2.2.2.2) else 2 * g.2 - x.2.2.2.2.1 - x.2.2.2.2.2) = (if 2 * g.2 - x.2.2.2.2.1 - x.2.2.2.2.2 < 0 then -(2 * g.2 - x.2.2.2.2.1 - x.2.2.2.2.2) else 2 * g.2 - x.2.2.2.2.1 - x.2.2.2.2.2) := by
    split <;> split <;> omega
  rw [this]

theorem worst8 (x : TLimit) (hx : formE x = 0) (l : List RunT) (hl : GapsOk l) (z : TGap) : ∀ (r : List RunT) (k : Nat) (b : TGap), l.drop k = r → b ∈ l → limit_Worst_l8 l (l.length : Int) k x z b = some ((worstF x b r, true, ()), ())
  | [], k, b, h, hb => by
    have h0 := drop_nil h
    rw [limit_Worst_l8_eq, if_neg (dF (by omega))]
    rfl
  | y :: r, k, b, h, hb => by
    have h0 := drop_lt h
    have hlen := hl.len
    have hg : l.getD (k : Int).toNat dGap = y := getD_drop h
    have ym := hl.ok y (mem_drop h)
    have bm := hl.ok b hb
    rw [limit_Worst_l8_eq, if_pos (dT (by omega)), if_pos ⟨by omega, by omega⟩, hg, away_b x y hx ⟨ym.1, ym.2.1⟩, away_b x b hx ⟨bm.1, bm.2.1⟩, w64a k (by omega), worstF_cons]
    simp only [Option.bind_some]
    by_cases q : awayI x y > awayI x b
    · rw [if_pos (dT q), if_pos q]
      exact worst8 x hx l hl z r (k + 1) y (dropS h) (mem_drop h)
    · rw [if_neg (dF q), if_neg q]
      exact worst8 x hx l hl z r (k + 1) b (dropS h) hb

def worstR (c : TCapture) (x : LimT) : GapT × Bool := match (gapsR c x).1 with
  | [] => ((0, 0), false)
  | g :: l => (worstF x g (g :: l), true)

theorem gapsR_ok {c : TCapture} {x : LimT} (h : (gapsR c x).1 ≠ []) : (gapsR c x).2 = 0 ∧ capE c = 0 ∧ formE x = 0 ∧ (gapsR c x).1 = gapsC c x := by
  unfold gapsR at h ⊢
  by_cases q : (lcheckV c [x]).2 = 0
  · obtain ⟨a, _, b⟩ := lcheck_zero q
    rw [if_pos q]
    exact ⟨rfl, a, (b x (by simp)).form, rfl⟩
  · rw [if_neg q] at h
    exact absurd rfl h

theorem Worst_b (c : TCapture) (x : TLimit) (h1 : c.1.length ≤ 1048576) (h2 : c.2.length ≤ 1048576) : limit_Worst c x = some (((worstR c x).1, (worstR c x).2, ()), ()) := by
  unfold limit_Worst worstR
  rw [Gaps_b c x h1 h2]
  simp only [Option.bind_some]
  cases hq : (gapsR c x).1 with
  | nil =>
    by_cases he : (gapsR c x).2 = 0
    · rw [if_neg (nF he), if_pos (by rfl)]
    · rw [if_pos (nT he)]
  | cons g l =>
    obtain ⟨a, b, d, e⟩ := gapsR_ok (c := c) (x := x) (by rw [hq]; simp)
    have ok := gapsC_ok b x
    rw [← e, hq] at ok
    rw [if_neg (nF a), if_neg (eF (by simp only [List.length_cons]; omega)), if_pos ⟨by omega, by simp only [List.length_cons]; omega⟩]
    exact worst8 x d (g :: l) ok _ (g :: l) 0 g rfl (by simp)

end Go.Proofs.YtejehchbflmofaaDoor
end

section
/-
YtejehchbflmofaaDoor: the bounds of the laws of limits, equal lists, the chapter's examples, as plain functions. No condition.
-/
set_option maxRecDepth 100000
set_option linter.unusedVariables false
open Go Go.AM
namespace Go.Proofs.YtejehchbflmofaaDoor

theorem brief49_b (s : ByteArray) : law49_brief s = some ((decide ((s.size : Int) ≤ 20), ()), ()) := rfl

theorem csmall_loop (c : TCapture) (hl : c.1.length ≤ 1048576) : ∀ (r : List ByteArray) (k : Nat), c.1.drop k = r → ∃ b, law49_small_l6 k c = some ((b, ()), ())
  | [], k, h => by
    have h1 := drop_nil h
    rw [law49_small_l6_eq, if_neg (dF (by omega))]
    exact ⟨_, rfl⟩
  | s :: r, k, h => by
    have h1 := drop_lt h
    rw [law49_small_l6_eq, if_pos (dT (by omega)), if_pos ⟨by omega, by omega⟩, brief49_b, w64a k (by omega)]
    simp only [Option.bind_some]
    split
    · exact ⟨_, rfl⟩
    · exact csmall_loop c hl r (k + 1) (dropS h)

theorem csmall_ex (c : TCapture) (hl : c.1.length ≤ 1048576) : ∃ b, law49_small c = some ((b, ()), ()) := by
  unfold law49_small
  split
  · exact ⟨_, rfl⟩
  · split
    · exact ⟨_, rfl⟩
    · exact csmall_loop c hl c.1 0 rfl

theorem lfew_loop (l : List TLimit) (hl : l.length ≤ 1048576) : ∀ (r : List TLimit) (k : Nat), l.drop k = r → ∃ b, law49_few_l6 l k = some ((b, ()), ())
  | [], k, h => by
    have h1 := drop_nil h
    rw [law49_few_l6_eq, if_neg (dF (by omega))]
    exact ⟨_, rfl⟩
  | s :: r, k, h => by
    have h1 := drop_lt h
    have c1 : 0 ≤ (k : Int) ∧ (k : Int) < (l.length : Int) := ⟨by omega, by omega⟩
    rw [law49_few_l6_eq, if_pos (dT (by omega)), if_pos c1, if_pos c1, brief49_b, brief49_b, w64a k (by omega)]
    simp only [Option.bind_some]
    split
    · exact ⟨_, rfl⟩
    split
    · exact ⟨_, rfl⟩
    · exact lfew_loop l hl r (k + 1) (dropS h)

theorem lfew_ex (l : List TLimit) (hl : l.length ≤ 1048576) : ∃ b, law49_few l = some ((b, ()), ()) := by
  unfold law49_few
  split
  · exact ⟨_, rfl⟩
  · exact lfew_loop l hl l 0 rfl

theorem sameL_loop (l : List TLimit) (hl : l.length ≤ 1048577) : ∀ (r : List TLimit) (k : Nat), l.drop k = r → ref49_Same_l6 l l k = some ((true, ()), ())
  | [], k, h => by
    have h1 := drop_nil h
    rw [ref49_Same_l6_eq, if_neg (dF (by omega))]
  | s :: r, k, h => by
    have h1 := drop_lt h
    have c1 : 0 ≤ (k : Int) ∧ (k : Int) < (l.length : Int) := ⟨by omega, by omega⟩
    rw [ref49_Same_l6_eq, if_pos (dT (by omega)), if_pos c1, if_pos c1, (eqU_iff uLimit rfl _ _).2 rfl, if_neg (by simp), w64a k (by omega)]
    exact sameL_loop l hl r (k + 1) (dropS h)

theorem sameL_refl (l : List TLimit) (hl : l.length ≤ 1048577) : ref49_Same l l = some ((true, ()), ()) := by
  unfold ref49_Same
  rw [if_neg (nF rfl)]
  exact sameL_loop l hl l 0 rfl

def exC : TCapture := ([(strB [100]), (strB [99])], [(0, 10), (1, 4), (3, 5)])
def exL : TLimit := (4, (strB [100]), (strB [99]), true, 4, 9)
def exL5 : TLimit := (4, (strB [100]), (strB [99]), true, 5, 9)
def exS : List UInt8 := [115, 101, 116, 117, 112, 32, 100, 32, 99, 32, 114, 105, 115, 101, 32, 52, 32, 46, 32, 46, 32, 57, 32, 59]
theorem wrong_ex : wrongL [exL] = 0 := by kernel_rfl
theorem print_ex : printL [exL] = (exS, 0) := by kernel_rfl
theorem gaps_ex : gapsR exC exL = ([(10, 4)], 0) := by kernel_rfl
theorem find_ex : findR exC [exL] = ([], 0) := by kernel_rfl
theorem find_ex5 : findR exC [exL5] = ([(0, 10, 4)], 0) := by kernel_rfl

theorem awake49_b : law49_awake = some ((true, ()), ()) := by
  unfold law49_awake
  have hp := (parse_printL wrong_ex).2
  have e1 : limit_Print [(4, (strB [100]), (strB [99]), true, 4, 9)] = some ((strB exS, 0, ()), ()) := (lprint_b [exL] (by decide)).trans (by rw [print_ex])
  have e2 : limit_Gaps ([(strB [100]), (strB [99])], [(0, 10), (1, 4), (3, 5)]) (4, (strB [100]), (strB [99]), true, 4, 9) = some (([(10, 4)], 0, ()), ()) := (Gaps_b exC exL (by decide) (by decide)).trans (by rw [gaps_ex])
  have e3 : limit_Parse (strB exS) = some (([exL], 0, 0, ()), ()) := by
    rw [print_ex] at hp
    rw [lparse_b, L_strB, hp]
  have e4 : limit_Find ([(strB [100]), (strB [99])], [(0, 10), (1, 4), (3, 5)]) [(4, (strB [100]), (strB [99]), true, 4, 9)] = some (([], 0, ()), ()) := (Find_b exC [exL] (by decide) (by decide) (by decide)).trans (by rw [find_ex])
  have e5 : limit_Find ([(strB [100]), (strB [99])], [(0, 10), (1, 4), (3, 5)]) [(4, (strB [100]), (strB [99]), true, 5, 9)] = some (([(0, 10, 4)], 0, ()), ()) := (Find_b exC [exL5] (by decide) (by decide) (by decide)).trans (by rw [find_ex5])
  rw [e1]
  simp only [Option.bind_some]
  rw [e2, e3, e4, e5]
  simp only [Option.bind_some]
  show _ = some ((true, ()), ())
  kernel_rfl

theorem cap_len (c : TCapture) {n : Nat} (h : bk uCapture c ≤ n) : c.1.length ≤ n ∧ c.2.length ≤ n := by
  obtain ⟨a, l⟩ := c
  have h1 := len_le_bk (e := .str) (fun x => by simp only [bk]; omega) a
  have h2 := len_le_bk (e := uGap) (fun x => by simp only [bk]; omega) l
  have e1 : bk uCapture (a, l) = ((a.map (bk .str)).sum + 1) + ((l.map (bk uGap)).sum + 1) := rfl
  rw [e1] at h
  show a.length ≤ n ∧ l.length ≤ n
  omega
theorem lims_len (l : List TLimit) {n : Nat} (h : bk (.sl uLimit) l ≤ n) : l.length ≤ n := by
  have h1 := len_le_bk (e := uLimit) (fun x => by simp only [bk]; omega) l
  have e1 : bk (.sl uLimit) l = (l.map (bk uLimit)).sum + 1 := rfl
  rw [e1] at h
  omega

end Go.Proofs.YtejehchbflmofaaDoor
end

section
/-
YtejehchbflmofaaDoor: the laws of limits, as plain functions, come to true. No condition.
-/
set_option maxRecDepth 100000
set_option linter.unusedVariables false
open Go Go.AM
namespace Go.Proofs.YtejehchbflmofaaDoor

theorem LimitChecks_true (c : TCapture) (l : List TLimit) (h1 : c.1.length ≤ 1048576) (h2 : c.2.length ≤ 1048576) (hl : l.length ≤ 1048576) : law49_LimitChecks c l = some ((true, ()), ()) := by
  obtain ⟨b, hb⟩ := csmall_ex c h1
  obtain ⟨b2, hb2⟩ := lfew_ex l hl
  unfold law49_LimitChecks
  rw [hb, hb2, awake49_b, lcheck_b c l h1 h2 hl, rlcheck_b c l h1 h2 hl]
  cases b <;> cases b2 <;> simp

theorem rt5_b (s : ByteArray) : law49_LimitRoundTrips_l5 s = some ((true, ()), ()) := by
  rw [law49_LimitRoundTrips_l5_eq, awake49_b, lparse_b]
  simp only [Option.bind_some]
  rcases parseL_cases (L s) with ⟨h1, h2⟩ | ⟨he, hc⟩
  · refine (if_pos (nT h1)).trans ?_
    rw [h2]
    rfl
  · have hl : (parseL (L s)).1.length ≤ 1048577 := by have := (wrongL_zero.1 hc).1; omega
    obtain ⟨h1, h2⟩ := parse_printL hc
    refine (if_neg (nF he)).trans ?_
    rw [lprint_b _ hl]
    simp only [Option.bind_some]
    rw [lparse_b, L_strB, h2]
    simp only [Option.bind_some]
    rw [h1, sameL_refl _ hl]
    rfl

theorem LimitRoundTrips_true (l : List TLimit) (s : ByteArray) (hl : l.length ≤ 1048576) : law49_LimitRoundTrips l s = some ((true, ()), ()) := by
  obtain ⟨b, hb⟩ := lfew_ex l hl
  unfold law49_LimitRoundTrips
  rw [hb, awake49_b, lprint_b l (by omega), rt5_b]
  simp only [Option.bind_some]
  cases b with
  | false => simp
  | true =>
    refine (if_neg (by simp)).trans ?_
    split
    · rfl
    · by_cases hc : wrongL l = 0
      · obtain ⟨h1, h2⟩ := parse_printL hc
        refine (if_pos (eT h1)).trans ?_
        rw [lparse_b, L_strB, h2]
        simp only [Option.bind_some]
        rw [sameL_refl l (by omega)]
        rfl
      · refine (if_neg (eF (by rw [printL_err]; exact hc))).trans ?_
        rfl

theorem viol16 (g : List TGap) (hg : g.length ≤ 262144) (V : List TViolation) (hV : V.length ≤ 262144) (ok : Bool) (x : TLimit) (w : TGap) (hfin : (ok = true → outB x w = decide (0 < V.length)) ∧ (ok = false → V = [])) :
    ∀ (r : List TGap) (i k : Nat), g.drop i = r → V.drop k = violV 0 x r → k ≤ V.length → law49_LimitViolations_l16 g V ok k i x w = some ((true, ()), ())
  | [], i, k, h, hv, hk => by
    have h1 := drop_nil h
    have h2 := drop_nil (show V.drop k = [] from hv)
    have ek : k = V.length := by omega
    rw [law49_LimitViolations_l16_eq, if_neg (dF (by omega)), awake49_b]
    simp only [Option.bind_some]
    cases ok with
    | true =>
      have ho := hfin.1 rfl
      refine (if_pos rfl).trans ?_
      unfold outB at ho
      have d : decide ((k : Int) > 0) = decide (0 < V.length) := by rw [Bool.eq_iff_iff, decide_eq_true_eq, decide_eq_true_eq]; omega
      rw [d, ← ho]
      by_cases a : w.2 < x.2.2.2.2.1
      · rw [if_pos (dT a), if_pos (eT (by omega)), decide_eq_true (show w.2 < x.2.2.2.2.1 ∨ x.2.2.2.2.2 < w.2 from .inl a)]
        rfl
      · rw [if_neg (dF a), if_pos (eT (by omega))]
        have : decide (w.2 > x.2.2.2.2.2) = decide (w.2 < x.2.2.2.2.1 ∨ x.2.2.2.2.2 < w.2) := by rw [Bool.eq_iff_iff, decide_eq_true_eq, decide_eq_true_eq]; omega
        rw [this, if_pos (by simp)]
    | false =>
      have := hfin.2 rfl
      subst this
      have : k = 0 := by simpa using ek
      subst this
      rfl
  | y :: r, i, k, h, hv, hk => by
    have h1 := drop_lt h
    have hgd : g.getD (i : Int).toNat dGap = y := getD_drop h
    have hin : 0 ≤ (i : Int) ∧ (i : Int) < (g.length : Int) := ⟨by omega, by omega⟩
    rw [violV_cons] at hv
    have hit : outB x y = true → ((if decide ((k : Int) ≥ (V.length : Int)) = true then some ((false, ()), ()) else if 0 ≤ (k : Int) ∧ (k : Int) < (V.length : Int) then (if 0 ≤ (i : Int) ∧ (i : Int) < (g.length : Int) then (if (!(eqU uViolation (V.getD (k : Int).toNat dViolation) (0, y))) = true then some ((false, ()), ()) else law49_LimitViolations_l16 g V ok (IntKind.i64.wrap ((k : Int) + 1)) (IntKind.i64.wrap ((i : Int) + 1)) x w) else none) else none) : Option ((Bool × Unit) × Unit)) = some ((true, ()), ()) := fun ho => by
      rw [if_pos ho] at hv
      have hv : V.drop k = ((0 : Int), y) :: violV 0 x r := hv
      have h2 := drop_lt hv
      have hvd : V.getD (k : Int).toNat dViolation = ((0 : Int), y) := getD_drop hv
      rw [if_neg (dF (by omega)), if_pos ⟨by omega, by omega⟩, if_pos hin, hvd, (eqU_iff uViolation rfl _ _).2 rfl, if_neg (by simp), w64a k (by omega), w64a i (by omega)]
      exact viol16 g hg V hV ok x w hfin r (i + 1) (k + 1) (dropS h) (dropS hv) (by omega)
    rw [law49_LimitViolations_l16_eq, if_pos (dT (by omega)), if_pos hin, hgd]
    by_cases a : y.2 < x.2.2.2.2.1
    · rw [if_pos (dT a)]
      exact hit (dT (.inl a))
    · rw [if_neg (dF a), if_pos hin]
      by_cases b : y.2 > x.2.2.2.2.2
      · rw [if_pos (dT b)]
        exact hit (dT (.inr b))
      · have ho : ¬ outB x y = true := dF (show ¬ (y.2 < x.2.2.2.2.1 ∨ x.2.2.2.2.2 < y.2) by omega)
        rw [if_neg ho, List.nil_append] at hv
        rw [if_neg (dF b), w64a i (by omega)]
        exact viol16 g hg V hV ok x w hfin r (i + 1) k (dropS h) hv hk

theorem viol_any (x : LimT) (g : List GapT) : decide (0 < (violV 0 x g).length) = g.any (outB x) := by
  unfold violV
  rw [List.length_map, Bool.eq_iff_iff, decide_eq_true_eq, List.length_pos_iff, List.any_eq_true]
  constructor
  · intro h
    obtain ⟨y, hy⟩ := List.exists_mem_of_ne_nil _ h
    exact ⟨y, (List.mem_filter.1 hy).1, (List.mem_filter.1 hy).2⟩
  · intro ⟨y, hy, ho⟩ hn
    have : y ∈ g.filter (outB x) := List.mem_filter.2 ⟨hy, ho⟩
    rw [hn] at this
    simp at this

theorem LimitViolations_true (c : TCapture) (x : TLimit) (h1 : c.1.length ≤ 1048576) (h2 : c.2.length ≤ 1048576) : law49_LimitViolations c x = some ((true, ()), ()) := by
  obtain ⟨b, hb⟩ := csmall_ex c h1
  unfold law49_LimitViolations
  rw [hb, brief49_b, brief49_b, awake49_b, Gaps_b c x h1 h2, Find_b c [x] h1 h2 (by simp), Worst_b c x h1 h2]
  simp only [Option.bind_some]
  cases b with
  | false => rfl
  | true =>
    refine (if_neg (by simp)).trans ?_
    split
    · rfl
    split
    · rfl
    have e2 : (gapsR c x).2 = (lcheckV c [x]).2 := by
      unfold gapsR
      by_cases q : (lcheckV c [x]).2 = 0
      · rw [if_pos q, q]
      · rw [if_neg q]
    have e3 : (findR c [x]).2 = (lcheckV c [x]).2 := by
      unfold findR
      by_cases q : (lcheckV c [x]).2 = 0
      · rw [if_pos q, q]
      · rw [if_neg q]
    have e4 : (worstR c x).2 = decide (((gapsR c x).1.length : Int) > 0) := by
      unfold worstR
      cases (gapsR c x).1 with
      | nil => rfl
      | cons g l => rw [decide_eq_true (by simp only [List.length_cons]; omega)]
    rw [e2, e3, if_neg (nF rfl), e4, if_neg (by simp)]
    by_cases q : (lcheckV c [x]).2 = 0
    · obtain ⟨a, _, d⟩ := lcheck_zero q
      have e5 : (gapsR c x).1 = gapsC c x := by unfold gapsR; rw [if_pos q]
      have e6 : (findR c [x]).1 = violV 0 x (gapsC c x) := by unfold findR; rw [if_pos q]; simp [findC]
      have gl := (gapsC_ok a x).len
      have vl := viol_len 0 x (gapsC c x)
      have hf := (d x (by simp)).form
      rw [if_neg (nF q), e5, e6]
      refine viol16 (gapsC c x) gl (violV 0 x (gapsC c x)) (by omega) _ x _ ?_ (gapsC c x) 0 0 rfl rfl (by omega)
      rw [viol_any]
      unfold worstR
      rw [e5]
      cases hq : gapsC c x with
      | nil => exact ⟨fun h => by simp at h, fun _ => rfl⟩
      | cons g l => exact ⟨fun _ => worst_out (formE_zero.1 hf).1.2.2.1 g l, fun h => by simp only [List.length_cons, decide_eq_false_iff_not] at h; omega⟩
    · have e5 : (gapsR c x).1 = [] := by unfold gapsR; rw [if_neg q]
      have e6 : (findR c [x]).1 = [] := by unfold findR; rw [if_neg q]
      rw [if_pos (nT q), e5, e6]
      rfl

end Go.Proofs.YtejehchbflmofaaDoor
end
