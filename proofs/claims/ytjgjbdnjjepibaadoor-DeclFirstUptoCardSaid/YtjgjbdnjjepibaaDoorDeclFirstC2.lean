/-
The plain functions of the program that the law DeclFirst reaches, that the program computes them, and what they come to. No condition.
-/
import Derived.Test.YtjgjbdnjjepibaaDoorAm1
import Derived.Test.YtjgjbdnjjepibaaDoorAm2
import Derived.Test.YtjgjbdnjjepibaaDoorAm3
import Derived.Test.YtjgjbdnjjepibaaDoorDeclFirstC1
set_option linter.unusedVariables false
set_option linter.unusedSimpArgs false
set_option linter.unusedSectionVars false

section
/-
YtjgjbdnjjepibaaDoor: signalbench.signalbenchlaw34.DeclMatches, as one plain function, its equations, its contract. No condition.
-/
set_option maxRecDepth 100000
set_option linter.unusedVariables false
set_option maxHeartbeats 4000000
open Go Go.AM
namespace Go.Proofs.YtjgjbdnjjepibaaDoor
noncomputable section
def law34_DeclMatches_D : FD := ⟨T, lookC [(8, fc8), (9, fc9), (12, fc12), (13, fc13), (14, fc14), (15, fc15), (16, fc16), (17, fc17)], [], (Tryd.f4.body.getD .skip), Tryd.f4.results.toList, ⟨[.row (.cons .str (.cons (.int .i64) (.cons (.int .i64) (.sl (.cons .str (.cons (.sl (.cons (.int .i64) (.cons (.int .i64) (.cons .str (.cons .bool (.sl (.cons (.int .i64) (.int .i64)))))))) (.cons .bool (.cons (.int .i64) (.cons (.int .i64) (.cons .str (.cons .bool (.sl (.cons (.int .i64) (.int .i64)))))))))))))), .one .str, .row (.cons (.int .i64) (.int .i64))], []⟩, ⟨[.one .bool], []⟩, []⟩
def law34_DeclMatches (d : TDecl) (name : ByteArray) (where_ : TAct) : (Option ((Bool × Unit) × Unit)) :=
  (law34_small d).bind fun y1 =>
    if (!y1.1.1) = true then
      (law34_awake).bind fun y2 =>
        some ((y2.1.1, ()), ())
    else
      (law34_named name).bind fun y3 =>
        if (!y3.1.1) = true then
          (law34_awake).bind fun y4 =>
            some ((y4.1.1, ()), ())
        else
          (decl_Match d where_.1 where_.2).bind fun y5 =>
            (ref34_Match d where_.1 where_.2).bind fun y6 =>
              (ref34_SameRule y5.1.1 y6.1.1).bind fun y7 =>
                if y7.1.1 = true then
                  if (y5.1.2.1 == y6.1.2.1) = true then
                    (decl_Find d name).bind fun y8 =>
                      (ref34_Find d name).bind fun y9 =>
                        if (y8.1.1 == y9.1.1) = true then
                          (law34_awake).bind fun y10 =>
                            some ((y10.1.1, ()), ())
                        else
                          some ((false, ()), ())
                  else
                    some ((false, ()), ())
                else
                  some ((false, ()), ())
def fc4 : FC := ⟨⟨[.row (.cons .str (.cons (.int .i64) (.cons (.int .i64) (.sl (.cons .str (.cons (.sl (.cons (.int .i64) (.cons (.int .i64) (.cons .str (.cons .bool (.sl (.cons (.int .i64) (.int .i64)))))))) (.cons .bool (.cons (.int .i64) (.cons (.int .i64) (.cons .str (.cons .bool (.sl (.cons (.int .i64) (.int .i64)))))))))))))), .one .str, .row (.cons (.int .i64) (.int .i64))], []⟩, ⟨[.one .bool], []⟩, fun x => law34_DeclMatches x.1.1 x.1.2.1 x.1.2.2.1⟩
theorem con4 : Contract Tryd.prog 4 fc4 :=
  law34_DeclMatches_D.contract tok (cok_of (l := [(8, fc8), (9, fc9), (12, fc12), (13, fc13), (14, fc14), (15, fc15), (16, fc16), (17, fc17)]) ⟨con8, con9, con12, con13, con14, con15, con16, con17, trivial⟩) mixed (fn' := Tryd.f4) (by kernel_rfl) (by kernel_rfl) rfl (by kernel_rfl) (fun x => (FD.fn_eq _ _).trans (by kernel_rfl))
end
end Go.Proofs.YtjgjbdnjjepibaaDoor
end

section
/-
YtjgjbdnjjepibaaDoor: signalbench.signalbenchlaw34.DeclRoundTrips, as one plain function, its equations, its contract. No condition.
-/
set_option maxRecDepth 100000
set_option linter.unusedVariables false
set_option maxHeartbeats 4000000
open Go Go.AM
namespace Go.Proofs.YtjgjbdnjjepibaaDoor
noncomputable section
def law34_DeclRoundTrips_D : FD := ⟨T, lookC [(8, fc8), (9, fc9), (10, fc10), (18, fc18), (19, fc19), (20, fc20)], [], (Tryd.f5.body.getD .skip), Tryd.f5.results.toList, ⟨[.row (.cons .str (.cons (.int .i64) (.cons (.int .i64) (.sl (.cons .str (.cons (.sl (.cons (.int .i64) (.cons (.int .i64) (.cons .str (.cons .bool (.sl (.cons (.int .i64) (.int .i64)))))))) (.cons .bool (.cons (.int .i64) (.cons (.int .i64) (.cons .str (.cons .bool (.sl (.cons (.int .i64) (.int .i64))))))))))))))], []⟩, ⟨[.one .bool], []⟩, []⟩
def law34_DeclRoundTrips (d : TDecl) : (Option ((Bool × Unit) × Unit)) :=
  (law34_small d).bind fun y1 =>
    if (!y1.1.1) = true then
      (law34_awake).bind fun y2 =>
        some ((y2.1.1, ()), ())
    else
      (decl_Print d).bind fun y3 =>
        (decl_Check d).bind fun y4 =>
          if (y3.1.2.1 != y4.1.1) = true then
            some ((false, ()), ())
          else
            if (y3.1.2.1 != 0) = true then
              if (y3.1.1.toList == (strB []).toList) = true then
                (law34_awake).bind fun y5 =>
                  some ((y5.1.1, ()), ())
              else
                some ((false, ()), ())
            else
              (decl_Parse y3.1.1).bind fun y6 =>
                if (y6.1.2.2.1 == 0) = true then
                  if (y6.1.2.1 == 0) = true then
                    (ref34_Same y6.1.1 d).bind fun y7 =>
                      if y7.1.1 = true then
                        (law34_awake).bind fun y8 =>
                          some ((y8.1.1, ()), ())
                      else
                        some ((false, ()), ())
                  else
                    some ((false, ()), ())
                else
                  some ((false, ()), ())
def fc5 : FC := ⟨⟨[.row (.cons .str (.cons (.int .i64) (.cons (.int .i64) (.sl (.cons .str (.cons (.sl (.cons (.int .i64) (.cons (.int .i64) (.cons .str (.cons .bool (.sl (.cons (.int .i64) (.int .i64)))))))) (.cons .bool (.cons (.int .i64) (.cons (.int .i64) (.cons .str (.cons .bool (.sl (.cons (.int .i64) (.int .i64))))))))))))))], []⟩, ⟨[.one .bool], []⟩, fun x => law34_DeclRoundTrips x.1.1⟩
theorem con5 : Contract Tryd.prog 5 fc5 :=
  law34_DeclRoundTrips_D.contract tok (cok_of (l := [(8, fc8), (9, fc9), (10, fc10), (18, fc18), (19, fc19), (20, fc20)]) ⟨con8, con9, con10, con18, con19, con20, trivial⟩) mixed (fn' := Tryd.f5) (by kernel_rfl) (by kernel_rfl) rfl (by kernel_rfl) (fun x => (FD.fn_eq _ _).trans (by kernel_rfl))
end
end Go.Proofs.YtjgjbdnjjepibaaDoor
end

section
/-
YtjgjbdnjjepibaaDoor: signalbench.signalbenchlaw34.DeclTexts, as one plain function, its equations, its contract. No condition.
-/
set_option maxRecDepth 100000
set_option linter.unusedVariables false
set_option maxHeartbeats 4000000
open Go Go.AM
namespace Go.Proofs.YtjgjbdnjjepibaaDoor
noncomputable section
def law34_DeclTexts_D : FD := ⟨T, lookC [(9, fc9), (10, fc10), (18, fc18), (19, fc19), (20, fc20)], [], (Tryd.f6.body.getD .skip), Tryd.f6.results.toList, ⟨[.one .str], []⟩, ⟨[.one .bool], []⟩, []⟩
def law34_DeclTexts (s : ByteArray) : (Option ((Bool × Unit) × Unit)) :=
  if (decide ((s.size : Int) > 600)) = true then
    (law34_awake).bind fun y1 =>
      some ((y1.1.1, ()), ())
  else
    (decl_Parse s).bind fun y2 =>
      if (y2.1.2.2.1 != 0) = true then
        if ((y2.1.1.2.2.2.length : Int) == 0) = true then
          (law34_awake).bind fun y3 =>
            some ((y3.1.1, ()), ())
        else
          some ((false, ()), ())
      else
        (decl_Print y2.1.1).bind fun y4 =>
          (decl_Parse y4.1.1).bind fun y5 =>
            (decl_Print y5.1.1).bind fun y6 =>
              (decl_Check y2.1.1).bind fun y7 =>
                if (y7.1.1 == 0) = true then
                  if (y4.1.2.1 == 0) = true then
                    if (y5.1.2.2.1 == 0) = true then
                      if (y6.1.2.1 == 0) = true then
                        (ref34_Same y5.1.1 y2.1.1).bind fun y8 =>
                          if y8.1.1 = true then
                            if (y6.1.1.toList == y4.1.1.toList) = true then
                              (law34_awake).bind fun y9 =>
                                some ((y9.1.1, ()), ())
                            else
                              some ((false, ()), ())
                          else
                            some ((false, ()), ())
                      else
                        some ((false, ()), ())
                    else
                      some ((false, ()), ())
                  else
                    some ((false, ()), ())
                else
                  some ((false, ()), ())
def fc6 : FC := ⟨⟨[.one .str], []⟩, ⟨[.one .bool], []⟩, fun x => law34_DeclTexts x.1.1⟩
theorem con6 : Contract Tryd.prog 6 fc6 :=
  law34_DeclTexts_D.contract tok (cok_of (l := [(9, fc9), (10, fc10), (18, fc18), (19, fc19), (20, fc20)]) ⟨con9, con10, con18, con19, con20, trivial⟩) mixed (fn' := Tryd.f6) (by kernel_rfl) (by kernel_rfl) rfl (by kernel_rfl) (fun x => (FD.fn_eq _ _).trans (by kernel_rfl))
end
end Go.Proofs.YtjgjbdnjjepibaaDoor
end

section
/-
YtjgjbdnjjepibaaDoor: signalbench.signalbenchlaw34.DeclFirst, as one plain function, its equations, its contract. No condition.
-/
set_option maxRecDepth 100000
set_option linter.unusedVariables false
set_option maxHeartbeats 4000000
open Go Go.AM
namespace Go.Proofs.YtjgjbdnjjepibaaDoor
noncomputable section
def law34_DeclFirst_F9 : FSh := ⟨[(6, .one (.int .i64)), (7, .one (.ptr 0 0)), (8, .one (.ptr 1 0)), (9, .one .bool), (10, .one (.int .i64))], [.boxr 46 (.cons .str (.cons (.sl (.cons (.int .i64) (.cons (.int .i64) (.cons .str (.cons .bool (.sl (.cons (.int .i64) (.int .i64)))))))) (.cons .bool (.cons (.int .i64) (.cons (.int .i64) (.cons .str (.cons .bool (.sl (.cons (.int .i64) (.int .i64)))))))))), .boxr 33 (.cons (.int .i64) (.cons (.int .i64) (.cons .str (.cons .bool (.sl (.cons (.int .i64) (.int .i64)))))))]⟩
def law34_DeclFirst_D : FD := ⟨T, lookC [(8, fc8), (9, fc9), (13, fc13), (15, fc15)], [], (Tryd.f7.body.getD .skip), Tryd.f7.results.toList, ⟨[.row (.cons .str (.cons (.int .i64) (.cons (.int .i64) (.sl (.cons .str (.cons (.sl (.cons (.int .i64) (.cons (.int .i64) (.cons .str (.cons .bool (.sl (.cons (.int .i64) (.int .i64)))))))) (.cons .bool (.cons (.int .i64) (.cons (.int .i64) (.cons .str (.cons .bool (.sl (.cons (.int .i64) (.int .i64)))))))))))))), .row (.cons (.int .i64) (.int .i64))], []⟩, ⟨[.one .bool], []⟩, [(9, law34_DeclFirst_F9)]⟩
def law34_DeclFirst_l9 (symbol : Int) (ok : Bool) (i : Int) (h0 : TDeclState) (h1 : TRule) : (Option ((Bool × Unit) × Unit)) := law34_DeclFirst_D.lab 9 law34_DeclFirst_F9 ((symbol, (), (), ok, i, ()), (h0, h1, ()))
theorem law34_DeclFirst_l9_eq (symbol : Int) (ok : Bool) (i : Int) (h0 : TDeclState) (h1 : TRule) : law34_DeclFirst_l9 symbol ok i h0 h1 =
  if (decide (i < (h0.2.1.length : Int))) = true then
    if 0 ≤ i ∧ i < (h0.2.1.length : Int) then
      if (decide ((h0.2.1.getD i.toNat dRule).1 ≤ symbol)) = true then
        if 0 ≤ i ∧ i < (h0.2.1.length : Int) then
          if (decide (symbol ≤ (h0.2.1.getD i.toNat dRule).2.1)) = true then
            if ok = true then
              if 0 ≤ i ∧ i < (h0.2.1.length : Int) then
                (ref34_SameRule h1 (h0.2.1.getD i.toNat dRule)).bind fun y1 =>
                  if y1.1.1 = true then
                    (law34_awake).bind fun y2 =>
                      some ((y2.1.1, ()), ())
                  else
                    some ((false, ()), ())
              else
                none
            else
              some ((false, ()), ())
          else
            law34_DeclFirst_l9 symbol ok (IntKind.i64.wrap (i + 1)) h0 h1
        else
          none
      else
        law34_DeclFirst_l9 symbol ok (IntKind.i64.wrap (i + 1)) h0 h1
    else
      none
  else
    if h0.2.2.1 = true then
      if ok = true then
        (ref34_SameRule h1 h0.2.2.2).bind fun y3 =>
          if y3.1.1 = true then
            (law34_awake).bind fun y4 =>
              some ((y4.1.1, ()), ())
          else
            some ((false, ()), ())
      else
        some ((false, ()), ())
    else
      if (!ok) = true then
        (ref34_SameRule h1 (0, 0, (strB []), false, [])).bind fun y5 =>
          if y5.1.1 = true then
            (law34_awake).bind fun y6 =>
              some ((y6.1.1, ()), ())
          else
            some ((false, ()), ())
      else
        some ((false, ()), ()) := (FD.lab_eq _ _ _ _).trans (by kernel_rfl)
def law34_DeclFirst (d : TDecl) (where_ : TAct) : (Option ((Bool × Unit) × Unit)) :=
  (law34_small d).bind fun y1 =>
    if (!y1.1.1) = true then
      (law34_awake).bind fun y2 =>
        some ((y2.1.1, ()), ())
    else
      if (decide (where_.1 < 0)) = true then
        (law34_awake).bind fun y3 =>
          some ((y3.1.1, ()), ())
      else
        if (decide (where_.1 ≥ (d.2.2.2.length : Int))) = true then
          (law34_awake).bind fun y4 =>
            some ((y4.1.1, ()), ())
        else
          if 0 ≤ where_.1 ∧ where_.1 < (d.2.2.2.length : Int) then
            (decl_Match d where_.1 where_.2).bind fun y5 =>
              law34_DeclFirst_l9 where_.2 y5.1.2.1 0 (d.2.2.2.getD where_.1.toNat dDeclState) y5.1.1
          else
            none
def fc7 : FC := ⟨⟨[.row (.cons .str (.cons (.int .i64) (.cons (.int .i64) (.sl (.cons .str (.cons (.sl (.cons (.int .i64) (.cons (.int .i64) (.cons .str (.cons .bool (.sl (.cons (.int .i64) (.int .i64)))))))) (.cons .bool (.cons (.int .i64) (.cons (.int .i64) (.cons .str (.cons .bool (.sl (.cons (.int .i64) (.int .i64)))))))))))))), .row (.cons (.int .i64) (.int .i64))], []⟩, ⟨[.one .bool], []⟩, fun x => law34_DeclFirst x.1.1 x.1.2.1⟩
theorem con7 : Contract Tryd.prog 7 fc7 :=
  law34_DeclFirst_D.contract tok (cok_of (l := [(8, fc8), (9, fc9), (13, fc13), (15, fc15)]) ⟨con8, con9, con13, con15, trivial⟩) mixed (fn' := Tryd.f7) (by kernel_rfl) (by kernel_rfl) rfl (by kernel_rfl) (fun x => (FD.fn_eq _ _).trans (by kernel_rfl))
end
end Go.Proofs.YtjgjbdnjjepibaaDoor
end

section
/-
YtjgjbdnjjepibaaDoor: the plain functions of names and numbers come to what they should. No condition.
-/
set_option maxRecDepth 100000
open Go Go.AM
namespace Go.Proofs.YtjgjbdnjjepibaaDoor

theorem lex_letter_b (c : UInt8) : lex_letter c.toNat = some ((letterB c, ()), ()) := by
  unfold lex_letter letterB
  by_cases h : 97 ≤ c.toNat
  · rw [if_pos (decide_eq_true (by omega)), decide_eq_true h, Bool.true_and]
    by_cases h2 : c.toNat ≤ 122
    · rw [decide_eq_true h2, decide_eq_true (by omega)]
    · rw [decide_eq_false h2, decide_eq_false (by omega)]
  · rw [if_neg (dF (by omega)), decide_eq_false h, Bool.false_and]

theorem lex_digit_b (c : UInt8) : lex_digit c.toNat = some ((digitB c, ()), ()) := by
  unfold lex_digit digitB
  by_cases h : 48 ≤ c.toNat
  · rw [if_pos (decide_eq_true (by omega)), decide_eq_true h, Bool.true_and]
    by_cases h2 : c.toNat ≤ 57
    · rw [decide_eq_true h2, decide_eq_true (by omega)]
    · rw [decide_eq_false h2, decide_eq_false (by omega)]
  · rw [if_neg (dF (by omega)), decide_eq_false h, Bool.false_and]

theorem int_beq (c d : UInt8) : ((c.toNat : Int) == (d.toNat : Int)) = (c == d) := by
  rw [Bool.eq_iff_iff, beq_iff_eq, beq_iff_eq, u8_eq]

theorem lex_word_b (c : UInt8) : lex_word c.toNat = some ((wordB c, ()), ()) := by
  unfold lex_word wordB
  rw [lex_letter_b, lex_digit_b]
  have := int_beq c 95
  cases letterB c <;> cases digitB c <;> simp <;> exact this

theorem ref05_letter_b (c : UInt8) : ref05_letter c.toNat = some ((letterB c, ()), ()) := lex_letter_b c
theorem ref05_digit_b (c : UInt8) : ref05_digit c.toNat = some ((digitB c, ()), ()) := lex_digit_b c
theorem ref05_inner_b (c : UInt8) : ref05_inner c.toNat = some ((wordB c, ()), ()) := lex_word_b c

theorem lex_hex_b (c : UInt8) : lex_hex c.toNat = some ((hexI c, ()), ()) := by
  have hc := c.toNat_lt
  unfold lex_hex hexI hexv
  by_cases h : 48 ≤ c.toNat ∧ c.toNat ≤ 57
  · rw [if_pos (decide_eq_true (by omega)), if_pos (decide_eq_true (by omega)), if_pos h, w8 (by omega) (by omega), w64 (by omega) (by omega)]
    simp only [Option.some.injEq, Prod.mk.injEq, and_true]; omega
  · rw [if_neg h]
    by_cases h2 : 97 ≤ c.toNat ∧ c.toNat ≤ 102
    · have e1 : IntKind.u8.wrap ((c.toNat : Int) - 97) = c.toNat - 97 := w8 (by omega) (by omega)
      have e2 : IntKind.i64.wrap ((c.toNat : Int) - 97) = c.toNat - 97 := w64 (by omega) (by omega)
      have e3 : IntKind.i64.wrap ((c.toNat : Int) - 97 + 10) = c.toNat - 97 + 10 := w64 (by omega) (by omega)
      rw [if_pos (decide_eq_true (by omega)), if_neg (dF (by omega)), if_pos (decide_eq_true (by omega)), if_pos (decide_eq_true (by omega)), if_pos h2, e1, e2, e3]
      simp only [Option.some.injEq, Prod.mk.injEq, and_true]; omega
    · rw [if_neg h2]
      simp only [decide_eq_true_eq]
      repeat' split
      all_goals first | rfl | (exfalso; omega)

theorem hasPrefix_b (s p : ByteArray) : strings_HasPrefix s p = some ((decide (L s = L p ++ (L s).drop (L p).length), ()), ()) := by
  unfold strings_HasPrefix stringslite_HasPrefix
  by_cases h : p.size ≤ s.size
  · rw [if_pos (decide_eq_true (by omega)), if_pos ⟨by omega, by omega, by omega⟩]
    simp only [Option.bind_some, Option.some.injEq, Prod.mk.injEq, and_true]
    rw [Bool.eq_iff_iff, beq_iff_eq, decide_eq_true_eq, toL, toL, L_ext]
    simp only [Int.toNat_natCast, List.drop_zero]
    rw [← L_len p]
    constructor
    · intro e
      conv => lhs; rw [← List.take_append_drop (L p).length (L s), e]
    · intro e
      rw [e, List.take_left]
  · rw [if_neg (dF (by omega))]
    simp only [Option.bind_some, Option.some.injEq, Prod.mk.injEq, and_true]
    symm
    rw [decide_eq_false_iff_not]
    intro e
    have := congrArg List.length e
    simp only [List.length_append, L_len] at this
    omega

theorem lex_Name_loop (s : ByteArray) (hs : s.size ≤ 4611686018427387904) : ∀ (r : List UInt8) (n : Nat), (L s).drop n = r → lex_Name_l6 s s.size n = some ((r.all wordB, ()), ())
  | [], n, h => by
    have := drop_nil h
    rw [L_len] at this
    rw [lex_Name_l6_eq, if_neg (dF (by omega))]
    rfl
  | c :: r, n, h => by
    have h1 := drop_lt h
    rw [L_len] at h1
    rw [lex_Name_l6_eq, if_pos (decide_eq_true (by omega)), if_pos ⟨by omega, by omega⟩, bt_drop h, w32c, lex_word_b]
    simp only [Option.bind_some, List.all_cons]
    cases hw : wordB c
    · rfl
    · simp only [Bool.not_true, Bool.false_eq_true, if_false, Bool.true_and]
      rw [w64 (by omega) (by omega)]
      exact lex_Name_loop s hs r (n + 1) (drop_succ h)

theorem ref05_Name_loop (s : ByteArray) (hs : s.size ≤ 4611686018427387904) : ∀ (r : List UInt8) (n : Nat), (L s).drop n = r → ref05_Name_l6 s n = some ((r.all wordB, ()), ())
  | [], n, h => by
    have := drop_nil h
    rw [L_len] at this
    rw [ref05_Name_l6_eq, if_neg (dF (by omega))]
    rfl
  | c :: r, n, h => by
    have h1 := drop_lt h
    rw [L_len] at h1
    rw [ref05_Name_l6_eq, if_pos (decide_eq_true (by omega)), if_pos ⟨by omega, by omega⟩, bt_drop h, ref05_inner_b]
    simp only [Option.bind_some, List.all_cons]
    cases hw : wordB c
    · rfl
    · simp only [Bool.not_true, Bool.false_eq_true, if_false, Bool.true_and]
      rw [w64 (by omega) (by omega)]
      exact ref05_Name_loop s hs r (n + 1) (drop_succ h)

theorem lex_Name_b (s : ByteArray) : lex_Name s = some ((nameB (L s), ()), ()) := by
  unfold lex_Name
  have hl := L_len s
  cases hL : L s with
  | nil => rw [if_pos (by rw [toL, toL, hL, L_strB]; rfl)]; rfl
  | cons c r =>
    rw [hL] at hl
    simp only [List.length_cons] at hl
    rw [if_neg (by rw [toL, toL, hL, L_strB]; simp)]
    rw [nameB_cons]
    by_cases h : s.size ≤ 16
    · rw [if_neg (dF (by omega)), if_pos ⟨by omega, by omega⟩, bt_cons hL, w32c, lex_letter_b, decide_eq_true (by omega : r.length + 1 ≤ 16)]
      simp only [Option.bind_some, Bool.true_and]
      cases letterB c
      · rfl
      · simp only [Bool.not_true, Bool.false_eq_true, if_false, Bool.true_and]
        exact lex_Name_loop s (by omega) (c :: r) 0 (by rw [hL]; rfl)
    · rw [if_pos (decide_eq_true (by omega)), decide_eq_false (by omega : ¬ r.length + 1 ≤ 16)]
      rfl

theorem ref05_Name_b (s : ByteArray) : ref05_Name s = some ((nameB (L s), ()), ()) := by
  unfold ref05_Name
  have hl := L_len s
  cases hL : L s with
  | nil =>
    rw [hL] at hl
    simp only [List.length_nil] at hl
    rw [if_pos (decide_eq_true (by omega))]; rfl
  | cons c r =>
    rw [hL] at hl
    simp only [List.length_cons] at hl
    rw [if_neg (dF (by omega))]
    rw [nameB_cons]
    by_cases h : s.size ≤ 16
    · rw [if_neg (dF (by omega)), if_pos ⟨by omega, by omega⟩, bt_cons hL, ref05_letter_b, decide_eq_true (by omega : r.length + 1 ≤ 16)]
      simp only [Option.bind_some, Bool.true_and]
      cases letterB c
      · rfl
      · simp only [Bool.not_true, Bool.false_eq_true, if_false, Bool.true_and]
        exact ref05_Name_loop s (by omega) (c :: r) 0 (by rw [hL]; rfl)
    · rw [if_pos (decide_eq_true (by omega)), decide_eq_false (by omega : ¬ r.length + 1 ≤ 16)]
      rfl

theorem hexI_cases (c : UInt8) : (hexv c = none ∧ hexI c = -1) ∨ ∃ d : Nat, hexv c = some d ∧ hexI c = d ∧ d < 16 := by
  unfold hexI
  cases h : hexv c with
  | none => exact .inl ⟨rfl, rfl⟩
  | some d => exact .inr ⟨d, rfl, rfl, hexv_lt h⟩

/-- What the loop over the digits comes to. -/
def numEnd (minus : Bool) : Option Nat → Int × Int
  | none => (0, 4)
  | some n => if n > 9007199254740992 then (0, 2) else (if minus = true then -(n : Int) else n, 0)

theorem lex_Number_loop (s : ByteArray) (hs : s.size ≤ 4611686018427387904) (minus : Bool) (base : Nat) (hb : base ≤ 16) : ∀ (r : List UInt8) (i n : Nat), (L s).drop i = r → n ≤ 9007199254740993 →
    lex_Number_l13 s minus base n s.size i = some (((numEnd minus (digs base r n)).1, (numEnd minus (digs base r n)).2, ()), ())
  | [], i, n, h, hn => by
    have := drop_nil h
    rw [L_len] at this
    rw [lex_Number_l13_eq, if_neg (dF (by omega))]
    simp only [digs, numEnd]
    by_cases h2 : n > 9007199254740992
    · rw [if_pos (decide_eq_true (by omega)), if_pos h2]
    · rw [if_neg (dF (by omega)), if_neg h2]
      cases minus
      · rfl
      · simp only [if_true, Option.some.injEq, Prod.mk.injEq, and_true]
        rw [w64 (by omega) (by omega)]; omega
  | c :: r, i, n, h, hn => by
    have h1 := drop_lt h
    rw [L_len] at h1
    rw [lex_Number_l13_eq, if_pos (decide_eq_true (by omega)), if_pos ⟨by omega, by omega⟩, bt_drop h, lex_hex_b]
    simp only [Option.bind_some, digs]
    rcases hexI_cases c with ⟨e1, e2⟩ | ⟨d, e1, e2, e3⟩
    · rw [e1, e2, if_pos (by decide)]
      try rfl
    · rw [e1, e2, if_neg (dF (by omega))]
      simp only
      by_cases hd : d < base
      · rw [if_neg (dF (by omega)), if_pos hd]
        have b1 : base * n ≤ 16 * 9007199254740993 := Nat.mul_le_mul hb hn
        have e4 : IntKind.i64.wrap ((base : Int) * n) = ((base * n : Nat) : Int) := by rw [← Int.natCast_mul, w64 (by omega) (by omega)]
        have e5 : IntKind.i64.wrap (((base * n : Nat) : Int) + d) = ((base * n + d : Nat) : Int) := by rw [w64 (by omega) (by omega)]; omega
        have e6 : IntKind.i64.wrap ((i : Int) + 1) = ((i + 1 : Nat) : Int) := by rw [w64 (by omega) (by omega)]; omega
        rw [e4, e5, e6, show (if (9007199254740993 : Int) < ((base * n + d : Nat) : Int) then (9007199254740993 : Int) else ((base * n + d : Nat) : Int)) = ((min (base * n + d) 9007199254740993 : Nat) : Int) by
          split <;> omega]
        exact lex_Number_loop s hs minus base hb r (i + 1) _ (drop_succ h) (by omega)
      · rw [if_pos (decide_eq_true (by omega)), if_neg hd]
        try rfl

end Go.Proofs.YtjgjbdnjjepibaaDoor
end

section
/-
YtjgjbdnjjepibaaDoor: the plain functions of numbers and quoted strings come to what they should. No condition.
-/
set_option maxRecDepth 100000
open Go Go.AM
namespace Go.Proofs.YtjgjbdnjjepibaaDoor

def l5V (minus : Bool) (base : Nat) (l : List UInt8) : Int × Int := match l with
  | [] => (0, 4)
  | c :: r => if c = 48 ∧ (minus = true ∨ r ≠ []) then (0, 4) else numEnd minus (digs base (c :: r) 0)

theorem lex_Number_l5_b (s : ByteArray) (hs : s.size ≤ 4611686018427387904) (minus : Bool) (base : Nat) (hb : base ≤ 16) : lex_Number_l5 s minus base = some (((l5V minus base (L s)).1, (l5V minus base (L s)).2, ()), ()) := by
  rw [lex_Number_l5_eq]
  cases hL : L s with
  | nil => rw [if_pos (is_nil hL)]; rfl
  | cons c r =>
    have hl := size_of hL
    simp only [List.length_cons] at hl
    rw [if_neg (not_nil hL), if_pos ⟨by omega, by omega⟩, bt_cons hL]
    have loop := lex_Number_loop s hs minus base hb (c :: r) 0 0 (by rw [hL]; rfl) (by omega)
    simp only [l5V]
    by_cases h1 : c = 48
    · subst h1
      rw [if_pos (by decide)]
      cases minus with
      | true => simp
      | false =>
        simp only [Bool.false_eq_true, if_false, false_or, true_and]
        by_cases h2 : r = []
        · subst h2
          simp only [List.length_nil] at hl
          rw [if_neg (dF (by omega)), if_neg (by simp)]
          exact loop
        · have := List.length_pos_iff.2 h2
          rw [if_pos (dT (by omega)), if_pos h2]
    · rw [if_neg (show ¬ ((c.toNat : Int) == 48) = true from byte_ne h1), if_neg (by simp [h1])]
      exact loop

theorem numN_natV (neg : Bool) (base : Nat) (hb : 0 < base) (l : List UInt8) : numN neg (natV l base) = l5V neg base l := by
  cases l with
  | nil => rfl
  | cons c r =>
    simp only [natV, l5V]
    by_cases h1 : c = 48
    · subst h1
      by_cases h2 : r = []
      · subst h2
        have e : digs base [48] 0 = some 0 := by
          have : hexv 48 = some 0 := by decide
          simp [digs, this, hb]
        rw [if_neg (by simp), e]
        cases neg <;> simp [numN, numEnd]
      · rw [if_pos ⟨rfl, h2⟩, if_pos ⟨rfl, .inr h2⟩]
        rfl
    · rw [if_neg (by simp [h1]), if_neg (by simp [h1])]
      cases hd : digs base (c :: r) 0 with
      | none => rfl
      | some m =>
        have := digs_first hb hd h1
        simp only [numN, numEnd]
        rw [if_neg (by omega)]

theorem body_l5 (neg : Bool) (b : List UInt8) : numN neg (bodyV b) = match b with
    | 48 :: 120 :: t => l5V neg 16 t
    | b => l5V neg 10 b := by
  match b with
  | [] => exact numN_natV neg 10 (by omega) []
  | [c] =>
    have : bodyV [c] = natV [c] 10 := by unfold bodyV; split <;> simp_all
    rw [this, numN_natV neg 10 (by omega)]
    split <;> simp_all
  | c :: d :: r =>
    by_cases h : c = 48 ∧ d = 120
    · obtain ⟨rfl, rfl⟩ := h
      cases r with
      | nil =>
        have : bodyV [48, 120] = none := by rfl
        rw [this]; rfl
      | cons e r => exact numN_natV neg 16 (by omega) (e :: r)
    · have : bodyV (c :: d :: r) = natV (c :: d :: r) 10 := by
        unfold bodyV
        split
        · rename_i e; simp only [List.cons.injEq] at e; exact absurd ⟨e.1, e.2.1⟩ h
        · rfl
      rw [this, numN_natV neg 10 (by omega)]
      split
      · rename_i e; simp only [List.cons.injEq] at e; exact absurd ⟨e.1, e.2.1⟩ h
      · rfl

theorem prefix_minus_yes {s : ByteArray} {r : List UInt8} (h : L s = 45 :: r) : strings_HasPrefix s (strB [45]) = some ((true, ()), ()) := by
  rw [hasPrefix_b, L_strB, h]
  simp

theorem prefix_minus_no {s : ByteArray} (h : ∀ r, L s ≠ 45 :: r) : strings_HasPrefix s (strB [45]) = some ((false, ()), ()) := by
  rw [hasPrefix_b, L_strB]
  simp only [Option.some.injEq, Prod.mk.injEq, and_true, decide_eq_false_iff_not]
  exact fun e => h _ e

theorem prefix_hex (s : ByteArray) : strings_HasPrefix s (strB [48, 120]) = some ((match L s with
    | 48 :: 120 :: _ => true
    | _ => false, ()), ()) := by
  rw [hasPrefix_b]
  simp only [Option.some.injEq, Prod.mk.injEq, and_true]
  rw [L_strB]
  match L s with
  | [] => rfl
  | [c] => simp
  | c :: d :: r =>
    simp only [List.length_cons, List.length_nil, List.drop_succ_cons, List.drop_zero, List.cons_append, List.nil_append, List.cons.injEq, and_true]
    by_cases h : c = 48 ∧ d = 120
    · obtain ⟨rfl, rfl⟩ := h; simp
    · rw [decide_eq_false h]
      split
      · rename_i e; cases e; exact absurd ⟨rfl, rfl⟩ h
      · rfl

theorem lex_Number_l2_b (s : ByteArray) (hs : s.size ≤ 4611686018427387904) (minus : Bool) : lex_Number_l2 s minus = some (((numN minus (bodyV (L s))).1, (numN minus (bodyV (L s))).2, ()), ()) := by
  rw [lex_Number_l2_eq, prefix_hex, body_l5]
  simp only [Option.bind_some]
  split
  · rename_i t hL
    have hl := size_of hL
    simp only [List.length_cons] at hl
    rw [if_pos rfl, if_pos ⟨by omega, by omega⟩]
    have := lex_Number_l5_b (s.extract 2 s.size) (by rw [size_drop]; omega) minus 16 (by omega)
    rw [L_ext', hL] at this
    exact this
  · rw [if_neg (by simp)]
    exact lex_Number_l5_b s hs minus 10 (by omega)

theorem lex_Number_b (s : ByteArray) (hs : s.size ≤ 4611686018427387904) : lex_Number s = some (((numV (L s)).1, (numV (L s)).2, ()), ()) := by
  unfold lex_Number
  have no : (∀ r, L s ≠ 45 :: r) → numV (L s) = numN false (bodyV (L s)) → ((strings_HasPrefix s (strB [45])).bind fun y1 =>
      if y1.1.1 = true then
        if 0 ≤ (1 : Int) ∧ 1 ≤ (s.size : Int) then lex_Number_l2 (s.extract 1 s.size) y1.1.1 else none
      else lex_Number_l2 s y1.1.1) = some (((numV (L s)).1, (numV (L s)).2, ()), ()) := by
    intro h e
    rw [prefix_minus_no h, e]
    exact lex_Number_l2_b s hs false
  cases hL : L s with
  | nil =>
    rw [hL] at no
    exact no (fun r e => by cases e) rfl
  | cons c r =>
    by_cases h : c = 45
    · subst h
      have hl := size_of hL
      simp only [List.length_cons] at hl
      rw [prefix_minus_yes hL, numV_minus]
      simp only [Option.bind_some, if_true]
      rw [if_pos ⟨by omega, by omega⟩]
      have := lex_Number_l2_b (s.extract 1 s.size) (by rw [size_drop]; omega) true
      rw [L_ext', hL] at this
      exact this
    · rw [hL] at no
      exact no (fun r e => by cases e; exact h rfl) (numV_other h)

theorem natV_le {l : List UInt8} {base n : Nat} (h : natV l base = some n) : n ≤ 9007199254740993 := by
  unfold natV at h
  split at h
  · cases h
  · split at h
    · cases h
    · exact digs_le _ _ _ h (by omega)

theorem bodyV_le {l : List UInt8} {n : Nat} (h : bodyV l = some n) : n ≤ 9007199254740993 := by
  unfold bodyV at h
  split at h <;> exact natV_le h

end Go.Proofs.YtjgjbdnjjepibaaDoor
end

section
/-
YtjgjbdnjjepibaaDoor: the plain functions of quoted strings come to what they should. No condition.
-/
set_option maxRecDepth 100000
open Go Go.AM
namespace Go.Proofs.YtjgjbdnjjepibaaDoor

theorem lex_plain_b (c : UInt8) : lex_plain c.toNat = some ((plainB c, ()), ()) := by
  unfold lex_plain plainB
  by_cases h : 32 ≤ c.toNat
  · rw [if_pos (dT (by omega)), decide_eq_true h]
    by_cases h2 : c.toNat ≤ 126
    · rw [if_pos (dT (by omega)), decide_eq_true h2]
      by_cases h3 : c = 34
      · subst h3; rfl
      · rw [if_pos (show ((c.toNat : Int) != 34) = true from byte_bne h3), bne_iff_ne.2 h3]
        by_cases h4 : c = 92
        · subst h4; rfl
        · rw [show ((c.toNat : Int) != 92) = true from byte_bne h4, bne_iff_ne.2 h4]; rfl
    · rw [if_neg (dF (by omega)), decide_eq_false h2]
      simp
  · rw [if_neg (dF (by omega)), decide_eq_false h]
    simp

theorem hex_pair {x y : Nat} (hx : x < 16) (hy : y < 16) : IntKind.u8.wrap (IntKind.i64.wrap (IntKind.i64.wrap (16 * (x : Int)) + y)) = ((UInt8.ofNat (16 * x + y)).toNat : Int) := by
  have e1 : IntKind.i64.wrap (16 * (x : Int)) = 16 * x := w64 (by omega) (by omega)
  have e2 : IntKind.i64.wrap (16 * (x : Int) + y) = 16 * x + y := w64 (by omega) (by omega)
  rw [e1, e2, w8 (by omega) (by omega), UInt8.toNat_ofNat', Nat.mod_eq_of_lt (by omega)]
  omega

theorem hex_pair' {x y : Nat} (hx : x < 16) (hy : y < 16) : IntKind.u8.wrap (IntKind.i64.wrap (IntKind.i64.wrap ((x : Int) * 16) + y)) = ((UInt8.ofNat (16 * x + y)).toNat : Int) := by
  rw [Int.mul_comm]; exact hex_pair hx hy

theorem bt_at {s : ByteArray} {i : Nat} {c : UInt8} {r : List UInt8} (h : (L s).drop i = c :: r) (x : Int) (hx : x = i) : bt s x = (c.toNat : Int) := by
  subst hx; exact bt_drop h

theorem lex_escape_b (s : ByteArray) (c : UInt8) (r : List UInt8) (hL : L s = c :: r) : lex_escape s = some ((match escV r with
    | some (b, n) => ((b.toNat : Int), (n : Int), ())
    | none => (0, 0, ())), ()) := by
  unfold lex_escape
  have hl := size_of hL
  cases r with
  | nil =>
    simp only [List.length_cons, List.length_nil] at hl
    rw [if_pos (dT (by omega))]; rfl
  | cons e r =>
    simp only [List.length_cons] at hl
    have b1 : bt s 1 = (e.toNat : Int) := bt_at (i := 1) (r := r) (by rw [hL]; rfl) 1 rfl
    rw [if_neg (dF (by omega)), if_pos ⟨by omega, by omega⟩, b1]
    have yes : ∀ x, lex_escape_l6 s x true = some (((e.toNat : Int), 2, ()), ()) := fun x => by
      rw [lex_escape_l6_eq, if_pos rfl, if_pos ⟨by omega, by omega⟩, b1]
    by_cases h1 : e = 34
    · subst h1
      rw [if_pos (by decide), yes]; rfl
    · rw [if_neg (show ¬ ((e.toNat : Int) == 34) = true from byte_ne h1)]
      by_cases h2 : e = 92
      · subst h2
        rw [show (((92 : UInt8).toNat : Int) == 92) = true from by decide, yes]; rfl
      · rw [show ((e.toNat : Int) == 92) = false from by simpa using byte_ne h2, lex_escape_l6_eq, if_neg Bool.false_ne_true]
        simp only [escV]
        rw [if_neg (show ¬ (e = 34 ∨ e = 92) by simp [h1, h2])]
        by_cases h3 : e = 110
        · subst h3
          rw [if_pos (by decide), if_pos rfl]; rfl
        · rw [if_neg (show ¬ ((e.toNat : Int) == 110) = true from byte_ne h3), if_neg h3]
          by_cases h4 : e = 120
          · subst h4
            rw [if_pos (by decide), if_pos rfl]
            match r, hl, hL with
            | [], hl, _ => simp only [List.length_nil] at hl; rw [if_pos (dT (by omega))]
            | [a], hl, _ => simp only [List.length_cons, List.length_nil] at hl; rw [if_pos (dT (by omega))]
            | a :: b :: r, hl, hL =>
              simp only [List.length_cons] at hl
              have b2 : bt s 2 = (a.toNat : Int) := bt_at (i := 2) (r := b :: r) (by rw [hL]; rfl) 2 rfl
              have b3 : bt s 3 = (b.toNat : Int) := bt_at (i := 3) (r := r) (by rw [hL]; rfl) 3 rfl
              rw [if_neg (dF (by omega)), if_pos ⟨by omega, by omega⟩, b2, b3, lex_hex_b, lex_hex_b]
              simp only [Option.bind_some]
              rcases hexI_cases a with ⟨e1, e2⟩ | ⟨x, e1, e2, e3⟩
              · rw [e1, e2, if_pos (by decide)]
              · rw [e1, e2, if_neg (dF (by omega)), if_pos ⟨by omega, by omega⟩]
                rcases hexI_cases b with ⟨f1, f2⟩ | ⟨y, f1, f2, f3⟩
                · rw [f1, f2, if_pos (by decide)]
                · rw [f1, f2, if_neg (dF (by omega)), if_pos ⟨by omega, by omega⟩, if_pos ⟨by omega, by omega⟩, hex_pair e3 f3]
                  rfl
          · rw [if_neg (show ¬ ((e.toNat : Int) == 120) = true from byte_ne h4), if_neg h4]

theorem lex_Unquote_loop : ∀ (k : Nat) (s : ByteArray) (acc : List UInt8), (L s).length ≤ k → acc.length + (L s).length ≤ 1099511627776 → lex_Unquote_l7 s (bI acc) = some ((match unqI k (L s) with
    | some o => (strB (acc ++ o), 0, ())
    | none => (strB [], 4, ())), ()) := by
  intro k
  induction k using Nat.strongRecOn with
  | _ k ih =>
    intro s acc hk ha
    rw [lex_Unquote_l7_eq]
    cases hL : L s with
    | nil =>
      rw [if_neg (cond_nil hL), strOf_bI]
      have : unqI k [] = some [] := by cases k <;> rfl
      rw [this]
      simp
    | cons c r =>
      have hl := size_of hL
      rw [hL] at hk ha
      simp only [List.length_cons] at hk ha hl
      obtain ⟨k, rfl⟩ : ∃ j, k = j + 1 := ⟨k - 1, by omega⟩
      rw [if_pos (cond_not_nil hL), if_pos ⟨by omega, by omega⟩, bt_cons hL, w32c, lex_plain_b]
      simp only [Option.bind_some, unqI]
      by_cases hp : plainB c = true
      · rw [if_pos hp, if_pos hp, if_pos ⟨by omega, by omega⟩, if_pos (by rw [bI_len]; omega), if_pos ⟨by omega, by omega⟩, bI_snoc]
        have e := L_ext' s 1
        rw [hL] at e
        rw [ih k (by omega) (s.extract 1 s.size) (acc ++ [c]) (by rw [e]; simpa using by omega) (by rw [e]; simp; omega), e]
        simp only [List.drop_succ_cons, List.drop_zero]
        cases unqI k r <;> simp
      · rw [if_neg hp, if_neg hp, if_pos ⟨by omega, by omega⟩]
        have bad : ∀ x : Int, lex_Unquote_l14 s x 0 (bI acc) = some ((strB [], 4, ()), ()) := fun x => by rw [lex_Unquote_l14_eq, if_pos (eT rfl)]
        by_cases hc : c = 92
        · subst hc
          rw [if_pos (by decide), if_pos rfl, lex_escape_b s 92 r hL]
          simp only [Option.bind_some]
          cases he : escV r with
          | none => exact bad 0
          | some p =>
            obtain ⟨b, n⟩ := p
            have hn := escV_len he
            simp only
            rw [lex_Unquote_l14_eq, if_neg (eF (by omega)), if_pos (by rw [bI_len]; omega), if_pos ⟨by omega, by omega⟩, bI_snoc, Int.toNat_natCast]
            have e := L_ext' s n
            rw [hL, show n = (n - 1) + 1 by omega, List.drop_succ_cons] at e
            rw [show n - 1 + 1 = n by omega] at e
            rw [ih k (by omega) (s.extract n s.size) (acc ++ [b]) (by rw [e, List.length_drop]; omega) (by rw [e, List.length_drop]; simp; omega), e]
            cases unqI k (r.drop (n - 1)) <;> simp
        · rw [if_neg (show ¬ ((c.toNat : Int) == 92) = true from byte_ne hc), if_neg hc]
          exact bad 0

theorem lex_Unquote_b (s : ByteArray) (hs : s.size ≤ 1099511627776) : lex_Unquote s = some ((match unqV (L s) with
    | some o => (strB o, 0, ())
    | none => (strB [], 4, ())), ()) := by
  unfold lex_Unquote
  match hL : L s with
  | [] =>
    have hl := size_of hL
    simp only [List.length_nil] at hl
    rw [if_pos (dT (by omega))]; rfl
  | [c] =>
    have hl := size_of hL
    simp only [List.length_cons, List.length_nil] at hl
    rw [if_pos (dT (by omega))]
    by_cases h : c = 34
    · subst h; rfl
    · have : unqV [c] = none := by
        unfold unqV
        split
        · rename_i e; cases e; exact absurd rfl h
        · rfl
      rw [this]
  | c :: d :: r =>
    have hl := size_of hL
    simp only [List.length_cons] at hl
    rw [if_neg (dF (by omega)), if_pos ⟨by omega, by omega⟩, bt_cons hL]
    by_cases h : c = 34
    · subst h
      rw [if_neg (by decide)]
      have e1 : IntKind.i64.wrap ((s.size : Int) - 1) = ((r.length + 1 : Nat) : Int) := by rw [w64 (by omega) (by omega)]; omega
      rw [e1, if_pos ⟨by omega, by omega⟩]
      obtain ⟨i, z, hi⟩ : ∃ i z, d :: r = i ++ [z] := ⟨(d :: r).dropLast, (d :: r).getLast (by simp), (List.dropLast_concat_getLast (by simp)).symm⟩
      have hil : i.length = r.length := by
        have := congrArg List.length hi
        simp at this
        omega
      have hz : bt s ((r.length + 1 : Nat) : Int) = (z.toNat : Int) := bt_at (i := r.length + 1) (r := []) (by rw [hL, hi, List.drop_succ_cons, ← hil]; simp) _ rfl
      rw [hz]
      unfold unqV
      simp only
      rw [hi, List.getLast?_concat, List.dropLast_concat]
      by_cases h2 : z = 34
      · subst h2
        rw [if_neg (by decide), if_pos rfl, if_pos ⟨by omega, by omega, by omega⟩, Int.toNat_natCast]
        have e2 : L (s.extract 1 (r.length + 1)) = i := by
          rw [L_ext, hL, hi, ← hil]
          simp
        have := lex_Unquote_loop (i ++ [34]).length (s.extract 1 (r.length + 1)) [] (by rw [e2]; simp) (by rw [e2]; simp; omega)
        rw [e2] at this
        simp only [List.nil_append] at this
        exact this
      · rw [if_pos (show ((z.toNat : Int) != 34) = true from byte_bne h2), if_neg (by simpa using h2)]
    · rw [if_pos (show ((c.toNat : Int) != 34) = true from byte_bne h)]
      have : unqV (c :: d :: r) = none := by
        unfold unqV
        split
        · rename_i e; cases e; exact absurd rfl h
        · rfl
      rw [this]

end Go.Proofs.YtjgjbdnjjepibaaDoor
end

section
/-
YtjgjbdnjjepibaaDoor: the plain functions of tokens come to what they should. No condition.
-/
set_option maxRecDepth 100000
open Go Go.AM
namespace Go.Proofs.YtjgjbdnjjepibaaDoor

theorem lex_words_loop (s : ByteArray) (hs : s.size ≤ 1099511627776) : ∀ (r : List UInt8) (n : Nat), (L s).drop n = r → n ≤ s.size → lex_words_l3 s n = some ((((n + (r.takeWhile wordB).length : Nat) : Int), ()), ())
  | [], n, h, hn => by
    have := drop_nil h
    rw [L_len] at this
    rw [lex_words_l3_eq, if_neg (dF (by omega))]
    rfl
  | c :: r, n, h, hn => by
    have h1 := drop_lt h
    rw [L_len] at h1
    rw [lex_words_l3_eq, if_pos (dT (by omega)), if_pos ⟨by omega, by omega⟩, bt_drop h, w32c, lex_word_b]
    simp only [Option.bind_some, List.takeWhile_cons]
    cases hw : wordB c
    · simp
    · rw [if_pos rfl, w64a n (by omega), lex_words_loop s hs r (n + 1) (drop_succ h) (by omega)]
      simp only [if_true, List.length_cons]
      rw [show n + 1 + (r.takeWhile wordB).length = n + ((r.takeWhile wordB).length + 1) by omega]

theorem lex_words_b (s : ByteArray) (hs : s.size ≤ 1099511627776) : lex_words s = some (((((L s).takeWhile wordB).length : Int), ()), ()) := by
  have := lex_words_loop s hs (L s) 0 rfl (by omega)
  rw [Nat.zero_add] at this
  exact this

theorem lex_quoted_loop (s : ByteArray) (hs : s.size ≤ 1099511627776) : ∀ (k : Nat) (r : List UInt8) (i : Nat), (L s).drop i = r → r.length ≤ k → i ≤ s.size + 2 → lex_quoted_l3 s i = some ((match scanQ r with
    | some m => ((i + m + 1 : Nat) : Int)
    | none => 0, ()), ()) := by
  intro k
  induction k using Nat.strongRecOn with
  | _ k ih =>
    intro r i hr hk hi
    rw [lex_quoted_l3_eq]
    cases r with
    | nil =>
      have := drop_nil hr
      rw [L_len] at this
      rw [if_neg (dF (by omega))]; rfl
    | cons c r =>
      have h1 := drop_lt hr
      rw [L_len] at h1
      simp only [List.length_cons] at hk
      rw [if_pos (dT (by omega)), if_pos ⟨by omega, by omega⟩, bt_drop hr, scanQ_cons, w64a i (by omega)]
      have d1 := drop_succ hr
      by_cases g1 : c = 34
      · subst g1
        rw [if_pos (by decide), if_pos rfl]
      · rw [if_neg (show ¬ ((c.toNat : Int) == 34) = true from byte_ne g1), if_neg g1]
        by_cases g2 : c = 92
        · subst g2
          rw [if_pos (by decide), if_pos rfl, w64a (i + 1) (by omega)]
          cases r with
          | nil =>
            have := drop_nil d1
            rw [L_len] at this
            exact ih (k - 1) (by omega) [] (i + 1 + 1) (by rw [List.drop_of_length_le]; rw [L_len]; omega) (by simp) (by omega)
          | cons d r =>
            simp only [List.length_cons] at hk
            dsimp only
            rw [ih (k - 1) (by omega) r (i + 1 + 1) (drop_succ d1) (by omega) (by omega)]
            cases scanQ r with
            | none => rfl
            | some m => simp only [Option.map_some]; rw [show i + 1 + 1 + m + 1 = i + (m + 2) + 1 by omega]
        · rw [if_neg (show ¬ ((c.toNat : Int) == 92) = true from byte_ne g2), if_neg g2, ih (k - 1) (by omega) r (i + 1) d1 (by omega) (by omega)]
          cases scanQ r with
          | none => rfl
          | some m => simp only [Option.map_some]; rw [show i + 1 + m + 1 = i + (m + 1) + 1 by omega]

theorem or_if (b x : Bool) : (if b = true then some ((true, ()), ()) else some ((x, ()), ())) = some ((b || x, ()), ()) := by cases b <;> rfl

theorem lex_mark_b (c : UInt8) : lex_mark c.toNat = some ((markB c, ()), ()) := by
  unfold lex_mark markB marks
  simp only [or_if]
  simp only [show ((c.toNat : Int) == 40) = (c == 40) from int_beq c 40, show ((c.toNat : Int) == 41) = (c == 41) from int_beq c 41, show ((c.toNat : Int) == 91) = (c == 91) from int_beq c 91, show ((c.toNat : Int) == 93) = (c == 93) from int_beq c 93,
    show ((c.toNat : Int) == 123) = (c == 123) from int_beq c 123, show ((c.toNat : Int) == 125) = (c == 125) from int_beq c 125, show ((c.toNat : Int) == 60) = (c == 60) from int_beq c 60, show ((c.toNat : Int) == 62) = (c == 62) from int_beq c 62,
    show ((c.toNat : Int) == 61) = (c == 61) from int_beq c 61, show ((c.toNat : Int) == 44) = (c == 44) from int_beq c 44, show ((c.toNat : Int) == 59) = (c == 59) from int_beq c 59, show ((c.toNat : Int) == 58) = (c == 58) from int_beq c 58,
    show ((c.toNat : Int) == 46) = (c == 46) from int_beq c 46, show ((c.toNat : Int) == 47) = (c == 47) from int_beq c 47, show ((c.toNat : Int) == 42) = (c == 42) from int_beq c 42, show ((c.toNat : Int) == 43) = (c == 43) from int_beq c 43,
    show ((c.toNat : Int) == 33) = (c == 33) from int_beq c 33, show ((c.toNat : Int) == 38) = (c == 38) from int_beq c 38, show ((c.toNat : Int) == 124) = (c == 124) from int_beq c 124, List.contains_cons, List.contains_nil]

theorem takeWhile_le (p : UInt8 → Bool) (l : List UInt8) : (l.takeWhile p).length ≤ l.length := (List.takeWhile_sublist p).length_le

theorem takeV_len {c : UInt8} {r : List UInt8} {t : Int × List UInt8 × Int} {n : Nat} (h : takeV (c :: r) = .ok (t, n)) : 1 ≤ n ∧ n ≤ r.length + 1 := by
  simp only [takeV] at h
  split at h
  · rename_i hc
    split at h
    · cases h
      have hw : wordB c = true := by simp [wordB, hc]
      rw [List.takeWhile_cons, if_pos hw]
      have := takeWhile_le wordB r
      simp only [List.length_cons]
      omega
    · cases h
  · split at h
    · split at h
      · cases h
        have := takeWhile_le wordB r
        omega
      · cases h
    · split at h
      · split at h
        · rename_i o rest hu
          cases h
          rw [unqL_scan _ _ (Nat.le_refl _)] at hu
          split at hu
          · cases hu
          · rename_i m hs
            have := scanQ_lt _ _ (Nat.le_refl _) m hs
            cases hi : unqI r.length (r.take m) with
            | none => rw [hi] at hu; cases hu
            | some o' =>
              rw [hi] at hu
              cases hu
              simp only [List.length_cons, List.length_drop]
              omega
        · cases h
      · split at h
        · cases h; omega
        · cases h

theorem numV_err (l : List UInt8) : (numV l).2 = 0 ∨ (numV l).2 = 4 ∨ (numV l).2 = 2 := by
  have key : ∀ b o, (numN b o).2 = 0 ∨ (numN b o).2 = 4 ∨ (numN b o).2 = 2 := by
    intro b o
    unfold numN
    split
    · simp
    · split
      · simp
      · split <;> simp
  unfold numV
  split <;> exact key _ _

theorem takeV_err {l : List UInt8} {e : Int} (h : takeV l = .error e) : e ≠ 0 := by
  cases l with
  | nil => cases h; decide
  | cons c r =>
    simp only [takeV] at h
    split at h
    · split at h
      · cases h
      · cases h; decide
    · split at h
      · split at h
        · cases h
        · rename_i hv
          cases h
          exact hv
      · split at h
        · split at h
          · cases h
          · cases h; decide
        · split at h
          · cases h
          · cases h; decide

/-- Numbers, as both functions take them. -/
theorem lex_take_num (s : ByteArray) (hs : s.size ≤ 1099511627776) (c : UInt8) (r : List UInt8) (hL : L s = c :: r) : (if 0 ≤ (1 : Int) ∧ 1 ≤ (s.size : Int) then
      (lex_words (s.extract 1 s.size)).bind fun y5 =>
        if 0 ≤ (0 : Int) ∧ (0 : Int) ≤ IntKind.i64.wrap (1 + y5.1.1) ∧ IntKind.i64.wrap (1 + y5.1.1) ≤ (s.size : Int) then
          (lex_Number (s.extract 0 (IntKind.i64.wrap (1 + y5.1.1)).toNat)).bind fun y6 =>
            if 0 ≤ (0 : Int) ∧ (0 : Int) ≤ IntKind.i64.wrap (1 + y5.1.1) ∧ IntKind.i64.wrap (1 + y5.1.1) ≤ (s.size : Int) then
              some ((((2 : Int), s.extract 0 (IntKind.i64.wrap (1 + y5.1.1)).toNat, y6.1.1, (0 : Int)), IntKind.i64.wrap (1 + y5.1.1), y6.1.2.1, ()), ())
            else
              none
        else
          none
    else
      none) = some (((2, strB ((c :: r).take (1 + (r.takeWhile wordB).length)), (numV ((c :: r).take (1 + (r.takeWhile wordB).length))).1, 0), ((1 + (r.takeWhile wordB).length : Nat) : Int), (numV ((c :: r).take (1 + (r.takeWhile wordB).length))).2, ()), ()) := by
  have hl := size_of hL
  simp only [List.length_cons] at hl
  have e := L_ext' s 1
  rw [hL, List.drop_succ_cons, List.drop_zero] at e
  have hw := takeWhile_le wordB r
  rw [if_pos ⟨by omega, by omega⟩, lex_words_b _ (by rw [size_drop]; omega), e]
  simp only [Option.bind_some]
  rw [show (1 : Int) + ((r.takeWhile wordB).length : Int) = (((1 + (r.takeWhile wordB).length : Nat)) : Int) by omega, w64 (by omega) (by omega), Int.toNat_natCast]
  rw [if_pos ⟨by omega, by omega, by omega⟩]
  have e2 : s.extract 0 (1 + (r.takeWhile wordB).length) = strB ((c :: r).take (1 + (r.takeWhile wordB).length)) := L_inj (by rw [L_take, hL, L_strB])
  rw [e2, lex_Number_b _ (by rw [strB_size, List.length_take]; simp only [List.length_cons]; omega), L_strB]
  simp only [Option.bind_some]
  rw [if_pos ⟨by omega, by omega, by omega⟩]

/-- What a function that takes a token comes to. -/
def TakeOk (line : Int) (i : Nat) (o : Option ((TToken × Int × Int × Unit) × Unit)) (v : Except Int ((Int × List UInt8 × Int) × Nat)) : Prop := match v with
  | .ok (t, n) => o = some (((t.1, strB t.2.1, t.2.2, line), ((i + n : Nat) : Int), 0, ()), ())
  | .error e => ∃ x n, o = some ((x, n, e, ()), ())

theorem take_ok {line : Int} {i n : Nat} {t : Int × List UInt8 × Int} {o : Option ((TToken × Int × Int × Unit) × Unit)} (h : o = some (((t.1, strB t.2.1, t.2.2, line), ((i + n : Nat) : Int), 0, ()), ())) : TakeOk line i o (.ok (t, n)) := h
theorem take_err {line : Int} {i : Nat} {e : Int} {x : TToken} {n : Int} : TakeOk line i (some ((x, n, e, ()), ())) (.error e) := ⟨x, n, rfl⟩

theorem lex_take_b (s : ByteArray) (hs : s.size ≤ 1099511627776) (c : UInt8) (r : List UInt8) (hL : L s = c :: r) : TakeOk 0 0 (lex_take s) (takeV (c :: r)) := by
  have hl := size_of hL
  simp only [List.length_cons] at hl
  unfold lex_take
  rw [if_pos ⟨by omega, by omega⟩, bt_cons hL, w32c, lex_letter_b, lex_digit_b]
  simp only [Option.bind_some]
  rw [lex_take_num s hs c r hL]
  simp only [takeV]
  by_cases h1 : letterB c = true
  · rw [if_pos h1, if_pos h1]
    have hw : ((c :: r).takeWhile wordB).length ≤ r.length + 1 := takeWhile_le wordB (c :: r)
    rw [lex_words_b s hs, hL]
    simp only [Option.bind_some, Int.toNat_natCast]
    rw [if_pos ⟨by omega, by omega, by omega⟩, if_pos ⟨by omega, by omega, by omega⟩]
    have e2 : s.extract 0 ((c :: r).takeWhile wordB).length = strB ((c :: r).take ((c :: r).takeWhile wordB).length) := L_inj (by rw [L_take, hL, L_strB])
    rw [e2, lex_Name_b, L_strB]
    simp only [Option.bind_some]
    cases hn : nameB ((c :: r).take ((c :: r).takeWhile wordB).length)
    · exact take_err
    · exact take_ok (by rw [Nat.zero_add]; rfl)
  · rw [if_neg h1, if_neg h1]
    by_cases h2 : digitB c = true ∨ c = 45
    · have e3 : ∀ (x y : Option ((TToken × Int × Int × Unit) × Unit)), (if digitB c = true then x else if ((c.toNat : Int) == 45) = true then x else y) = x := by
        intro x y
        rcases h2 with h2 | h2
        · rw [if_pos h2]
        · subst h2
          rw [if_neg (by decide), if_pos (by decide)]
      rw [e3, if_pos h2]
      by_cases hv : (numV ((c :: r).take (1 + (r.takeWhile wordB).length))).2 = 0
      · rw [if_pos hv, hv]
        exact take_ok (by rw [Nat.zero_add])
      · rw [if_neg hv]
        exact take_err
    · rw [if_neg (fun q => h2 (.inl q)), if_neg (show ¬ ((c.toNat : Int) == 45) = true from byte_ne (fun q => h2 (.inr q))), if_neg h2]
      by_cases h3 : c = 34
      · subst h3
        rw [if_pos (by decide), if_pos rfl]
        have hq := lex_quoted_loop s hs r.length r 1 (by rw [hL]; rfl) (Nat.le_refl _) (by omega)
        unfold lex_quoted
        rw [show (1 : Int) = ((1 : Nat) : Int) from rfl, hq, unqL_scan r.length r (Nat.le_refl _)]
        simp only [Option.bind_some]
        cases hsc : scanQ r with
        | none =>
          simp only
          rw [if_pos ⟨by omega, by omega, by omega⟩, lex_Unquote_b _ (by rw [size_take _ _ (by simp)]; simp), L_take]
          exact take_err
        | some m =>
          have hm := scanQ_lt _ _ (Nat.le_refl _) m hsc
          simp only [Int.toNat_natCast]
          have hm' := hm.1
          rw [if_pos ⟨by omega, by omega, by omega⟩, lex_Unquote_b _ (by rw [size_take _ _ (by omega)]; omega), L_take, hL]
          have e4 : (34 :: r).take (1 + m + 1) = 34 :: (r.take m ++ [34]) := by
            rw [show 1 + m + 1 = (m + 1) + 1 by omega, List.take_succ_cons, List.take_succ_eq_append_getElem hm', (List.getElem?_eq_some_iff.1 hm.2).2]
          rw [e4]
          have e5 : unqV (34 :: (r.take m ++ [34])) = unqI r.length (r.take m) := by
            unfold unqV
            simp only
            rw [List.getLast?_concat, if_pos rfl, List.dropLast_concat, unqI_fuel _ _ (by simp), unqI_fuel r.length _ (by rw [List.length_take]; omega)]
          rw [e5]
          cases hu : unqI r.length (r.take m) with
          | none => exact take_err
          | some o =>
            refine take_ok ?_
            simp only [Option.bind_some, Option.some.injEq, Prod.mk.injEq, and_true, true_and, List.length_cons, List.length_drop]
            omega
      · rw [if_neg (show ¬ ((c.toNat : Int) == 34) = true from byte_ne h3), if_neg h3, lex_mark_b]
        simp only [Option.bind_some]
        by_cases h4 : markB c = true
        · rw [if_pos h4, if_pos ⟨by omega, by omega, by omega⟩, if_pos h4]
          have e6 : s.extract 0 1 = strB [c] := L_inj (by rw [L_take, hL]; rfl)
          rw [e6]
          exact take_ok rfl
        · rw [if_neg h4, if_neg h4]
          exact take_err

theorem indexByte_drop : ∀ (l : List UInt8) (c : UInt8), (Lib.indexByte l c = -1 ∧ l.dropWhile (· ≠ c) = []) ∨ ∃ n : Nat, Lib.indexByte l c = n ∧ n ≤ l.length ∧ l.dropWhile (· ≠ c) = l.drop n
  | [], c => .inl ⟨rfl, rfl⟩
  | b :: l, c => by
    simp only [Lib.indexByte]
    by_cases h : b = c
    · subst h
      refine .inr ⟨0, by simp, by simp, by simp⟩
    · rw [if_neg (by simpa using h)]
      have e : (b :: l).dropWhile (· ≠ c) = l.dropWhile (· ≠ c) := by simp [List.dropWhile_cons, h]
      rw [e]
      rcases indexByte_drop l c with ⟨h1, h2⟩ | ⟨n, h1, h2, h3⟩
      · rw [h1]; exact .inl ⟨by decide, h2⟩
      · rw [h1, if_neg (by simp)]
        exact .inr ⟨n + 1, by simp, by simp; omega, by rw [h3]; rfl⟩

/-- What the loops over a text come to. -/
def tokOut (l0 : List TToken) : Except (Int × Int) (List TToken) → (List TToken × Int × Int × Unit)
  | .ok ts => (l0 ++ ts, 0, 0, ())
  | .error e => ([], e.1, e.2, ())

theorem dropWhile_le (p : UInt8 → Bool) (l : List UInt8) : (l.dropWhile p).length ≤ l.length := (List.dropWhile_sublist p).length_le

theorem lex_Tokens_loop : ∀ (k : Nat) (s : ByteArray) (line : Nat) (l0 : List TToken), (L s).length ≤ k → l0.length + (L s).length ≤ 1048576 → line + (L s).length ≤ 2097152 →
    lex_Tokens_l7 s line l0 = some (tokOut l0 (tokF k line (L s)), ()) := by
  intro k
  induction k using Nat.strongRecOn with
  | _ k ih =>
    intro s line l0 hk ha hb
    rw [lex_Tokens_l7_eq]
    cases hL : L s with
    | nil =>
      rw [if_neg (cond_nil hL)]
      have : tokF k line [] = .ok [] := by cases k <;> rfl
      rw [this]
      simp only [tokOut, List.append_nil]
    | cons c r =>
      have hl := size_of hL
      rw [hL] at hk ha hb
      simp only [List.length_cons] at hk ha hb hl
      obtain ⟨k, rfl⟩ : ∃ j, k = j + 1 := ⟨k - 1, by omega⟩
      have e1 := L_ext' s 1
      rw [hL, List.drop_succ_cons, List.drop_zero] at e1
      rw [if_pos (cond_not_nil hL), if_pos ⟨by omega, by omega⟩, bt_cons hL, tokF]
      by_cases h1 : c = 10
      · subst h1
        rw [if_pos (by decide), if_pos rfl, if_pos ⟨by omega, by omega⟩, w64a line (by omega), ih k (by omega) _ (line + 1) l0 (by rw [e1]; omega) (by rw [e1]; omega) (by rw [e1]; omega), e1]
        rfl
      · rw [if_neg (show ¬ ((c.toNat : Int) == 10) = true from byte_ne h1), if_neg h1]
        have blank : ∀ t, lex_Tokens_l15 s line t true l0 = some (tokOut l0 (tokF k line r), ()) := by
          intro t
          rw [lex_Tokens_l15_eq, if_pos rfl, if_pos ⟨by omega, by omega⟩, ih k (by omega) _ line l0 (by rw [e1]; omega) (by rw [e1]; omega) (by rw [e1]; omega), e1]
        by_cases h2 : c = 32
        · subst h2
          rw [if_pos (by decide), if_pos (.inl rfl)]
          exact blank _
        · rw [if_neg (show ¬ ((c.toNat : Int) == 32) = true from byte_ne h2)]
          by_cases h3 : c = 9
          · subst h3
            rw [show (((9 : UInt8).toNat : Int) == 9) = true from by decide, if_pos (.inr rfl)]
            exact blank _
          · rw [show ((c.toNat : Int) == 9) = false from by simpa using byte_ne h3, if_neg (by simp [h2, h3]), lex_Tokens_l15_eq, if_neg Bool.false_ne_true]
            by_cases h4 : c = 35
            · subst h4
              rw [if_pos (by decide), if_pos rfl]
              simp only [strings_IndexByte, Option.bind_some]
              rw [show (10 : Int).toNat.toUInt8 = 10 from rfl, show s.data.toList = L s from rfl, hL]
              have e2 : ((35 : UInt8) :: r).dropWhile (· ≠ 10) = r.dropWhile (· ≠ 10) := by simp [List.dropWhile_cons]
              have hdl := dropWhile_le (· ≠ 10) r
              rcases indexByte_drop (35 :: r) 10 with ⟨f1, f2⟩ | ⟨n, f1, f2, f3⟩
              · rw [f1, if_pos (by decide), if_pos ⟨by omega, by omega⟩, Int.toNat_natCast]
                have e3 := L_ext' s s.size
                rw [List.drop_of_length_le (by rw [L_len]; exact Nat.le_refl _)] at e3
                rw [ih k (by omega) _ line l0 (by rw [e3]; simp) (by rw [e3]; simp; omega) (by rw [e3]; simp; omega), e3, ← e2, f2]
              · simp only [List.length_cons] at f2
                rw [f1, if_neg (dF (by omega)), if_pos ⟨by omega, by omega⟩, Int.toNat_natCast]
                have e3 := L_ext' s n
                rw [hL, ← f3, e2] at e3
                rw [ih k (by omega) _ line l0 (by rw [e3]; omega) (by rw [e3]; omega) (by rw [e3]; omega), e3]
            · rw [if_neg (show ¬ ((c.toNat : Int) == 35) = true from byte_ne h4), if_neg h4]
              have ht := lex_take_b s (by omega) c r hL
              cases hv : takeV (c :: r) with
              | error e =>
                rw [hv] at ht
                obtain ⟨x, n, ht⟩ := ht
                rw [ht]
                simp only [Option.bind_some]
                rw [if_pos (nT (takeV_err hv))]
                rfl
              | ok p =>
                obtain ⟨t, n⟩ := p
                rw [hv] at ht
                have hn := takeV_len hv
                rw [show lex_take s = _ from ht]
                simp only [Option.bind_some]
                have e3 := L_ext' s n
                rw [hL] at e3
                have e4 : (L (s.extract n s.size)).length = r.length + 1 - n := by rw [e3, List.length_drop, List.length_cons]
                rw [if_neg (nF rfl), if_pos ⟨by omega, by omega⟩, if_pos ⟨by omega, by omega⟩, Int.toNat_natCast, Nat.zero_add,
                  ih k (by omega) _ line _ (by rw [e4]; omega) (by rw [e4, List.length_append, List.length_cons, List.length_nil]; omega) (by rw [e4]; omega), e3]
                cases tokF k line ((c :: r).drop n) with
                | error e => rfl
                | ok ts => simp only [tokOut, List.append_assoc, List.cons_append, List.nil_append]

theorem lex_Tokens_b (s : ByteArray) : lex_Tokens s = some (tokOut [] (tokV (L s)), ()) := by
  unfold lex_Tokens tokV
  rw [L_len]
  by_cases h : s.size > 1048576
  · rw [if_pos (dT (by omega)), if_pos h]; rfl
  · rw [if_neg (dF (by omega)), if_neg h]
    exact lex_Tokens_loop s.size s 1 [] (by rw [L_len]; exact Nat.le_refl _) (by rw [L_len]; simp; omega) (by rw [L_len]; omega)

end Go.Proofs.YtjgjbdnjjepibaaDoor
end

section
/-
YtjgjbdnjjepibaaDoor: the laws of tokens, numbers and quoted strings, as plain functions, come to true. No condition.
-/
set_option maxRecDepth 100000
open Go Go.AM
namespace Go.Proofs.YtjgjbdnjjepibaaDoor

theorem awake_tokens : tokV [97, 50, 32, 61, 32, 45, 48, 120, 49, 102, 59, 32, 35, 32, 101, 110, 100] = .ok [(1, strB [97, 50], 0, 1), (4, strB [61], 0, 1), (2, strB [45, 48, 120, 49, 102], (-31), 1), (4, strB [59], 0, 1)] := by kernel_rfl

theorem tokF_length : ∀ (k : Nat) (line : Int) (l : List UInt8) (ts : List TToken), tokF k line l = .ok ts → ts.length ≤ l.length := by
  intro k
  induction k with
  | zero => intro line l ts h; cases l <;> cases h <;> simp
  | succ k ih =>
    intro line l ts h
    cases l with
    | nil => cases h; simp
    | cons c r =>
      rw [tokF] at h
      split at h
      · have := ih _ _ _ h; simp only [List.length_cons]; omega
      · split at h
        · have := ih _ _ _ h; simp only [List.length_cons]; omega
        · split at h
          · have := ih _ _ _ h
            have := dropWhile_le (· ≠ 10) r
            simp only [List.length_cons]; omega
          · split at h
            · cases h
            · rename_i t n hv
              have hn := takeV_len hv
              split at h
              · rename_i ts' ht
                cases h
                have := ih _ _ _ ht
                rw [List.length_drop] at this
                simp only [List.length_cons] at this ⊢
                omega
              · cases h

theorem tokOut_length (s : ByteArray) : (tokOut [] (tokV (L s))).1.length ≤ 1048576 := by
  unfold tokV
  split
  · simp [tokOut]
  · cases h : tokF (L s).length 1 (L s) with
    | ok ts =>
      have := tokF_length _ _ _ _ h
      simp only [tokOut, List.nil_append]
      omega
    | error e => simp [tokOut]

end Go.Proofs.YtjgjbdnjjepibaaDoor
end

section
/-
YtjgjbdnjjepibaaDoor: quoting, as plain functions, comes to what the plain law says; quoted strings are read back. No condition.
-/
set_option maxRecDepth 100000
set_option linter.unusedVariables false
open Go Go.AM
namespace Go.Proofs.YtjgjbdnjjepibaaDoor

theorem writeByte_b (c : Int) (l : List Int) (h : l.length ≤ 1099511627776) : strings_Builder_WriteByte c l = some (((), ()), (((), (), ()), (), l ++ [c], ())) := by
  unfold strings_Builder_WriteByte strings_Builder_copyCheck
  simp only [Option.bind_some]
  rw [if_pos ⟨by omega, by decide⟩]

theorem writeString_b (s : ByteArray) (l : List Int) (h : l.length + s.size ≤ 1099511627776) : strings_Builder_WriteString s l = some (((s.size : Int), (), ()), (((), (), ()), (), l ++ bytesOfStr s, ())) := by
  have e : (bytesOfStr s).length = s.size := by unfold bytesOfStr; rw [List.length_map]; exact Array.length_toList
  unfold strings_Builder_WriteString strings_Builder_copyCheck
  simp only [Option.bind_some]
  rw [if_pos ⟨by rw [e]; omega, by decide⟩]

theorem byteL_bI (l : List UInt8) : byteL (bI l) = true := by
  unfold byteL bI
  rw [List.all_eq_true]
  intro x hx
  obtain ⟨c, _, rfl⟩ := List.mem_map.1 hx
  have := c.toNat_lt
  exact decide_eq_true (by omega)

theorem string_b (l : List UInt8) : strings_Builder_String (bI l) = some ((strB l, ()), ((), (), ())) := by
  unfold strings_Builder_String
  rw [if_pos (byteL_bI l), strOf_bI]

theorem lex_Quote_loop (s : ByteArray) (hs : s.size ≤ 4294967296) : ∀ (r : List UInt8) (n : Nat) (acc : List UInt8), (L s).drop n = r → acc.length ≤ 4 * n + 1 → n ≤ s.size → lex_Quote_l5 s s.size n (bI acc) = some ((strB (acc ++ (quoteL r ++ [34])), ()), ())
  | [], n, acc, h, ha, hn => by
    have h1 := drop_nil h
    rw [L_len] at h1
    rw [lex_Quote_l5_eq, if_neg (dF (by omega)), writeByte_b _ _ (by rw [bI_len]; omega)]
    simp only [Option.bind_some]
    rw [show bI acc ++ [34] = bI (acc ++ [34]) from bI_snoc acc 34, string_b]
    rfl
  | c :: r, n, acc, h, ha, hn => by
    have h1 := drop_lt h
    rw [L_len] at h1
    have hc := c.toNat_lt
    have ih : ∀ q : List UInt8, q = quoteC c → lex_Quote_l5 s s.size (n + 1 : Nat) (bI (acc ++ q)) = some ((strB (acc ++ (quoteL (c :: r) ++ [34])), ()), ()) := fun q hq => by
      have hl := quoteC_len c
      rw [lex_Quote_loop s hs r (n + 1) (acc ++ q) (dropS h) (by rw [List.length_append, hq]; omega) (by omega), hq, quoteL_cons]
      simp [List.append_assoc]
    rw [lex_Quote_l5_eq, if_pos (dT (by omega)), if_pos ⟨by omega, by omega⟩, bt_drop h, w32c, lex_plain_b, w64a n (by omega)]
    simp only [Option.bind_some]
    by_cases hp : plainB c = true
    · rw [if_pos hp, writeByte_b _ _ (by rw [bI_len]; omega)]
      simp only [Option.bind_some]
      rw [bI_snoc]
      exact ih [c] (by unfold quoteC; rw [if_pos hp])
    · rw [if_neg hp]
      have two : ∀ k : Nat, k ≤ 4 → (bI acc).length + k ≤ 1099511627776 := fun k hk => by rw [bI_len]; omega
      by_cases h34 : c = 34
      · subst h34
        rw [if_pos (by decide), writeByte_b _ _ (by have := two 0 (by omega); omega)]
        simp only [Option.bind_some]
        rw [writeByte_b _ _ (by rw [List.length_append]; have := two 1 (by omega); simp only [List.length_cons, List.length_nil]; omega)]
        simp only [Option.bind_some]
        have := ih [92, 34] rfl
        rw [← bI_app, show bI [92, 34] = [(92 : Int)] ++ [(34 : Int)] from rfl, ← List.append_assoc] at this
        exact this
      rw [if_neg (show ¬ ((c.toNat : Int) == 34) = true from byte_ne h34)]
      by_cases h92 : c = 92
      · subst h92
        rw [if_pos (by decide), writeByte_b _ _ (by have := two 0 (by omega); omega)]
        simp only [Option.bind_some]
        rw [writeByte_b _ _ (by rw [List.length_append]; have := two 1 (by omega); simp only [List.length_cons, List.length_nil]; omega)]
        simp only [Option.bind_some]
        have := ih [92, 92] rfl
        rw [← bI_app, show bI [92, 92] = [(92 : Int)] ++ [(92 : Int)] from rfl, ← List.append_assoc] at this
        exact this
      rw [if_neg (show ¬ ((c.toNat : Int) == 92) = true from byte_ne h92)]
      by_cases h10 : c = 10
      · subst h10
        rw [if_pos (by decide), writeString_b _ _ (two 2 (by omega))]
        simp only [Option.bind_some]
        have := ih [92, 110] rfl
        rw [← bI_app] at this
        exact this
      rw [if_neg (show ¬ ((c.toNat : Int) == 10) = true from byte_ne h10), writeString_b _ _ (two 2 (by omega))]
      simp only [Option.bind_some]
      obtain ⟨a1, a2, a3⟩ := dig_hi c.toNat hc
      obtain ⟨b1, b2, b3⟩ := dig_lo c.toNat hc
      have e2 : (bytesOfStr (strB [92, 120])) = [92, 120] := rfl
      rw [if_pos ⟨a1, a2⟩, e2, writeByte_b _ _ (by rw [List.length_append]; have := two 2 (by omega); simp only [List.length_cons, List.length_nil]; omega)]
      simp only [Option.bind_some]
      rw [if_pos ⟨b1, b2⟩, writeByte_b _ _ (by simp only [List.length_append, List.length_cons, List.length_nil]; have := two 3 (by omega); omega)]
      simp only [Option.bind_some]
      have := ih [92, 120, hexD (c.toNat / 16), hexD (c.toNat % 16)] (by unfold quoteC; rw [if_neg hp, if_neg (by simp [h34, h92]), if_neg h10])
      rw [← bI_app] at this
      have e3 : bI acc ++ [92, 120] ++ [bt digsB ((c.toNat : Int).fdiv 16)] ++ [bt digsB (IntKind.u8.wrap (BitVec.ofInt 8 (c.toNat : Int) &&& BitVec.ofInt 8 15).toNat)] = bI acc ++ bI [92, 120, hexD (c.toNat / 16), hexD (c.toNat % 16)] := by
        rw [a3, b3]
        simp [bI]
      rw [← e3] at this
      exact this

theorem lex_Quote_b (s : ByteArray) (hs : s.size ≤ 4294967296) : lex_Quote s = some ((strB (quoteV (L s)), ()), ()) := by
  unfold lex_Quote
  rw [writeByte_b _ _ (by simp)]
  simp only [Option.bind_some]
  exact lex_Quote_loop s hs (L s) 0 [34] rfl (by simp) (by omega)

end Go.Proofs.YtjgjbdnjjepibaaDoor
end

section
/-
YtjgjbdnjjepibaaDoor: the text of tokens, as plain functions, comes to what the plain law says. No condition.
-/
set_option maxRecDepth 100000
set_option linter.unusedVariables false
open Go Go.AM
namespace Go.Proofs.YtjgjbdnjjepibaaDoor

theorem strB_L (s : ByteArray) : strB (L s) = s := L_inj (L_strB _)
theorem strB_app (a b : List UInt8) : strB a ++ strB b = strB (a ++ b) := L_inj (by rw [L_app]; rfl)
theorem beq_dec (x y : Int) : (x == y) = decide (x = y) := by rw [Bool.eq_iff_iff]; simp
theorem bytesOf_strB (l : List UInt8) : bytesOfStr (strB l) = bI l := rfl

theorem itoa_b (n : Int) (h : -9223372036854775808 ≤ n ∧ n ≤ 9223372036854775807) : strconv_Itoa n = some ((strB (Lib.itoa n), ()), ()) := by
  unfold strconv_Itoa itoaG
  rw [if_pos h]
  rfl

theorem lex_form_b (t : TToken) (hs : t.2.1.size ≤ 1048576) (hv : -9223372036854775808 ≤ t.2.2.1 ∧ t.2.2.1 ≤ 9223372036854775807) : ∃ s, lex_form t = some ((s, formOk t, ()), ()) ∧ (formOk t = true → s = strB (formB t)) := by
  unfold lex_form formOk formB
  by_cases h1 : t.1 = 1
  · have e2 : ¬ t.1 = 2 := by omega
    have e3 : ¬ t.1 = 3 := by omega
    rw [if_pos (eT h1), if_pos h1, if_neg e2, if_neg e3, lex_Name_b, beq_dec]
    simp only [Option.bind_some]
    refine ⟨t.2.1, ?_, fun _ => (strB_L _).symm⟩
    cases nameB (L t.2.1) <;> simp
  rw [if_neg (eF h1), if_neg h1]
  by_cases h2 : t.1 = 2
  · rw [if_pos (eT h2), if_pos h2, if_pos h2, lex_Number_b _ (by omega), itoa_b _ hv]
    simp only [Option.bind_some, beq_dec]
    refine ⟨strB (Lib.itoa t.2.2.1), ?_, fun _ => rfl⟩
    by_cases he : (numV (L t.2.1)).2 = 0
    · rw [if_pos (by simpa using he)]; simp [he]
    · rw [if_neg (by simpa using he)]; simp [he]
  rw [if_neg (eF h2), if_neg h2, if_neg h2]
  by_cases h3 : t.1 = 3
  · rw [if_pos (eT h3), if_pos h3, if_pos h3, lex_Quote_b _ (by omega), beq_dec]
    simp only [Option.bind_some]
    exact ⟨_, rfl, fun _ => rfl⟩
  rw [if_neg (eF h3), if_neg h3, if_neg h3]
  by_cases h4 : t.1 = 4
  · rw [if_pos (eT h4), if_pos h4]
    refine ⟨t.2.1, ?_, fun _ => (strB_L _).symm⟩
    by_cases hz : (t.2.1.size : Int) = 1
    · rw [if_pos (eT hz), if_pos ⟨by omega, by omega⟩]
      have hl : (L t.2.1).length = 1 := by rw [L_len]; omega
      obtain ⟨c, hc⟩ : ∃ c, L t.2.1 = [c] := by
        match L t.2.1, hl with
        | [c], _ => exact ⟨c, rfl⟩
      rw [bt_at (i := 0) (c := c) (r := []) (by rw [hc]; rfl) 0 rfl, w32c, lex_mark_b, hc, beq_dec]
      simp only [Option.bind_some, markL]
      cases markB c <;> simp
    · rw [if_neg (eF hz)]
      have hm : markL (L t.2.1) = false := by
        have hl : (L t.2.1).length ≠ 1 := by rw [L_len]; omega
        match L t.2.1, hl with
        | [], _ => rfl
        | [c], hl => exact absurd rfl hl
        | _ :: _ :: _, _ => rfl
      rw [hm]
      simp
  rw [if_neg (eF h4), if_neg h4]
  exact ⟨strB [], rfl, fun h => by cases h⟩

theorem digit_b : ∀ d : Nat, d < 10 → (strB [48, 49, 50, 51, 52, 53, 54, 55, 56, 57]).extract d (d + 1) = strB [UInt8.ofNat (48 + d)]
  | 0, _ => by kernel_rfl
  | 1, _ => by kernel_rfl
  | 2, _ => by kernel_rfl
  | 3, _ => by kernel_rfl
  | 4, _ => by kernel_rfl
  | 5, _ => by kernel_rfl
  | 6, _ => by kernel_rfl
  | 7, _ => by kernel_rfl
  | 8, _ => by kernel_rfl
  | 9, _ => by kernel_rfl
  | n + 10, h => by omega

def okTok (t : TToken) : Prop := t.2.1.size ≤ 1048576 ∧ -9223372036854775808 ≤ t.2.2.1 ∧ t.2.2.1 ≤ 9223372036854775807

theorem len_b (l : List Int) : strings_Builder_Len l = some (((l.length : Int), ()), (((), (), ()), (), l, ())) := rfl

theorem lex_Text_loop (l : List TToken) (hl : l.length ≤ 1048576) (ho : ∀ t ∈ l, okTok t) : ∀ (r : List TToken) (n : Nat) (acc : List UInt8), l.drop n = r → acc.length + (r.map wt).sum ≤ 1073741824 →
    lex_Text_l4 l (l.length : Int) n (bI acc) = some (if r.all formOk = true then (if 1048576 < (acc ++ joinB (decide (n = 0)) r).length then (strB [], 6, ()) else (strB (acc ++ joinB (decide (n = 0)) r), 0, ())) else (strB [], 1, ()), ())
  | [], n, acc, h, ha => by
    have h1 := drop_nil h
    have hj : ∀ b, joinB b [] = [] := fun b => by cases b <;> rfl
    rw [lex_Text_l4_eq, if_neg (dF (by omega)), len_b, hj, List.append_nil]
    simp only [Option.bind_some, List.all_nil, if_true]
    by_cases hx : 1048576 < acc.length
    · rw [if_pos (dT (by rw [bI_len]; omega)), if_pos hx]
    · rw [if_neg (dF (by rw [bI_len]; omega)), if_neg hx, string_b]
      rfl
  | t :: r, n, acc, h, ha => by
    have h1 := drop_lt h
    have hg : l.getD (n : Int).toNat dToken = t := getD_drop h
    have ht := ho t (mem_drop h)
    obtain ⟨s, e1, e2⟩ := lex_form_b t ht.1 ht.2
    simp only [List.map_cons, List.sum_cons] at ha
    rw [lex_Text_l4_eq, if_pos (dT (by omega)), if_pos ⟨by omega, by omega⟩, hg, e1, w64a n (by omega)]
    simp only [Option.bind_some]
    by_cases hf : formOk t = true
    · have hs := e2 hf
      have hlen := formB_len hf
      subst hs
      refine (if_neg (by simp [hf])).trans ?_
      rw [show (t :: r).all formOk = r.all formOk by simp [hf]]
      have ih : ∀ p : List UInt8, p.length ≤ wt t → lex_Text_l4 l (l.length : Int) (n + 1 : Nat) (bI acc ++ bI p) = some (if r.all formOk = true then (if 1048576 < (acc ++ (p ++ joinB false r)).length then (strB [], 6, ()) else (strB (acc ++ (p ++ joinB false r)), 0, ())) else (strB [], 1, ()), ()) := fun p hp => by
        rw [bI_app, ← List.append_assoc]
        exact lex_Text_loop l hl ho r (n + 1) (acc ++ p) (dropS h) (by rw [List.length_append]; omega)
      by_cases hn : n = 0
      · subst hn
        rw [if_neg (dF (by omega)), writeString_b _ _ (by rw [bI_len, strB_size]; omega)]
        simp only [Option.bind_some]
        rw [bytesOf_strB]
        exact ih (formB t) (by omega)
      · rw [if_pos (dT (by omega)), writeByte_b _ _ (by rw [bI_len]; omega)]
        simp only [Option.bind_some]
        rw [writeString_b _ _ (by rw [List.length_append, bI_len, strB_size]; simp only [List.length_cons, List.length_nil]; omega)]
        simp only [Option.bind_some]
        rw [bytesOf_strB]
        have := ih (32 :: formB t) (by simp only [List.length_cons]; omega)
        rw [show bI (32 :: formB t) = [(32 : Int)] ++ bI (formB t) from rfl, ← List.append_assoc] at this
        rw [show joinB (decide (n = 0)) (t :: r) = 32 :: formB t ++ joinB false r by rw [decide_eq_false hn]; rfl]
        exact this
    · refine (if_pos (by simpa using hf)).trans ?_
      rw [show (t :: r).all formOk = false by simp [hf]]
      simp

theorem lex_Text_b (l : List TToken) (hl : l.length ≤ 1048576) (ho : ∀ t ∈ l, okTok t) (hw : (l.map wt).sum ≤ 1073741824) : lex_Text l = some ((strB (textV l).1, (textV l).2, ()), ()) := by
  unfold lex_Text textV
  refine (lex_Text_loop l hl ho l 0 [] rfl (by simpa using hw)).trans ?_
  simp only [List.nil_append, decide_true]
  split
  · split <;> rfl
  · rfl

/-! ### what is read is small -/
abbrev kTok : U := .cons (.int .i64) (.cons .str (.cons (.int .i64) (.int .i64)))

theorem toks_small (l : List TToken) (hb : bk (.sl kTok) l ≤ 1048576) : l.length ≤ 1048576 ∧ (l.map wt).sum ≤ 67108864 ∧ ∀ t ∈ l, t.2.1.size ≤ 1048576 := by
  have e1 : bk (.sl kTok) l = (l.map (bk kTok)).sum + 1 := rfl
  rw [e1] at hb
  have h1 := len_le_bk (e := kTok) (fun x => by simp only [bk]; omega) l
  refine ⟨by omega, ?_, fun t ht => ?_⟩
  · have key : ∀ m : List TToken, (m.map wt).sum ≤ 64 * (m.map (bk kTok)).sum := by
      intro m
      induction m with
      | nil => simp
      | cons t m ih =>
        have e2 : bk kTok t = 1 + ((t.2.1.size + 1) + (1 + 1)) := rfl
        simp only [List.map_cons, List.sum_cons]
        rw [e2]
        unfold wt at ih ⊢
        omega
    have := key l
    omega
  · have h2 := mem_le_bk (e := kTok) ht
    have e2 : bk kTok t = 1 + ((t.2.1.size + 1) + (1 + 1)) := rfl
    omega

theorem toks_ok (l : List TToken) (hw : Wf (.sl kTok) l) (hb : bk (.sl kTok) l ≤ 1048576) : ∀ t ∈ l, okTok t := by
  intro t ht
  have h1 := (toks_small l hb).2.2 t ht
  have h2 : Wf kTok t := hw.2 t ht
  have h3 : IntKind.i64.min ≤ t.2.2.1 ∧ t.2.2.1 ≤ IntKind.i64.max := h2.2.2.1
  exact ⟨h1, h3.1, h3.2⟩

end Go.Proofs.YtjgjbdnjjepibaaDoor
end

section
/-
YtjgjbdnjjepibaaDoor: which rule a symbol has, which state a name has. No condition.
-/
set_option maxRecDepth 100000
open Go Go.AM
namespace Go.Proofs.YtjgjbdnjjepibaaDoor

theorem own_eq (r : TRule) (h : okRule r) : decl_own r = some ((r, ()), ()) := by
  unfold decl_own
  unfold okRule at h
  exact if_pos ⟨by omega, by omega⟩

theorem hit_iff {x : Int} {r : RuleT} : hitB x r = true ↔ r.1 ≤ x ∧ x ≤ r.2.1 := by
  unfold hitB; simp

theorem match_loop (x : Int) (s : TDeclState) (z : TRule) (hl : s.2.1.length ≤ 1048576) (ho : ∀ r ∈ s.2.1, okRule r) (he : okRule s.2.2.2) : ∀ (rs : List TRule) (k : Nat), s.2.1.drop k = rs →
    decl_Match_l7 x s.2.1 (s.2.1.length : Int) k z s = some (((ruleR s x rs).1, (ruleR s x rs).2, ()), ()) := by
  intro rs
  induction rs with
  | nil =>
    intro k hk
    have := drop_nil hk
    rw [decl_Match_l7_eq, if_neg (dF (by omega))]
    unfold ruleR
    by_cases h : s.2.2.1 = true
    · rw [if_pos h, own_eq _ he]
      simp [h]
    · rw [if_neg h]
      simp [h, noRule]
  | cons r rs ih =>
    intro k hk
    have h1 := drop_lt hk
    have ih' := ih (k + 1) (dropS hk)
    have hr : s.2.1.getD (k : Int).toNat dRule = r := getD_drop hk
    rw [decl_Match_l7_eq, if_pos (dT (by omega)), if_pos ⟨by omega, by omega⟩, hr, w64a k (by omega), ih']
    unfold ruleR
    rw [List.find?_cons]
    by_cases ha : r.1 ≤ x
    · rw [if_pos (dT ha)]
      by_cases hb : x ≤ r.2.1
      · rw [if_pos (dT hb), own_eq _ (ho r (mem_drop hk)), hit_iff.2 ⟨ha, hb⟩]
        rfl
      · rw [if_neg (dF hb), show hitB x r = false from Bool.eq_false_iff.2 fun q => hb (hit_iff.1 q).2]
    · rw [if_neg (dF ha), show hitB x r = false from Bool.eq_false_iff.2 fun q => ha (hit_iff.1 q).1]

theorem match_eq (d : TDecl) (i x : Int) (h : okDecl d) : decl_Match d i x = some (((matchV d.2.2.2 i x).1, (matchV d.2.2.2 i x).2, ()), ()) := by
  unfold decl_Match matchV
  by_cases h0 : i < 0
  · rw [if_pos (dT h0), if_pos h0]; rfl
  · rw [if_neg (dF h0), if_neg h0]
    by_cases h1 : i < (d.2.2.2.length : Int)
    · have h2 : i.toNat < d.2.2.2.length := by omega
      obtain ⟨a, b, c⟩ := h.2 _ (List.getElem_mem h2)
      rw [if_neg (dF (by omega)), if_pos ⟨by omega, h1⟩, getD_in _ h2, List.getElem?_eq_getElem h2]
      exact match_loop x _ _ a b c _ 0 rfl
    · rw [if_pos (dT (by omega)), List.getElem?_eq_none (by omega)]; rfl

theorem rmatch_loop (x : Int) (s : TDeclState) (z : TRule) (hl : s.2.1.length ≤ 1048576) : ∀ (rs : List TRule) (k : Nat), s.2.1.drop k = rs →
    ref34_Match_l7 x k z s = some (((ruleR s x rs).1, (ruleR s x rs).2, ()), ()) := by
  intro rs
  induction rs with
  | nil =>
    intro k hk
    have := drop_nil hk
    rw [ref34_Match_l7_eq, if_neg (dF (by omega))]
    unfold ruleR
    by_cases h : s.2.2.1 = true
    · rw [if_pos h]
      simp [h]
    · rw [if_neg h]
      simp [h, noRule]
  | cons r rs ih =>
    intro k hk
    have h1 := drop_lt hk
    have ih' := ih (k + 1) (dropS hk)
    have hr : s.2.1.getD (k : Int).toNat dRule = r := getD_drop hk
    have hin : (0 : Int) ≤ k ∧ (k : Int) < (s.2.1.length : Int) := ⟨by omega, by omega⟩
    rw [ref34_Match_l7_eq, if_pos (dT (by omega)), if_pos hin, hr, w64a k (by omega), ih']
    unfold ruleR
    rw [List.find?_cons]
    by_cases ha : r.1 ≤ x
    · rw [if_pos (dT ha), if_pos hin]
      by_cases hb : x ≤ r.2.1
      · rw [if_pos (dT hb), if_pos hin, hit_iff.2 ⟨ha, hb⟩]
      · rw [if_neg (dF hb), show hitB x r = false from Bool.eq_false_iff.2 fun q => hb (hit_iff.1 q).2]
    · rw [if_neg (dF ha), show hitB x r = false from Bool.eq_false_iff.2 fun q => ha (hit_iff.1 q).1]

theorem rmatch_eq (d : TDecl) (i x : Int) (h : okDecl d) : ref34_Match d i x = some (((matchV d.2.2.2 i x).1, (matchV d.2.2.2 i x).2, ()), ()) := by
  unfold ref34_Match matchV
  by_cases h0 : i < 0
  · rw [if_pos (dT h0), if_pos h0]; rfl
  · rw [if_neg (dF h0), if_neg h0]
    by_cases h1 : i < (d.2.2.2.length : Int)
    · have h2 : i.toNat < d.2.2.2.length := by omega
      obtain ⟨a, b, c⟩ := h.2 _ (List.getElem_mem h2)
      rw [if_neg (dF (by omega)), if_pos ⟨by omega, h1⟩, getD_in _ h2, List.getElem?_eq_getElem h2]
      exact rmatch_loop x _ _ a _ 0 rfl
    · rw [if_pos (dT (by omega)), List.getElem?_eq_none (by omega)]; rfl

theorem find_go (b : ByteArray) (ss : List TDeclState) (F : Int → Option ((Int × Unit) × Unit)) (hF : ∀ (k : Nat) (s : TDeclState) (r : List TDeclState), ss.drop k = s :: r → F k = if L s.1 = L b then some (((k : Int), ()), ()) else F ((k + 1 : Nat) : Int))
    (hE : F ss.length = some ((-1, ()), ())) : F 0 = some ((optI (findN ss b), ()), ()) := by
  have key : ∀ (rs : List TDeclState) (k : Nat), ss.drop k = rs → k ≤ ss.length → F k = some ((optI ((rs.findIdx? fun s => L s.1 == L b).map (· + k)), ()), ()) := by
    intro rs
    induction rs with
    | nil =>
      intro k hk hkl
      have h1 := drop_nil hk
      have : k = ss.length := by omega
      subst this
      rw [hE]; rfl
    | cons s rs ih =>
      intro k hk _
      have h1 := drop_lt hk
      rw [hF k s rs hk, List.findIdx?_cons]
      by_cases h : L s.1 = L b
      · rw [if_pos h, beq_iff_eq.2 h]; simp [optI]
      · rw [if_neg h, ih (k + 1) (dropS hk) (by omega), show (L s.1 == L b) = false from beq_eq_false_iff_ne.2 h]
        simp only [Option.map_map, Bool.false_eq_true, if_false]
        congr 4
        cases rs.findIdx? (fun s => L s.1 == L b) with
        | none => rfl
        | some i => simp; omega
  have := key ss 0 (by simp) (by omega)
  simpa [findN] using this

theorem find_eq (d : TDecl) (b : ByteArray) (h : d.2.2.2.length ≤ 1048576) : decl_Find d b = some ((optI (findN d.2.2.2 b), ()), ()) := by
  unfold decl_Find
  refine find_go b d.2.2.2 (fun k => decl_Find_l3 b d.2.2.2 (d.2.2.2.length : Int) k) (fun k s r hk => ?_) ?_
  · have h1 := drop_lt hk
    have hr : d.2.2.2.getD (k : Int).toNat dDeclState = s := getD_drop hk
    show decl_Find_l3 b d.2.2.2 (d.2.2.2.length : Int) k = _
    rw [decl_Find_l3_eq, if_pos (dT (by omega)), if_pos ⟨by omega, by omega⟩, hr, w64a k (by omega), toL, toL]
    by_cases q : L s.1 = L b
    · rw [if_pos q, if_pos (beq_iff_eq.2 q)]
    · rw [if_neg q, if_neg (fun z => q (beq_iff_eq.1 z))]
  · show decl_Find_l3 b d.2.2.2 (d.2.2.2.length : Int) (d.2.2.2.length : Int) = _
    rw [decl_Find_l3_eq, if_neg (dF (by omega))]

theorem rfind_eq (d : TDecl) (b : ByteArray) (h : d.2.2.2.length ≤ 1048576) : ref34_Find d b = some ((optI (findN d.2.2.2 b), ()), ()) := by
  unfold ref34_Find
  refine find_go b d.2.2.2 (fun k => ref34_Find_l3 b k d) (fun k s r hk => ?_) ?_
  · have h1 := drop_lt hk
    have hr : d.2.2.2.getD (k : Int).toNat dDeclState = s := getD_drop hk
    show ref34_Find_l3 b k d = _
    rw [ref34_Find_l3_eq, if_pos (dT (by omega)), if_pos ⟨by omega, by omega⟩, hr, w64a k (by omega), toL, toL]
    by_cases q : L s.1 = L b
    · rw [if_pos q, if_pos (beq_iff_eq.2 q)]
    · rw [if_neg q, if_neg (fun z => q (beq_iff_eq.1 z))]
  · show ref34_Find_l3 b (d.2.2.2.length : Int) d = _
    rw [ref34_Find_l3_eq, if_neg (dF (by omega))]

end Go.Proofs.YtjgjbdnjjepibaaDoor
end

section
/-
YtjgjbdnjjepibaaDoor: the error of a badly formed declaration. No condition.
-/
set_option maxRecDepth 100000
open Go Go.AM
namespace Go.Proofs.YtjgjbdnjjepibaaDoor

theorem act_eq (a : TAct) : decl_act a = some ((actV a, ()), ()) := by
  obtain ⟨p, q⟩ := a
  unfold decl_act actV
  simp only [decl_act_l3_eq, decl_act_l7_eq]
  by_cases h1 : p = 1
  · subst h1
    by_cases hq : q = 0
    · simp [hq]
    · simp [hq]
  by_cases h2 : p = 2
  · subst h2
    by_cases hq : q = 0
    · simp [hq]
    · simp [hq]
  by_cases h3 : p = 3 ∨ p = 4 ∨ p = 5
  · have : (if q < 0 then some (((2 : Int), ()), ()) else if q > 255 then some ((2, ()), ()) else some ((0, ()), ())) = some ((if 0 ≤ q ∧ q ≤ 255 then (0 : Int) else 2, ()), ()) := by
      by_cases a1 : q < 0
      · rw [if_pos a1, if_neg (by omega)]
      · rw [if_neg a1]
        by_cases a2 : q > 255
        · rw [if_pos a2, if_neg (by omega)]
        · rw [if_neg a2, if_pos (by omega)]
    rcases h3 with rfl | rfl | rfl <;> simpa using this
  by_cases h6 : p = 6
  · subst h6
    have : (if q < 1 then some (((2 : Int), ()), ()) else if q > 12 then some ((2, ()), ()) else some ((0, ()), ())) = some ((if 1 ≤ q ∧ q ≤ 12 then (0 : Int) else 2, ()), ()) := by
      by_cases a1 : q < 1
      · rw [if_pos a1, if_neg (by omega)]
      · rw [if_neg a1]
        by_cases a2 : q > 12
        · rw [if_pos a2, if_neg (by omega)]
        · rw [if_neg a2, if_pos (by omega)]
    simpa using this
  · have e3 : p ≠ 3 := fun e => h3 (.inl e)
    have e4 : p ≠ 4 := fun e => h3 (.inr (.inl e))
    have e5 : p ≠ 5 := fun e => h3 (.inr (.inr e))
    simp [h1, h2, e3, e4, e5, h6]

theorem wact_eq (a : TAct) : ref34_wrongAct a = some ((actV a, ()), ()) := by
  obtain ⟨p, q⟩ := a
  unfold ref34_wrongAct actV
  simp only [decide_eq_true_eq, bne_iff_ne, ne_eq, beq_iff_eq]
  by_cases l1 : p < 1
  · rw [if_pos l1, if_neg (by omega), if_neg (by omega), if_neg (by omega)]
  rw [if_neg l1]
  by_cases l2 : p > 6
  · rw [if_pos l2, if_neg (by omega), if_neg (by omega), if_neg (by omega)]
  rw [if_neg l2]
  by_cases l3 : p ≤ 2
  · rw [if_pos l3, if_pos (show p = 1 ∨ p = 2 by omega)]
    by_cases hq : q = 0
    · rw [if_neg (by simpa using hq), if_neg (by omega), if_neg (by omega), if_pos hq]
    · rw [if_pos hq, if_neg hq]
  · rw [if_neg l3, if_neg (show ¬ (p = 1 ∨ p = 2) by omega), if_pos (show p ≥ 3 by omega)]
    by_cases l5 : p ≤ 5
    · rw [if_pos l5, if_pos (show p = 3 ∨ p = 4 ∨ p = 5 by omega), if_neg (show ¬ p = 6 by omega)]
      by_cases a1 : q < 0
      · rw [if_pos a1, if_neg (by omega)]
      · rw [if_neg a1]
        by_cases a2 : q > 255
        · rw [if_pos a2, if_neg (by omega)]
        · rw [if_neg a2, if_pos (by omega)]
    · rw [if_neg l5, if_neg (show ¬ (p = 3 ∨ p = 4 ∨ p = 5) by omega), if_pos (show p = 6 by omega), if_pos (show p = 6 by omega)]
      by_cases a1 : q < 1
      · rw [if_pos a1, if_neg (by omega)]
      · rw [if_neg a1]
        by_cases a2 : q > 12
        · rw [if_pos a2, if_neg (by omega)]
        · rw [if_neg a2, if_pos (by omega)]

theorem errL_cons (e : Int) (r : List Int) : errL (e :: r) = if e = 0 then errL r else e := rfl

theorem acts_loop (l : List TAct) (hl : l.length ≤ 1048576) : ∀ (r : List TAct) (k : Nat), l.drop k = r → decl_target_l9 l (l.length : Int) k = some ((errL (r.map actV), ()), ())
  | [], k, h => by
    have := drop_nil h
    rw [decl_target_l9_eq, if_neg (dF (by omega))]
    rfl
  | a :: r, k, h => by
    have h1 := drop_lt h
    have hr : l.getD (k : Int).toNat dAct = a := getD_drop h
    rw [decl_target_l9_eq, if_pos (dT (by omega)), if_pos ⟨by omega, by omega⟩, hr, act_eq, w64a k (by omega), acts_loop l hl r (k + 1) (dropS h)]
    simp only [Option.bind_some, List.map_cons, errL_cons]
    by_cases q : actV a = 0
    · rw [if_neg (nF q), if_pos q]
    · rw [if_pos (nT q), if_neg q]

theorem wacts_loop (z : TRule) (hl : z.2.2.2.2.length ≤ 1048576) : ∀ (r : List TAct) (k : Nat), z.2.2.2.2.drop k = r → ref34_wrongTarget_l9 k z = some ((errL (r.map actV), ()), ())
  | [], k, h => by
    have := drop_nil h
    rw [ref34_wrongTarget_l9_eq, if_neg (dF (by omega))]
    rfl
  | a :: r, k, h => by
    have h1 := drop_lt h
    have hr : z.2.2.2.2.getD (k : Int).toNat dAct = a := getD_drop h
    rw [ref34_wrongTarget_l9_eq, if_pos (dT (by omega)), if_pos ⟨by omega, by omega⟩, hr, wact_eq, w64a k (by omega), wacts_loop z hl r (k + 1) (dropS h)]
    simp only [Option.bind_some, List.map_cons, errL_cons]
    by_cases q : actV a = 0
    · rw [if_neg (nF q), if_pos q]
    · rw [if_pos (nT q), if_neg q]

theorem target_eq (d : TDecl) (r : TRule) (h : d.2.2.2.length ≤ 1048576) (hr : okRule r) : decl_target d r = some ((targetV d.2.2.2 r, ()), ()) := by
  unfold decl_target targetV
  rw [find_eq d _ h]
  simp only [Option.bind_some]
  cases findN d.2.2.2 r.2.2.1 with
  | none => exact if_pos (dT (by simp [optI]))
  | some j =>
    refine (if_neg (dF (by simp [optI]))).trans ?_
    simp only
    by_cases q : 8 < r.2.2.2.2.length
    · rw [if_pos (dT (by omega)), if_pos q]
    · rw [if_neg (dF (by omega)), if_neg q]
      exact acts_loop _ hr _ 0 rfl

theorem wtarget_eq (d : TDecl) (r : TRule) (h : d.2.2.2.length ≤ 1048576) (hr : okRule r) : ref34_wrongTarget d r = some ((targetV d.2.2.2 r, ()), ()) := by
  unfold ref34_wrongTarget targetV
  rw [rfind_eq d _ h]
  simp only [Option.bind_some]
  cases findN d.2.2.2 r.2.2.1 with
  | none => exact if_pos (dT (by simp [optI]))
  | some j =>
    refine (if_neg (dF (by simp [optI]))).trans ?_
    simp only
    by_cases q : 8 < r.2.2.2.2.length
    · rw [if_pos (dT (by omega)), if_pos q]
    · rw [if_neg (dF (by omega)), if_neg q]
      exact wacts_loop _ hr _ 0 rfl

theorem empty_iff (b : ByteArray) : (b.toList == (strB []).toList) = true ↔ L b = [] := by
  rw [toL, toL, L_strB, beq_iff_eq]

theorem most_eq (d : TDecl) : decl_most d = some (((topV d : Int), ()), ()) := by
  unfold decl_most topV
  by_cases h : d.2.1 = 2
  · rw [if_pos (eT h), if_pos h]; rfl
  · rw [if_neg (eF h), if_neg h]; rfl

/-- The Else of a state without one. -/
theorem noelse_eq (s : TDeclState) : (if (!(s.2.2.2.2.2.1.toList == (strB []).toList)) = true then some (((1 : Int), ()), ()) else if s.2.2.2.2.2.2.1 = true then some ((1, ()), ()) else if (decide ((s.2.2.2.2.2.2.2.length : Int) > 0)) = true then some ((1, ()), ()) else some ((0, ()), ())) =
    some ((if L s.2.2.2.2.2.1 = [] ∧ s.2.2.2.2.2.2.1 = false ∧ s.2.2.2.2.2.2.2.length = 0 then (0 : Int) else 1, ()), ()) := by
  by_cases h1 : L s.2.2.2.2.2.1 = []
  · rw [if_neg (by rw [(empty_iff _).2 h1]; simp)]
    by_cases h2 : s.2.2.2.2.2.2.1 = true
    · rw [if_pos h2, if_neg (by rw [h2]; simp)]
    · rw [if_neg h2]
      by_cases h3 : s.2.2.2.2.2.2.2.length = 0
      · rw [if_neg (dF (by omega)), if_pos ⟨h1, by simpa using h2, h3⟩]
      · rw [if_pos (dT (by omega)), if_neg (fun q => h3 q.2.2)]
  · rw [if_pos (by rw [show (s.2.2.2.2.2.1.toList == (strB []).toList) = false from Bool.eq_false_iff.2 fun q => h1 ((empty_iff _).1 q)]; rfl), if_neg (fun q => h1 q.1)]

theorem rules_loopE (d : TDecl) (h : d.2.2.2.length ≤ 1048576) (s : TDeclState) (hs : okState s) : ∀ (rs : List TRule) (k : Nat), s.2.1.drop k = rs →
    decl_rules_l3 s.2.1 (s.2.1.length : Int) k d s = some ((if errL (rs.map (ruleE d.2.2.2 (topV d))) = 0 then elseE d.2.2.2 s else errL (rs.map (ruleE d.2.2.2 (topV d))), ()), ()) := by
  obtain ⟨hl, hr, he⟩ := hs
  intro rs
  induction rs with
  | nil =>
    intro k hk
    have := drop_nil hk
    rw [decl_rules_l3_eq, if_neg (dF (by omega)), target_eq d _ h he]
    simp only [Option.bind_some, noelse_eq, List.map_nil, errL, if_true]
    unfold elseE
    by_cases h3 : s.2.2.1 = true
    · rw [if_pos h3]
      by_cases h1 : s.2.2.2.1 = 0
      · by_cases h2 : s.2.2.2.2.1 = 0
        · rw [if_neg (nF h1), if_neg (nF h2), if_pos (show s.2.2.2.1 = 0 ∧ s.2.2.2.2.1 = 0 from ⟨h1, h2⟩), if_pos h3]
        · rw [if_neg (nF h1), if_pos (nT h2), if_neg (show ¬ (s.2.2.2.1 = 0 ∧ s.2.2.2.2.1 = 0) from fun q => h2 q.2)]
      · rw [if_pos (nT h1), if_neg (show ¬ (s.2.2.2.1 = 0 ∧ s.2.2.2.2.1 = 0) from fun q => h1 q.1)]
    · rw [if_neg h3]
      by_cases h1 : s.2.2.2.1 = 0
      · by_cases h2 : s.2.2.2.2.1 = 0
        · rw [if_neg (nF h1), if_neg (nF h2), if_pos (show s.2.2.2.1 = 0 ∧ s.2.2.2.2.1 = 0 from ⟨h1, h2⟩), if_neg h3]
        · rw [if_neg (nF h1), if_pos (nT h2), if_neg (show ¬ (s.2.2.2.1 = 0 ∧ s.2.2.2.2.1 = 0) from fun q => h2 q.2)]
      · rw [if_pos (nT h1), if_neg (show ¬ (s.2.2.2.1 = 0 ∧ s.2.2.2.2.1 = 0) from fun q => h1 q.1)]
  | cons r rs ih =>
    intro k hk
    have h1 := drop_lt hk
    have hg : s.2.1.getD (k : Int).toNat dRule = r := getD_drop hk
    rw [decl_rules_l3_eq, if_pos (dT (by omega)), if_pos ⟨by omega, by omega⟩, hg, most_eq, target_eq d _ h (hr r (mem_drop hk)), w64a k (by omega), ih (k + 1) (dropS hk)]
    simp only [Option.bind_some, List.map_cons, errL_cons]
    unfold ruleE
    by_cases a1 : r.1 < 0
    · rw [if_pos (dT a1), if_neg (show ¬ (0 ≤ r.1 ∧ r.1 ≤ r.2.1 ∧ r.2.1 ≤ (topV d : Int)) by omega), if_neg (by omega)]
      simp
    · rw [if_neg (dF a1)]
      by_cases a2 : r.1 > r.2.1
      · rw [if_pos (dT a2), if_neg (show ¬ (0 ≤ r.1 ∧ r.1 ≤ r.2.1 ∧ r.2.1 ≤ (topV d : Int)) by omega), if_neg (by omega)]
        simp
      · rw [if_neg (dF a2)]
        by_cases a3 : r.2.1 > (topV d : Int)
        · rw [if_pos (dT a3), if_neg (show ¬ (0 ≤ r.1 ∧ r.1 ≤ r.2.1 ∧ r.2.1 ≤ (topV d : Int)) by omega), if_neg (by omega)]
          simp
        · rw [if_neg (dF a3), if_pos (show 0 ≤ r.1 ∧ r.1 ≤ r.2.1 ∧ r.2.1 ≤ (topV d : Int) by omega)]
          by_cases q : targetV d.2.2.2 r = 0
          · rw [if_neg (nF q), if_pos q]
          · rw [if_pos (nT q), if_neg q, if_neg q]

theorem wstate_loop (d : TDecl) (h : d.2.2.2.length ≤ 1048576) (s : TDeclState) (hs : okState s) (top : Int) : ∀ (rs : List TRule) (k : Nat), s.2.1.drop k = rs →
    ref34_wrongState_l16 top k d s = some ((if errL (rs.map (ruleE d.2.2.2 top)) = 0 then elseE d.2.2.2 s else errL (rs.map (ruleE d.2.2.2 top)), ()), ()) := by
  obtain ⟨hl, hr, he⟩ := hs
  intro rs
  induction rs with
  | nil =>
    intro k hk
    have := drop_nil hk
    rw [ref34_wrongState_l16_eq, if_neg (dF (by omega))]
    unfold ref34_wrongElse
    rw [wtarget_eq d _ h he]
    simp only [Option.bind_some, noelse_eq, List.map_nil, errL, if_true]
    unfold elseE
    by_cases h3 : s.2.2.1 = true
    · rw [if_neg (show ¬ (!s.2.2.1) = true by rw [h3]; simp)]
      by_cases h1 : s.2.2.2.1 = 0
      · by_cases h2 : s.2.2.2.2.1 = 0
        · rw [if_neg (nF h1), if_neg (nF h2), if_pos (show s.2.2.2.1 = 0 ∧ s.2.2.2.2.1 = 0 from ⟨h1, h2⟩), if_pos h3]; rfl
        · rw [if_neg (nF h1), if_pos (nT h2), if_neg (show ¬ (s.2.2.2.1 = 0 ∧ s.2.2.2.2.1 = 0) from fun q => h2 q.2)]; rfl
      · rw [if_pos (nT h1), if_neg (show ¬ (s.2.2.2.1 = 0 ∧ s.2.2.2.2.1 = 0) from fun q => h1 q.1)]; rfl
    · rw [if_pos (show (!s.2.2.1) = true by simpa using h3)]
      by_cases h1 : s.2.2.2.1 = 0
      · by_cases h2 : s.2.2.2.2.1 = 0
        · rw [if_neg (nF h1), if_neg (nF h2), if_pos (show s.2.2.2.1 = 0 ∧ s.2.2.2.2.1 = 0 from ⟨h1, h2⟩), if_neg h3]; rfl
        · rw [if_neg (nF h1), if_pos (nT h2), if_neg (show ¬ (s.2.2.2.1 = 0 ∧ s.2.2.2.2.1 = 0) from fun q => h2 q.2)]; rfl
      · rw [if_pos (nT h1), if_neg (show ¬ (s.2.2.2.1 = 0 ∧ s.2.2.2.2.1 = 0) from fun q => h1 q.1)]; rfl
  | cons r rs ih =>
    intro k hk
    have h1 := drop_lt hk
    have hg : s.2.1.getD (k : Int).toNat dRule = r := getD_drop hk
    rw [ref34_wrongState_l16_eq, if_pos (dT (by omega)), if_pos ⟨by omega, by omega⟩, hg, wtarget_eq d _ h (hr r (mem_drop hk)), w64a k (by omega), ih (k + 1) (dropS hk)]
    simp only [Option.bind_some, List.map_cons, errL_cons]
    unfold ruleE
    by_cases a1 : r.1 < 0
    · rw [if_pos (dT a1), if_neg (show ¬ (0 ≤ r.1 ∧ r.1 ≤ r.2.1 ∧ r.2.1 ≤ top) by omega), if_neg (by omega)]
      simp
    · rw [if_neg (dF a1)]
      by_cases a2 : r.1 > r.2.1
      · rw [if_pos (dT a2), if_neg (show ¬ (0 ≤ r.1 ∧ r.1 ≤ r.2.1 ∧ r.2.1 ≤ top) by omega), if_neg (by omega)]
        simp
      · rw [if_neg (dF a2)]
        by_cases a3 : r.2.1 > top
        · rw [if_pos (dT a3), if_neg (show ¬ (0 ≤ r.1 ∧ r.1 ≤ r.2.1 ∧ r.2.1 ≤ top) by omega), if_neg (by omega)]
          simp
        · rw [if_neg (dF a3), if_pos (show 0 ≤ r.1 ∧ r.1 ≤ r.2.1 ∧ r.2.1 ≤ top by omega)]
          by_cases q : targetV d.2.2.2 r = 0
          · rw [if_neg (nF q), if_pos q]
          · rw [if_pos (nT q), if_neg q, if_neg q]

theorem states_loop (d : TDecl) (h : okDecl d) : ∀ (rs : List TDeclState) (k : Nat), d.2.2.2.drop k = rs → decl_Check_l12 d.2.2.2 (d.2.2.2.length : Int) k d = some ((statesE d.2.2.2 (topV d) k rs, ()), ()) := by
  have hd := h.1
  intro rs
  induction rs with
  | nil =>
    intro k hk
    have := drop_nil hk
    rw [decl_Check_l12_eq, if_neg (dF (by omega))]
    rfl
  | cons s rs ih =>
    intro k hk
    have h1 := drop_lt hk
    have hg : d.2.2.2.getD (k : Int).toNat dDeclState = s := getD_drop hk
    have hs := h.2 s (mem_drop hk)
    have hru : decl_rules d s = some ((if errL (s.2.1.map (ruleE d.2.2.2 (topV d))) = 0 then elseE d.2.2.2 s else errL (s.2.1.map (ruleE d.2.2.2 (topV d))), ()), ()) := rules_loopE d hd s hs _ 0 rfl
    rw [decl_Check_l12_eq, if_pos (dT (by omega)), if_pos ⟨by omega, by omega⟩, hg, show decl_name s.1 = some ((nameB (L s.1), ()), ()) from rfl, find_eq d _ hd, w64a k (by omega), ih (k + 1) (dropS hk), hru]
    simp only [Option.bind_some, statesE]
    have hE : stateE d.2.2.2 (topV d) k s = if nameB (L s.1) = true then if optI (findN d.2.2.2 s.1) < k then 9 else if 64 < s.2.1.length then 6 else (if errL (s.2.1.map (ruleE d.2.2.2 (topV d))) = 0 then elseE d.2.2.2 s else errL (s.2.1.map (ruleE d.2.2.2 (topV d)))) else 4 := rfl
    generalize (if errL (s.2.1.map (ruleE d.2.2.2 (topV d))) = 0 then elseE d.2.2.2 s else errL (s.2.1.map (ruleE d.2.2.2 (topV d)))) = E at hE ⊢
    rw [hE]
    by_cases q1 : nameB (L s.1) = true
    · rw [if_neg (by rw [q1]; simp), if_pos q1]
      by_cases q2 : optI (findN d.2.2.2 s.1) < (k : Int)
      · rw [if_pos (dT q2), if_pos q2]; rfl
      · rw [if_neg (dF q2), if_neg q2]
        by_cases q3 : 64 < s.2.1.length
        · rw [if_pos (dT (by omega)), if_pos q3]; rfl
        · rw [if_neg (dF (by omega)), if_neg q3]
          by_cases q4 : E = 0
          · rw [if_neg (nF q4), if_pos q4]
          · rw [if_pos (nT q4), if_neg q4]
    · rw [if_pos (by simpa using q1), if_neg q1]; rfl

theorem wstates_loop (d : TDecl) (h : okDecl d) : ∀ (rs : List TDeclState) (k : Nat), d.2.2.2.drop k = rs → ref34_Check_l12 k d = some ((statesE d.2.2.2 (topV d) k rs, ()), ()) := by
  have hd := h.1
  intro rs
  induction rs with
  | nil =>
    intro k hk
    have := drop_nil hk
    rw [ref34_Check_l12_eq, if_neg (dF (by omega))]
    rfl
  | cons s rs ih =>
    intro k hk
    have h1 := drop_lt hk
    have hg : d.2.2.2.getD (k : Int).toNat dDeclState = s := getD_drop hk
    have hs := h.2 s (mem_drop hk)
    have hw : ref34_wrongState d k = some ((stateE d.2.2.2 (topV d) k s, ()), ()) := by
      unfold ref34_wrongState
      rw [if_pos ⟨by omega, by omega⟩, hg, ref05_Name_b, rfind_eq d _ hd]
      simp only [Option.bind_some]
      unfold stateE
      by_cases q1 : nameB (L s.1) = true
      · rw [if_neg (by rw [q1]; simp), if_pos q1]
        by_cases q2 : optI (findN d.2.2.2 s.1) < (k : Int)
        · rw [if_pos (dT q2), if_pos q2]
        · rw [if_neg (dF q2), if_neg q2]
          by_cases q3 : 64 < s.2.1.length
          · rw [if_pos (dT (by omega)), if_pos q3]
          · rw [if_neg (dF (by omega)), if_neg q3, ref34_wrongState_l12_eq, ref34_wrongState_l12_eq]
            unfold topV
            by_cases q4 : d.2.1 = 2
            · rw [if_pos (eT q4), if_pos q4]
              exact wstate_loop d hd s hs 1 _ 0 rfl
            · rw [if_neg (eF q4), if_neg q4]
              exact wstate_loop d hd s hs 255 _ 0 rfl
      · rw [if_pos (by simpa using q1), if_neg q1]
    rw [ref34_Check_l12_eq, if_pos (dT (by omega)), hw, w64a k (by omega), ih (k + 1) (dropS hk)]
    simp only [Option.bind_some, statesE]
    by_cases q4 : stateE d.2.2.2 (topV d) k s = 0
    · rw [if_neg (nF q4), if_pos q4]
    · rw [if_pos (nT q4), if_neg q4]

theorem dcheck_eq (d : TDecl) (h : okDecl d) : decl_Check d = some ((checkV d, ()), ()) := by
  unfold decl_Check checkV
  rw [show decl_name d.1 = some ((nameB (L d.1), ()), ()) from rfl]
  simp only [Option.bind_some, decl_Check_l4_eq]
  have hl := states_loop d h _ 0 rfl
  have hl' : decl_Check_l12 d.2.2.2 (d.2.2.2.length : Int) 0 d = some ((statesE d.2.2.2 (topV d) 0 d.2.2.2, ()), ()) := hl
  rw [hl']
  by_cases q1 : nameB (L d.1) = true
  · rw [if_neg (by rw [q1]; simp), if_pos q1]
    have fin : (if ((d.2.2.2.length : Int) == 0) = true then some (((1 : Int), ()), ()) else if (decide ((d.2.2.2.length : Int) > 32)) = true then some ((6, ()), ()) else some ((statesE d.2.2.2 (topV d) 0 d.2.2.2, ()), ())) =
        some ((if d.2.2.2.length ≠ 0 then if 32 < d.2.2.2.length then (6 : Int) else statesE d.2.2.2 (topV d) 0 d.2.2.2 else 1, ()), ()) := by
      by_cases a : d.2.2.2.length = 0
      · rw [if_pos (eT (by omega)), if_neg (by omega)]
      · rw [if_neg (eF (by omega)), if_pos a]
        by_cases b : 32 < d.2.2.2.length
        · rw [if_pos (dT (by omega)), if_pos b]
        · rw [if_neg (dF (by omega)), if_neg b]
    rw [fin]
    by_cases a2 : d.2.1 = 2 <;> by_cases a3 : d.2.1 = 3 <;> by_cases a5 : d.2.2.1 = 5 <;> by_cases a6 : d.2.2.1 = 6 <;> first | omega | (simp [a2, a3, a5, a6]; done) | (by_cases a7 : d.2.2.2.length = 0 <;> simp [a2, a3, a5, a6, a7])
  · rw [if_pos (by simpa using q1), if_neg q1]

theorem wcheck_eq (d : TDecl) (h : okDecl d) : ref34_Check d = some ((checkV d, ()), ()) := by
  unfold ref34_Check checkV
  rw [ref05_Name_b]
  simp only [Option.bind_some]
  have hl := wstates_loop d h _ 0 rfl
  have hl' : ref34_Check_l12 0 d = some ((statesE d.2.2.2 (topV d) 0 d.2.2.2, ()), ()) := hl
  rw [hl']
  by_cases q1 : nameB (L d.1) = true
  · rw [if_neg (by rw [q1]; simp), if_pos q1]
    have fin : (if ((d.2.2.2.length : Int) == 0) = true then some (((1 : Int), ()), ()) else if (decide ((d.2.2.2.length : Int) > 32)) = true then some ((6, ()), ()) else some ((statesE d.2.2.2 (topV d) 0 d.2.2.2, ()), ())) =
        some ((if d.2.2.2.length ≠ 0 then if 32 < d.2.2.2.length then (6 : Int) else statesE d.2.2.2 (topV d) 0 d.2.2.2 else 1, ()), ()) := by
      by_cases a : d.2.2.2.length = 0
      · rw [if_pos (eT (by omega)), if_neg (by omega)]
      · rw [if_neg (eF (by omega)), if_pos a]
        by_cases b : 32 < d.2.2.2.length
        · rw [if_pos (dT (by omega)), if_pos b]
        · rw [if_neg (dF (by omega)), if_neg b]
    rw [fin]
    by_cases a2 : d.2.1 = 2 <;> by_cases a3 : d.2.1 = 3 <;> by_cases a5 : d.2.2.1 = 5 <;> by_cases a6 : d.2.2.1 = 6 <;> first | omega | (simp [a2, a3, a5, a6]; done) | (by_cases a7 : d.2.2.2.length = 0 <;> simp [a2, a3, a5, a6, a7])
  · rw [if_pos (by simpa using q1), if_neg q1]

end Go.Proofs.YtjgjbdnjjepibaaDoor
end

section
/-
YtjgjbdnjjepibaaDoor: decl.Print, as plain functions, comes to the text of the tokens. No condition.
-/
set_option maxRecDepth 100000
set_option linter.unusedVariables false
open Go Go.AM
namespace Go.Proofs.YtjgjbdnjjepibaaDoor

theorem word_b (n : Int) (h : 0 ≤ n ∧ n < 7) : decl_word n = some ((opW n, ()), ()) := by
  unfold decl_word wordG
  rw [if_pos h]
  rfl

theorem words_loop (l : List ByteArray) (hl : l.length ≤ 1000) : ∀ (r : List ByteArray) (n : Nat) (acc : List TToken), l.drop n = r → acc.length + r.length ≤ 2000000 → decl_writer_words_l1 l (l.length : Int) n acc = some ((), (((), ()), (), acc ++ r.map wTok, ()))
  | [], n, acc, h, ha => by
    have h1 := drop_nil h
    rw [decl_writer_words_l1_eq, if_neg (dF (by omega)), List.map_nil, List.append_nil]
  | b :: r, n, acc, h, ha => by
    have h1 := drop_lt h
    have hg : l.getD (n : Int).toNat (strB []) = b := getD_drop h
    simp only [List.length_cons] at ha
    rw [decl_writer_words_l1_eq, if_pos (dT (by omega)), if_pos ⟨by omega, by omega⟩, if_pos ⟨by omega, by decide⟩, hg, w64a n (by omega),
      words_loop l hl r (n + 1) _ (dropS h) (by rw [List.length_append]; simp only [List.length_cons, List.length_nil]; omega), List.map_cons, List.append_assoc]
    rfl

theorem words_eq (l : List ByteArray) (acc : List TToken) (hl : l.length ≤ 1000) (ha : acc.length ≤ 1000000) : decl_writer_words l acc = some ((), (((), ()), (), acc ++ l.map wTok, ())) :=
  words_loop l hl l 0 acc rfl (by omega)

theorem marks_loop (s : ByteArray) (hl : s.size ≤ 1000) : ∀ (r : List UInt8) (n : Nat) (acc : List TToken), (L s).drop n = r → acc.length + r.length ≤ 2000000 → decl_writer_marks_l1 s (s.size : Int) n acc = some ((), (((), ()), (), acc ++ r.map mTok, ()))
  | [], n, acc, h, ha => by
    have h1 := drop_nil h
    rw [L_len] at h1
    rw [decl_writer_marks_l1_eq, if_neg (dF (by omega)), List.map_nil, List.append_nil]
  | c :: r, n, acc, h, ha => by
    have h1 := drop_lt h
    rw [L_len] at h1
    simp only [List.length_cons] at ha
    have he : s.extract n (n + 1) = strB [c] := by
      refine L_inj ?_
      rw [L_ext, L_strB, List.drop_take, h, show n + 1 - n = 1 by omega]
      rfl
    rw [decl_writer_marks_l1_eq, if_pos (dT (by omega)), w64a n (by omega), if_pos ⟨by omega, by omega, by omega⟩, if_pos ⟨by omega, by decide⟩, Int.toNat_natCast, Int.toNat_natCast, he,
      marks_loop s hl r (n + 1) _ (dropS h) (by rw [List.length_append]; simp only [List.length_cons, List.length_nil]; omega), List.map_cons, List.append_assoc]
    rfl

theorem marks_eq (l : List UInt8) (acc : List TToken) (hl : l.length ≤ 1000) (ha : acc.length ≤ 1000000) : decl_writer_marks (strB l) acc = some ((), (((), ()), (), acc ++ l.map mTok, ())) := by
  unfold decl_writer_marks
  exact marks_loop (strB l) (by rw [strB_size]; exact hl) l 0 acc (by rw [L_strB]; rfl) (by omega)

theorem number_eq (n : Int) (acc : List TToken) (h : 0 ≤ n ∧ n ≤ 255) (ha : acc.length ≤ 1000000) : decl_writer_number n acc = some ((), (((), ()), (), acc ++ [nTok n], ())) := by
  unfold decl_writer_number
  rw [itoa_b n (by omega)]
  simp only [Option.bind_some]
  rw [if_pos ⟨by omega, by decide⟩]
  rfl

theorem tacts_loop (l : List TAct) (hl : l.length ≤ 8) (ho : ∀ a ∈ l, OkAct a) : ∀ (r : List TAct) (n : Nat) (acc : List TToken), l.drop n = r → acc.length + 3 * r.length ≤ 900000 →
    decl_writer_target_l7 l (l.length : Int) n acc = some ((), (((), ()), (), acc ++ (actsT n r ++ [mTok 59]), ()))
  | [], n, acc, h, ha => by
    have h1 := drop_nil h
    rw [decl_writer_target_l7_eq, if_neg (dF (by omega)), marks_eq [59] acc (by decide) (by omega)]
    rfl
  | a :: r, n, acc, h, ha => by
    have h1 := drop_lt h
    have hg : l.getD (n : Int).toNat dAct = a := getD_drop h
    have hoa := ho a (mem_drop h)
    simp only [List.length_cons] at ha
    have rest : ∀ c : UInt8, decl_writer_target_l12 l (l.length : Int) n a (acc ++ [mTok c]) = some ((), (((), ()), (), acc ++ (mTok c :: wTok (opW a.1) :: (if a.1 > 2 then [nTok a.2] else [])) ++ (actsT (n + 1) r ++ [mTok 59]), ())) := fun c => by
      rw [decl_writer_target_l12_eq, word_b a.1 (by have := hoa.1; have := hoa.2.1; omega)]
      simp only [Option.bind_some]
      rw [words_eq [opW a.1] _ (by simp) (by rw [List.length_append]; simp only [List.length_cons, List.length_nil]; omega)]
      simp only [Option.bind_some]
      rw [w64a n (by omega)]
      by_cases h2 : a.1 > 2
      · rw [if_pos (dT h2), number_eq a.2 _ ⟨hoa.2.2.1, hoa.2.2.2.1⟩ (by simp only [List.length_append, List.length_map, List.length_cons, List.length_nil]; omega)]
        simp only [Option.bind_some]
        rw [tacts_loop l hl ho r (n + 1) _ (dropS h) (by simp only [List.length_append, List.length_map, List.length_cons, List.length_nil]; omega), if_pos h2]
        simp [List.append_assoc]
      · rw [if_neg (dF h2), tacts_loop l hl ho r (n + 1) _ (dropS h) (by simp only [List.length_append, List.length_map, List.length_cons, List.length_nil]; omega), if_neg h2]
        simp [List.append_assoc]
    rw [decl_writer_target_l7_eq, if_pos (dT (by omega)), if_pos ⟨by omega, by omega⟩, hg]
    by_cases hn : n = 0
    · subst hn
      rw [if_pos (by decide), marks_eq [58] acc (by decide) (by omega)]
      simp only [Option.bind_some]
      refine (rest 58).trans ?_
      simp [actsT, actT, List.append_assoc]
    · rw [if_neg (eF (by omega)), marks_eq [44] acc (by decide) (by omega)]
      simp only [Option.bind_some]
      refine (rest 44).trans ?_
      simp [actsT, actT, List.append_assoc, hn]

theorem target_w (r : TRule) (acc : List TToken) (h : OkTarget r) (ha : acc.length ≤ 800000) : decl_writer_target r acc = some ((), (((), ()), (), acc ++ targetT r, ())) := by
  unfold decl_writer_target
  rw [marks_eq [62] acc (by decide) (by omega)]
  simp only [Option.bind_some]
  rw [words_eq [r.2.2.1] _ (by simp) (by simp only [List.length_append, List.length_map, List.length_cons, List.length_nil]; omega)]
  simp only [Option.bind_some]
  have hf := h.few
  have key : ∀ q : List TToken, q.length ≤ 800010 → decl_writer_target_l3 r q = some ((), (((), ()), (), q ++ (actsT 0 r.2.2.2.2 ++ [mTok 59]), ())) := fun q hq => by
    rw [decl_writer_target_l3_eq]
    exact tacts_loop r.2.2.2.2 hf h.acts r.2.2.2.2 0 q rfl (by omega)
  by_cases hag : r.2.2.2.1 = true
  · rw [if_pos hag, words_eq [strB [97, 103, 97, 105, 110]] _ (by simp) (by simp only [List.length_append, List.length_map, List.length_cons, List.length_nil]; omega)]
    simp only [Option.bind_some]
    rw [key _ (by simp only [List.length_append, List.length_map, List.length_cons, List.length_nil]; omega)]
    unfold targetT
    rw [if_pos hag]
    simp [List.append_assoc, sAgain]
  · rw [if_neg hag, key _ (by simp only [List.length_append, List.length_map, List.length_cons, List.length_nil]; omega)]
    unfold targetT
    rw [if_neg hag]
    simp [List.append_assoc]

theorem Print_rules (ss : List TDeclState) (k : Nat) (s : TDeclState) (hk : k + 1 ≤ 1048576) (hs : OkState s) : ∀ (r : List TRule) (n : Nat) (acc : List TToken), s.2.1.drop n = r → acc.length + 32 * r.length ≤ 700000 →
    decl_Print_l24 ss (ss.length : Int) k s.2.1 (s.2.1.length : Int) n s acc = decl_Print_l15 ss (ss.length : Int) ((k + 1 : Nat) : Int) (acc ++ (rulesT r ++ (elseT s ++ [mTok 125])))
  | [], n, acc, h, ha => by
    have h1 := drop_nil h
    rw [decl_Print_l24_eq, if_neg (dF (by omega)), w64a k (by omega), rulesT, List.nil_append]
    by_cases he : s.2.2.1 = true
    · rw [if_pos he, marks_eq [42] acc (by decide) (by simp only [List.length_nil] at ha; omega)]
      simp only [Option.bind_some]
      rw [target_w s.2.2.2 _ (hs.some he) (by simp only [List.length_append, List.length_map, List.length_cons, List.length_nil] at ha ⊢; omega)]
      simp only [Option.bind_some]
      have := (jl_target (hs.some he)).2
      rw [marks_eq [125] _ (by decide) (by simp only [List.length_append, List.length_map, List.length_cons, List.length_nil] at ha ⊢; omega)]
      simp only [Option.bind_some]
      unfold elseT
      rw [if_pos he]
      simp [List.append_assoc]
    · rw [if_neg he, marks_eq [125] acc (by decide) (by simp only [List.length_nil] at ha; omega)]
      simp only [Option.bind_some]
      unfold elseT
      rw [if_neg he]
      rfl
  | r :: rs, n, acc, h, ha => by
    have h1 := drop_lt h
    have hg : s.2.1.getD (n : Int).toNat dRule = r := getD_drop h
    have hr := hs.rules r (mem_drop h)
    have hf := hs.few
    simp only [List.length_cons] at ha
    have hlen := (jl_rule hr.1 hr.2).2
    have ih : ∀ q : List TToken, q = acc ++ ruleT r → decl_Print_l24 ss (ss.length : Int) k s.2.1 (s.2.1.length : Int) ((n + 1 : Nat) : Int) s q = decl_Print_l15 ss (ss.length : Int) ((k + 1 : Nat) : Int) (acc ++ (rulesT (r :: rs) ++ (elseT s ++ [mTok 125]))) := fun q hq => by
      subst hq
      rw [Print_rules ss k s hk hs rs (n + 1) _ (dropS h) (by rw [List.length_append]; omega), rulesT]
      simp [List.append_assoc]
    rw [decl_Print_l24_eq, if_pos (dT (by omega)), if_pos ⟨by omega, by omega⟩, hg, number_eq r.1 acc ⟨hr.1.lo, Int.le_trans hr.1.le hr.1.hi⟩ (by omega), w64a n (by omega)]
    simp only [Option.bind_some]
    by_cases he : r.2.1 = r.1
    · rw [if_neg (nF he), target_w r _ hr.2 (by simp only [List.length_append, List.length_cons, List.length_nil]; omega)]
      simp only [Option.bind_some]
      refine ih _ ?_
      unfold ruleT
      rw [if_pos he]
      simp [List.append_assoc]
    · rw [if_pos (nT he), marks_eq [46, 46] _ (by decide) (by simp only [List.length_append, List.length_cons, List.length_nil]; omega)]
      simp only [Option.bind_some]
      rw [number_eq r.2.1 _ ⟨Int.le_trans hr.1.lo hr.1.le, hr.1.hi⟩ (by simp only [List.length_append, List.length_map, List.length_cons, List.length_nil]; omega)]
      simp only [Option.bind_some]
      rw [target_w r _ hr.2 (by simp only [List.length_append, List.length_map, List.length_cons, List.length_nil]; omega)]
      simp only [Option.bind_some]
      refine ih _ ?_
      unfold ruleT
      rw [if_neg he]
      simp [List.append_assoc]

theorem okTok_good {t : TToken} (h : goodT t) : okTok t := ⟨by have := h.2.1; omega, by have := h.2.2.1; omega, by have := h.2.2.2; omega⟩

theorem Print_states (ss : List TDeclState) (hl : ss.length ≤ 32) (ho : ∀ s ∈ ss, OkState s) : ∀ (r : List TDeclState) (n : Nat) (acc : List TToken), ss.drop n = r → acc.length + 2090 * r.length ≤ 70000 → (∀ t ∈ acc, goodT t) →
    decl_Print_l15 ss (ss.length : Int) n acc = some ((strB (textV (acc ++ (statesT r ++ [mTok 125]))).1, (textV (acc ++ (statesT r ++ [mTok 125]))).2, ()), ())
  | [], n, acc, h, ha, hg => by
    have h1 := drop_nil h
    have hg' : ∀ t ∈ acc ++ [mTok 125], goodT t := fun t ht => by
      rcases List.mem_append.1 ht with q | q
      · exact hg t q
      · simp only [List.mem_singleton] at q
        subst q
        exact good_m (by decide)
    rw [decl_Print_l15_eq, if_neg (dF (by omega)), marks_eq [125] acc (by decide) (by simp only [List.length_nil] at ha; omega)]
    simp only [Option.bind_some, List.map_cons, List.map_nil]
    have hlen : (acc ++ [mTok 125]).length ≤ 70001 := by simp only [List.length_append, List.length_cons, List.length_nil] at ha ⊢; omega
    rw [lex_Text_b _ (by omega) (fun t ht => okTok_good (hg' t ht)) (by have := wt_sum _ hg'; omega)]
    rfl
  | s :: r, n, acc, h, ha, hg => by
    have h1 := drop_lt h
    have hgd : ss.getD (n : Int).toNat dDeclState = s := getD_drop h
    have hs := ho s (mem_drop h)
    simp only [List.length_cons] at ha
    have hlen := (jl_state hs).2
    rw [decl_Print_l15_eq, if_pos (dT (by omega)), if_pos ⟨by omega, by omega⟩, hgd, words_eq [strB [115, 116, 97, 116, 101], s.1] acc (by simp) (by omega)]
    simp only [Option.bind_some]
    rw [marks_eq [123] _ (by decide) (by simp only [List.length_append, List.length_map, List.length_cons, List.length_nil]; omega)]
    simp only [Option.bind_some]
    have hf := hs.few
    have hrl := (jl_rules s.2.1 hs.rules).2
    refine (Print_rules ss n s (by omega) hs s.2.1 0 _ rfl (by simp only [List.length_append, List.length_map, List.length_cons, List.length_nil]; omega)).trans ?_
    have e : acc ++ [strB [115, 116, 97, 116, 101], s.1].map wTok ++ [(123 : UInt8)].map mTok ++ (rulesT s.2.1 ++ (elseT s ++ [mTok 125])) = acc ++ stateT s := by
      unfold stateT
      simp [List.append_assoc, sState]
    rw [e, Print_states ss hl ho r (n + 1) _ (dropS h) (by rw [List.length_append]; omega) (fun t ht => by
      rcases List.mem_append.1 ht with q | q
      · exact hg t q
      · exact good_state hs t q), statesT]
    simp [List.append_assoc]

theorem print_b (d : TDecl) (h : okDecl d) : decl_Print d = some ((strB (printV d).1, (printV d).2, ()), ()) := by
  unfold decl_Print
  rw [dcheck_eq d h]
  simp only [Option.bind_some]
  by_cases hc : checkV d = 0
  · rw [if_neg (nF hc)]
    have ho := ok_decl hc
    have hf := ho.few
    have e : printV d = textV (declT d) := by unfold printV; rw [if_pos hc]
    have key : ∀ (i o : ByteArray), i = (if d.2.1 = 2 then sBit else sByte) → o = (if d.2.2.1 = 5 then sFrame else sPacket) → decl_Print_l8 i o d = some ((strB (printV d).1, (printV d).2, ()), ()) := fun i o hi ho' => by
      rw [decl_Print_l8_eq, words_eq _ [] (by simp) (by simp)]
      simp only [Option.bind_some]
      rw [marks_eq [123] _ (by decide) (by simp)]
      simp only [Option.bind_some]
      have eh : ([] ++ [strB [100, 101, 99, 111, 100, 101, 114], d.1, strB [105, 110, 112, 117, 116], i, strB [111, 117, 116, 112, 117, 116], o].map wTok) ++ [(123 : UInt8)].map mTok = headT d := by
        unfold headT
        rw [hi, ho']
        rfl
      rw [eh]
      refine (Print_states d.2.2.2 hf ho.states d.2.2.2 0 (headT d) rfl ?_ ?_).trans ?_
      · show 7 + _ ≤ _
        omega
      · intro t ht
        exact good_decl ho t (by unfold declT; exact List.mem_append_left _ ht)
      · rw [e]; rfl
    have key6 : ∀ i, i = (if d.2.1 = 2 then sBit else sByte) → decl_Print_l6 i (strB [112, 97, 99, 107, 101, 116]) d = some ((strB (printV d).1, (printV d).2, ()), ()) := fun i hi => by
      rw [decl_Print_l6_eq]
      by_cases h5 : d.2.2.1 = 5
      · rw [if_pos (eT h5), key i _ hi (by rw [if_pos h5]; rfl)]
      · rw [if_neg (eF h5), key i _ hi (by rw [if_neg h5]; rfl)]
    by_cases h2 : d.2.1 = 2
    · rw [if_pos (eT h2), key6 _ (by rw [if_pos h2]; rfl)]
    · rw [if_neg (eF h2), key6 _ (by rw [if_neg h2]; rfl)]
  · rw [if_pos (nT hc), print_no hc]

end Go.Proofs.YtjgjbdnjjepibaaDoor
end

section
/-
YtjgjbdnjjepibaaDoor: decl.Parse, as plain functions, comes to the plain reader of declarations. No condition.
-/
set_option maxRecDepth 100000
set_option linter.unusedVariables false
open Go Go.AM
namespace Go.Proofs.YtjgjbdnjjepibaaDoor

structure Ctx (l : List TToken) : Prop where
  len : l.length ≤ 1048576
  good : ∀ t ∈ l, tokGood t

def rd (l q : List TToken) : Treader := (l, ((l.length - q.length : Nat) : Int), 0)
def bad (l e : List TToken) : Treader := (l, ((l.length - e.length : Nat) : Int), lineV l e)
def zT : TToken := (0, strB [], 0, 0)

theorem suf_drop {l q : List TToken} (h : q <:+ l) : l.drop (l.length - q.length) = q := (List.suffix_iff_eq_drop.1 h).symm
theorem sufk {α : Type} {l q r : List TToken} (h : q <:+ l) {x : PR α} {n : Nat} (g : Goes n q x) {a : α} (e : x = .ok (a, r)) : r <:+ l := by
  subst e
  exact List.IsSuffix.trans g.1 h
theorem sufe {α : Type} {l q r : List TToken} (h : q <:+ l) {x : PR α} {n : Nat} (g : Goes n q x) (e : x = .error r) : r <:+ l := by
  subst e
  exact List.IsSuffix.trans g h
theorem okLen {α : Type} {q r : List TToken} {x : PR α} {n : Nat} (g : Goes n q x) {a : α} (e : x = .ok (a, r)) : r.length + n ≤ q.length := by
  subst e
  exact g.2

theorem line_pos {l e : List TToken} (c : Ctx l) (h : e <:+ l) : 0 < lineV l e := by
  unfold lineV
  split
  · rename_i t r
    have := (c.good t (h.mem (by simp))).1
    omega
  · split
    · rename_i t ht
      have := (c.good t (List.mem_of_getLast? ht)).1
      omega
    · omega

theorem at_cons {l r : List TToken} {t : TToken} (h : (t :: r) <:+ l) : l.length - (t :: r).length < l.length ∧ l.getD (((l.length - (t :: r).length : Nat) : Int)).toNat dToken = t ∧ l.length - r.length = l.length - (t :: r).length + 1 := by
  have h1 := suf_drop h
  have h2 := drop_lt h1
  have h3 := h.length_le
  refine ⟨h2, getD_drop h1, ?_⟩
  simp only [List.length_cons] at h3 ⊢
  omega

theorem is_rd {l q : List TToken} (c : Ctx l) (h : q <:+ l) (k : Int) (text : ByteArray) {x : List UInt8} (hx : L text = x) : decl_reader_is k text (rd l q) = some ((hdT k x q, ()), (rd l q, ())) := by
  subst hx
  unfold decl_reader_is
  have c0 : ¬ (rd l q).2.2 > 0 := by show ¬ (0 : Int) > 0; omega
  rw [if_neg (dF c0)]
  cases q with
  | nil =>
    have c1 : (rd l []).2.1 ≥ ((rd l []).1.length : Int) := by show ((l.length - 0 : Nat) : Int) ≥ (l.length : Int); simp
    rw [if_pos (dT c1)]
    rfl
  | cons t r =>
    obtain ⟨h1, h2, _⟩ := at_cons h
    have c1 : ¬ (rd l (t :: r)).2.1 ≥ ((rd l (t :: r)).1.length : Int) := by show ¬ ((l.length - (t :: r).length : Nat) : Int) ≥ (l.length : Int); omega
    have c2 : 0 ≤ (rd l (t :: r)).2.1 ∧ (rd l (t :: r)).2.1 < ((rd l (t :: r)).1.length : Int) := by show 0 ≤ ((l.length - (t :: r).length : Nat) : Int) ∧ ((l.length - (t :: r).length : Nat) : Int) < (l.length : Int); omega
    have h2' : (rd l (t :: r)).1.getD (rd l (t :: r)).2.1.toNat dToken = t := h2
    rw [if_neg (dF c1), if_pos c2, h2']
    show _ = some ((isT k (L text) t, ()), _)
    unfold isT
    by_cases hk : t.1 = k
    · rw [if_pos (eT hk), decide_eq_true hk, Bool.true_and]
      by_cases he : L text = []
      · rw [if_pos (by rw [toL, he, toL, L_strB]; rfl), he]
        rfl
      · rw [if_neg (by rw [toL, toL]; simpa [L_strB] using he), toL, toL]
        have : (L text).isEmpty = false := by simpa using he
        rw [this, Bool.false_or]
    · rw [if_neg (eF hk), decide_eq_false hk, Bool.false_and]

theorem is_bad {l e : List TToken} (c : Ctx l) (h : e <:+ l) (k : Int) (text : ByteArray) : decl_reader_is k text (bad l e) = some ((false, ()), (bad l e, ())) := by
  unfold decl_reader_is
  have c0 : (bad l e).2.2 > 0 := line_pos c h
  rw [if_pos (dT c0)]

theorem take_yes {l r : List TToken} {t : TToken} (c : Ctx l) (h : (t :: r) <:+ l) {k : Int} {text : ByteArray} {x : List UInt8} (hx : L text = x) (hy : hdT k x (t :: r) = true) :
    decl_reader_take k text (rd l (t :: r)) = some ((t, true, ()), (rd l r, ())) := by
  obtain ⟨h1, h2, h3⟩ := at_cons h
  have hl := c.len
  unfold decl_reader_take
  rw [is_rd c h k text hx, hy]
  simp only [Option.bind_some]
  refine (if_neg (by simp)).trans ?_
  have e1 : IntKind.i64.wrap ((rd l (t :: r)).2.1 + 1) = ((l.length - r.length : Nat) : Int) := by
    show IntKind.i64.wrap (((l.length - (t :: r).length : Nat) : Int) + 1) = _
    rw [w64a _ (by omega), h3]
  have e2 : IntKind.i64.wrap (((l.length - r.length : Nat) : Int) - 1) = ((l.length - (t :: r).length : Nat) : Int) := by
    rw [w64 (by omega) (by omega)]; omega
  have c2 : 0 ≤ ((l.length - (t :: r).length : Nat) : Int) ∧ ((l.length - (t :: r).length : Nat) : Int) < ((rd l (t :: r)).1.length : Int) := by show _ ∧ _ < (l.length : Int); omega
  rw [e1, e2, if_pos c2]
  have h2' : (rd l (t :: r)).1.getD (((l.length - (t :: r).length : Nat) : Int)).toNat dToken = t := h2
  rw [h2']
  rfl

theorem take_no {l q : List TToken} (c : Ctx l) (h : q <:+ l) {k : Int} {text : ByteArray} {x : List UInt8} (hx : L text = x) (hy : hdT k x q = false) : decl_reader_take k text (rd l q) = some ((zT, false, ()), (rd l q, ())) := by
  unfold decl_reader_take
  rw [is_rd c h k text hx, hy]
  rfl

theorem take_bad {l e : List TToken} (c : Ctx l) (h : e <:+ l) (k : Int) (text : ByteArray) : decl_reader_take k text (bad l e) = some ((zT, false, ()), (bad l e, ())) := by
  unfold decl_reader_take
  rw [is_bad c h]
  rfl

theorem fail_rd {l q : List TToken} (c : Ctx l) (h : q <:+ l) : decl_reader_fail (rd l q) = some ((), (bad l q, ())) := by
  have hl := c.len
  unfold decl_reader_fail
  have c0 : ¬ (rd l q).2.2 > 0 := by show ¬ (0 : Int) > 0; omega
  rw [if_neg (dF c0)]
  cases q with
  | nil =>
    have c1 : ¬ (rd l []).2.1 < ((rd l []).1.length : Int) := by show ¬ ((l.length - 0 : Nat) : Int) < (l.length : Int); simp
    rw [if_neg (dF c1)]
    by_cases h0 : l.length = 0
    · have : l = [] := List.length_eq_zero_iff.1 h0
      subst this
      rfl
    · have e1 : IntKind.i64.wrap ((l.length : Int) - 1) = ((l.length - 1 : Nat) : Int) := by rw [w64 (by omega) (by omega)]; omega
      rw [if_pos (dT (show ((rd l []).1.length : Int) > 0 by show (l.length : Int) > 0; omega))]
      show (if 0 ≤ IntKind.i64.wrap ((l.length : Int) - 1) ∧ IntKind.i64.wrap ((l.length : Int) - 1) < (l.length : Int) then
        some ((), ((l, ((l.length - 0 : Nat) : Int), (l.getD (IntKind.i64.wrap ((l.length : Int) - 1)).toNat dToken).2.2.2), ())) else none) = _
      rw [e1, if_pos ⟨by omega, by omega⟩, Int.toNat_natCast, getD_in dToken (by omega)]
      unfold bad lineV
      have : l.getLast? = some l[l.length - 1] := by rw [List.getLast?_eq_getElem?, List.getElem?_eq_getElem (by omega)]
      rw [this]
      rfl
  | cons t r =>
    obtain ⟨h1, h2, h3⟩ := at_cons h
    have c2 : (rd l (t :: r)).2.1 < ((rd l (t :: r)).1.length : Int) := by show ((l.length - (t :: r).length : Nat) : Int) < (l.length : Int); omega
    have h2' : (rd l (t :: r)).1.getD (rd l (t :: r)).2.1.toNat dToken = t := h2
    rw [if_pos (dT c2), if_pos ⟨by show 0 ≤ ((l.length - (t :: r).length : Nat) : Int); omega, c2⟩, h2']
    rfl

theorem fail_bad {l e : List TToken} (c : Ctx l) (h : e <:+ l) : decl_reader_fail (bad l e) = some ((), (bad l e, ())) := by
  unfold decl_reader_fail
  have c0 : (bad l e).2.2 > 0 := line_pos c h
  rw [if_pos (dT c0)]

theorem need_ok {l q r : List TToken} {t : TToken} (c : Ctx l) (h : q <:+ l) {k : Int} {text : ByteArray} {x : List UInt8} (hx : L text = x) (hp : pNeed k x q = .ok (t, r)) : decl_reader_need k text (rd l q) = some ((t, ()), (rd l r, ())) := by
  unfold decl_reader_need
  cases q with
  | nil => cases hp
  | cons t' r' =>
    rw [need_cons] at hp
    split at hp
    · rename_i hy
      cases hp
      rw [take_yes c h hx hy]
      simp only [Option.bind_some]
      exact if_neg (by simp)
    · cases hp

theorem need_err {l q e : List TToken} (c : Ctx l) (h : q <:+ l) {k : Int} {text : ByteArray} {x : List UInt8} (hx : L text = x) (hp : pNeed k x q = .error e) : decl_reader_need k text (rd l q) = some ((zT, ()), (bad l e, ())) := by
  unfold decl_reader_need
  have key : hdT k x q = false ∧ e = q := by
    cases q with
    | nil => cases hp; exact ⟨rfl, rfl⟩
    | cons t r =>
      rw [need_cons] at hp
      split at hp
      · cases hp
      · rename_i hy
        cases hp
        exact ⟨by simpa [hdT] using hy, rfl⟩
  obtain ⟨hy, rfl⟩ := key
  rw [take_no c h hx hy]
  simp only [Option.bind_some]
  refine (if_pos (by simp)).trans ?_
  rw [fail_rd c h]
  rfl

theorem need_bad {l e : List TToken} (c : Ctx l) (h : e <:+ l) (k : Int) (text : ByteArray) : decl_reader_need k text (bad l e) = some ((zT, ()), (bad l e, ())) := by
  unfold decl_reader_need
  rw [take_bad c h]
  simp only [Option.bind_some]
  refine (if_pos (by simp)).trans ?_
  rw [fail_bad c h]
  rfl

theorem either_bad {l e : List TToken} (c : Ctx l) (h : e <:+ l) (a : ByteArray) (na : Int) (b : ByteArray) (nb : Int) : decl_reader_either a na b nb (bad l e) = some ((nb, ()), (bad l e, ())) := by
  unfold decl_reader_either
  rw [take_bad c h]
  simp only [Option.bind_some]
  refine (if_neg (by simp)).trans ?_
  rw [need_bad c h]
  rfl

def Out {α : Type} (l : List TToken) (o : Option ((α × Unit) × (Treader × Unit))) : PR α → Prop
  | .ok (a, q) => o = some ((a, ()), (rd l q, ()))
  | .error e => ∃ z, o = some ((z, ()), (bad l e, ()))

theorem either_rd {l q : List TToken} (c : Ctx l) (h : q <:+ l) (a : ByteArray) (na : Int) (b : ByteArray) (nb : Int) : Out l (decl_reader_either a na b nb (rd l q)) (pEither (L a) na (L b) nb q) := by
  unfold decl_reader_either pEither
  by_cases hy : hdT 1 (L a) q = true
  · obtain ⟨t, r, rfl, _⟩ := hdT_cons hy
    rw [take_yes c h rfl hy, if_pos hy]
    rfl
  · rw [take_no c h rfl (by simpa using hy), if_neg hy]
    simp only [Option.bind_some]
    cases hp : pNeed 1 (L b) q with
    | ok p => rw [need_ok c h rfl hp]; rfl
    | error e => rw [need_err c h rfl hp]; exact ⟨nb, rfl⟩

theorem act_step {l q : List TToken} (c : Ctx l) (h : q <:+ l) (n : Nat) (h1 : 1 ≤ n) (h6 : n ≤ 6) (z : TAct) :
    (hdT 1 (L (opW n)) q = true → Out l (decl_reader_act_l3 n (rd l q) z) (pArg n q.tail)) ∧ (hdT 1 (L (opW n)) q = false → decl_reader_act_l3 n (rd l q) z = decl_reader_act_l3 ((n + 1 : Nat) : Int) (rd l q) z) := by
  refine ⟨fun hy => ?_, fun hy => ?_⟩
  · obtain ⟨t, r, rfl, _⟩ := hdT_cons hy
    rw [decl_reader_act_l3_eq, if_pos (dT (by omega)), word_b _ (by omega)]
    simp only [Option.bind_some]
    rw [take_yes c h rfl hy]
    simp only [Option.bind_some, List.tail_cons, if_true]
    have hr : r <:+ l := (List.suffix_cons t r).trans h
    unfold pArg
    by_cases h2 : n ≤ 2
    · rw [if_pos h2, if_neg (dF (by omega))]
      rfl
    · rw [if_neg h2, if_pos (dT (by omega))]
      cases hp : pNeed 2 [] r with
      | ok p => rw [need_ok c hr rfl hp]; rfl
      | error e => rw [need_err c hr rfl hp]; exact ⟨_, rfl⟩
  · rw [decl_reader_act_l3_eq, if_pos (dT (by omega)), word_b _ (by omega)]
    simp only [Option.bind_some]
    rw [take_no c h rfl hy]
    simp only [Option.bind_some]
    rw [w64a n (by omega)]
    exact if_neg (by simp)

theorem act_end {l q : List TToken} (c : Ctx l) (h : q <:+ l) (z : TAct) : decl_reader_act_l3 ((7 : Nat) : Int) (rd l q) z = some (((0, 0), ()), (bad l q, ())) := by
  rw [decl_reader_act_l3_eq, if_neg (dF (by omega)), fail_rd c h]
  rfl

theorem act_rd {l q : List TToken} (c : Ctx l) (h : q <:+ l) : Out l (decl_reader_act (rd l q)) (pAct q) := by
  have s := fun n h1 h6 => act_step c h n h1 h6 ((0, 0) : TAct)
  have all_no : (∀ n : Nat, 1 ≤ n → n ≤ 6 → hdT 1 (L (opW n)) q = false) → decl_reader_act (rd l q) = some (((0, 0), ()), (bad l q, ())) := fun hn => by
    have e : decl_reader_act (rd l q) = decl_reader_act_l3 ((1 : Nat) : Int) (rd l q) (0, 0) := rfl
    rw [e, (s 1 (by omega) (by omega)).2 (hn 1 (by omega) (by omega)), (s 2 (by omega) (by omega)).2 (hn 2 (by omega) (by omega)), (s 3 (by omega) (by omega)).2 (hn 3 (by omega) (by omega)),
      (s 4 (by omega) (by omega)).2 (hn 4 (by omega) (by omega)), (s 5 (by omega) (by omega)).2 (hn 5 (by omega) (by omega)), (s 6 (by omega) (by omega)).2 (hn 6 (by omega) (by omega)), act_end c h]
  cases q with
  | nil => exact ⟨_, all_no fun n _ _ => rfl⟩
  | cons t r =>
    have e : decl_reader_act (rd l (t :: r)) = decl_reader_act_l3 ((1 : Nat) : Int) (rd l (t :: r)) (0, 0) := rfl
    by_cases ht : t.1 = 1
    · have hv : ∀ n : Nat, 1 ≤ n → n ≤ 6 → hdT 1 (L (opW n)) (t :: r) = (L t.2.1 == L (opW n)) := fun n h1 h6 => by
        have : (L (opW n)).isEmpty = false := by
          have : n = 1 ∨ n = 2 ∨ n = 3 ∨ n = 4 ∨ n = 5 ∨ n = 6 := by omega
          rcases this with rfl | rfl | rfl | rfl | rfl | rfl <;> rfl
        show (decide (t.1 = 1) && (_ || _)) = _
        rw [decide_eq_true ht, this]
        rfl
      have yes : ∀ n : Nat, 1 ≤ n → n ≤ 6 → L t.2.1 = L (opW n) → Out l (decl_reader_act_l3 n (rd l (t :: r)) (0, 0)) (pArg n r) := fun n h1 h6 he => (s n h1 h6).1 (by rw [hv n h1 h6, he]; simp)
      have no : ∀ n : Nat, 1 ≤ n → n ≤ 6 → ¬ L t.2.1 = L (opW n) → decl_reader_act_l3 n (rd l (t :: r)) (0, 0) = decl_reader_act_l3 ((n + 1 : Nat) : Int) (rd l (t :: r)) (0, 0) := fun n h1 h6 he => (s n h1 h6).2 (by rw [hv n h1 h6]; simpa using he)
      have pv : ∀ n : Nat, n ≠ 0 → opNo (L t.2.1) = n → pAct (t :: r) = pArg n r := fun n h0 hn => by
        show (if t.1 = 1 ∧ opNo (L t.2.1) ≠ 0 then pArg (opNo (L t.2.1)) r else .error (t :: r)) = _
        rw [hn, if_pos ⟨ht, h0⟩]
      rw [e]
      by_cases e1 : L t.2.1 = L (opW 1)
      · rw [pv 1 (by omega) (by unfold opNo; rw [if_pos e1])]
        exact yes 1 (by omega) (by omega) e1
      rw [no 1 (by omega) (by omega) e1]
      by_cases e2 : L t.2.1 = L (opW 2)
      · rw [pv 2 (by omega) (by unfold opNo; rw [if_neg e1, if_pos e2])]
        exact yes 2 (by omega) (by omega) e2
      rw [no 2 (by omega) (by omega) e2]
      by_cases e3 : L t.2.1 = L (opW 3)
      · rw [pv 3 (by omega) (by unfold opNo; rw [if_neg e1, if_neg e2, if_pos e3])]
        exact yes 3 (by omega) (by omega) e3
      rw [no 3 (by omega) (by omega) e3]
      by_cases e4 : L t.2.1 = L (opW 4)
      · rw [pv 4 (by omega) (by unfold opNo; rw [if_neg e1, if_neg e2, if_neg e3, if_pos e4])]
        exact yes 4 (by omega) (by omega) e4
      rw [no 4 (by omega) (by omega) e4]
      by_cases e5 : L t.2.1 = L (opW 5)
      · rw [pv 5 (by omega) (by unfold opNo; rw [if_neg e1, if_neg e2, if_neg e3, if_neg e4, if_pos e5])]
        exact yes 5 (by omega) (by omega) e5
      rw [no 5 (by omega) (by omega) e5]
      by_cases e6 : L t.2.1 = L (opW 6)
      · rw [pv 6 (by omega) (by unfold opNo; rw [if_neg e1, if_neg e2, if_neg e3, if_neg e4, if_neg e5, if_pos e6])]
        exact yes 6 (by omega) (by omega) e6
      rw [no 6 (by omega) (by omega) e6, act_end c h]
      have : pAct (t :: r) = .error (t :: r) := by
        show (if t.1 = 1 ∧ opNo (L t.2.1) ≠ 0 then pArg (opNo (L t.2.1)) r else .error (t :: r)) = _
        rw [if_neg]
        unfold opNo
        rw [if_neg e1, if_neg e2, if_neg e3, if_neg e4, if_neg e5, if_neg e6]
        simp
      rw [this]
      exact ⟨_, rfl⟩
    · have hn : ∀ n : Nat, 1 ≤ n → n ≤ 6 → hdT 1 (L (opW n)) (t :: r) = false := fun n _ _ => by
        show (decide (t.1 = 1) && _) = _
        rw [decide_eq_false ht]
        rfl
      have : pAct (t :: r) = .error (t :: r) := by
        show (if t.1 = 1 ∧ opNo (L t.2.1) ≠ 0 then pArg (opNo (L t.2.1)) r else .error (t :: r)) = _
        rw [if_neg (fun q => ht q.1)]
      rw [this]
      exact ⟨_, all_no hn⟩

theorem act_bad {l e : List TToken} (c : Ctx l) (h : e <:+ l) : decl_reader_act (bad l e) = some (((0, 0), ()), (bad l e, ())) := by
  have st : ∀ n : Nat, 1 ≤ n → n ≤ 6 → decl_reader_act_l3 n (bad l e) ((0, 0) : TAct) = decl_reader_act_l3 ((n + 1 : Nat) : Int) (bad l e) (0, 0) := fun n h1 h6 => by
    rw [decl_reader_act_l3_eq, if_pos (dT (by omega)), word_b _ (by omega)]
    simp only [Option.bind_some]
    rw [take_bad c h]
    simp only [Option.bind_some]
    rw [w64a n (by omega)]
    exact if_neg (by simp)
  have e0 : decl_reader_act (bad l e) = decl_reader_act_l3 ((1 : Nat) : Int) (bad l e) (0, 0) := rfl
  rw [e0, st 1 (by omega) (by omega), st 2 (by omega) (by omega), st 3 (by omega) (by omega), st 4 (by omega) (by omega), st 5 (by omega) (by omega), st 6 (by omega) (by omega), decl_reader_act_l3_eq, if_neg (dF (by omega)), fail_bad c h]
  rfl

/-! ### targets -/
def OutT (l : List TToken) (o : Option ((TRule × Unit) × (Treader × Unit × Unit))) : PR TRule → Prop
  | .ok (a, q) => o = some ((a, ()), (rd l q, (), ()))
  | .error e => ∃ z, o = some ((z, ()), (bad l e, (), ()))

theorem l8_bad {l e : List TToken} (c : Ctx l) (h : e <:+ l) (lo hi : Int) (nx : ByteArray) (ag : Bool) (acc acc' : List TAct) :
    decl_reader_target_l8 (bad l e) lo hi nx ag 0 0 (strB []) false acc acc' = some (((lo, hi, nx, ag, acc), ()), (bad l e, (), ())) := by
  rw [decl_reader_target_l8_eq, take_bad c h]
  simp only [Option.bind_some]
  refine (if_pos (by simp)).trans ?_
  rw [need_bad c h]
  rfl

theorem end_rd {l q : List TToken} (c : Ctx l) (h : q <:+ l) (lo hi : Int) (nx : ByteArray) (ag : Bool) (acc : List TAct) :
    OutT l ((decl_reader_need 4 (strB [59]) (rd l q)).bind fun y2 => some (((lo, hi, nx, ag, acc), ()), (y2.2.1, (), ()))) (andP (pNeed 4 [59] q) fun _ q => .ok ((lo, hi, nx, ag, acc), q)) := by
  cases hp : pNeed 4 [59] q with
  | ok p => rw [need_ok c h (L_strB _) hp]; rfl
  | error e => rw [need_err c h (L_strB _) hp]; exact ⟨_, rfl⟩

theorem l8_rd {l : List TToken} (c : Ctx l) (lo hi : Int) (nx : ByteArray) (ag : Bool) (acc' : List TAct) : ∀ (k : Nat) (acc : List TAct) (q : List TToken), q <:+ l → q.length ≤ k → acc ≠ [] → acc.length + k ≤ 2000000 →
    OutT l (decl_reader_target_l8 (rd l q) lo hi nx ag 0 0 (strB []) false acc acc') (andP (pActs k acc q) fun acts q => andP (pNeed 4 [59] q) fun _ q => .ok ((lo, hi, nx, ag, acts), q))
  | 0, acc, q, h, hk, ha, hb => by
    have : q = [] := List.length_eq_zero_iff.1 (by omega)
    subst this
    rw [decl_reader_target_l8_eq, take_no c h (L_strB _) rfl]
    simp only [Option.bind_some]
    rw [if_pos (by simp)]
    exact end_rd c h lo hi nx ag acc
  | k + 1, acc, q, h, hk, ha, hb => by
    have hs : sepB acc = [44] := by unfold sepB; rw [if_neg ha]
    unfold pActs
    rw [hs, decl_reader_target_l8_eq]
    by_cases hy : hdT 4 [44] q = true
    · obtain ⟨t, r, rfl, _⟩ := hdT_cons hy
      have hr : r <:+ l := (List.suffix_cons t r).trans h
      rw [take_yes c h (L_strB _) hy, if_pos hy]
      simp only [Option.bind_some, List.tail_cons]
      rw [if_neg (by simp)]
      have ho := act_rd c hr
      cases hp : pAct r with
      | ok p =>
        rw [hp] at ho
        rw [show decl_reader_act (rd l r) = some ((p.1, ()), (rd l p.2, ())) from ho]
        simp only [Option.bind_some]
        have hl := okLen (goes_act r) (a := p.1) (r := p.2) hp
        simp only [List.length_cons] at hk
        rw [if_pos ⟨by omega, by decide⟩]
        exact l8_rd c lo hi nx ag acc' k (acc ++ [p.1]) p.2 (sufk hr (goes_act r) (a := p.1) hp) (by omega) (by simp) (by rw [List.length_append]; simp only [List.length_cons, List.length_nil]; omega)
      | error e =>
        rw [hp] at ho
        obtain ⟨z, hz⟩ := ho
        rw [hz]
        simp only [Option.bind_some]
        rw [if_pos ⟨by omega, by decide⟩]
        exact ⟨_, l8_bad c (sufe hr (goes_act r) hp) lo hi nx ag (acc ++ [z]) acc'⟩
    · have hn : hdT 4 [44] q = false := by simpa using hy
      rw [take_no c h (L_strB _) hn, if_neg hy]
      simp only [Option.bind_some]
      rw [if_pos (by simp)]
      exact end_rd c h lo hi nx ag acc

theorem target_bad {l e : List TToken} (c : Ctx l) (h : e <:+ l) (lo hi : Int) (nx : ByteArray) (ag : Bool) : decl_reader_target lo hi nx ag (bad l e) [] = some (((lo, hi, strB [], false, []), ()), (bad l e, (), ())) := by
  unfold decl_reader_target
  rw [need_bad c h]
  simp only [Option.bind_some]
  rw [need_bad c h]
  simp only [Option.bind_some]
  rw [take_bad c h]
  simp only [Option.bind_some]
  rw [take_bad c h]
  simp only [Option.bind_some]
  rw [if_neg (by simp), need_bad c h]
  rfl

theorem target_rd {l q : List TToken} (c : Ctx l) (h : q <:+ l) (lo hi : Int) (nx : ByteArray) (ag : Bool) : OutT l (decl_reader_target lo hi nx ag (rd l q) []) (pTarget lo hi q) := by
  unfold decl_reader_target pTarget
  cases h1 : pNeed 4 [62] q with
  | error e =>
    have he := sufe h (goes_need 4 [62] q) h1
    rw [need_err c h (L_strB _) h1]
    simp only [Option.bind_some]
    rw [need_bad c he]
    simp only [Option.bind_some]
    rw [take_bad c he]
    simp only [Option.bind_some]
    rw [take_bad c he]
    simp only [Option.bind_some]
    rw [if_neg (by simp), need_bad c he]
    exact ⟨_, rfl⟩
  | ok p =>
    obtain ⟨t1, q1⟩ := p
    have g1 := sufk h (goes_need 4 [62] q) h1
    rw [need_ok c h (L_strB _) h1]
    simp only [Option.bind_some, andP_ok']
    cases h2 : pNeed 1 [] q1 with
    | error e =>
      have he := sufe g1 (goes_need 1 [] q1) h2
      rw [need_err c g1 (L_strB _) h2]
      simp only [Option.bind_some]
      rw [take_bad c he]
      simp only [Option.bind_some]
      rw [take_bad c he]
      simp only [Option.bind_some]
      rw [if_neg (by simp), need_bad c he]
      exact ⟨_, rfl⟩
    | ok p =>
      obtain ⟨t2, q2⟩ := p
      have g2 := sufk g1 (goes_need 1 [] q1) h2
      rw [need_ok c g1 (L_strB _) h2]
      simp only [Option.bind_some, andP_ok']
      have rest : ∀ (b : Bool) (q3 : List TToken), q3 <:+ l → OutT l ((decl_reader_take 4 (strB [58]) (rd l q3)).bind fun y4 =>
          if y4.1.2.1 = true then
            (decl_reader_act y4.2.1).bind fun y5 =>
              if (([] : List TAct).length + 1) * 16 ≤ 140737488355328 ∧ 0 < 16 then
                decl_reader_target_l8 y5.2.1 lo hi t2.2.1 b 0 0 (strB []) false (([] : List TAct) ++ [y5.1.1]) []
              else
                none
          else
            (decl_reader_need 4 (strB [59]) y4.2.1).bind fun y6 =>
              some (((lo, hi, t2.2.1, b, []), ()), (y6.2.1, (), ())))
          (andP (pActs q3.length [] q3) fun acts q => andP (pNeed 4 [59] q) fun _ q => .ok ((lo, hi, t2.2.1, b, acts), q)) := fun b q3 g3 => by
        have hlen := g3.length_le
        have hcl := c.len
        by_cases hy : hdT 4 [58] q3 = true
        · obtain ⟨t, r, rfl, _⟩ := hdT_cons hy
          have hr : r <:+ l := (List.suffix_cons t r).trans g3
          rw [take_yes c g3 (L_strB _) hy]
          simp only [Option.bind_some, if_true]
          have e : pActs (t :: r).length [] (t :: r) = andP (pAct r) fun a q => pActs r.length [a] q := by
            rw [List.length_cons, acts_succ, if_pos (show hdT 4 (sepB []) (t :: r) = true from hy)]
            rfl
          rw [e]
          have ho := act_rd c hr
          cases hp : pAct r with
          | ok p =>
            rw [hp] at ho
            rw [show decl_reader_act (rd l r) = some ((p.1, ()), (rd l p.2, ())) from ho]
            simp only [Option.bind_some]
            have hl := okLen (goes_act r) (a := p.1) (r := p.2) hp
            simp only [List.length_cons] at hlen
            rw [if_pos ⟨by decide, by decide⟩]
            exact l8_rd c lo hi t2.2.1 b [] r.length [p.1] p.2 (sufk hr (goes_act r) (a := p.1) hp) (by omega) (by simp) (by simp only [List.length_cons, List.length_nil]; omega)
          | error e =>
            rw [hp] at ho
            obtain ⟨z, hz⟩ := ho
            rw [hz]
            simp only [Option.bind_some]
            rw [if_pos ⟨by decide, by decide⟩]
            exact ⟨_, l8_bad c (sufe hr (goes_act r) hp) lo hi t2.2.1 b ([] ++ [z]) []⟩
        · have hn : hdT 4 [58] q3 = false := by simpa using hy
          rw [take_no c g3 (L_strB _) hn]
          simp only [Option.bind_some]
          rw [if_neg (by simp)]
          have e : pActs q3.length [] q3 = .ok ([], q3) := by
            cases q3 with
            | nil => rfl
            | cons t r =>
              rw [List.length_cons, acts_succ, if_neg (show ¬ hdT 4 (sepB []) (t :: r) = true from hy)]
          rw [e]
          exact end_rd c g3 lo hi t2.2.1 b []
      unfold pOpt
      by_cases hy : hdT 1 (L sAgain) q2 = true
      · obtain ⟨t, r, rfl, _⟩ := hdT_cons hy
        rw [take_yes c g2 (text := strB [97, 103, 97, 105, 110]) rfl hy, if_pos hy]
        simp only [Option.bind_some, andP_ok', List.tail_cons]
        exact rest true r ((List.suffix_cons t r).trans g2)
      · rw [take_no c g2 (text := strB [97, 103, 97, 105, 110]) (x := L sAgain) rfl (by simpa using hy), if_neg hy]
        simp only [Option.bind_some, andP_ok']
        exact rest false q2 g2

/-! ### states -/
theorem l4_bad {l e : List TToken} (c : Ctx l) (h : e <:+ l) (a0 : ByteArray) (a2 : Bool) (a3 a4 : Int) (a5 : ByteArray) (a6 : Bool) (a7 : List TAct) (b0 : ByteArray) (b2 : Bool) (b3 b4 : Int) (b5 : ByteArray) (b6 : Bool) (b7 : List TAct) (x acc : List TRule) :
    decl_reader_state_l4 (bad l e) a0 a2 a3 a4 a5 a6 a7 b0 b2 b3 b4 b5 b6 b7 x acc = some (((b0, acc, b2, b3, b4, b5, b6, b7), ()), (bad l e, ())) := by
  rw [decl_reader_state_l4_eq, is_bad c h]
  simp only [Option.bind_some]
  rw [if_neg (by simp), take_bad c h]
  simp only [Option.bind_some]
  rw [if_neg (by simp), need_bad c h]
  rfl

theorem l9_bad {l e : List TToken} (c : Ctx l) (h : e <:+ l) (lo hi : Int) (a0 : ByteArray) (a2 : Bool) (a3 a4 : Int) (a5 : ByteArray) (a6 : Bool) (a7 : List TAct) (b0 : ByteArray) (x acc : List TRule) (hb : acc.length ≤ 2000000) :
    ∃ z, decl_reader_state_l9 (bad l e) a0 a2 a3 a4 a5 a6 a7 b0 false 0 0 (strB []) false [] lo hi (strB []) false x acc [] = some ((z, ()), (bad l e, ())) := by
  rw [decl_reader_state_l9_eq, target_bad c h]
  simp only [Option.bind_some]
  rw [if_pos ⟨by omega, by decide⟩, l4_bad c h]
  exact ⟨_, rfl⟩

theorem l9_rd {l q : List TToken} (c : Ctx l) (h : q <:+ l) (lo hi : Int) (a0 : ByteArray) (a2 : Bool) (a3 a4 : Int) (a5 : ByteArray) (a6 : Bool) (a7 : List TAct) (b0 : ByteArray) (x acc : List TRule) (hb : acc.length ≤ 2000000) :
    (∀ r q', pTarget lo hi q = .ok (r, q') → decl_reader_state_l9 (rd l q) a0 a2 a3 a4 a5 a6 a7 b0 false 0 0 (strB []) false [] lo hi (strB []) false x acc [] = decl_reader_state_l4 (rd l q') a0 a2 a3 a4 a5 a6 a7 b0 false 0 0 (strB []) false [] x (acc ++ [r])) ∧
    (∀ e, pTarget lo hi q = .error e → ∃ z, decl_reader_state_l9 (rd l q) a0 a2 a3 a4 a5 a6 a7 b0 false 0 0 (strB []) false [] lo hi (strB []) false x acc [] = some ((z, ()), (bad l e, ()))) := by
  have ho := target_rd c h lo hi (strB []) false
  refine ⟨fun r q' hp => ?_, fun e hp => ?_⟩
  · rw [hp] at ho
    rw [decl_reader_state_l9_eq, show decl_reader_target lo hi (strB []) false (rd l q) [] = some ((r, ()), (rd l q', (), ())) from ho]
    simp only [Option.bind_some]
    rw [if_pos ⟨by omega, by decide⟩]
  · rw [hp] at ho
    obtain ⟨z, hz⟩ := ho
    have he := sufe h (goes_target lo hi q) hp
    rw [decl_reader_state_l9_eq, hz]
    simp only [Option.bind_some]
    rw [if_pos ⟨by omega, by decide⟩, l4_bad c he]
    exact ⟨_, rfl⟩

/-- What follows the rules of a state. -/
def pTail (n : ByteArray) (rs : List RuleT) (q : List TokT) : PR StateT := andP (pElse q) fun e q => andP (pNeed 4 [125] q) fun _ q => .ok ((n, rs, e.1, e.2), q)

theorem tail_rd {l q : List TToken} (c : Ctx l) (h : q <:+ l) (hn : hdT 2 [] q = false) (a0 : ByteArray) (a2 : Bool) (a3 a4 : Int) (a5 : ByteArray) (a6 : Bool) (a7 : List TAct) (b0 : ByteArray) (x acc : List TRule) :
    Out l (decl_reader_state_l4 (rd l q) a0 a2 a3 a4 a5 a6 a7 b0 false 0 0 (strB []) false [] x acc) (pTail b0 acc q) := by
  rw [decl_reader_state_l4_eq, is_rd c h 2 (strB []) (L_strB _), hn]
  simp only [Option.bind_some]
  rw [if_neg (by simp)]
  unfold pTail pElse
  by_cases hy : hdT 4 [42] q = true
  · obtain ⟨t, r, rfl, _⟩ := hdT_cons hy
    have hr : r <:+ l := (List.suffix_cons t r).trans h
    rw [take_yes c h (L_strB _) hy, if_pos hy]
    simp only [Option.bind_some, List.tail_cons, if_true]
    have ho := target_rd c hr 0 0 (strB []) false
    cases hp : pTarget 0 0 r with
    | ok p =>
      obtain ⟨r1, q1⟩ := p
      rw [hp] at ho
      have g1 := sufk hr (goes_target 0 0 r) hp
      rw [show decl_reader_target 0 0 (strB []) false (rd l r) [] = some ((r1, ()), (rd l q1, (), ())) from ho]
      simp only [Option.bind_some, andP_ok']
      cases h2 : pNeed 4 [125] q1 with
      | ok p => rw [need_ok c g1 (L_strB _) h2]; rfl
      | error e => rw [need_err c g1 (L_strB _) h2]; exact ⟨_, rfl⟩
    | error e =>
      rw [hp] at ho
      obtain ⟨z, hz⟩ := ho
      rw [hz]
      simp only [Option.bind_some]
      rw [need_bad c (sufe hr (goes_target 0 0 r) hp)]
      exact ⟨_, rfl⟩
  · rw [take_no c h (L_strB _) (by simpa using hy), if_neg hy]
    simp only [Option.bind_some, andP_ok']
    rw [if_neg (by simp)]
    cases h2 : pNeed 4 [125] q with
    | ok p => rw [need_ok c h (L_strB _) h2]; rfl
    | error e => rw [need_err c h (L_strB _) h2]; exact ⟨_, rfl⟩

theorem rule_rd {l q : List TToken} (c : Ctx l) (h : q <:+ l) (hy : hdT 2 [] q = true) (a0 : ByteArray) (a2 : Bool) (a3 a4 : Int) (a5 : ByteArray) (a6 : Bool) (a7 : List TAct) (b0 : ByteArray) (x acc : List TRule) (hb : acc.length ≤ 2000000) :
    (∀ r q', pRule q = .ok (r, q') → decl_reader_state_l4 (rd l q) a0 a2 a3 a4 a5 a6 a7 b0 false 0 0 (strB []) false [] x acc = decl_reader_state_l4 (rd l q') a0 a2 a3 a4 a5 a6 a7 b0 false 0 0 (strB []) false [] x (acc ++ [r])) ∧
    (∀ e, pRule q = .error e → ∃ z, decl_reader_state_l4 (rd l q) a0 a2 a3 a4 a5 a6 a7 b0 false 0 0 (strB []) false [] x acc = some ((z, ()), (bad l e, ()))) := by
  obtain ⟨t, r, rfl, _⟩ := hdT_cons hy
  have hr : r <:+ l := (List.suffix_cons t r).trans h
  have h1 : pNeed 2 [] (t :: r) = .ok (t, r) := need_of hy
  rw [decl_reader_state_l4_eq, is_rd c h 2 (strB []) (L_strB _), hy]
  simp only [Option.bind_some, if_true]
  rw [need_ok c h (L_strB _) h1]
  simp only [Option.bind_some]
  unfold pRule
  rw [h1, andP_ok']
  unfold pHi
  by_cases h46 : hdT 4 [46] r = true
  · obtain ⟨t2, r2, rfl, _⟩ := hdT_cons h46
    have hr2 : r2 <:+ l := (List.suffix_cons t2 r2).trans hr
    rw [take_yes c hr (L_strB _) h46, if_pos h46]
    simp only [Option.bind_some, List.tail_cons, if_true]
    cases h3 : pNeed 4 [46] r2 with
    | error e =>
      have he := sufe hr2 (goes_need 4 [46] r2) h3
      rw [need_err c hr2 (L_strB _) h3]
      simp only [Option.bind_some]
      rw [need_bad c he]
      simp only [Option.bind_some]
      obtain ⟨z, hz⟩ := l9_bad c he t.2.2.1 zT.2.2.1 a0 a2 a3 a4 a5 a6 a7 b0 x acc hb
      refine ⟨fun r q' hp => (by cases hp), fun e' hp => ?_⟩
      cases hp
      exact ⟨z, hz⟩
    | ok p =>
      obtain ⟨t3, q3⟩ := p
      have g3 := sufk hr2 (goes_need 4 [46] r2) h3
      rw [need_ok c hr2 (L_strB _) h3]
      simp only [Option.bind_some, andP_ok']
      cases h4 : pNeed 2 [] q3 with
      | error e =>
        have he := sufe g3 (goes_need 2 [] q3) h4
        rw [need_err c g3 (L_strB _) h4]
        simp only [Option.bind_some]
        obtain ⟨z, hz⟩ := l9_bad c he t.2.2.1 zT.2.2.1 a0 a2 a3 a4 a5 a6 a7 b0 x acc hb
        refine ⟨fun r q' hp => (by cases hp), fun e' hp => ?_⟩
        cases hp
        exact ⟨z, hz⟩
      | ok p =>
        obtain ⟨t4, q4⟩ := p
        have g4 := sufk g3 (goes_need 2 [] q3) h4
        rw [need_ok c g3 (L_strB _) h4]
        simp only [Option.bind_some, andP_ok']
        exact l9_rd c g4 t.2.2.1 t4.2.2.1 a0 a2 a3 a4 a5 a6 a7 b0 x acc hb
  · rw [take_no c hr (L_strB _) (by simpa using h46), if_neg h46]
    simp only [Option.bind_some, andP_ok']
    rw [if_neg (by simp)]
    exact l9_rd c hr t.2.2.1 t.2.2.1 a0 a2 a3 a4 a5 a6 a7 b0 x acc hb

theorem l4_rd {l : List TToken} (c : Ctx l) (a0 : ByteArray) (a2 : Bool) (a3 a4 : Int) (a5 : ByteArray) (a6 : Bool) (a7 : List TAct) (b0 : ByteArray) (x : List TRule) : ∀ (k : Nat) (acc : List TRule) (q : List TToken), q <:+ l → q.length ≤ k → acc.length + k ≤ 2000000 →
    Out l (decl_reader_state_l4 (rd l q) a0 a2 a3 a4 a5 a6 a7 b0 false 0 0 (strB []) false [] x acc) (andP (pRules k acc q) (pTail b0))
  | 0, acc, q, h, hk, hb => by
    have : q = [] := List.length_eq_zero_iff.1 (by omega)
    subst this
    exact tail_rd c h rfl a0 a2 a3 a4 a5 a6 a7 b0 x acc
  | k + 1, acc, q, h, hk, hb => by
    unfold pRules
    by_cases hy : hdT 2 [] q = true
    · rw [if_pos hy]
      have hr := rule_rd c h hy a0 a2 a3 a4 a5 a6 a7 b0 x acc (by omega)
      cases hp : pRule q with
      | error e => exact hr.2 e hp
      | ok p =>
        obtain ⟨r, q'⟩ := p
        rw [hr.1 r q' hp]
        have hl := okLen (goes_rule q) hp
        exact l4_rd c a0 a2 a3 a4 a5 a6 a7 b0 x k (acc ++ [r]) q' (sufk h (goes_rule q) hp) (by omega) (by rw [List.length_append]; simp only [List.length_cons, List.length_nil]; omega)
    · rw [if_neg hy]
      exact tail_rd c h (by simpa using hy) a0 a2 a3 a4 a5 a6 a7 b0 x acc

theorem state_bad {l e : List TToken} (c : Ctx l) (h : e <:+ l) : ∃ z, decl_reader_state (bad l e) = some ((z, ()), (bad l e, ())) := by
  unfold decl_reader_state
  rw [need_bad c h]
  simp only [Option.bind_some]
  rw [need_bad c h]
  simp only [Option.bind_some]
  rw [l4_bad c h]
  exact ⟨_, rfl⟩

theorem state_rd {l q : List TToken} (c : Ctx l) (h : q <:+ l) : Out l (decl_reader_state (rd l q)) (pState q) := by
  unfold decl_reader_state pState
  cases h1 : pNeed 1 [] q with
  | error e =>
    have he := sufe h (goes_need 1 [] q) h1
    rw [need_err c h (L_strB _) h1]
    simp only [Option.bind_some]
    rw [need_bad c he]
    simp only [Option.bind_some]
    rw [l4_bad c he]
    exact ⟨_, rfl⟩
  | ok p =>
    obtain ⟨t1, q1⟩ := p
    have g1 := sufk h (goes_need 1 [] q) h1
    rw [need_ok c h (L_strB _) h1]
    simp only [Option.bind_some, andP_ok']
    cases h2 : pNeed 4 [123] q1 with
    | error e =>
      have he := sufe g1 (goes_need 4 [123] q1) h2
      rw [need_err c g1 (L_strB _) h2]
      simp only [Option.bind_some]
      rw [l4_bad c he]
      exact ⟨_, rfl⟩
    | ok p =>
      obtain ⟨t2, q2⟩ := p
      have g2 := sufk g1 (goes_need 4 [123] q1) h2
      rw [need_ok c g1 (L_strB _) h2]
      simp only [Option.bind_some, andP_ok']
      have := g2.length_le
      have := c.len
      exact l4_rd c _ _ _ _ _ _ _ t1.2.1 [] q2.length [] q2 g2 (Nat.le_refl _) (by simp only [List.length_nil]; omega)

/-! ### declarations -/
def OutD (l : List TToken) (o : Option ((TDecl × Int × Int × Unit) × Unit)) : Except (List TokT) DeclT → Prop
  | .ok d => o = some ((if checkV d = 0 then (d, 0, 0, ()) else ((strB [], 0, 0, []), 0, checkV d, ())), ())
  | .error e => o = some (((strB [], 0, 0, []), lineV l e, 4, ()), ())

theorem l19_bad {l e : List TToken} (c : Ctx l) (h : e <:+ l) (a0 : ByteArray) (a1 a2 : Int) (n : ByteArray) (i o : Int) (x acc : List TDeclState) :
    decl_Parse_l19 a0 a1 a2 (bad l e) n i o x acc = some (((strB [], 0, 0, []), lineV l e, 4, ()), ()) := by
  rw [decl_Parse_l19_eq]
  have c0 : (bad l e).2.2 > 0 := line_pos c h
  rw [if_pos (dT c0)]
  rfl

theorem l14_bad {l e : List TToken} (c : Ctx l) (h : e <:+ l) (a0 : ByteArray) (a1 a2 : Int) (n : ByteArray) (i o : Int) (x acc : List TDeclState) :
    decl_Parse_l14 a0 a1 a2 (bad l e) n i o x acc = some (((strB [], 0, 0, []), lineV l e, 4, ()), ()) := by
  rw [decl_Parse_l14_eq, take_bad c h]
  simp only [Option.bind_some]
  refine (if_pos (by simp)).trans ?_
  rw [need_bad c h]
  simp only [Option.bind_some]
  rw [fail_bad c h]
  simp only [Option.bind_some]
  split <;> exact l19_bad c h a0 a1 a2 n i o x acc

def endV (n : ByteArray) (i o : Int) (ss : List StateT) (q : List TokT) : Except (List TokT) DeclT := match pNeed 4 [125] q with
  | .error e => .error e
  | .ok (_, []) => .ok (n, i, o, ss)
  | .ok (_, t :: r) => .error (t :: r)

theorem end_d {l q : List TToken} (c : Ctx l) (h : q <:+ l) (hn : hdT 1 (L sState) q = false) (a0 : ByteArray) (a1 a2 : Int) (n : ByteArray) (i o : Int) (x acc : List TDeclState) (hd : okDecl (n, i, o, acc)) :
    OutD l (decl_Parse_l14 a0 a1 a2 (rd l q) n i o x acc) (endV n i o acc q) := by
  rw [decl_Parse_l14_eq, take_no c h (text := strB [115, 116, 97, 116, 101]) rfl hn]
  simp only [Option.bind_some]
  rw [if_pos (by simp)]
  unfold endV
  cases h1 : pNeed 4 [125] q with
  | error e =>
    have he := sufe h (goes_need 4 [125] q) h1
    rw [need_err c h (L_strB _) h1]
    simp only [Option.bind_some]
    rw [fail_bad c he]
    simp only [Option.bind_some]
    show _ = _
    split <;> exact l19_bad c he a0 a1 a2 n i o x acc
  | ok p =>
    obtain ⟨t, q1⟩ := p
    have g1 := sufk h (goes_need 4 [125] q) h1
    rw [need_ok c h (L_strB _) h1]
    simp only [Option.bind_some]
    cases q1 with
    | nil =>
      have c1 : ¬ (rd l []).2.1 < ((rd l []).1.length : Int) := by show ¬ ((l.length - 0 : Nat) : Int) < (l.length : Int); simp
      rw [if_neg (dF c1), decl_Parse_l19_eq]
      have c0 : ¬ (rd l []).2.2 > 0 := by show ¬ (0 : Int) > 0; omega
      rw [if_neg (dF c0), dcheck_eq _ hd]
      simp only [Option.bind_some]
      show _ = _
      by_cases hc : checkV (n, i, o, acc) = 0
      · rw [if_neg (nF hc), if_pos hc]
      · rw [if_pos (nT hc), if_neg hc]
    | cons t2 r2 =>
      obtain ⟨b1, _, _⟩ := at_cons g1
      have c1 : (rd l (t2 :: r2)).2.1 < ((rd l (t2 :: r2)).1.length : Int) := by show ((l.length - (t2 :: r2).length : Nat) : Int) < (l.length : Int); omega
      rw [if_pos (dT c1), fail_rd c g1]
      simp only [Option.bind_some]
      exact l19_bad c g1 a0 a1 a2 n i o x acc

def restV (n : ByteArray) (i o : Int) (x : PR (List StateT)) : Except (List TokT) DeclT := match x with
  | .error e => .error e
  | .ok (ss, q) => endV n i o ss q

theorem l14_rd {l : List TToken} (c : Ctx l) (a0 : ByteArray) (a1 a2 : Int) (n : ByteArray) (i o : Int) (x : List TDeclState) : ∀ (k : Nat) (acc : List TDeclState) (q : List TToken), q <:+ l → q.length ≤ k → acc.length + k ≤ 1048576 → (∀ s ∈ acc, SmallS 1048576 s) →
    OutD l (decl_Parse_l14 a0 a1 a2 (rd l q) n i o x acc) (restV n i o (pStates k acc q))
  | 0, acc, q, h, hk, hb, ha => by
    have : q = [] := List.length_eq_zero_iff.1 (by omega)
    subst this
    exact end_d c h rfl a0 a1 a2 n i o x acc ⟨by show acc.length ≤ _; omega, fun s hs => ⟨(ha s hs).1, (ha s hs).2.1, (ha s hs).2.2⟩⟩
  | k + 1, acc, q, h, hk, hb, ha => by
    unfold pStates
    by_cases hy : hdT 1 (L sState) q = true
    · obtain ⟨t, r, rfl, _⟩ := hdT_cons hy
      have hr : r <:+ l := (List.suffix_cons t r).trans h
      rw [if_pos hy, decl_Parse_l14_eq, take_yes c h (text := strB [115, 116, 97, 116, 101]) rfl hy]
      simp only [Option.bind_some, List.tail_cons]
      rw [if_neg (by simp)]
      have ho := state_rd c hr
      cases hp : pState r with
      | error e =>
        rw [hp] at ho
        obtain ⟨z, hz⟩ := ho
        rw [hz]
        simp only [Option.bind_some]
        rw [if_pos ⟨by omega, by decide⟩]
        exact l14_bad c (sufe hr (goes_state r) hp) a0 a1 a2 n i o x (acc ++ [z])
      | ok p =>
        obtain ⟨s, q'⟩ := p
        rw [hp] at ho
        rw [show decl_reader_state (rd l r) = some ((s, ()), (rd l q', ())) from ho]
        simp only [Option.bind_some]
        rw [if_pos ⟨by omega, by decide⟩]
        have hl := okLen (goes_state r) hp
        have hs : SmallS r.length s := state_len hp
        have hrl := hr.length_le
        have hcl := c.len
        simp only [List.length_cons] at hk
        exact l14_rd c a0 a1 a2 n i o x k (acc ++ [s]) q' (sufk hr (goes_state r) hp) (by omega) (by rw [List.length_append]; simp only [List.length_cons, List.length_nil]; omega) (fun y hm => by
          rcases List.mem_append.1 hm with hm | hm
          · exact ha y hm
          · simp only [List.mem_singleton] at hm
            subst hm
            exact ⟨by have := hs.1; omega, fun r hr => by have := hs.2.1 r hr; omega, by have := hs.2.2; omega⟩)
    · rw [if_neg hy]
      exact end_d c h (by simpa using hy) a0 a1 a2 n i o x acc ⟨by show acc.length ≤ _; omega, fun s hs => ⟨(ha s hs).1, (ha s hs).2.1, (ha s hs).2.2⟩⟩

theorem allV_eq (q : List TokT) : allV q = match pNeed 1 (L sDecoder) q with
    | .error e => .error e
    | .ok (_, q) => match pNeed 1 [] q with
      | .error e => .error e
      | .ok (n, q) => match pNeed 1 (L sInput) q with
        | .error e => .error e
        | .ok (_, q) => match pEither (L sBit) 2 (L sByte) 3 q with
          | .error e => .error e
          | .ok (i, q) => match pNeed 1 (L sOutput) q with
            | .error e => .error e
            | .ok (_, q) => match pEither (L sFrame) 5 (L sPacket) 6 q with
              | .error e => .error e
              | .ok (o, q) => match pNeed 4 [123] q with
                | .error e => .error e
                | .ok (_, q) => restV n.2.1 i o (pStates q.length [] q) := by
  unfold allV pDecl
  cases pNeed 1 (L sDecoder) q with
  | error e => rfl
  | ok p =>
    obtain ⟨t1, q1⟩ := p
    simp only [andP_ok']
    cases pNeed 1 [] q1 with
    | error e => rfl
    | ok p =>
      obtain ⟨t2, q2⟩ := p
      simp only [andP_ok']
      cases pNeed 1 (L sInput) q2 with
      | error e => rfl
      | ok p =>
        obtain ⟨t3, q3⟩ := p
        simp only [andP_ok']
        cases pEither (L sBit) 2 (L sByte) 3 q3 with
        | error e => rfl
        | ok p =>
          obtain ⟨i, q4⟩ := p
          simp only [andP_ok']
          cases pNeed 1 (L sOutput) q4 with
          | error e => rfl
          | ok p =>
            obtain ⟨t5, q5⟩ := p
            simp only [andP_ok']
            cases pEither (L sFrame) 5 (L sPacket) 6 q5 with
            | error e => rfl
            | ok p =>
              obtain ⟨o, q6⟩ := p
              simp only [andP_ok']
              cases pNeed 4 [123] q6 with
              | error e => rfl
              | ok p =>
                obtain ⟨t7, q7⟩ := p
                simp only [andP_ok']
                cases pStates q7.length [] q7 with
                | error e => rfl
                | ok p =>
                  obtain ⟨ss, q8⟩ := p
                  simp only [andP_ok', restV, endV]
                  cases pNeed 4 [125] q8 with
                  | error e => rfl
                  | ok p =>
                    obtain ⟨t9, q9⟩ := p
                    cases q9 <;> rfl

theorem parse_l {l : List TToken} (c : Ctx l) : OutD l ((decl_reader_need 1 (strB [100, 101, 99, 111, 100, 101, 114]) (l, 0, 0)).bind fun y2 =>
        (decl_reader_need 1 (strB []) y2.2.1).bind fun y3 =>
          (decl_reader_need 1 (strB [105, 110, 112, 117, 116]) y3.2.1).bind fun y4 =>
            (decl_reader_either (strB [98, 105, 116]) 2 (strB [98, 121, 116, 101]) 3 y4.2.1).bind fun y5 =>
              (decl_reader_need 1 (strB [111, 117, 116, 112, 117, 116]) y5.2.1).bind fun y6 =>
                (decl_reader_either (strB [102, 114, 97, 109, 101]) 5 (strB [112, 97, 99, 107, 101, 116]) 6 y6.2.1).bind fun y7 =>
                  (decl_reader_need 4 (strB [123]) y7.2.1).bind fun y8 =>
                    decl_Parse_l14 (strB []) 0 0 y8.2.1 y3.1.1.2.1 y5.1.1 y7.1.1 [] []) (allV l) := by
  have e0 : ((l, 0, 0) : Treader) = rd l l := by unfold rd; simp
  have h0 : l <:+ l := List.suffix_refl l
  have B : ∀ {e : List TToken}, e <:+ l → ∀ (k : Int) (x : ByteArray), decl_reader_need k x (bad l e) = some ((zT, ()), (bad l e, ())) := fun he k x => need_bad c he k x
  have E : ∀ {e : List TToken}, e <:+ l → ∀ (a : ByteArray) (na : Int) (b : ByteArray) (nb : Int), decl_reader_either a na b nb (bad l e) = some ((nb, ()), (bad l e, ())) := fun he a na b nb => either_bad c he a na b nb
  rw [e0, allV_eq]
  cases h1 : pNeed 1 (L sDecoder) l with
  | error e =>
    have he := sufe h0 (goes_need 1 (L sDecoder) l) h1
    rw [need_err c h0 (text := strB [100, 101, 99, 111, 100, 101, 114]) rfl h1]
    simp only [Option.bind_some, B he, E he]
    exact l14_bad c he _ _ _ _ _ _ _ _
  | ok p =>
    obtain ⟨t1, q1⟩ := p
    have g1 := sufk h0 (goes_need 1 (L sDecoder) l) h1
    rw [need_ok c h0 (text := strB [100, 101, 99, 111, 100, 101, 114]) rfl h1]
    simp only [Option.bind_some]
    cases h2 : pNeed 1 [] q1 with
    | error e =>
      have he := sufe g1 (goes_need 1 [] q1) h2
      rw [need_err c g1 (L_strB _) h2]
      simp only [Option.bind_some, B he, E he]
      exact l14_bad c he _ _ _ _ _ _ _ _
    | ok p =>
      obtain ⟨t2, q2⟩ := p
      have g2 := sufk g1 (goes_need 1 [] q1) h2
      rw [need_ok c g1 (L_strB _) h2]
      simp only [Option.bind_some]
      cases h3 : pNeed 1 (L sInput) q2 with
      | error e =>
        have he := sufe g2 (goes_need 1 (L sInput) q2) h3
        rw [need_err c g2 (text := strB [105, 110, 112, 117, 116]) rfl h3]
        simp only [Option.bind_some, B he, E he]
        exact l14_bad c he _ _ _ _ _ _ _ _
      | ok p =>
        obtain ⟨t3, q3⟩ := p
        have g3 := sufk g2 (goes_need 1 (L sInput) q2) h3
        rw [need_ok c g2 (text := strB [105, 110, 112, 117, 116]) rfl h3]
        simp only [Option.bind_some]
        have o4 := either_rd c g3 (strB [98, 105, 116]) 2 (strB [98, 121, 116, 101]) 3
        cases h4 : pEither (L sBit) 2 (L sByte) 3 q3 with
        | error e =>
          have he := sufe g3 (goes_either (L sBit) 2 (L sByte) 3 q3) h4
          rw [show pEither (L (strB [98, 105, 116])) 2 (L (strB [98, 121, 116, 101])) 3 q3 = .error e from h4] at o4
          obtain ⟨z, hz⟩ := o4
          rw [hz]
          simp only [Option.bind_some, B he, E he]
          exact l14_bad c he _ _ _ _ _ _ _ _
        | ok p =>
          obtain ⟨i, q4⟩ := p
          have g4 := sufk g3 (goes_either (L sBit) 2 (L sByte) 3 q3) h4
          rw [show pEither (L (strB [98, 105, 116])) 2 (L (strB [98, 121, 116, 101])) 3 q3 = .ok (i, q4) from h4] at o4
          rw [show _ = some ((i, ()), (rd l q4, ())) from o4]
          simp only [Option.bind_some]
          cases h5 : pNeed 1 (L sOutput) q4 with
          | error e =>
            have he := sufe g4 (goes_need 1 (L sOutput) q4) h5
            rw [need_err c g4 (text := strB [111, 117, 116, 112, 117, 116]) rfl h5]
            simp only [Option.bind_some, B he, E he]
            exact l14_bad c he _ _ _ _ _ _ _ _
          | ok p =>
            obtain ⟨t5, q5⟩ := p
            have g5 := sufk g4 (goes_need 1 (L sOutput) q4) h5
            rw [need_ok c g4 (text := strB [111, 117, 116, 112, 117, 116]) rfl h5]
            simp only [Option.bind_some]
            have o6 := either_rd c g5 (strB [102, 114, 97, 109, 101]) 5 (strB [112, 97, 99, 107, 101, 116]) 6
            cases h6 : pEither (L sFrame) 5 (L sPacket) 6 q5 with
            | error e =>
              have he := sufe g5 (goes_either (L sFrame) 5 (L sPacket) 6 q5) h6
              rw [show pEither (L (strB [102, 114, 97, 109, 101])) 5 (L (strB [112, 97, 99, 107, 101, 116])) 6 q5 = .error e from h6] at o6
              obtain ⟨z, hz⟩ := o6
              rw [hz]
              simp only [Option.bind_some, B he, E he]
              exact l14_bad c he _ _ _ _ _ _ _ _
            | ok p =>
              obtain ⟨o, q6⟩ := p
              have g6 := sufk g5 (goes_either (L sFrame) 5 (L sPacket) 6 q5) h6
              rw [show pEither (L (strB [102, 114, 97, 109, 101])) 5 (L (strB [112, 97, 99, 107, 101, 116])) 6 q5 = .ok (o, q6) from h6] at o6
              rw [show _ = some ((o, ()), (rd l q6, ())) from o6]
              simp only [Option.bind_some]
              cases h7 : pNeed 4 [123] q6 with
              | error e =>
                have he := sufe g6 (goes_need 4 [123] q6) h7
                rw [need_err c g6 (L_strB _) h7]
                simp only [Option.bind_some]
                exact l14_bad c he _ _ _ _ _ _ _ _
              | ok p =>
                obtain ⟨t7, q7⟩ := p
                have g7 := sufk g6 (goes_need 4 [123] q6) h7
                rw [need_ok c g6 (L_strB _) h7]
                simp only [Option.bind_some]
                have := g7.length_le
                have := c.len
                exact l14_rd c _ _ _ t2.2.1 i o [] q7.length [] q7 g7 (Nat.le_refl _) (by simp only [List.length_nil]; omega) (by simp)

theorem parse_b (s : ByteArray) : decl_Parse s = some (((parseV (L s)).1, (parseV (L s)).2.1, (parseV (L s)).2.2, ()), ()) := by
  unfold decl_Parse parseV
  have hlen := tokOut_length s
  rw [lex_Tokens_b]
  simp only [Option.bind_some]
  cases h : tokV (L s) with
  | error e =>
    simp only [tokOut]
    by_cases he : e.2 = 0
    · exact absurd he (tokV_err h)
    · refine (if_pos (nT he)).trans ?_
      rfl
  | ok l =>
    rw [h] at hlen
    simp only [tokOut, List.nil_append] at hlen ⊢
    refine (if_neg (nF rfl)).trans ?_
    have c : Ctx l := ⟨hlen, tokV_good h⟩
    have ho := parse_l c
    cases ha : allV l with
    | error e =>
      rw [ha] at ho
      exact ho
    | ok d =>
      rw [ha] at ho
      refine Eq.trans ho ?_
      simp only
      split <;> rfl

end Go.Proofs.YtjgjbdnjjepibaaDoor
end

section
/-
YtjgjbdnjjepibaaDoor: the bounds of the laws of declarations, equal declarations, the chapter's examples, as plain functions. No condition.
-/
set_option maxRecDepth 100000
set_option linter.unusedVariables false
open Go Go.AM
namespace Go.Proofs.YtjgjbdnjjepibaaDoor

theorem short_ex (r : TRule) : ∃ b, law34_short r = some ((b, ()), ()) := by
  unfold law34_short law34_named
  simp only [Option.bind_some]
  split <;> exact ⟨_, rfl⟩

theorem small_rules (d : TDecl) (s : TDeclState) (hl : s.2.1.length ≤ 1048576) (n : Int) (k : Nat) (hk : k + 1 ≤ 1048577) (F : ∃ b, law34_small_l7 n ((k + 1 : Nat) : Int) d = some ((b, ()), ())) : ∀ (rs : List TRule) (i : Nat), s.2.1.drop i = rs → ∃ b, law34_small_l17 n k i d s = some ((b, ()), ())
  | [], i, h => by
    have h1 := drop_nil h
    rw [law34_small_l17_eq, if_neg (dF (by omega)), w64a k (by omega)]
    exact F
  | r :: rs, i, h => by
    have h1 := drop_lt h
    have hg : s.2.1.getD (i : Int).toNat dRule = r := getD_drop h
    obtain ⟨b, hb⟩ := short_ex r
    rw [law34_small_l17_eq, if_pos (dT (by omega)), if_pos ⟨by omega, by omega⟩, hg, hb, w64a i (by omega)]
    simp only [Option.bind_some]
    split
    · exact ⟨_, rfl⟩
    · exact small_rules d s hl n k hk F rs (i + 1) (dropS h)

theorem small_states (d : TDecl) (h : okDecl d) : ∀ (ss : List TDeclState) (k : Nat) (n : Int), d.2.2.2.drop k = ss → ∃ b, law34_small_l7 n k d = some ((b, ()), ())
  | [], k, n, hk => by
    have h1 := drop_nil hk
    rw [law34_small_l7_eq, if_neg (dF (by omega))]
    exact ⟨_, rfl⟩
  | s :: ss, k, n, hk => by
    have h1 := drop_lt hk
    have hg : d.2.2.2.getD (k : Int).toNat dDeclState = s := getD_drop hk
    have hs := h.2 s (mem_drop hk)
    have hlen := h.1
    obtain ⟨b, hb⟩ := short_ex s.2.2.2
    rw [law34_small_l7_eq, if_pos (dT (by omega)), if_pos ⟨by omega, by omega⟩, hg]
    split
    · exact ⟨_, rfl⟩
    · unfold law34_named
      simp only [Option.bind_some]
      split
      · exact ⟨_, rfl⟩
      · rw [hb]
        simp only [Option.bind_some]
        split
        · exact ⟨_, rfl⟩
        · exact small_rules d s hs.1 _ k (by omega) (small_states d h ss (k + 1) _ (dropS hk)) s.2.1 0 rfl

theorem small_ex (d : TDecl) (h : okDecl d) : ∃ b, law34_small d = some ((b, ()), ()) := by
  unfold law34_small law34_named
  simp only [Option.bind_some]
  split
  · exact ⟨_, rfl⟩
  · split
    · exact ⟨_, rfl⟩
    · exact small_states d h d.2.2.2 0 0 rfl

theorem sameR_loop (r : TRule) (hl : okRule r) : ∀ (c i : Nat), c = r.2.2.2.2.length - i → i ≤ r.2.2.2.2.length → ref34_SameRule_l6 i r r = some ((true, ()), ())
  | 0, i, hc, hi => by rw [ref34_SameRule_l6_eq, if_neg (dF (by omega))]
  | c + 1, i, hc, hi => by
    have : r.2.2.2.2.length ≤ 1048576 := hl
    rw [ref34_SameRule_l6_eq, if_pos (dT (by omega)), if_pos ⟨by omega, by omega⟩, if_pos ⟨by omega, by omega⟩, (eqU_iff uAct rfl _ _).2 rfl, if_neg (by simp), w64a i (by omega)]
    exact sameR_loop r hl c (i + 1) (by omega) (by omega)

theorem sameRule_refl (r : TRule) (hl : okRule r) : ref34_SameRule r r = some ((true, ()), ()) := by
  unfold ref34_SameRule
  rw [if_neg (nF rfl), if_neg (nF rfl), if_neg (by simp), if_neg (by simp), if_neg (nF rfl)]
  exact sameR_loop r hl r.2.2.2.2.length 0 (by omega) (by omega)

theorem same_rules (d : TDecl) (s : TDeclState) (hs : okState s) (k : Nat) (hk : k + 1 ≤ 1048577) (F : ref34_Same_l6 ((k + 1 : Nat) : Int) d d = some ((true, ()), ())) : ∀ (rs : List TRule) (i : Nat), s.2.1.drop i = rs → ref34_Same_l15 k i d d s s = some ((true, ()), ())
  | [], i, h => by
    have h1 := drop_nil h
    rw [ref34_Same_l15_eq, if_neg (dF (by omega)), w64a k (by omega)]
    exact F
  | r :: rs, i, h => by
    have h1 := drop_lt h
    have hl := hs.1
    have hg : s.2.1.getD (i : Int).toNat dRule = r := getD_drop h
    rw [ref34_Same_l15_eq, if_pos (dT (by omega)), if_pos ⟨by omega, by omega⟩, if_pos ⟨by omega, by omega⟩, hg, sameRule_refl r (hs.2.1 r (mem_drop h)), w64a i (by omega)]
    simp only [Option.bind_some]
    rw [if_neg (by simp)]
    exact same_rules d s hs k hk F rs (i + 1) (dropS h)

theorem same_states (d : TDecl) (h : okDecl d) : ∀ (ss : List TDeclState) (k : Nat), d.2.2.2.drop k = ss → ref34_Same_l6 k d d = some ((true, ()), ())
  | [], k, hk => by
    have h1 := drop_nil hk
    rw [ref34_Same_l6_eq, if_neg (dF (by omega))]
  | s :: ss, k, hk => by
    have h1 := drop_lt hk
    have hlen := h.1
    have hg : d.2.2.2.getD (k : Int).toNat dDeclState = s := getD_drop hk
    have hs := h.2 s (mem_drop hk)
    rw [ref34_Same_l6_eq, if_pos (dT (by omega)), if_pos ⟨by omega, by omega⟩, if_pos ⟨by omega, by omega⟩, hg, if_neg (by simp), if_neg (by simp), sameRule_refl _ hs.2.2]
    simp only [Option.bind_some]
    rw [if_neg (by simp), if_neg (nF rfl)]
    exact same_rules d s hs k (by omega) (same_states d h ss (k + 1) (dropS hk)) s.2.1 0 rfl

theorem sameD_refl (d : TDecl) (h : okDecl d) : ref34_Same d d = some ((true, ()), ()) := by
  unfold ref34_Same
  rw [if_neg (by simp), if_neg (nF rfl), if_neg (nF rfl), if_neg (nF rfl)]
  exact same_states d h d.2.2.2 0 rfl

def linesD : TDecl := ((strB [108, 105, 110, 101, 115]), 3, 6, [((strB [97]), [(10, 10, (strB [97]), false, [(5, 0)])], true, 0, 0, (strB [97]), false, [(2, 0)])])
theorem ok_lines : okDecl linesD := okDecl_bk linesD (by decide)
theorem check_lines : checkV linesD = 0 := by kernel_rfl
theorem itoa_10 : Lib.itoa 10 = [49, 48] := by kernel_rfl
theorem itoa_0 : Lib.itoa 0 = [48] := by kernel_rfl
def linesS : List UInt8 := [100, 101, 99, 111, 100, 101, 114, 32, 108, 105, 110, 101, 115, 32, 105, 110, 112, 117, 116, 32, 98, 121, 116, 101, 32, 111, 117, 116, 112, 117, 116, 32, 112, 97, 99, 107, 101, 116, 32, 123, 32, 115, 116, 97, 116, 101, 32, 97, 32, 123, 32, 49, 48, 32, 62, 32, 97, 32, 58, 32, 101, 109, 105, 116, 32, 48, 32, 59, 32, 42, 32, 62, 32, 97, 32, 58, 32, 112, 117, 115, 104, 32, 59, 32, 125, 32, 125]
theorem print_lines : printV linesD = (linesS, 0) := by kernel_rfl
theorem parse_x : parseV [100, 101, 99, 111, 100, 101, 114, 32, 120] = (noDecl, 1, 4) := by kernel_rfl

theorem awake34_b : law34_awake = some ((true, ()), ()) := by
  unfold law34_awake law34_lines
  simp only [Option.bind_some]
  have hp := parse_print check_lines
  rw [show ((strB [108, 105, 110, 101, 115]), 3, 6, [((strB [97]), [(10, 10, (strB [97]), false, [(5, 0)])], true, 0, 0, (strB [97]), false, [(2, 0)])]) = linesD from rfl, print_b linesD ok_lines]
  simp only [Option.bind_some]
  rw [parse_b, L_strB, hp.2, parse_b, L_strB, parse_x, match_eq linesD 0 10 ok_lines]
  simp only [Option.bind_some]
  rw [print_lines, dcheck_eq linesD ok_lines, check_lines, find_eq linesD _ ok_lines.1, sameD_refl linesD ok_lines]
  show _ = some ((true, ()), ())
  kernel_rfl

end Go.Proofs.YtjgjbdnjjepibaaDoor
end

section
/-
YtjgjbdnjjepibaaDoor: the laws of declarations, as plain functions, come to true. No condition.
-/
set_option maxRecDepth 100000
set_option linter.unusedVariables false
open Go Go.AM
namespace Go.Proofs.YtjgjbdnjjepibaaDoor

theorem parseV_cases (l : List UInt8) : ((parseV l).2.2 ≠ 0 ∧ (parseV l).1 = noDecl) ∨ ((parseV l).2.2 = 0 ∧ checkV (parseV l).1 = 0 ∧ ∃ ts, tokV l = .ok ts ∧ pDecl ts = .ok ((parseV l).1, [])) := by
  unfold parseV
  cases h : tokV l with
  | error e => exact .inl ⟨tokV_err h, rfl⟩
  | ok ts =>
    simp only
    cases ha : allV ts with
    | error e => exact .inl ⟨(by simp), rfl⟩
    | ok d =>
      simp only
      by_cases hc : checkV d = 0
      · rw [if_pos hc]
        refine .inr ⟨rfl, hc, ts, rfl, ?_⟩
        unfold allV at ha
        split at ha
        · cases ha
        · rename_i d' hp
          cases ha
          exact hp
        · cases ha
      · rw [if_neg hc]
        exact .inl ⟨hc, rfl⟩

theorem parseV_ok (s : ByteArray) (h : (parseV (L s)).2.2 = 0) : checkV (parseV (L s)).1 = 0 ∧ okDecl (parseV (L s)).1 := by
  rcases parseV_cases (L s) with h1 | ⟨_, h2, ts, h3, h4⟩
  · exact absurd h h1.1
  · refine ⟨h2, decl_len h4 ?_⟩
    have := tokOut_length s
    rw [h3] at this
    simpa [tokOut] using this

theorem DeclChecks_true (d : TDecl) (h : okDecl d) : law34_DeclChecks d = some ((true, ()), ()) := by
  obtain ⟨b, hb⟩ := small_ex d h
  unfold law34_DeclChecks
  rw [hb, awake34_b, dcheck_eq d h, wcheck_eq d h]
  cases b <;> simp

theorem DeclMatches_true (d : TDecl) (n : ByteArray) (w : TAct) (h : okDecl d) (hm : okRule (matchV d.2.2.2 w.1 w.2).1) : law34_DeclMatches d n w = some ((true, ()), ()) := by
  obtain ⟨b, hb⟩ := small_ex d h
  unfold law34_DeclMatches law34_named
  rw [hb, awake34_b, match_eq d _ _ h, rmatch_eq d _ _ h, find_eq d _ h.1, rfind_eq d _ h.1]
  simp only [Option.bind_some]
  cases b with
  | false => simp
  | true =>
    refine (if_neg (by simp)).trans ?_
    split
    · rfl
    · rw [sameRule_refl _ hm]
      simp

theorem DeclRoundTrips_true (d : TDecl) (h : okDecl d) : law34_DeclRoundTrips d = some ((true, ()), ()) := by
  obtain ⟨b, hb⟩ := small_ex d h
  unfold law34_DeclRoundTrips
  rw [hb, awake34_b, dcheck_eq d h, print_b d h]
  simp only [Option.bind_some]
  cases b with
  | false => simp
  | true =>
    refine (if_neg (by simp)).trans ?_
    refine (if_neg (nF (print_err d))).trans ?_
    by_cases hc : checkV d = 0
    · obtain ⟨h1, h2⟩ := parse_print hc
      refine (if_neg (nF h1)).trans ?_
      rw [parse_b, L_strB, h2]
      simp only [Option.bind_some]
      rw [sameD_refl d h]
      simp
    · refine (if_pos (nT (by rw [print_err d]; exact hc))).trans ?_
      rw [print_no hc]
      simp

theorem DeclTexts_true (s : ByteArray) : law34_DeclTexts s = some ((true, ()), ()) := by
  unfold law34_DeclTexts
  rw [awake34_b]
  simp only [Option.bind_some]
  split
  · rfl
  · rw [parse_b]
    simp only [Option.bind_some]
    by_cases he : (parseV (L s)).2.2 = 0
    · obtain ⟨hc, ho⟩ := parseV_ok s he
      obtain ⟨h1, h2⟩ := parse_print hc
      refine (if_neg (nF he)).trans ?_
      rw [print_b _ ho]
      simp only [Option.bind_some]
      rw [parse_b, L_strB, h2]
      simp only [Option.bind_some]
      rw [print_b _ ho, dcheck_eq _ ho, hc, h1, sameD_refl _ ho]
      simp
    · have hn : (parseV (L s)).1 = noDecl := by
        rcases parseV_cases (L s) with h1 | h1
        · exact h1.2
        · exact absurd h1.1 he
      refine (if_pos (nT he)).trans ?_
      rw [hn]
      rfl

theorem First_loop (x : Int) (s : TDeclState) (hs : okState s) (r : TRule) (ok : Bool) : ∀ (rs : List TRule) (i : Nat), s.2.1.drop i = rs → ruleR s x rs = (r, ok) → law34_DeclFirst_l9 x ok i s r = some ((true, ()), ())
  | [], i, h, hr => by
    have h1 := drop_nil h
    have e : ruleR s x [] = if s.2.2.1 = true then (s.2.2.2, true) else (noRule, false) := rfl
    rw [law34_DeclFirst_l9_eq, if_neg (dF (by omega)), awake34_b]
    rw [e] at hr
    by_cases he : s.2.2.1 = true
    · rw [if_pos he] at hr ⊢
      cases hr
      rw [if_pos rfl, sameRule_refl _ hs.2.2]
      rfl
    · rw [if_neg he] at hr ⊢
      cases hr
      rw [if_pos (by simp), show ((0, 0, strB [], false, []) : TRule) = noRule from rfl, sameRule_refl noRule (by show ([] : List TAct).length ≤ _; simp)]
      rfl
  | q :: rs, i, h, hr => by
    have h1 := drop_lt h
    have hl := hs.1
    have hg : s.2.1.getD (i : Int).toNat dRule = q := getD_drop h
    have c1 : 0 ≤ (i : Int) ∧ (i : Int) < (s.2.1.length : Int) := ⟨by omega, by omega⟩
    rw [law34_DeclFirst_l9_eq, if_pos (dT (by omega)), if_pos c1, hg, w64a i (by omega)]
    have ih := fun hr' => First_loop x s hs r ok rs (i + 1) (dropS h) hr'
    by_cases ha : q.1 ≤ x
    · rw [if_pos (dT ha), if_pos c1]
      by_cases hb : x ≤ q.2.1
      · have hh : hitB x q = true := by unfold hitB; rw [decide_eq_true ha, decide_eq_true hb]; rfl
        have e : ruleR s x (q :: rs) = (q, true) := by unfold ruleR; rw [List.find?_cons_of_pos hh]
        rw [e] at hr
        cases hr
        rw [if_pos (dT hb), if_pos rfl, if_pos c1, sameRule_refl _ (hs.2.1 _ (mem_drop h)), awake34_b]
        rfl
      · have hh : ¬ hitB x q = true := by unfold hitB; rw [decide_eq_false hb]; simp
        have e : ruleR s x (q :: rs) = ruleR s x rs := by unfold ruleR; rw [List.find?_cons_of_neg hh]
        rw [if_neg (dF hb)]
        exact ih (by rw [← e]; exact hr)
    · have hh : ¬ hitB x q = true := by unfold hitB; rw [decide_eq_false ha]; simp
      have e : ruleR s x (q :: rs) = ruleR s x rs := by unfold ruleR; rw [List.find?_cons_of_neg hh]
      rw [if_neg (dF ha)]
      exact ih (by rw [← e]; exact hr)

theorem DeclFirst_true (d : TDecl) (w : TAct) (h : okDecl d) : law34_DeclFirst d w = some ((true, ()), ()) := by
  obtain ⟨b, hb⟩ := small_ex d h
  unfold law34_DeclFirst
  rw [hb, awake34_b, match_eq d _ _ h]
  simp only [Option.bind_some]
  cases b with
  | false => simp
  | true =>
    refine (if_neg (by simp)).trans ?_
    by_cases h1 : w.1 < 0
    · rw [if_pos (dT h1)]
    rw [if_neg (dF h1)]
    by_cases h2 : w.1 ≥ (d.2.2.2.length : Int)
    · rw [if_pos (dT h2)]
    rw [if_neg (dF h2), if_pos ⟨by omega, by omega⟩]
    have hlt : w.1.toNat < d.2.2.2.length := by omega
    have hg : d.2.2.2.getD w.1.toNat dDeclState = d.2.2.2[w.1.toNat] := getD_in _ hlt
    have e : matchV d.2.2.2 w.1 w.2 = ruleR d.2.2.2[w.1.toNat] w.2 d.2.2.2[w.1.toNat].2.1 := by
      unfold matchV
      rw [if_neg h1, List.getElem?_eq_getElem hlt]
    rw [hg, e]
    exact First_loop w.2 _ (h.2 _ (List.getElem_mem hlt)) _ _ _ 0 rfl rfl

theorem match_ok (d : TDecl) (h : okDecl d) (i x : Int) : okRule (matchV d.2.2.2 i x).1 := by
  have h0 : okRule noRule := by show ([] : List TAct).length ≤ _; simp
  unfold matchV
  split
  · exact h0
  · split
    · rename_i s hs
      have hso := h.2 s (List.mem_of_getElem? hs)
      unfold ruleR
      split
      · rename_i r hr
        exact hso.2.1 r (List.mem_of_find?_eq_some hr)
      · split
        · exact hso.2.2
        · exact h0
    · exact h0

end Go.Proofs.YtjgjbdnjjepibaaDoor
end
