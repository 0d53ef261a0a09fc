/-
The plain functions of the program that the law DecltabCells reaches, that the program computes them, and what they come to. No condition.
-/
import Derived.Test.YtgjimkgehbppbaaRows
import Derived.Test.YtgjimkgehbppbaaAm1
import Derived.Test.YtgjimkgehbppbaaAm2
import Derived.Test.YtgjimkgehbppbaaDecltabCellsC1
set_option linter.unusedVariables false
set_option linter.unusedSimpArgs false

section
/-
Ytgjimkgehbppbaa: signalbench.signalbenchref34.wrongTarget, as one plain function, its equations, its contract. No condition.
-/
set_option maxRecDepth 100000
set_option linter.unusedVariables false
set_option maxHeartbeats 4000000
open Go Go.AM
namespace Go.Proofs.Ytgjimkgehbppbaa
noncomputable section
def ref34_wrongTarget_F9 : FSh := ⟨[(3, .one (.ptr 0 0)), (5, .one (.int .i64))], [.boxr (.cons (.int .i64) (.cons (.int .i64) (.cons .str (.cons .bool (.sl (.cons (.int .i64) (.int .i64)))))))]⟩
def ref34_wrongTarget_D : FD := ⟨T, lookC [(42, fc42), (119, fc119)], [], (Try.f103.body.getD .skip), Try.f103.results.toList, ⟨[.row (.cons .str (.cons (.int .i64) (.cons (.int .i64) (.sl (.cons .str (.cons (.sl (.cons (.int .i64) (.cons (.int .i64) (.cons .str (.cons .bool (.sl (.cons (.int .i64) (.int .i64)))))))) (.cons .bool (.cons (.int .i64) (.cons (.int .i64) (.cons .str (.cons .bool (.sl (.cons (.int .i64) (.int .i64)))))))))))))), .row (.cons (.int .i64) (.cons (.int .i64) (.cons .str (.cons .bool (.sl (.cons (.int .i64) (.int .i64)))))))], []⟩, ⟨[.one (.int .i64)], []⟩, [(9, ref34_wrongTarget_F9)]⟩
def ref34_wrongTarget_l9 (i : Int) (h0 : TRule) : (Option ((Int × Unit) × Unit)) := ref34_wrongTarget_D.lab 9 ref34_wrongTarget_F9 (((), i, ()), (h0, ()))
theorem ref34_wrongTarget_l9_eq (i : Int) (h0 : TRule) : ref34_wrongTarget_l9 i h0 =
  if (decide (i < (h0.2.2.2.2.length : Int))) = true then
    if 0 ≤ i ∧ i < (h0.2.2.2.2.length : Int) then
      (ref34_wrongAct (h0.2.2.2.2.getD i.toNat dAct)).bind fun y1 =>
        if (y1.1.1 != 0) = true then
          some ((y1.1.1, ()), ())
        else
          ref34_wrongTarget_l9 (IntKind.i64.wrap (i + 1)) h0
    else
      none
  else
    some ((0, ()), ()) := (FD.lab_eq _ _ _ _).trans (by kernel_rfl)
def ref34_wrongTarget (d : TDecl) (r : TRule) : (Option ((Int × Unit) × Unit)) :=
  (ref34_Find d r.2.2.1).bind fun y1 =>
    if (decide (y1.1.1 < 0)) = true then
      some ((8, ()), ())
    else
      if (decide ((r.2.2.2.2.length : Int) > 8)) = true then
        some ((6, ()), ())
      else
        ref34_wrongTarget_l9 0 r
def fc103 : FC := ⟨⟨[.row (.cons .str (.cons (.int .i64) (.cons (.int .i64) (.sl (.cons .str (.cons (.sl (.cons (.int .i64) (.cons (.int .i64) (.cons .str (.cons .bool (.sl (.cons (.int .i64) (.int .i64)))))))) (.cons .bool (.cons (.int .i64) (.cons (.int .i64) (.cons .str (.cons .bool (.sl (.cons (.int .i64) (.int .i64)))))))))))))), .row (.cons (.int .i64) (.cons (.int .i64) (.cons .str (.cons .bool (.sl (.cons (.int .i64) (.int .i64)))))))], []⟩, ⟨[.one (.int .i64)], []⟩, fun x => ref34_wrongTarget x.1.1 x.1.2.1⟩
theorem con103 : Contract Try.prog 103 fc103 :=
  ref34_wrongTarget_D.contract tok (cok_of (l := [(42, fc42), (119, fc119)]) ⟨con42, con119, trivial⟩) mixed (fn' := Try.f103) (by kernel_rfl) (by kernel_rfl) rfl (by kernel_rfl) (fun x => (FD.fn_eq _ _).trans (by kernel_rfl))
end
end Go.Proofs.Ytgjimkgehbppbaa
end

section
/-
Ytgjimkgehbppbaa: signalbench.signalbenchref34.wrongElse, as one plain function, its equations, its contract. No condition.
-/
set_option maxRecDepth 100000
set_option linter.unusedVariables false
set_option maxHeartbeats 4000000
open Go Go.AM
namespace Go.Proofs.Ytgjimkgehbppbaa
noncomputable section
def ref34_wrongElse_D : FD := ⟨T, lookC [(103, fc103)], [], (Try.f104.body.getD .skip), Try.f104.results.toList, ⟨[.row (.cons .str (.cons (.int .i64) (.cons (.int .i64) (.sl (.cons .str (.cons (.sl (.cons (.int .i64) (.cons (.int .i64) (.cons .str (.cons .bool (.sl (.cons (.int .i64) (.int .i64)))))))) (.cons .bool (.cons (.int .i64) (.cons (.int .i64) (.cons .str (.cons .bool (.sl (.cons (.int .i64) (.int .i64)))))))))))))), .row (.cons .str (.cons (.sl (.cons (.int .i64) (.cons (.int .i64) (.cons .str (.cons .bool (.sl (.cons (.int .i64) (.int .i64)))))))) (.cons .bool (.cons (.int .i64) (.cons (.int .i64) (.cons .str (.cons .bool (.sl (.cons (.int .i64) (.int .i64))))))))))], []⟩, ⟨[.one (.int .i64)], []⟩, []⟩
def ref34_wrongElse (d : TDecl) (s : TDeclState) : (Option ((Int × Unit) × Unit)) :=
  if (!s.2.2.1) = true then
    if (s.2.2.2.1 != 0) = true then
      some ((1, ()), ())
    else
      if (s.2.2.2.2.1 != 0) = true then
        some ((1, ()), ())
      else
        if (!(s.2.2.2.2.2.1.toList == (strB []).toList)) = true then
          some ((1, ()), ())
        else
          if s.2.2.2.2.2.2.1 = true then
            some ((1, ()), ())
          else
            if (decide ((s.2.2.2.2.2.2.2.length : Int) > 0)) = true then
              some ((1, ()), ())
            else
              some ((0, ()), ())
  else
    if (s.2.2.2.1 != 0) = true then
      some ((1, ()), ())
    else
      if (s.2.2.2.2.1 != 0) = true then
        some ((1, ()), ())
      else
        (ref34_wrongTarget d s.2.2.2).bind fun y1 =>
          some ((y1.1.1, ()), ())
def fc104 : FC := ⟨⟨[.row (.cons .str (.cons (.int .i64) (.cons (.int .i64) (.sl (.cons .str (.cons (.sl (.cons (.int .i64) (.cons (.int .i64) (.cons .str (.cons .bool (.sl (.cons (.int .i64) (.int .i64)))))))) (.cons .bool (.cons (.int .i64) (.cons (.int .i64) (.cons .str (.cons .bool (.sl (.cons (.int .i64) (.int .i64)))))))))))))), .row (.cons .str (.cons (.sl (.cons (.int .i64) (.cons (.int .i64) (.cons .str (.cons .bool (.sl (.cons (.int .i64) (.int .i64)))))))) (.cons .bool (.cons (.int .i64) (.cons (.int .i64) (.cons .str (.cons .bool (.sl (.cons (.int .i64) (.int .i64))))))))))], []⟩, ⟨[.one (.int .i64)], []⟩, fun x => ref34_wrongElse x.1.1 x.1.2.1⟩
theorem con104 : Contract Try.prog 104 fc104 :=
  ref34_wrongElse_D.contract tok (cok_of (l := [(103, fc103)]) ⟨con103, trivial⟩) mixed (fn' := Try.f104) (by kernel_rfl) (by kernel_rfl) rfl (by kernel_rfl) (fun x => (FD.fn_eq _ _).trans (by kernel_rfl))
end
end Go.Proofs.Ytgjimkgehbppbaa
end

section
/-
Ytgjimkgehbppbaa: signalbench.signalbenchref34.wrongState, as one plain function, its equations, its contract. No condition.
-/
set_option maxRecDepth 100000
set_option linter.unusedVariables false
set_option maxHeartbeats 4000000
open Go Go.AM
namespace Go.Proofs.Ytgjimkgehbppbaa
noncomputable section
def ref34_wrongState_F12 : FSh := ⟨[(2, .one (.ptr 0 0)), (5, .one (.ptr 1 0)), (6, .one (.int .i64))], [.boxr (.cons .str (.cons (.int .i64) (.cons (.int .i64) (.sl (.cons .str (.cons (.sl (.cons (.int .i64) (.cons (.int .i64) (.cons .str (.cons .bool (.sl (.cons (.int .i64) (.int .i64)))))))) (.cons .bool (.cons (.int .i64) (.cons (.int .i64) (.cons .str (.cons .bool (.sl (.cons (.int .i64) (.int .i64)))))))))))))), .boxr (.cons .str (.cons (.sl (.cons (.int .i64) (.cons (.int .i64) (.cons .str (.cons .bool (.sl (.cons (.int .i64) (.int .i64)))))))) (.cons .bool (.cons (.int .i64) (.cons (.int .i64) (.cons .str (.cons .bool (.sl (.cons (.int .i64) (.int .i64))))))))))]⟩
def ref34_wrongState_F16 : FSh := ⟨[(2, .one (.ptr 0 0)), (5, .one (.ptr 1 0)), (6, .one (.int .i64)), (7, .one (.int .i64))], [.boxr (.cons .str (.cons (.int .i64) (.cons (.int .i64) (.sl (.cons .str (.cons (.sl (.cons (.int .i64) (.cons (.int .i64) (.cons .str (.cons .bool (.sl (.cons (.int .i64) (.int .i64)))))))) (.cons .bool (.cons (.int .i64) (.cons (.int .i64) (.cons .str (.cons .bool (.sl (.cons (.int .i64) (.int .i64)))))))))))))), .boxr (.cons .str (.cons (.sl (.cons (.int .i64) (.cons (.int .i64) (.cons .str (.cons .bool (.sl (.cons (.int .i64) (.int .i64)))))))) (.cons .bool (.cons (.int .i64) (.cons (.int .i64) (.cons .str (.cons .bool (.sl (.cons (.int .i64) (.int .i64))))))))))]⟩
def ref34_wrongState_D : FD := ⟨T, lookC [(42, fc42), (72, fc72), (103, fc103), (104, fc104)], [12], (Try.f86.body.getD .skip), Try.f86.results.toList, ⟨[.row (.cons .str (.cons (.int .i64) (.cons (.int .i64) (.sl (.cons .str (.cons (.sl (.cons (.int .i64) (.cons (.int .i64) (.cons .str (.cons .bool (.sl (.cons (.int .i64) (.int .i64)))))))) (.cons .bool (.cons (.int .i64) (.cons (.int .i64) (.cons .str (.cons .bool (.sl (.cons (.int .i64) (.int .i64)))))))))))))), .one (.int .i64)], []⟩, ⟨[.one (.int .i64)], []⟩, [(12, ref34_wrongState_F12), (16, ref34_wrongState_F16)]⟩
def ref34_wrongState_l12 (most : Int) (h0 : TDecl) (h1 : TDeclState) : (Option ((Int × Unit) × Unit)) := ref34_wrongState_D.lab 12 ref34_wrongState_F12 (((), (), most, ()), (h0, h1, ()))
def ref34_wrongState_l16 (most : Int) (i : Int) (h0 : TDecl) (h1 : TDeclState) : (Option ((Int × Unit) × Unit)) := ref34_wrongState_D.lab 16 ref34_wrongState_F16 (((), (), most, i, ()), (h0, h1, ()))
theorem ref34_wrongState_l12_eq (most : Int) (h0 : TDecl) (h1 : TDeclState) : ref34_wrongState_l12 most h0 h1 =
  ref34_wrongState_l16 most 0 h0 h1 := (FD.lab_eq _ _ _ _).trans (by kernel_rfl)
theorem ref34_wrongState_l16_eq (most : Int) (i : Int) (h0 : TDecl) (h1 : TDeclState) : ref34_wrongState_l16 most i h0 h1 =
  if (decide (i < (h1.2.1.length : Int))) = true then
    if 0 ≤ i ∧ i < (h1.2.1.length : Int) then
      if (decide ((h1.2.1.getD i.toNat dRule).1 < 0)) = true then
        some ((2, ()), ())
      else
        if (decide ((h1.2.1.getD i.toNat dRule).1 > (h1.2.1.getD i.toNat dRule).2.1)) = true then
          some ((2, ()), ())
        else
          if (decide ((h1.2.1.getD i.toNat dRule).2.1 > most)) = true then
            some ((2, ()), ())
          else
            (ref34_wrongTarget h0 (h1.2.1.getD i.toNat dRule)).bind fun y1 =>
              if (y1.1.1 != 0) = true then
                some ((y1.1.1, ()), ())
              else
                ref34_wrongState_l16 most (IntKind.i64.wrap (i + 1)) h0 h1
    else
      none
  else
    (ref34_wrongElse h0 h1).bind fun y2 =>
      some ((y2.1.1, ()), ()) := (FD.lab_eq _ _ _ _).trans (by kernel_rfl)
def ref34_wrongState (d : TDecl) (k0 : Int) : (Option ((Int × Unit) × Unit)) :=
  if 0 ≤ k0 ∧ k0 < (d.2.2.2.length : Int) then
    (ref05_Name (d.2.2.2.getD k0.toNat dDeclState).1).bind fun y1 =>
      if (!y1.1.1) = true then
        some ((4, ()), ())
      else
        (ref34_Find d (d.2.2.2.getD k0.toNat dDeclState).1).bind fun y2 =>
          if (decide (y2.1.1 < k0)) = true then
            some ((9, ()), ())
          else
            if (decide (((d.2.2.2.getD k0.toNat dDeclState).2.1.length : Int) > 64)) = true then
              some ((6, ()), ())
            else
              if (d.2.1 == 2) = true then
                ref34_wrongState_l12 1 d (d.2.2.2.getD k0.toNat dDeclState)
              else
                ref34_wrongState_l12 255 d (d.2.2.2.getD k0.toNat dDeclState)
  else
    none
def fc86 : FC := ⟨⟨[.row (.cons .str (.cons (.int .i64) (.cons (.int .i64) (.sl (.cons .str (.cons (.sl (.cons (.int .i64) (.cons (.int .i64) (.cons .str (.cons .bool (.sl (.cons (.int .i64) (.int .i64)))))))) (.cons .bool (.cons (.int .i64) (.cons (.int .i64) (.cons .str (.cons .bool (.sl (.cons (.int .i64) (.int .i64)))))))))))))), .one (.int .i64)], []⟩, ⟨[.one (.int .i64)], []⟩, fun x => ref34_wrongState x.1.1 x.1.2.1⟩
theorem con86 : Contract Try.prog 86 fc86 :=
  ref34_wrongState_D.contract tok (cok_of (l := [(42, fc42), (72, fc72), (103, fc103), (104, fc104)]) ⟨con42, con72, con103, con104, trivial⟩) mixed (fn' := Try.f86) (by kernel_rfl) (by kernel_rfl) rfl (by kernel_rfl) (fun x => (FD.fn_eq _ _).trans (by kernel_rfl))
end
end Go.Proofs.Ytgjimkgehbppbaa
end

section
/-
Ytgjimkgehbppbaa: signalbench.signalbenchref34.Check, as one plain function, its equations, its contract. No condition.
-/
set_option maxRecDepth 100000
set_option linter.unusedVariables false
set_option maxHeartbeats 4000000
open Go Go.AM
namespace Go.Proofs.Ytgjimkgehbppbaa
noncomputable section
def ref34_Check_F12 : FSh := ⟨[(1, .one (.ptr 0 0)), (3, .one (.int .i64))], [.boxr (.cons .str (.cons (.int .i64) (.cons (.int .i64) (.sl (.cons .str (.cons (.sl (.cons (.int .i64) (.cons (.int .i64) (.cons .str (.cons .bool (.sl (.cons (.int .i64) (.int .i64)))))))) (.cons .bool (.cons (.int .i64) (.cons (.int .i64) (.cons .str (.cons .bool (.sl (.cons (.int .i64) (.int .i64))))))))))))))]⟩
def ref34_Check_D : FD := ⟨T, lookC [(72, fc72), (86, fc86)], [], (Try.f62.body.getD .skip), Try.f62.results.toList, ⟨[.row (.cons .str (.cons (.int .i64) (.cons (.int .i64) (.sl (.cons .str (.cons (.sl (.cons (.int .i64) (.cons (.int .i64) (.cons .str (.cons .bool (.sl (.cons (.int .i64) (.int .i64)))))))) (.cons .bool (.cons (.int .i64) (.cons (.int .i64) (.cons .str (.cons .bool (.sl (.cons (.int .i64) (.int .i64))))))))))))))], []⟩, ⟨[.one (.int .i64)], []⟩, [(12, ref34_Check_F12)]⟩
def ref34_Check_l12 (k0 : Int) (h0 : TDecl) : (Option ((Int × Unit) × Unit)) := ref34_Check_D.lab 12 ref34_Check_F12 (((), k0, ()), (h0, ()))
theorem ref34_Check_l12_eq (k0 : Int) (h0 : TDecl) : ref34_Check_l12 k0 h0 =
  if (decide (k0 < (h0.2.2.2.length : Int))) = true then
    (ref34_wrongState h0 k0).bind fun y1 =>
      if (y1.1.1 != 0) = true then
        some ((y1.1.1, ()), ())
      else
        ref34_Check_l12 (IntKind.i64.wrap (k0 + 1)) h0
  else
    some ((0, ()), ()) := (FD.lab_eq _ _ _ _).trans (by kernel_rfl)
def ref34_Check (d : TDecl) : (Option ((Int × Unit) × Unit)) :=
  (ref05_Name d.1).bind fun y1 =>
    if (!y1.1.1) = true then
      some ((4, ()), ())
    else
      if (d.2.1 != 2) = true then
        if (d.2.1 != 3) = true then
          some ((1, ()), ())
        else
          if (d.2.2.1 != 5) = true then
            if (d.2.2.1 != 6) = true then
              some ((1, ()), ())
            else
              if ((d.2.2.2.length : Int) == 0) = true then
                some ((1, ()), ())
              else
                if (decide ((d.2.2.2.length : Int) > 32)) = true then
                  some ((6, ()), ())
                else
                  ref34_Check_l12 0 d
          else
            if ((d.2.2.2.length : Int) == 0) = true then
              some ((1, ()), ())
            else
              if (decide ((d.2.2.2.length : Int) > 32)) = true then
                some ((6, ()), ())
              else
                ref34_Check_l12 0 d
      else
        if (d.2.2.1 != 5) = true then
          if (d.2.2.1 != 6) = true then
            some ((1, ()), ())
          else
            if ((d.2.2.2.length : Int) == 0) = true then
              some ((1, ()), ())
            else
              if (decide ((d.2.2.2.length : Int) > 32)) = true then
                some ((6, ()), ())
              else
                ref34_Check_l12 0 d
        else
          if ((d.2.2.2.length : Int) == 0) = true then
            some ((1, ()), ())
          else
            if (decide ((d.2.2.2.length : Int) > 32)) = true then
              some ((6, ()), ())
            else
              ref34_Check_l12 0 d
def fc62 : FC := ⟨⟨[.row (.cons .str (.cons (.int .i64) (.cons (.int .i64) (.sl (.cons .str (.cons (.sl (.cons (.int .i64) (.cons (.int .i64) (.cons .str (.cons .bool (.sl (.cons (.int .i64) (.int .i64)))))))) (.cons .bool (.cons (.int .i64) (.cons (.int .i64) (.cons .str (.cons .bool (.sl (.cons (.int .i64) (.int .i64))))))))))))))], []⟩, ⟨[.one (.int .i64)], []⟩, fun x => ref34_Check x.1.1⟩
theorem con62 : Contract Try.prog 62 fc62 :=
  ref34_Check_D.contract tok (cok_of (l := [(72, fc72), (86, fc86)]) ⟨con72, con86, trivial⟩) mixed (fn' := Try.f62) (by kernel_rfl) (by kernel_rfl) rfl (by kernel_rfl) (fun x => (FD.fn_eq _ _).trans (by kernel_rfl))
end
end Go.Proofs.Ytgjimkgehbppbaa
end

section
/-
Ytgjimkgehbppbaa: the error of a badly formed declaration. No condition.
-/
set_option maxRecDepth 100000
open Go Go.AM
namespace Go.Proofs.Ytgjimkgehbppbaa

theorem act_eq (a : TAct) : decl_act a = some ((actV a, ()), ()) := by
  obtain ⟨p, q⟩ := a
  unfold decl_act actV
  simp only [decl_act_l3_eq, decl_act_l7_eq]
  by_cases h1 : p = 1
  · subst h1
    by_cases hq : q = 0
    · simp [hq]
    · simp [hq]
  by_cases h2 : p = 2
  · subst h2
    by_cases hq : q = 0
    · simp [hq]
    · simp [hq]
  by_cases h3 : p = 3 ∨ p = 4 ∨ p = 5
  · have : (if q < 0 then some (((2 : Int), ()), ()) else if q > 255 then some ((2, ()), ()) else some ((0, ()), ())) = some ((if 0 ≤ q ∧ q ≤ 255 then (0 : Int) else 2, ()), ()) := by
      by_cases a1 : q < 0
      · rw [if_pos a1, if_neg (by omega)]
      · rw [if_neg a1]
        by_cases a2 : q > 255
        · rw [if_pos a2, if_neg (by omega)]
        · rw [if_neg a2, if_pos (by omega)]
    rcases h3 with rfl | rfl | rfl <;> simpa using this
  by_cases h6 : p = 6
  · subst h6
    have : (if q < 1 then some (((2 : Int), ()), ()) else if q > 12 then some ((2, ()), ()) else some ((0, ()), ())) = some ((if 1 ≤ q ∧ q ≤ 12 then (0 : Int) else 2, ()), ()) := by
      by_cases a1 : q < 1
      · rw [if_pos a1, if_neg (by omega)]
      · rw [if_neg a1]
        by_cases a2 : q > 12
        · rw [if_pos a2, if_neg (by omega)]
        · rw [if_neg a2, if_pos (by omega)]
    simpa using this
  · have e3 : p ≠ 3 := fun e => h3 (.inl e)
    have e4 : p ≠ 4 := fun e => h3 (.inr (.inl e))
    have e5 : p ≠ 5 := fun e => h3 (.inr (.inr e))
    simp [h1, h2, e3, e4, e5, h6]

theorem wact_eq (a : TAct) : ref34_wrongAct a = some ((actV a, ()), ()) := by
  obtain ⟨p, q⟩ := a
  unfold ref34_wrongAct actV
  simp only [decide_eq_true_eq, bne_iff_ne, ne_eq, beq_iff_eq]
  by_cases l1 : p < 1
  · rw [if_pos l1, if_neg (by omega), if_neg (by omega), if_neg (by omega)]
  rw [if_neg l1]
  by_cases l2 : p > 6
  · rw [if_pos l2, if_neg (by omega), if_neg (by omega), if_neg (by omega)]
  rw [if_neg l2]
  by_cases l3 : p ≤ 2
  · rw [if_pos l3, if_pos (show p = 1 ∨ p = 2 by omega)]
    by_cases hq : q = 0
    · rw [if_neg (by simpa using hq), if_neg (by omega), if_neg (by omega), if_pos hq]
    · rw [if_pos hq, if_neg hq]
  · rw [if_neg l3, if_neg (show ¬ (p = 1 ∨ p = 2) by omega), if_pos (show p ≥ 3 by omega)]
    by_cases l5 : p ≤ 5
    · rw [if_pos l5, if_pos (show p = 3 ∨ p = 4 ∨ p = 5 by omega), if_neg (show ¬ p = 6 by omega)]
      by_cases a1 : q < 0
      · rw [if_pos a1, if_neg (by omega)]
      · rw [if_neg a1]
        by_cases a2 : q > 255
        · rw [if_pos a2, if_neg (by omega)]
        · rw [if_neg a2, if_pos (by omega)]
    · rw [if_neg l5, if_neg (show ¬ (p = 3 ∨ p = 4 ∨ p = 5) by omega), if_pos (show p = 6 by omega), if_pos (show p = 6 by omega)]
      by_cases a1 : q < 1
      · rw [if_pos a1, if_neg (by omega)]
      · rw [if_neg a1]
        by_cases a2 : q > 12
        · rw [if_pos a2, if_neg (by omega)]
        · rw [if_neg a2, if_pos (by omega)]

theorem errL_cons (e : Int) (r : List Int) : errL (e :: r) = if e = 0 then errL r else e := rfl

theorem acts_loop (l : List TAct) (hl : l.length ≤ 1048576) : ∀ (r : List TAct) (k : Nat), l.drop k = r → decl_target_l9 l (l.length : Int) k = some ((errL (r.map actV), ()), ())
  | [], k, h => by
    have := drop_nil h
    rw [decl_target_l9_eq, if_neg (dF (by omega))]
    rfl
  | a :: r, k, h => by
    have h1 := drop_lt h
    have hr : l.getD (k : Int).toNat dAct = a := getD_drop h
    rw [decl_target_l9_eq, if_pos (dT (by omega)), if_pos ⟨by omega, by omega⟩, hr, act_eq, w64a k (by omega), acts_loop l hl r (k + 1) (dropS h)]
    simp only [Option.bind_some, List.map_cons, errL_cons]
    by_cases q : actV a = 0
    · rw [if_neg (nF q), if_pos q]
    · rw [if_pos (nT q), if_neg q]

theorem wacts_loop (z : TRule) (hl : z.2.2.2.2.length ≤ 1048576) : ∀ (r : List TAct) (k : Nat), z.2.2.2.2.drop k = r → ref34_wrongTarget_l9 k z = some ((errL (r.map actV), ()), ())
  | [], k, h => by
    have := drop_nil h
    rw [ref34_wrongTarget_l9_eq, if_neg (dF (by omega))]
    rfl
  | a :: r, k, h => by
    have h1 := drop_lt h
    have hr : z.2.2.2.2.getD (k : Int).toNat dAct = a := getD_drop h
    rw [ref34_wrongTarget_l9_eq, if_pos (dT (by omega)), if_pos ⟨by omega, by omega⟩, hr, wact_eq, w64a k (by omega), wacts_loop z hl r (k + 1) (dropS h)]
    simp only [Option.bind_some, List.map_cons, errL_cons]
    by_cases q : actV a = 0
    · rw [if_neg (nF q), if_pos q]
    · rw [if_pos (nT q), if_neg q]

theorem target_eq (d : TDecl) (r : TRule) (h : d.2.2.2.length ≤ 1048576) (hr : okRule r) : decl_target d r = some ((targetV d.2.2.2 r, ()), ()) := by
  unfold decl_target targetV
  rw [find_eq d _ h]
  simp only [Option.bind_some]
  cases findN d.2.2.2 r.2.2.1 with
  | none => exact if_pos (dT (by simp [optI]))
  | some j =>
    refine (if_neg (dF (by simp [optI]))).trans ?_
    simp only
    by_cases q : 8 < r.2.2.2.2.length
    · rw [if_pos (dT (by omega)), if_pos q]
    · rw [if_neg (dF (by omega)), if_neg q]
      exact acts_loop _ hr _ 0 rfl

theorem wtarget_eq (d : TDecl) (r : TRule) (h : d.2.2.2.length ≤ 1048576) (hr : okRule r) : ref34_wrongTarget d r = some ((targetV d.2.2.2 r, ()), ()) := by
  unfold ref34_wrongTarget targetV
  rw [rfind_eq d _ h]
  simp only [Option.bind_some]
  cases findN d.2.2.2 r.2.2.1 with
  | none => exact if_pos (dT (by simp [optI]))
  | some j =>
    refine (if_neg (dF (by simp [optI]))).trans ?_
    simp only
    by_cases q : 8 < r.2.2.2.2.length
    · rw [if_pos (dT (by omega)), if_pos q]
    · rw [if_neg (dF (by omega)), if_neg q]
      exact wacts_loop _ hr _ 0 rfl

theorem empty_iff (b : ByteArray) : (b.toList == (strB []).toList) = true ↔ L b = [] := by
  rw [toL, toL, L_strB, beq_iff_eq]

theorem most_eq (d : TDecl) : decl_most d = some (((topV d : Int), ()), ()) := by
  unfold decl_most topV
  by_cases h : d.2.1 = 2
  · rw [if_pos (eT h), if_pos h]; rfl
  · rw [if_neg (eF h), if_neg h]; rfl

/-- The Else of a state without one. -/
theorem noelse_eq (s : TDeclState) : (if (!(s.2.2.2.2.2.1.toList == (strB []).toList)) = true then some (((1 : Int), ()), ()) else if s.2.2.2.2.2.2.1 = true then some ((1, ()), ()) else if (decide ((s.2.2.2.2.2.2.2.length : Int) > 0)) = true then some ((1, ()), ()) else some ((0, ()), ())) =
    some ((if L s.2.2.2.2.2.1 = [] ∧ s.2.2.2.2.2.2.1 = false ∧ s.2.2.2.2.2.2.2.length = 0 then (0 : Int) else 1, ()), ()) := by
  by_cases h1 : L s.2.2.2.2.2.1 = []
  · rw [if_neg (by rw [(empty_iff _).2 h1]; simp)]
    by_cases h2 : s.2.2.2.2.2.2.1 = true
    · rw [if_pos h2, if_neg (by rw [h2]; simp)]
    · rw [if_neg h2]
      by_cases h3 : s.2.2.2.2.2.2.2.length = 0
      · rw [if_neg (dF (by omega)), if_pos ⟨h1, by simpa using h2, h3⟩]
      · rw [if_pos (dT (by omega)), if_neg (fun q => h3 q.2.2)]
  · rw [if_pos (by rw [show (s.2.2.2.2.2.1.toList == (strB []).toList) = false from Bool.eq_false_iff.2 fun q => h1 ((empty_iff _).1 q)]; rfl), if_neg (fun q => h1 q.1)]

theorem rules_loopE (d : TDecl) (h : d.2.2.2.length ≤ 1048576) (s : TDeclState) (hs : okState s) : ∀ (rs : List TRule) (k : Nat), s.2.1.drop k = rs →
    decl_rules_l3 s.2.1 (s.2.1.length : Int) k d s = some ((if errL (rs.map (ruleE d.2.2.2 (topV d))) = 0 then elseE d.2.2.2 s else errL (rs.map (ruleE d.2.2.2 (topV d))), ()), ()) := by
  obtain ⟨hl, hr, he⟩ := hs
  intro rs
  induction rs with
  | nil =>
    intro k hk
    have := drop_nil hk
    rw [decl_rules_l3_eq, if_neg (dF (by omega)), target_eq d _ h he]
    simp only [Option.bind_some, noelse_eq, List.map_nil, errL, if_true]
    unfold elseE
    by_cases h3 : s.2.2.1 = true
    · rw [if_pos h3]
      by_cases h1 : s.2.2.2.1 = 0
      · by_cases h2 : s.2.2.2.2.1 = 0
        · rw [if_neg (nF h1), if_neg (nF h2), if_pos (show s.2.2.2.1 = 0 ∧ s.2.2.2.2.1 = 0 from ⟨h1, h2⟩), if_pos h3]
        · rw [if_neg (nF h1), if_pos (nT h2), if_neg (show ¬ (s.2.2.2.1 = 0 ∧ s.2.2.2.2.1 = 0) from fun q => h2 q.2)]
      · rw [if_pos (nT h1), if_neg (show ¬ (s.2.2.2.1 = 0 ∧ s.2.2.2.2.1 = 0) from fun q => h1 q.1)]
    · rw [if_neg h3]
      by_cases h1 : s.2.2.2.1 = 0
      · by_cases h2 : s.2.2.2.2.1 = 0
        · rw [if_neg (nF h1), if_neg (nF h2), if_pos (show s.2.2.2.1 = 0 ∧ s.2.2.2.2.1 = 0 from ⟨h1, h2⟩), if_neg h3]
        · rw [if_neg (nF h1), if_pos (nT h2), if_neg (show ¬ (s.2.2.2.1 = 0 ∧ s.2.2.2.2.1 = 0) from fun q => h2 q.2)]
      · rw [if_pos (nT h1), if_neg (show ¬ (s.2.2.2.1 = 0 ∧ s.2.2.2.2.1 = 0) from fun q => h1 q.1)]
  | cons r rs ih =>
    intro k hk
    have h1 := drop_lt hk
    have hg : s.2.1.getD (k : Int).toNat dRule = r := getD_drop hk
    rw [decl_rules_l3_eq, if_pos (dT (by omega)), if_pos ⟨by omega, by omega⟩, hg, most_eq, target_eq d _ h (hr r (mem_drop hk)), w64a k (by omega), ih (k + 1) (dropS hk)]
    simp only [Option.bind_some, List.map_cons, errL_cons]
    unfold ruleE
    by_cases a1 : r.1 < 0
    · rw [if_pos (dT a1), if_neg (show ¬ (0 ≤ r.1 ∧ r.1 ≤ r.2.1 ∧ r.2.1 ≤ (topV d : Int)) by omega), if_neg (by omega)]
      simp
    · rw [if_neg (dF a1)]
      by_cases a2 : r.1 > r.2.1
      · rw [if_pos (dT a2), if_neg (show ¬ (0 ≤ r.1 ∧ r.1 ≤ r.2.1 ∧ r.2.1 ≤ (topV d : Int)) by omega), if_neg (by omega)]
        simp
      · rw [if_neg (dF a2)]
        by_cases a3 : r.2.1 > (topV d : Int)
        · rw [if_pos (dT a3), if_neg (show ¬ (0 ≤ r.1 ∧ r.1 ≤ r.2.1 ∧ r.2.1 ≤ (topV d : Int)) by omega), if_neg (by omega)]
          simp
        · rw [if_neg (dF a3), if_pos (show 0 ≤ r.1 ∧ r.1 ≤ r.2.1 ∧ r.2.1 ≤ (topV d : Int) by omega)]
          by_cases q : targetV d.2.2.2 r = 0
          · rw [if_neg (nF q), if_pos q]
          · rw [if_pos (nT q), if_neg q, if_neg q]

theorem wstate_loop (d : TDecl) (h : d.2.2.2.length ≤ 1048576) (s : TDeclState) (hs : okState s) (top : Int) : ∀ (rs : List TRule) (k : Nat), s.2.1.drop k = rs →
    ref34_wrongState_l16 top k d s = some ((if errL (rs.map (ruleE d.2.2.2 top)) = 0 then elseE d.2.2.2 s else errL (rs.map (ruleE d.2.2.2 top)), ()), ()) := by
  obtain ⟨hl, hr, he⟩ := hs
  intro rs
  induction rs with
  | nil =>
    intro k hk
    have := drop_nil hk
    rw [ref34_wrongState_l16_eq, if_neg (dF (by omega))]
    unfold ref34_wrongElse
    rw [wtarget_eq d _ h he]
    simp only [Option.bind_some, noelse_eq, List.map_nil, errL, if_true]
    unfold elseE
    by_cases h3 : s.2.2.1 = true
    · rw [if_neg (show ¬ (!s.2.2.1) = true by rw [h3]; simp)]
      by_cases h1 : s.2.2.2.1 = 0
      · by_cases h2 : s.2.2.2.2.1 = 0
        · rw [if_neg (nF h1), if_neg (nF h2), if_pos (show s.2.2.2.1 = 0 ∧ s.2.2.2.2.1 = 0 from ⟨h1, h2⟩), if_pos h3]; rfl
        · rw [if_neg (nF h1), if_pos (nT h2), if_neg (show ¬ (s.2.2.2.1 = 0 ∧ s.2.2.2.2.1 = 0) from fun q => h2 q.2)]; rfl
      · rw [if_pos (nT h1), if_neg (show ¬ (s.2.2.2.1 = 0 ∧ s.2.2.2.2.1 = 0) from fun q => h1 q.1)]; rfl
    · rw [if_pos (show (!s.2.2.1) = true by simpa using h3)]
      by_cases h1 : s.2.2.2.1 = 0
      · by_cases h2 : s.2.2.2.2.1 = 0
        · rw [if_neg (nF h1), if_neg (nF h2), if_pos (show s.2.2.2.1 = 0 ∧ s.2.2.2.2.1 = 0 from ⟨h1, h2⟩), if_neg h3]; rfl
        · rw [if_neg (nF h1), if_pos (nT h2), if_neg (show ¬ (s.2.2.2.1 = 0 ∧ s.2.2.2.2.1 = 0) from fun q => h2 q.2)]; rfl
      · rw [if_pos (nT h1), if_neg (show ¬ (s.2.2.2.1 = 0 ∧ s.2.2.2.2.1 = 0) from fun q => h1 q.1)]; rfl
  | cons r rs ih =>
    intro k hk
    have h1 := drop_lt hk
    have hg : s.2.1.getD (k : Int).toNat dRule = r := getD_drop hk
    rw [ref34_wrongState_l16_eq, if_pos (dT (by omega)), if_pos ⟨by omega, by omega⟩, hg, wtarget_eq d _ h (hr r (mem_drop hk)), w64a k (by omega), ih (k + 1) (dropS hk)]
    simp only [Option.bind_some, List.map_cons, errL_cons]
    unfold ruleE
    by_cases a1 : r.1 < 0
    · rw [if_pos (dT a1), if_neg (show ¬ (0 ≤ r.1 ∧ r.1 ≤ r.2.1 ∧ r.2.1 ≤ top) by omega), if_neg (by omega)]
      simp
    · rw [if_neg (dF a1)]
      by_cases a2 : r.1 > r.2.1
      · rw [if_pos (dT a2), if_neg (show ¬ (0 ≤ r.1 ∧ r.1 ≤ r.2.1 ∧ r.2.1 ≤ top) by omega), if_neg (by omega)]
        simp
      · rw [if_neg (dF a2)]
        by_cases a3 : r.2.1 > top
        · rw [if_pos (dT a3), if_neg (show ¬ (0 ≤ r.1 ∧ r.1 ≤ r.2.1 ∧ r.2.1 ≤ top) by omega), if_neg (by omega)]
          simp
        · rw [if_neg (dF a3), if_pos (show 0 ≤ r.1 ∧ r.1 ≤ r.2.1 ∧ r.2.1 ≤ top by omega)]
          by_cases q : targetV d.2.2.2 r = 0
          · rw [if_neg (nF q), if_pos q]
          · rw [if_pos (nT q), if_neg q, if_neg q]

theorem states_loop (d : TDecl) (h : okDecl d) : ∀ (rs : List TDeclState) (k : Nat), d.2.2.2.drop k = rs → decl_Check_l12 d.2.2.2 (d.2.2.2.length : Int) k d = some ((statesE d.2.2.2 (topV d) k rs, ()), ()) := by
  have hd := h.1
  intro rs
  induction rs with
  | nil =>
    intro k hk
    have := drop_nil hk
    rw [decl_Check_l12_eq, if_neg (dF (by omega))]
    rfl
  | cons s rs ih =>
    intro k hk
    have h1 := drop_lt hk
    have hg : d.2.2.2.getD (k : Int).toNat dDeclState = s := getD_drop hk
    have hs := h.2 s (mem_drop hk)
    have hru : decl_rules d s = some ((if errL (s.2.1.map (ruleE d.2.2.2 (topV d))) = 0 then elseE d.2.2.2 s else errL (s.2.1.map (ruleE d.2.2.2 (topV d))), ()), ()) := rules_loopE d hd s hs _ 0 rfl
    rw [decl_Check_l12_eq, if_pos (dT (by omega)), if_pos ⟨by omega, by omega⟩, hg, show decl_name s.1 = some ((nameB (L s.1), ()), ()) from rfl, find_eq d _ hd, w64a k (by omega), ih (k + 1) (dropS hk), hru]
    simp only [Option.bind_some, statesE]
    have hE : stateE d.2.2.2 (topV d) k s = if nameB (L s.1) = true then if optI (findN d.2.2.2 s.1) < k then 9 else if 64 < s.2.1.length then 6 else (if errL (s.2.1.map (ruleE d.2.2.2 (topV d))) = 0 then elseE d.2.2.2 s else errL (s.2.1.map (ruleE d.2.2.2 (topV d)))) else 4 := rfl
    generalize (if errL (s.2.1.map (ruleE d.2.2.2 (topV d))) = 0 then elseE d.2.2.2 s else errL (s.2.1.map (ruleE d.2.2.2 (topV d)))) = E at hE ⊢
    rw [hE]
    by_cases q1 : nameB (L s.1) = true
    · rw [if_neg (by rw [q1]; simp), if_pos q1]
      by_cases q2 : optI (findN d.2.2.2 s.1) < (k : Int)
      · rw [if_pos (dT q2), if_pos q2]; rfl
      · rw [if_neg (dF q2), if_neg q2]
        by_cases q3 : 64 < s.2.1.length
        · rw [if_pos (dT (by omega)), if_pos q3]; rfl
        · rw [if_neg (dF (by omega)), if_neg q3]
          by_cases q4 : E = 0
          · rw [if_neg (nF q4), if_pos q4]
          · rw [if_pos (nT q4), if_neg q4]
    · rw [if_pos (by simpa using q1), if_neg q1]; rfl

theorem wstates_loop (d : TDecl) (h : okDecl d) : ∀ (rs : List TDeclState) (k : Nat), d.2.2.2.drop k = rs → ref34_Check_l12 k d = some ((statesE d.2.2.2 (topV d) k rs, ()), ()) := by
  have hd := h.1
  intro rs
  induction rs with
  | nil =>
    intro k hk
    have := drop_nil hk
    rw [ref34_Check_l12_eq, if_neg (dF (by omega))]
    rfl
  | cons s rs ih =>
    intro k hk
    have h1 := drop_lt hk
    have hg : d.2.2.2.getD (k : Int).toNat dDeclState = s := getD_drop hk
    have hs := h.2 s (mem_drop hk)
    have hw : ref34_wrongState d k = some ((stateE d.2.2.2 (topV d) k s, ()), ()) := by
      unfold ref34_wrongState
      rw [if_pos ⟨by omega, by omega⟩, hg, ref05_Name_b, rfind_eq d _ hd]
      simp only [Option.bind_some]
      unfold stateE
      by_cases q1 : nameB (L s.1) = true
      · rw [if_neg (by rw [q1]; simp), if_pos q1]
        by_cases q2 : optI (findN d.2.2.2 s.1) < (k : Int)
        · rw [if_pos (dT q2), if_pos q2]
        · rw [if_neg (dF q2), if_neg q2]
          by_cases q3 : 64 < s.2.1.length
          · rw [if_pos (dT (by omega)), if_pos q3]
          · rw [if_neg (dF (by omega)), if_neg q3, ref34_wrongState_l12_eq, ref34_wrongState_l12_eq]
            unfold topV
            by_cases q4 : d.2.1 = 2
            · rw [if_pos (eT q4), if_pos q4]
              exact wstate_loop d hd s hs 1 _ 0 rfl
            · rw [if_neg (eF q4), if_neg q4]
              exact wstate_loop d hd s hs 255 _ 0 rfl
      · rw [if_pos (by simpa using q1), if_neg q1]
    rw [ref34_Check_l12_eq, if_pos (dT (by omega)), hw, w64a k (by omega), ih (k + 1) (dropS hk)]
    simp only [Option.bind_some, statesE]
    by_cases q4 : stateE d.2.2.2 (topV d) k s = 0
    · rw [if_neg (nF q4), if_pos q4]
    · rw [if_pos (nT q4), if_neg q4]

theorem dcheck_eq (d : TDecl) (h : okDecl d) : decl_Check d = some ((checkV d, ()), ()) := by
  unfold decl_Check checkV
  rw [show decl_name d.1 = some ((nameB (L d.1), ()), ()) from rfl]
  simp only [Option.bind_some, decl_Check_l4_eq]
  have hl := states_loop d h _ 0 rfl
  have hl' : decl_Check_l12 d.2.2.2 (d.2.2.2.length : Int) 0 d = some ((statesE d.2.2.2 (topV d) 0 d.2.2.2, ()), ()) := hl
  rw [hl']
  by_cases q1 : nameB (L d.1) = true
  · rw [if_neg (by rw [q1]; simp), if_pos q1]
    have fin : (if ((d.2.2.2.length : Int) == 0) = true then some (((1 : Int), ()), ()) else if (decide ((d.2.2.2.length : Int) > 32)) = true then some ((6, ()), ()) else some ((statesE d.2.2.2 (topV d) 0 d.2.2.2, ()), ())) =
        some ((if d.2.2.2.length ≠ 0 then if 32 < d.2.2.2.length then (6 : Int) else statesE d.2.2.2 (topV d) 0 d.2.2.2 else 1, ()), ()) := by
      by_cases a : d.2.2.2.length = 0
      · rw [if_pos (eT (by omega)), if_neg (by omega)]
      · rw [if_neg (eF (by omega)), if_pos a]
        by_cases b : 32 < d.2.2.2.length
        · rw [if_pos (dT (by omega)), if_pos b]
        · rw [if_neg (dF (by omega)), if_neg b]
    rw [fin]
    by_cases a2 : d.2.1 = 2 <;> by_cases a3 : d.2.1 = 3 <;> by_cases a5 : d.2.2.1 = 5 <;> by_cases a6 : d.2.2.1 = 6 <;> first | omega | (simp [a2, a3, a5, a6]; done) | (by_cases a7 : d.2.2.2.length = 0 <;> simp [a2, a3, a5, a6, a7])
  · rw [if_pos (by simpa using q1), if_neg q1]

theorem wcheck_eq (d : TDecl) (h : okDecl d) : ref34_Check d = some ((checkV d, ()), ()) := by
  unfold ref34_Check checkV
  rw [ref05_Name_b]
  simp only [Option.bind_some]
  have hl := wstates_loop d h _ 0 rfl
  have hl' : ref34_Check_l12 0 d = some ((statesE d.2.2.2 (topV d) 0 d.2.2.2, ()), ()) := hl
  rw [hl']
  by_cases q1 : nameB (L d.1) = true
  · rw [if_neg (by rw [q1]; simp), if_pos q1]
    have fin : (if ((d.2.2.2.length : Int) == 0) = true then some (((1 : Int), ()), ()) else if (decide ((d.2.2.2.length : Int) > 32)) = true then some ((6, ()), ()) else some ((statesE d.2.2.2 (topV d) 0 d.2.2.2, ()), ())) =
        some ((if d.2.2.2.length ≠ 0 then if 32 < d.2.2.2.length then (6 : Int) else statesE d.2.2.2 (topV d) 0 d.2.2.2 else 1, ()), ()) := by
      by_cases a : d.2.2.2.length = 0
      · rw [if_pos (eT (by omega)), if_neg (by omega)]
      · rw [if_neg (eF (by omega)), if_pos a]
        by_cases b : 32 < d.2.2.2.length
        · rw [if_pos (dT (by omega)), if_pos b]
        · rw [if_neg (dF (by omega)), if_neg b]
    rw [fin]
    by_cases a2 : d.2.1 = 2 <;> by_cases a3 : d.2.1 = 3 <;> by_cases a5 : d.2.2.1 = 5 <;> by_cases a6 : d.2.2.1 = 6 <;> first | omega | (simp [a2, a3, a5, a6]; done) | (by_cases a7 : d.2.2.2.length = 0 <;> simp [a2, a3, a5, a6, a7])
  · rw [if_pos (by simpa using q1), if_neg q1]

end Go.Proofs.Ytgjimkgehbppbaa
end

section
/-
Ytgjimkgehbppbaa: signalbench.signalbenchref35.Few, as one plain function, its equations, its contract. No condition.
-/
set_option maxRecDepth 100000
set_option linter.unusedVariables false
set_option maxHeartbeats 4000000
open Go Go.AM
namespace Go.Proofs.Ytgjimkgehbppbaa
noncomputable section
def ref35_Few_F6 : FSh := ⟨[(1, .one (.ptr 0 0)), (3, .one (.int .i64))], [.boxr (.cons .str (.cons (.int .i64) (.cons (.int .i64) (.sl (.cons .str (.cons (.sl (.cons (.int .i64) (.cons (.int .i64) (.cons .str (.cons .bool (.sl (.cons (.int .i64) (.int .i64)))))))) (.cons .bool (.cons (.int .i64) (.cons (.int .i64) (.cons .str (.cons .bool (.sl (.cons (.int .i64) (.int .i64))))))))))))))]⟩
def ref35_Few_D : FD := ⟨T, lookC [], [], (Try.f15.body.getD .skip), Try.f15.results.toList, ⟨[.row (.cons .str (.cons (.int .i64) (.cons (.int .i64) (.sl (.cons .str (.cons (.sl (.cons (.int .i64) (.cons (.int .i64) (.cons .str (.cons .bool (.sl (.cons (.int .i64) (.int .i64)))))))) (.cons .bool (.cons (.int .i64) (.cons (.int .i64) (.cons .str (.cons .bool (.sl (.cons (.int .i64) (.int .i64))))))))))))))], []⟩, ⟨[.one .bool], []⟩, [(6, ref35_Few_F6)]⟩
def ref35_Few_l6 (i : Int) (h0 : TDecl) : (Option ((Bool × Unit) × Unit)) := ref35_Few_D.lab 6 ref35_Few_F6 (((), i, ()), (h0, ()))
theorem ref35_Few_l6_eq (i : Int) (h0 : TDecl) : ref35_Few_l6 i h0 =
  if (decide (i < (h0.2.2.2.length : Int))) = true then
    if 0 ≤ i ∧ i < (h0.2.2.2.length : Int) then
      if (decide (((h0.2.2.2.getD i.toNat dDeclState).2.1.length : Int) > 66)) = true then
        some ((false, ()), ())
      else
        ref35_Few_l6 (IntKind.i64.wrap (i + 1)) h0
    else
      none
  else
    some ((true, ()), ()) := (FD.lab_eq _ _ _ _).trans (by kernel_rfl)
def ref35_Few (d : TDecl) : (Option ((Bool × Unit) × Unit)) :=
  if (decide ((d.2.2.2.length : Int) > 33)) = true then
    some ((false, ()), ())
  else
    ref35_Few_l6 0 d
def fc15 : FC := ⟨⟨[.row (.cons .str (.cons (.int .i64) (.cons (.int .i64) (.sl (.cons .str (.cons (.sl (.cons (.int .i64) (.cons (.int .i64) (.cons .str (.cons .bool (.sl (.cons (.int .i64) (.int .i64)))))))) (.cons .bool (.cons (.int .i64) (.cons (.int .i64) (.cons .str (.cons .bool (.sl (.cons (.int .i64) (.int .i64))))))))))))))], []⟩, ⟨[.one .bool], []⟩, fun x => ref35_Few x.1.1⟩
theorem con15 : Contract Try.prog 15 fc15 :=
  ref35_Few_D.contract tok (cok_of (l := []) trivial) mixed (fn' := Try.f15) (by kernel_rfl) (by kernel_rfl) rfl (by kernel_rfl) (fun x => (FD.fn_eq _ _).trans (by kernel_rfl))
end
end Go.Proofs.Ytgjimkgehbppbaa
end

section
/-
Ytgjimkgehbppbaa: signalbench.declcheck.Check, as one plain function, its equations, its contract. No condition.
-/
set_option maxRecDepth 100000
set_option linter.unusedVariables false
set_option maxHeartbeats 4000000
open Go Go.AM
namespace Go.Proofs.Ytgjimkgehbppbaa
noncomputable section
def declcheck_Check_F19 : FSh := ⟨[(42, .one (.sl .bool)), (43, .one (.int .i64)), (44, .one (.int .i64))], []⟩
def declcheck_Check_D : FD := ⟨T, lookC [(17, fc17), (19, fc19), (21, fc21), (23, fc23), (61, fc61)], [], (Try.f25.body.getD .skip), Try.f25.results.toList, ⟨[.row (.cons .str (.cons (.int .i64) (.cons (.int .i64) (.sl (.cons .str (.cons (.sl (.cons (.int .i64) (.cons (.int .i64) (.cons .str (.cons .bool (.sl (.cons (.int .i64) (.int .i64)))))))) (.cons .bool (.cons (.int .i64) (.cons (.int .i64) (.cons .str (.cons .bool (.sl (.cons (.int .i64) (.int .i64))))))))))))))], []⟩, ⟨[.one (.int .i64)], []⟩, [(19, declcheck_Check_F19)]⟩
def declcheck_Check_l19 (t42 : (List Bool)) (t43 : Int) (t44 : Int) : (Option ((Int × Unit) × Unit)) := declcheck_Check_D.lab 19 declcheck_Check_F19 ((t42, t43, t44, ()), ())
theorem declcheck_Check_l19_eq (t42 : (List Bool)) (t43 : Int) (t44 : Int) : declcheck_Check_l19 t42 t43 t44 =
  if (decide (t44 < t43)) = true then
    if 0 ≤ t44 ∧ t44 < (t42.length : Int) then
      if (!(t42.getD t44.toNat false)) = true then
        some ((16, ()), ())
      else
        declcheck_Check_l19 t42 t43 (IntKind.i64.wrap (t44 + 1))
    else
      none
  else
    some ((0, ()), ()) := (FD.lab_eq _ _ _ _).trans (by kernel_rfl)
def declcheck_Check (d : TDecl) : (Option ((Int × Unit) × Unit)) :=
  (decl_Check d).bind fun y1 =>
    if (y1.1.1 != 0) = true then
      some ((y1.1.1, ()), ())
    else
      (declcheck_Ambiguous d).bind fun y2 =>
        if y2.1.2.2.1 = true then
          some ((13, ()), ())
        else
          (declcheck_Missing d).bind fun y3 =>
            if y3.1.2.2.1 = true then
              some ((14, ()), ())
            else
              (declcheck_Cycle d).bind fun y4 =>
                if y4.1.2.2.1 = true then
                  some ((15, ()), ())
                else
                  (declcheck_Reach d).bind fun y5 =>
                    declcheck_Check_l19 y5.1.1 (y5.1.1.length : Int) 0
def fc25 : FC := ⟨⟨[.row (.cons .str (.cons (.int .i64) (.cons (.int .i64) (.sl (.cons .str (.cons (.sl (.cons (.int .i64) (.cons (.int .i64) (.cons .str (.cons .bool (.sl (.cons (.int .i64) (.int .i64)))))))) (.cons .bool (.cons (.int .i64) (.cons (.int .i64) (.cons .str (.cons .bool (.sl (.cons (.int .i64) (.int .i64))))))))))))))], []⟩, ⟨[.one (.int .i64)], []⟩, fun x => declcheck_Check x.1.1⟩
theorem con25 : Contract Try.prog 25 fc25 :=
  declcheck_Check_D.contract tok (cok_of (l := [(17, fc17), (19, fc19), (21, fc21), (23, fc23), (61, fc61)]) ⟨con17, con19, con21, con23, con61, trivial⟩) mixed (fn' := Try.f25) (by kernel_rfl) (by kernel_rfl) rfl (by kernel_rfl) (fun x => (FD.fn_eq _ _).trans (by kernel_rfl))
end
end Go.Proofs.Ytgjimkgehbppbaa
end

section
/-
Ytgjimkgehbppbaa: signalbench.signalbenchlaw35.Example, as one plain function, its equations, its contract. No condition.
-/
set_option maxRecDepth 100000
set_option linter.unusedVariables false
set_option maxHeartbeats 4000000
open Go Go.AM
namespace Go.Proofs.Ytgjimkgehbppbaa
noncomputable section
def law35_Example_D : FD := ⟨T, lookC [], [], (Try.f49.body.getD .skip), Try.f49.results.toList, ⟨[], []⟩, ⟨[.agg [.str, (.int .i64), (.int .i64), (.own 0)]], [.arr 38 (.cons .str (.cons (.sl (.cons (.int .i64) (.cons (.int .i64) (.cons .str (.cons .bool (.sl (.cons (.int .i64) (.int .i64)))))))) (.cons .bool (.cons (.int .i64) (.cons (.int .i64) (.cons .str (.cons .bool (.sl (.cons (.int .i64) (.int .i64)))))))))) true]⟩, []⟩
def law35_Example : (Option (((ByteArray × Int × Int × Unit × Unit) × Unit) × ((List TDeclState) × Unit))) :=
  some ((((strB [120]), 3, 6, (), ()), ()), ([((strB [97]), [(0, 9, (strB [97]), false, []), (9, 20, (strB [97]), false, [])], true, 0, 0, (strB [97]), false, [])], ()))
def fc49 : FC := ⟨⟨[], []⟩, ⟨[.agg [.str, (.int .i64), (.int .i64), (.own 0)]], [.arr 38 (.cons .str (.cons (.sl (.cons (.int .i64) (.cons (.int .i64) (.cons .str (.cons .bool (.sl (.cons (.int .i64) (.int .i64)))))))) (.cons .bool (.cons (.int .i64) (.cons (.int .i64) (.cons .str (.cons .bool (.sl (.cons (.int .i64) (.int .i64)))))))))) true]⟩, fun x => law35_Example⟩
theorem con49 : Contract Try.prog 49 fc49 :=
  law35_Example_D.contract tok (cok_of (l := []) trivial) mixed (fn' := Try.f49) (by kernel_rfl) (by kernel_rfl) rfl (by kernel_rfl) (fun x => (FD.fn_eq _ _).trans (by kernel_rfl))
end
end Go.Proofs.Ytgjimkgehbppbaa
end

section
/-
Ytgjimkgehbppbaa: signalbench.signalbenchlaw35.round, as one plain function, its equations, its contract. No condition.
-/
set_option maxRecDepth 100000
set_option linter.unusedVariables false
set_option maxHeartbeats 4000000
open Go Go.AM
namespace Go.Proofs.Ytgjimkgehbppbaa
noncomputable section
def law35_round_D : FD := ⟨T, lookC [], [], (Try.f50.body.getD .skip), Try.f50.results.toList, ⟨[], []⟩, ⟨[.row (.cons .str (.cons (.int .i64) (.cons (.int .i64) (.sl (.cons .str (.cons (.sl (.cons (.int .i64) (.cons (.int .i64) (.cons .str (.cons .bool (.sl (.cons (.int .i64) (.int .i64)))))))) (.cons .bool (.cons (.int .i64) (.cons (.int .i64) (.cons .str (.cons .bool (.sl (.cons (.int .i64) (.int .i64))))))))))))))], []⟩, []⟩
def law35_round : (Option ((TDecl × Unit) × Unit)) :=
  some ((((strB [120]), 2, 5, [((strB [97]), [], true, 0, 0, (strB [98]), true, []), ((strB [98]), [], true, 0, 0, (strB [97]), true, [])]), ()), ())
def fc50 : FC := ⟨⟨[], []⟩, ⟨[.row (.cons .str (.cons (.int .i64) (.cons (.int .i64) (.sl (.cons .str (.cons (.sl (.cons (.int .i64) (.cons (.int .i64) (.cons .str (.cons .bool (.sl (.cons (.int .i64) (.int .i64)))))))) (.cons .bool (.cons (.int .i64) (.cons (.int .i64) (.cons .str (.cons .bool (.sl (.cons (.int .i64) (.int .i64))))))))))))))], []⟩, fun x => law35_round⟩
theorem con50 : Contract Try.prog 50 fc50 :=
  law35_round_D.contract tok (cok_of (l := []) trivial) mixed (fn' := Try.f50) (by kernel_rfl) (by kernel_rfl) rfl (by kernel_rfl) (fun x => (FD.fn_eq _ _).trans (by kernel_rfl))
end
end Go.Proofs.Ytgjimkgehbppbaa
end

section
/-
Ytgjimkgehbppbaa: signalbench.signalbenchlaw35.awake, as one plain function, its equations, its contract. No condition.
-/
set_option maxRecDepth 100000
set_option linter.unusedVariables false
set_option maxHeartbeats 4000000
open Go Go.AM
namespace Go.Proofs.Ytgjimkgehbppbaa
noncomputable section
def law35_awake_D : FD := ⟨T, lookC [(17, fc17), (19, fc19), (21, fc21), (23, fc23), (25, fc25), (49, fc49), (50, fc50)], [], (Try.f16.body.getD .skip), Try.f16.results.toList, ⟨[], []⟩, ⟨[.one .bool], []⟩, []⟩
def law35_awake : (Option ((Bool × Unit) × Unit)) :=
  (law35_Example).bind fun y1 =>
    (declcheck_Ambiguous (y1.1.1.1, y1.1.1.2.1, y1.1.1.2.2.1, y1.2.1)).bind fun y2 =>
      (law35_round).bind fun y3 =>
        (declcheck_Cycle y3.1.1).bind fun y4 =>
          (law35_round).bind fun y5 =>
            (declcheck_Missing y5.1.1).bind fun y6 =>
              (law35_Example).bind fun y7 =>
                if 0 ≤ (0 : Int) ∧ 0 < (y7.2.1.length : Int) then
                  if 0 ≤ (0 : Int) ∧ (0 : Int) ≤ 1 ∧ 1 ≤ ((y7.2.1.getD 0 dDeclState).2.1.length : Int) then
                    if 0 ≤ (0 : Int) ∧ 0 < (y7.2.1.length : Int) then
                      if (y2.1.1 == 0) = true then
                        if (y2.1.2.1 == 9) = true then
                          if y2.1.2.2.1 = true then
                            if (y4.1.1 == 0) = true then
                              if (y4.1.2.1 == 0) = true then
                                if y4.1.2.2.1 = true then
                                  if (!y6.1.2.2.1) = true then
                                    (law35_Example).bind fun y8 =>
                                      (declcheck_Check (y8.1.1.1, y8.1.1.2.1, y8.1.1.2.2.1, y8.2.1)).bind fun y9 =>
                                        if (y9.1.1 == 13) = true then
                                          (law35_round).bind fun y10 =>
                                            (declcheck_Check y10.1.1).bind fun y11 =>
                                              if (y11.1.1 == 15) = true then
                                                (declcheck_Check (y7.1.1.1, y7.1.1.2.1, y7.1.1.2.2.1, y7.2.1.set 0 ((y7.2.1.getD 0 dDeclState).1, (y7.2.1.getD 0 dDeclState).2.1.take 1, (y7.2.1.getD 0 dDeclState).2.2))).bind fun y12 =>
                                                  if (y12.1.1 == 0) = true then
                                                    (law35_round).bind fun y13 =>
                                                      (declcheck_Reach y13.1.1).bind fun y14 =>
                                                        some (((y14.1.1.length : Int) == 2, ()), ())
                                                  else
                                                    some ((false, ()), ())
                                              else
                                                some ((false, ()), ())
                                        else
                                          some ((false, ()), ())
                                  else
                                    some ((false, ()), ())
                                else
                                  some ((false, ()), ())
                              else
                                some ((false, ()), ())
                            else
                              some ((false, ()), ())
                          else
                            some ((false, ()), ())
                        else
                          some ((false, ()), ())
                      else
                        some ((false, ()), ())
                    else
                      none
                  else
                    none
                else
                  none
def fc16 : FC := ⟨⟨[], []⟩, ⟨[.one .bool], []⟩, fun x => law35_awake⟩
theorem con16 : Contract Try.prog 16 fc16 :=
  law35_awake_D.contract tok (cok_of (l := [(17, fc17), (19, fc19), (21, fc21), (23, fc23), (25, fc25), (49, fc49), (50, fc50)]) ⟨con17, con19, con21, con23, con25, con49, con50, trivial⟩) mixed (fn' := Try.f16) (by kernel_rfl) (by kernel_rfl) rfl (by kernel_rfl) (fun x => (FD.fn_eq _ _).trans (by kernel_rfl))
end
end Go.Proofs.Ytgjimkgehbppbaa
end

section
/-
Ytgjimkgehbppbaa: signalbench.signalbenchlaw35.DeclcheckFinds, as one plain function, its equations, its contract. No condition.
-/
set_option maxRecDepth 100000
set_option linter.unusedVariables false
set_option maxHeartbeats 4000000
open Go Go.AM
namespace Go.Proofs.Ytgjimkgehbppbaa
noncomputable section
def law35_DeclcheckFinds_D : FD := ⟨T, lookC [(15, fc15), (16, fc16), (17, fc17), (18, fc18), (19, fc19), (20, fc20), (21, fc21), (22, fc22)], [], (Try.f3.body.getD .skip), Try.f3.results.toList, ⟨[.row (.cons .str (.cons (.int .i64) (.cons (.int .i64) (.sl (.cons .str (.cons (.sl (.cons (.int .i64) (.cons (.int .i64) (.cons .str (.cons .bool (.sl (.cons (.int .i64) (.int .i64)))))))) (.cons .bool (.cons (.int .i64) (.cons (.int .i64) (.cons .str (.cons .bool (.sl (.cons (.int .i64) (.int .i64))))))))))))))], []⟩, ⟨[.one .bool], []⟩, []⟩
def law35_DeclcheckFinds (d : TDecl) : (Option ((Bool × Unit) × Unit)) :=
  (ref35_Few d).bind fun y1 =>
    if (!y1.1.1) = true then
      (law35_awake).bind fun y2 =>
        some ((y2.1.1, ()), ())
    else
      (declcheck_Ambiguous d).bind fun y3 =>
        (ref35_Ambiguous d).bind fun y4 =>
          if (y3.1.1 != y4.1.1) = true then
            some ((false, ()), ())
          else
            if (y3.1.2.1 != y4.1.2.1) = true then
              some ((false, ()), ())
            else
              if (!(y3.1.2.2.1 == y4.1.2.2.1)) = true then
                some ((false, ()), ())
              else
                (declcheck_Missing d).bind fun y5 =>
                  (ref35_Missing d).bind fun y6 =>
                    if (y5.1.1 != y6.1.1) = true then
                      some ((false, ()), ())
                    else
                      if (y5.1.2.1 != y6.1.2.1) = true then
                        some ((false, ()), ())
                      else
                        if (!(y5.1.2.2.1 == y6.1.2.2.1)) = true then
                          some ((false, ()), ())
                        else
                          (declcheck_Cycle d).bind fun y7 =>
                            (ref35_Cycle d).bind fun y8 =>
                              if (y7.1.1 == y8.1.1) = true then
                                if (y7.1.2.1 == y8.1.2.1) = true then
                                  if (y7.1.2.2.1 == y8.1.2.2.1) = true then
                                    (law35_awake).bind fun y9 =>
                                      some ((y9.1.1, ()), ())
                                  else
                                    some ((false, ()), ())
                                else
                                  some ((false, ()), ())
                              else
                                some ((false, ()), ())
def fc3 : FC := ⟨⟨[.row (.cons .str (.cons (.int .i64) (.cons (.int .i64) (.sl (.cons .str (.cons (.sl (.cons (.int .i64) (.cons (.int .i64) (.cons .str (.cons .bool (.sl (.cons (.int .i64) (.int .i64)))))))) (.cons .bool (.cons (.int .i64) (.cons (.int .i64) (.cons .str (.cons .bool (.sl (.cons (.int .i64) (.int .i64))))))))))))))], []⟩, ⟨[.one .bool], []⟩, fun x => law35_DeclcheckFinds x.1.1⟩
theorem con3 : Contract Try.prog 3 fc3 :=
  law35_DeclcheckFinds_D.contract tok (cok_of (l := [(15, fc15), (16, fc16), (17, fc17), (18, fc18), (19, fc19), (20, fc20), (21, fc21), (22, fc22)]) ⟨con15, con16, con17, con18, con19, con20, con21, con22, trivial⟩) mixed (fn' := Try.f3) (by kernel_rfl) (by kernel_rfl) rfl (by kernel_rfl) (fun x => (FD.fn_eq _ _).trans (by kernel_rfl))
end
end Go.Proofs.Ytgjimkgehbppbaa
end

section
/-
Ytgjimkgehbppbaa: signalbench.signalbenchlaw35.DeclcheckReaches, as one plain function, its equations, its contract. No condition.
-/
set_option maxRecDepth 100000
set_option linter.unusedVariables false
set_option maxHeartbeats 4000000
open Go Go.AM
namespace Go.Proofs.Ytgjimkgehbppbaa
noncomputable section
def law35_DeclcheckReaches_F11 : FSh := ⟨[(3, .one (.sl .bool)), (4, .one (.sl .bool)), (5, .one (.int .i64))], []⟩
def law35_DeclcheckReaches_D : FD := ⟨T, lookC [(15, fc15), (16, fc16), (23, fc23), (24, fc24)], [], (Try.f4.body.getD .skip), Try.f4.results.toList, ⟨[.row (.cons .str (.cons (.int .i64) (.cons (.int .i64) (.sl (.cons .str (.cons (.sl (.cons (.int .i64) (.cons (.int .i64) (.cons .str (.cons .bool (.sl (.cons (.int .i64) (.int .i64)))))))) (.cons .bool (.cons (.int .i64) (.cons (.int .i64) (.cons .str (.cons .bool (.sl (.cons (.int .i64) (.int .i64))))))))))))))], []⟩, ⟨[.one .bool], []⟩, [(11, law35_DeclcheckReaches_F11)]⟩
def law35_DeclcheckReaches_l11 (l : (List Bool)) (m : (List Bool)) (i : Int) : (Option ((Bool × Unit) × Unit)) := law35_DeclcheckReaches_D.lab 11 law35_DeclcheckReaches_F11 ((l, m, i, ()), ())
theorem law35_DeclcheckReaches_l11_eq (l : (List Bool)) (m : (List Bool)) (i : Int) : law35_DeclcheckReaches_l11 l m i =
  if (decide (i < (l.length : Int))) = true then
    if 0 ≤ i ∧ i < (l.length : Int) then
      if 0 ≤ i ∧ i < (m.length : Int) then
        if (!((l.getD i.toNat false) == (m.getD i.toNat false))) = true then
          some ((false, ()), ())
        else
          law35_DeclcheckReaches_l11 l m (IntKind.i64.wrap (i + 1))
      else
        none
    else
      none
  else
    (law35_awake).bind fun y1 =>
      some ((y1.1.1, ()), ()) := (FD.lab_eq _ _ _ _).trans (by kernel_rfl)
def law35_DeclcheckReaches (d : TDecl) : (Option ((Bool × Unit) × Unit)) :=
  (ref35_Few d).bind fun y1 =>
    if (!y1.1.1) = true then
      (law35_awake).bind fun y2 =>
        some ((y2.1.1, ()), ())
    else
      (declcheck_Reach d).bind fun y3 =>
        (ref35_Reach d).bind fun y4 =>
          if ((y3.1.1.length : Int) != (y4.1.1.length : Int)) = true then
            some ((false, ()), ())
          else
            law35_DeclcheckReaches_l11 y3.1.1 y4.1.1 0
def fc4 : FC := ⟨⟨[.row (.cons .str (.cons (.int .i64) (.cons (.int .i64) (.sl (.cons .str (.cons (.sl (.cons (.int .i64) (.cons (.int .i64) (.cons .str (.cons .bool (.sl (.cons (.int .i64) (.int .i64)))))))) (.cons .bool (.cons (.int .i64) (.cons (.int .i64) (.cons .str (.cons .bool (.sl (.cons (.int .i64) (.int .i64))))))))))))))], []⟩, ⟨[.one .bool], []⟩, fun x => law35_DeclcheckReaches x.1.1⟩
theorem con4 : Contract Try.prog 4 fc4 :=
  law35_DeclcheckReaches_D.contract tok (cok_of (l := [(15, fc15), (16, fc16), (23, fc23), (24, fc24)]) ⟨con15, con16, con23, con24, trivial⟩) mixed (fn' := Try.f4) (by kernel_rfl) (by kernel_rfl) rfl (by kernel_rfl) (fun x => (FD.fn_eq _ _).trans (by kernel_rfl))
end
end Go.Proofs.Ytgjimkgehbppbaa
end

section
/-
Ytgjimkgehbppbaa: signalbench.signalbenchref35.Check, as one plain function, its equations, its contract. No condition.
-/
set_option maxRecDepth 100000
set_option linter.unusedVariables false
set_option maxHeartbeats 4000000
open Go Go.AM
namespace Go.Proofs.Ytgjimkgehbppbaa
noncomputable section
def ref35_Check_F20 : FSh := ⟨[(13, .one (.sl .bool)), (14, .one (.int .i64))], []⟩
def ref35_Check_D : FD := ⟨T, lookC [(18, fc18), (20, fc20), (22, fc22), (24, fc24), (62, fc62)], [], (Try.f26.body.getD .skip), Try.f26.results.toList, ⟨[.row (.cons .str (.cons (.int .i64) (.cons (.int .i64) (.sl (.cons .str (.cons (.sl (.cons (.int .i64) (.cons (.int .i64) (.cons .str (.cons .bool (.sl (.cons (.int .i64) (.int .i64)))))))) (.cons .bool (.cons (.int .i64) (.cons (.int .i64) (.cons .str (.cons .bool (.sl (.cons (.int .i64) (.int .i64))))))))))))))], []⟩, ⟨[.one (.int .i64)], []⟩, [(20, ref35_Check_F20)]⟩
def ref35_Check_l20 (l : (List Bool)) (i : Int) : (Option ((Int × Unit) × Unit)) := ref35_Check_D.lab 20 ref35_Check_F20 ((l, i, ()), ())
theorem ref35_Check_l20_eq (l : (List Bool)) (i : Int) : ref35_Check_l20 l i =
  if (decide (i < (l.length : Int))) = true then
    if 0 ≤ i ∧ i < (l.length : Int) then
      if (!(l.getD i.toNat false)) = true then
        some ((16, ()), ())
      else
        ref35_Check_l20 l (IntKind.i64.wrap (i + 1))
    else
      none
  else
    some ((0, ()), ()) := (FD.lab_eq _ _ _ _).trans (by kernel_rfl)
def ref35_Check (d : TDecl) : (Option ((Int × Unit) × Unit)) :=
  (ref34_Check d).bind fun y1 =>
    if (y1.1.1 != 0) = true then
      some ((y1.1.1, ()), ())
    else
      (ref35_Ambiguous d).bind fun y2 =>
        if y2.1.2.2.1 = true then
          some ((13, ()), ())
        else
          (ref35_Missing d).bind fun y3 =>
            if y3.1.2.2.1 = true then
              some ((14, ()), ())
            else
              (ref35_Cycle d).bind fun y4 =>
                if y4.1.2.2.1 = true then
                  some ((15, ()), ())
                else
                  (ref35_Reach d).bind fun y5 =>
                    ref35_Check_l20 y5.1.1 0
def fc26 : FC := ⟨⟨[.row (.cons .str (.cons (.int .i64) (.cons (.int .i64) (.sl (.cons .str (.cons (.sl (.cons (.int .i64) (.cons (.int .i64) (.cons .str (.cons .bool (.sl (.cons (.int .i64) (.int .i64)))))))) (.cons .bool (.cons (.int .i64) (.cons (.int .i64) (.cons .str (.cons .bool (.sl (.cons (.int .i64) (.int .i64))))))))))))))], []⟩, ⟨[.one (.int .i64)], []⟩, fun x => ref35_Check x.1.1⟩
theorem con26 : Contract Try.prog 26 fc26 :=
  ref35_Check_D.contract tok (cok_of (l := [(18, fc18), (20, fc20), (22, fc22), (24, fc24), (62, fc62)]) ⟨con18, con20, con22, con24, con62, trivial⟩) mixed (fn' := Try.f26) (by kernel_rfl) (by kernel_rfl) rfl (by kernel_rfl) (fun x => (FD.fn_eq _ _).trans (by kernel_rfl))
end
end Go.Proofs.Ytgjimkgehbppbaa
end

section
/-
Ytgjimkgehbppbaa: signalbench.signalbenchlaw35.DeclcheckChecks, as one plain function, its equations, its contract. No condition.
-/
set_option maxRecDepth 100000
set_option linter.unusedVariables false
set_option maxHeartbeats 4000000
open Go Go.AM
namespace Go.Proofs.Ytgjimkgehbppbaa
noncomputable section
def law35_DeclcheckChecks_D : FD := ⟨T, lookC [(15, fc15), (16, fc16), (25, fc25), (26, fc26)], [], (Try.f5.body.getD .skip), Try.f5.results.toList, ⟨[.row (.cons .str (.cons (.int .i64) (.cons (.int .i64) (.sl (.cons .str (.cons (.sl (.cons (.int .i64) (.cons (.int .i64) (.cons .str (.cons .bool (.sl (.cons (.int .i64) (.int .i64)))))))) (.cons .bool (.cons (.int .i64) (.cons (.int .i64) (.cons .str (.cons .bool (.sl (.cons (.int .i64) (.int .i64))))))))))))))], []⟩, ⟨[.one .bool], []⟩, []⟩
def law35_DeclcheckChecks (d : TDecl) : (Option ((Bool × Unit) × Unit)) :=
  (ref35_Few d).bind fun y1 =>
    if (!y1.1.1) = true then
      (law35_awake).bind fun y2 =>
        some ((y2.1.1, ()), ())
    else
      (declcheck_Check d).bind fun y3 =>
        (ref35_Check d).bind fun y4 =>
          if (y3.1.1 == y4.1.1) = true then
            (law35_awake).bind fun y5 =>
              some ((y5.1.1, ()), ())
          else
            some ((false, ()), ())
def fc5 : FC := ⟨⟨[.row (.cons .str (.cons (.int .i64) (.cons (.int .i64) (.sl (.cons .str (.cons (.sl (.cons (.int .i64) (.cons (.int .i64) (.cons .str (.cons .bool (.sl (.cons (.int .i64) (.int .i64)))))))) (.cons .bool (.cons (.int .i64) (.cons (.int .i64) (.cons .str (.cons .bool (.sl (.cons (.int .i64) (.int .i64))))))))))))))], []⟩, ⟨[.one .bool], []⟩, fun x => law35_DeclcheckChecks x.1.1⟩
theorem con5 : Contract Try.prog 5 fc5 :=
  law35_DeclcheckChecks_D.contract tok (cok_of (l := [(15, fc15), (16, fc16), (25, fc25), (26, fc26)]) ⟨con15, con16, con25, con26, trivial⟩) mixed (fn' := Try.f5) (by kernel_rfl) (by kernel_rfl) rfl (by kernel_rfl) (fun x => (FD.fn_eq _ _).trans (by kernel_rfl))
end
end Go.Proofs.Ytgjimkgehbppbaa
end

section
/-
Ytgjimkgehbppbaa: the laws of finding, reaching, checking, as plain functions, come to true. No condition.
-/
set_option maxRecDepth 100000
open Go Go.AM
namespace Go.Proofs.Ytgjimkgehbppbaa

theorem all_loop (l : List Bool) (hl : l.length ≤ 1048576) : ∀ (r : List Bool) (k : Nat), l.drop k = r → declcheck_Check_l19 l (l.length : Int) k = some ((if r.all id = true then 0 else 16, ()), ())
  | [], k, h => by
    have := drop_nil h
    rw [declcheck_Check_l19_eq, if_neg (dF (by omega))]
    rfl
  | b :: r, k, h => by
    have h1 := drop_lt h
    have hr : l.getD (k : Int).toNat false = b := getD_drop h
    rw [declcheck_Check_l19_eq, if_pos (dT (by omega)), if_pos ⟨by omega, by omega⟩, hr, w64a k (by omega), all_loop l hl r (k + 1) (dropS h)]
    cases b <;> simp

theorem rall_loop (l : List Bool) (hl : l.length ≤ 1048576) : ∀ (r : List Bool) (k : Nat), l.drop k = r → ref35_Check_l20 l k = some ((if r.all id = true then 0 else 16, ()), ())
  | [], k, h => by
    have := drop_nil h
    rw [ref35_Check_l20_eq, if_neg (dF (by omega))]
    rfl
  | b :: r, k, h => by
    have h1 := drop_lt h
    have hr : l.getD (k : Int).toNat false = b := getD_drop h
    rw [ref35_Check_l20_eq, if_pos (dT (by omega)), if_pos ⟨by omega, by omega⟩, hr, w64a k (by omega), rall_loop l hl r (k + 1) (dropS h)]
    cases b <;> simp

theorem resV_bind {R : Type} (o : Option (Nat × Nat)) (A B : Option R) : (resV o).bind (fun y => if y.1.2.2.1 = true then A else B) = if o.isSome = true then A else B := by
  cases o <;> rfl

theorem ccheck_eq (d : TDecl) (h : okDecl d) : declcheck_Check d = some ((ccheckV d, ()), ()) := by
  have hl := reachV_len d.2.2.2
  have hd := h.1
  unfold declcheck_Check ccheckV
  rw [dcheck_eq d h, amb_eq d h, mis_eq d h, cyc_eq d h, reach_eq d h]
  simp only [Option.bind_some, resV_bind]
  have hall := all_loop (reachV d.2.2.2) (by omega) _ 0 rfl
  rw [show declcheck_Check_l19 (reachV d.2.2.2) ((reachV d.2.2.2).length : Int) 0 = _ from hall]
  by_cases q0 : checkV d = 0
  · rw [if_neg (nF q0), if_neg (show ¬ checkV d ≠ 0 from fun q => q q0)]
    split
    · rfl
    · split
      · rfl
      · split <;> rfl
  · rw [if_pos (nT q0), if_pos q0]

theorem rccheck_eq (d : TDecl) (h : okDecl d) : ref35_Check d = some ((ccheckV d, ()), ()) := by
  have hl := reachV_len d.2.2.2
  have hd := h.1
  unfold ref35_Check ccheckV
  rw [wcheck_eq d h, ramb_eq d h, rmis_eq d h, rcyc_eq d h, rreach_eq d h]
  simp only [Option.bind_some, resV_bind]
  have hall := rall_loop (reachV d.2.2.2) (by omega) _ 0 rfl
  rw [show ref35_Check_l20 (reachV d.2.2.2) 0 = _ from hall]
  by_cases q0 : checkV d = 0
  · rw [if_neg (nF q0), if_neg (show ¬ checkV d ≠ 0 from fun q => q q0)]
    split
    · rfl
    · split
      · rfl
      · split <;> rfl
  · rw [if_pos (nT q0), if_pos q0]

/-! ### examples -/
def exD : TDecl := (strB [120], 3, 6, [((strB [97]), [(0, 9, (strB [97]), false, []), (9, 20, (strB [97]), false, [])], true, 0, 0, (strB [97]), false, [])])
def rdD : TDecl := (strB [120], 2, 5, [((strB [97]), [], true, 0, 0, (strB [98]), true, []), ((strB [98]), [], true, 0, 0, (strB [97]), true, [])])
def gdD : TDecl := (strB [120], 3, 6, [((strB [97]), [(0, 9, (strB [97]), false, [])], true, 0, 0, (strB [97]), false, [])])

theorem ok_ex : okDecl exD := okDecl_bk exD (by decide)
theorem ok_rd : okDecl rdD := okDecl_bk rdD (by decide)
theorem ok_gd : okDecl gdD := okDecl_bk gdD (by decide)

theorem ex_amb : firstV exD.2.2.2.length (topV exD) (ambP exD.2.2.2) = some (0, 9) := by kernel_rfl
theorem rd_cyc : firstV rdD.2.2.2.length (topV rdD) (cycP rdD.2.2.2) = some (0, 0) := by kernel_rfl
theorem rd_mis : firstV rdD.2.2.2.length (topV rdD) (misP rdD.2.2.2) = none := by kernel_rfl
theorem rd_amb : firstV rdD.2.2.2.length (topV rdD) (ambP rdD.2.2.2) = none := by kernel_rfl
theorem gd_amb : firstV gdD.2.2.2.length (topV gdD) (ambP gdD.2.2.2) = none := by kernel_rfl
theorem gd_mis : firstV gdD.2.2.2.length (topV gdD) (misP gdD.2.2.2) = none := by kernel_rfl
theorem gd_cyc : firstV gdD.2.2.2.length (topV gdD) (cycP gdD.2.2.2) = none := by kernel_rfl
theorem ex_check : checkV exD = 0 := by kernel_rfl
theorem rd_check : checkV rdD = 0 := by kernel_rfl
theorem gd_check : checkV gdD = 0 := by kernel_rfl
theorem ex_cc : ccheckV exD = 13 := by unfold ccheckV; rw [ex_check, ex_amb]; rfl
theorem rd_cc : ccheckV rdD = 15 := by unfold ccheckV; rw [rd_check, rd_amb, rd_mis, rd_cyc]; rfl
theorem gd_reach : (reachV gdD.2.2.2).all id = true := by
  rw [List.all_eq_true]
  intro b hb
  obtain ⟨j, hj⟩ := List.mem_iff_getElem?.1 hb
  have hl := get_true_lt hj
  rw [reachV_len] at hl
  have hl' : j < 1 := hl
  have e : j = 0 := by omega
  subst e
  have := (reachV_get gdD.2.2.2 0).2 ⟨hl, .zero hl⟩
  rw [this] at hj
  cases hj
  rfl
theorem gd_cc : ccheckV gdD = 0 := by unfold ccheckV; rw [gd_check, gd_amb, gd_mis, gd_cyc, if_pos gd_reach]; rfl

theorem awake_b : law35_awake = some ((true, ()), ()) := by
  have e1 : declcheck_Ambiguous exD = some ((0, 9, true, ()), ()) := by rw [amb_eq exD ok_ex, ex_amb]; rfl
  have e2 : declcheck_Cycle rdD = some ((0, 0, true, ()), ()) := by rw [cyc_eq rdD ok_rd, rd_cyc]; rfl
  have e3 : declcheck_Missing rdD = some ((0, 0, false, ()), ()) := by rw [mis_eq rdD ok_rd, rd_mis]; rfl
  have e4 : declcheck_Check exD = some ((13, ()), ()) := by rw [ccheck_eq exD ok_ex, ex_cc]
  have e5 : declcheck_Check rdD = some ((15, ()), ()) := by rw [ccheck_eq rdD ok_rd, rd_cc]
  have e6 : declcheck_Check gdD = some ((0, ()), ()) := by rw [ccheck_eq gdD ok_gd, gd_cc]
  have e7 : declcheck_Reach rdD = some ((reachV rdD.2.2.2, ()), ()) := reach_eq rdD ok_rd
  have e8 : ((reachV rdD.2.2.2).length : Int) = 2 := by rw [reachV_len]; rfl
  unfold law35_awake
  unfold law35_Example law35_round
  refine (congrArg (fun z => Option.bind z _) e1).trans ?_
  refine (congrArg (fun z => Option.bind z _) e2).trans ?_
  refine (congrArg (fun z => Option.bind z _) e3).trans ?_
  simp only [Option.bind_some]
  iterate 10 (refine Eq.trans (if_pos ?_) ?_; · decide)
  refine (congrArg (fun z => Option.bind z _) e4).trans ?_
  simp only [Option.bind_some]
  refine Eq.trans (if_pos ?_) ?_
  · decide
  refine (congrArg (fun z => Option.bind z _) e5).trans ?_
  simp only [Option.bind_some]
  refine Eq.trans (if_pos ?_) ?_
  · decide
  refine (congrArg (fun z => Option.bind z _) e6).trans ?_
  simp only [Option.bind_some]
  refine Eq.trans (if_pos ?_) ?_
  · decide
  refine (congrArg (fun z => Option.bind z _) e7).trans ?_
  simp only [Option.bind_some]
  rw [e8]
  rfl

/-! ### the laws -/
theorem few_loop (d : TDecl) (h : okDecl d) : ∀ (c k : Nat), c = d.2.2.2.length - k → k ≤ d.2.2.2.length → ∃ b, ref35_Few_l6 k d = some ((b, ()), ()) := by
  have hd := h.1
  intro c
  induction c with
  | zero => intro k hc hk; exact ⟨true, by rw [ref35_Few_l6_eq, if_neg (dF (by omega))]⟩
  | succ c ih =>
    intro k hc hk
    rw [ref35_Few_l6_eq, if_pos (dT (by omega)), if_pos ⟨by omega, by omega⟩, w64a k (by omega)]
    split
    · exact ⟨false, rfl⟩
    · exact ih (k + 1) (by omega) (by omega)

theorem few_ex (d : TDecl) (h : okDecl d) : ∃ b, ref35_Few d = some ((b, ()), ()) := by
  unfold ref35_Few
  split
  · exact ⟨false, rfl⟩
  · exact few_loop d h _ 0 rfl (Nat.zero_le _)

theorem DeclcheckFinds_true (d : TDecl) (h : okDecl d) : law35_DeclcheckFinds d = some ((true, ()), ()) := by
  obtain ⟨b, hb⟩ := few_ex d h
  unfold law35_DeclcheckFinds
  rw [hb, awake_b, amb_eq d h, ramb_eq d h, mis_eq d h, rmis_eq d h, cyc_eq d h, rcyc_eq d h]
  cases b with
  | false => rfl
  | true =>
    cases firstV d.2.2.2.length (topV d) (ambP d.2.2.2) <;> cases firstV d.2.2.2.length (topV d) (misP d.2.2.2) <;> cases firstV d.2.2.2.length (topV d) (cycP d.2.2.2) <;> simp [resV]

theorem same_loop (l : List Bool) (hl : l.length ≤ 1048576) : ∀ (c k : Nat), c = l.length - k → k ≤ l.length → law35_DeclcheckReaches_l11 l l k = some ((true, ()), ()) := by
  intro c
  induction c with
  | zero => intro k hc hk; rw [law35_DeclcheckReaches_l11_eq, if_neg (dF (by omega)), awake_b]; rfl
  | succ c ih =>
    intro k hc hk
    rw [law35_DeclcheckReaches_l11_eq, if_pos (dT (by omega)), if_pos ⟨by omega, by omega⟩, if_pos ⟨by omega, by omega⟩, if_neg (by simp), w64a k (by omega)]
    exact ih (k + 1) (by omega) (by omega)

theorem DeclcheckReaches_true (d : TDecl) (h : okDecl d) : law35_DeclcheckReaches d = some ((true, ()), ()) := by
  obtain ⟨b, hb⟩ := few_ex d h
  have hd := h.1
  unfold law35_DeclcheckReaches
  rw [hb, awake_b, reach_eq d h, rreach_eq d h]
  cases b with
  | false => rfl
  | true =>
    simp only [Option.bind_some]
    refine (if_neg (by simp)).trans ?_
    refine (if_neg (nF rfl)).trans ?_
    exact same_loop _ (by rw [reachV_len]; exact hd) _ 0 rfl (Nat.zero_le _)

theorem DeclcheckChecks_true (d : TDecl) (h : okDecl d) : law35_DeclcheckChecks d = some ((true, ()), ()) := by
  obtain ⟨b, hb⟩ := few_ex d h
  unfold law35_DeclcheckChecks
  rw [hb, awake_b, ccheck_eq d h, rccheck_eq d h]
  cases b with
  | false => rfl
  | true =>
    simp only [Option.bind_some]
    refine (if_neg (by simp)).trans ?_
    exact if_pos (eT rfl)

end Go.Proofs.Ytgjimkgehbppbaa
end

section
/-
Ytgjimkgehbppbaa: (*signalbench.decltab.row[signalbench.decltab.result]).add, as one plain function, its equations, its contract. No condition.
-/
set_option maxRecDepth 100000
set_option linter.unusedVariables false
set_option maxHeartbeats 4000000
open Go Go.AM
namespace Go.Proofs.Ytgjimkgehbppbaa
noncomputable section
def decltab_result_add_D : FD := ⟨T, lookC [(64, fc64)], [], (Try.f67.body.getD .skip), Try.f67.results.toList, ⟨[.one (.ptr 0 0), .one (.int .i64), .row (.cons (.int .i64) (.sl (.cons (.int .i64) (.int .i64)))), .row (.cons (.int .i64) (.cons (.int .i64) (.cons (.int .i64) (.sl (.cons (.int .i64) (.int .i64))))))], [.box [(.own 1), (.int .i64), (.sl (.cons (.int .i64) (.int .i64))), (.fn 64 [])], .arr 52 (.cons (.int .i64) (.cons (.int .i64) (.cons (.int .i64) (.sl (.cons (.int .i64) (.int .i64)))))) true]⟩, ⟨[], [.box [(.own 2), (.int .i64), (.sl (.cons (.int .i64) (.int .i64))), (.fn 64 [])], .dead, .arr 52 (.cons (.int .i64) (.cons (.int .i64) (.cons (.int .i64) (.sl (.cons (.int .i64) (.int .i64)))))) true]⟩, []⟩
def decltab_result_add (symbol : Int) (x0 : Tresult) (cell : TCell) (h0_1 : Int) (h0_2 : (List TAct)) (l1 : (List TCell)) : (Option (Unit × ((Unit × Int × (List TAct) × Unit × Unit) × Unit × (List TCell) × Unit))) :=
  if (decide ((l1.length : Int) > 0)) = true then
    (decltab_same (h0_1, h0_2) x0).bind fun y1 =>
      if y1.1.1 = true then
        if 0 ≤ IntKind.i64.wrap ((l1.length : Int) - 1) ∧ IntKind.i64.wrap ((l1.length : Int) - 1) < (l1.length : Int) then
          some ((), (((), h0_1, h0_2, (), ()), (), l1.set (IntKind.i64.wrap ((l1.length : Int) - 1)).toNat ((l1.getD (IntKind.i64.wrap ((l1.length : Int) - 1)).toNat dCell).1, symbol, (l1.getD (IntKind.i64.wrap ((l1.length : Int) - 1)).toNat dCell).2.2), ()))
        else
          none
      else
        if (l1.length + 1) * 48 ≤ 140737488355328 ∧ 0 < 48 then
          some ((), (((), x0.1, x0.2, (), ()), (), l1 ++ [(symbol, symbol, cell.2.2)], ()))
        else
          none
  else
    if (l1.length + 1) * 48 ≤ 140737488355328 ∧ 0 < 48 then
      some ((), (((), x0.1, x0.2, (), ()), (), l1 ++ [(symbol, symbol, cell.2.2)], ()))
    else
      none
def fc67 : FC := ⟨⟨[.one (.ptr 0 0), .one (.int .i64), .row (.cons (.int .i64) (.sl (.cons (.int .i64) (.int .i64)))), .row (.cons (.int .i64) (.cons (.int .i64) (.cons (.int .i64) (.sl (.cons (.int .i64) (.int .i64))))))], [.box [(.own 1), (.int .i64), (.sl (.cons (.int .i64) (.int .i64))), (.fn 64 [])], .arr 52 (.cons (.int .i64) (.cons (.int .i64) (.cons (.int .i64) (.sl (.cons (.int .i64) (.int .i64)))))) true]⟩, ⟨[], [.box [(.own 2), (.int .i64), (.sl (.cons (.int .i64) (.int .i64))), (.fn 64 [])], .dead, .arr 52 (.cons (.int .i64) (.cons (.int .i64) (.cons (.int .i64) (.sl (.cons (.int .i64) (.int .i64)))))) true]⟩, fun x => decltab_result_add x.1.2.1 x.1.2.2.1 x.1.2.2.2.1 x.2.1.2.1 x.2.1.2.2.1 x.2.2.1⟩
theorem con67 : Contract Try.prog 67 fc67 :=
  decltab_result_add_D.contract tok (cok_of (l := [(64, fc64)]) ⟨con64, trivial⟩) mixed (fn' := Try.f67) (by kernel_rfl) (by kernel_rfl) rfl (by kernel_rfl) (fun x => (FD.fn_eq _ _).trans (by kernel_rfl))
end
end Go.Proofs.Ytgjimkgehbppbaa
end

section
/-
Ytgjimkgehbppbaa: signalbench.decltab.Compile, as one plain function, its equations, its contract. No condition.
-/
set_option maxRecDepth 100000
set_option linter.unusedVariables false
set_option maxHeartbeats 4000000
open Go Go.AM
namespace Go.Proofs.Ytgjimkgehbppbaa
noncomputable section
def decltab_Compile_F8 : FSh := ⟨[(1, .one (.ptr 0 0)), (2, .one (.ptr 1 0)), (5, .one (.ptr 2 0)), (26, .one (.int .i64)), (27, .one (.int .i64))], [.boxr (.cons .str (.cons (.int .i64) (.cons (.int .i64) (.sl (.cons .str (.cons (.sl (.cons (.int .i64) (.cons (.int .i64) (.cons .str (.cons .bool (.sl (.cons (.int .i64) (.int .i64)))))))) (.cons .bool (.cons (.int .i64) (.cons (.int .i64) (.cons .str (.cons .bool (.sl (.cons (.int .i64) (.int .i64)))))))))))))), .box [.str, (.int .i64), (.int .i64), (.own 3)], .box [.str, (.int .i64), (.int .i64), (.own 4)], .arr 50 (.sl (.cons (.int .i64) (.cons (.int .i64) (.cons (.int .i64) (.sl (.cons (.int .i64) (.int .i64))))))) true, .arr 50 (.sl (.cons (.int .i64) (.cons (.int .i64) (.cons (.int .i64) (.sl (.cons (.int .i64) (.int .i64))))))) true]⟩
def decltab_Compile_F16 : FSh := ⟨[(1, .one (.ptr 0 0)), (2, .one (.ptr 1 0)), (5, .one (.ptr 2 0)), (6, .one (.int .i64)), (7, .one (.ptr 3 0)), (8, .one (.int .i64)), (26, .one (.int .i64)), (27, .one (.int .i64))], [.boxr (.cons .str (.cons (.int .i64) (.cons (.int .i64) (.sl (.cons .str (.cons (.sl (.cons (.int .i64) (.cons (.int .i64) (.cons .str (.cons .bool (.sl (.cons (.int .i64) (.int .i64)))))))) (.cons .bool (.cons (.int .i64) (.cons (.int .i64) (.cons .str (.cons .bool (.sl (.cons (.int .i64) (.int .i64)))))))))))))), .box [.str, (.int .i64), (.int .i64), (.own 4)], .box [.str, (.int .i64), (.int .i64), (.own 5)], .box [(.own 6), (.int .i64), (.sl (.cons (.int .i64) (.int .i64))), (.fn 64 [])], .arr 50 (.sl (.cons (.int .i64) (.cons (.int .i64) (.cons (.int .i64) (.sl (.cons (.int .i64) (.int .i64))))))) true, .arr 50 (.sl (.cons (.int .i64) (.cons (.int .i64) (.cons (.int .i64) (.sl (.cons (.int .i64) (.int .i64))))))) true, .arr 52 (.cons (.int .i64) (.cons (.int .i64) (.cons (.int .i64) (.sl (.cons (.int .i64) (.int .i64)))))) true]⟩
def decltab_Compile_D : FD := ⟨T, lookC [(25, fc25), (64, fc64), (65, fc65), (66, fc66), (67, fc67)], [], (Try.f31.body.getD .skip), Try.f31.results.toList, ⟨[.row (.cons .str (.cons (.int .i64) (.cons (.int .i64) (.sl (.cons .str (.cons (.sl (.cons (.int .i64) (.cons (.int .i64) (.cons .str (.cons .bool (.sl (.cons (.int .i64) (.int .i64)))))))) (.cons .bool (.cons (.int .i64) (.cons (.int .i64) (.cons .str (.cons .bool (.sl (.cons (.int .i64) (.int .i64))))))))))))))], []⟩, ⟨[.row (.cons .str (.cons (.int .i64) (.cons (.int .i64) (.sl (.sl (.cons (.int .i64) (.cons (.int .i64) (.cons (.int .i64) (.sl (.cons (.int .i64) (.int .i64))))))))))), .one (.int .i64)], []⟩, [(8, decltab_Compile_F8), (16, decltab_Compile_F16)]⟩
def decltab_Compile_l8 (t26 : Int) (t27 : Int) (h0 : TDecl) (h1_0 : ByteArray) (h1_1 : Int) (h1_2 : Int) (h2_0 : ByteArray) (h2_1 : Int) (h2_2 : Int) (l3 : (List (List TCell))) (l4 : (List (List TCell))) : (Option ((TTable × Int × Unit) × Unit)) := decltab_Compile_D.lab 8 decltab_Compile_F8 (((), (), (), t26, t27, ()), (h0, (h1_0, h1_1, h1_2, (), ()), (h2_0, h2_1, h2_2, (), ()), l3, l4, ()))
def decltab_Compile_l16 (state : Int) (symbol : Int) (t26 : Int) (t27 : Int) (h0 : TDecl) (h1_0 : ByteArray) (h1_1 : Int) (h1_2 : Int) (h2_0 : ByteArray) (h2_1 : Int) (h2_2 : Int) (h3_1 : Int) (h3_2 : (List TAct)) (l4 : (List (List TCell))) (l5 : (List (List TCell))) (l6 : (List TCell)) : (Option ((TTable × Int × Unit) × Unit)) := decltab_Compile_D.lab 16 decltab_Compile_F16 (((), (), (), state, (), symbol, t26, t27, ()), (h0, (h1_0, h1_1, h1_2, (), ()), (h2_0, h2_1, h2_2, (), ()), ((), h3_1, h3_2, (), ()), l4, l5, l6, ()))
theorem decltab_Compile_l8_eq (t26 : Int) (t27 : Int) (h0 : TDecl) (h1_0 : ByteArray) (h1_1 : Int) (h1_2 : Int) (h2_0 : ByteArray) (h2_1 : Int) (h2_2 : Int) (l3 : (List (List TCell))) (l4 : (List (List TCell))) : decltab_Compile_l8 t26 t27 h0 h1_0 h1_1 h1_2 h2_0 h2_1 h2_2 l3 l4 =
  if (decide (t27 < t26)) = true then
    decltab_Compile_l16 t27 0 t26 t27 h0 h1_0 h1_1 h1_2 h2_0 h2_1 h2_2 0 [] l3 l4 []
  else
    some (((h2_0, h2_1, h2_2, l4), 0, ()), ()) := (FD.lab_eq _ _ _ _).trans (by kernel_rfl)
theorem decltab_Compile_l16_eq (state : Int) (symbol : Int) (t26 : Int) (t27 : Int) (h0 : TDecl) (h1_0 : ByteArray) (h1_1 : Int) (h1_2 : Int) (h2_0 : ByteArray) (h2_1 : Int) (h2_2 : Int) (h3_1 : Int) (h3_2 : (List TAct)) (l4 : (List (List TCell))) (l5 : (List (List TCell))) (l6 : (List TCell)) : decltab_Compile_l16 state symbol t26 t27 h0 h1_0 h1_1 h1_2 h2_0 h2_1 h2_2 h3_1 h3_2 l4 l5 l6 =
  (decltab_top h0.2.1).bind fun y1 =>
    if (decide (symbol ≤ y1.1.1)) = true then
      (decltab_follow h0 state symbol).bind fun y2 =>
        if (!y2.1.2.1) = true then
          some ((((strB []), 0, 0, []), 6, ()), ())
        else
          (decltab_result_add symbol y2.1.1 (0, 0, y2.1.1) h3_1 h3_2 l6).bind fun y3 =>
            decltab_Compile_l16 state (IntKind.i64.wrap (symbol + 1)) t26 t27 h0 h1_0 h1_1 h1_2 h2_0 h2_1 h2_2 y3.2.1.2.1 y3.2.1.2.2.1 l4 l5 y3.2.2.2.1
    else
      if (l5.length + 1) * 24 ≤ 140737488355328 ∧ 0 < 24 then
        decltab_Compile_l8 t26 (IntKind.i64.wrap (t27 + 1)) h0 h1_0 h1_1 h1_2 h2_0 h2_1 h2_2 l4 (l5 ++ [l6])
      else
        none := (FD.lab_eq _ _ _ _).trans (by kernel_rfl)
def decltab_Compile (d : TDecl) : (Option ((TTable × Int × Unit) × Unit)) :=
  (declcheck_Check d).bind fun y1 =>
    if (y1.1.1 != 0) = true then
      some ((((strB []), 0, 0, []), y1.1.1, ()), ())
    else
      decltab_Compile_l8 (d.2.2.2.length : Int) 0 d (strB []) 0 0 d.1 d.2.1 d.2.2.1 [] []
def fc31 : FC := ⟨⟨[.row (.cons .str (.cons (.int .i64) (.cons (.int .i64) (.sl (.cons .str (.cons (.sl (.cons (.int .i64) (.cons (.int .i64) (.cons .str (.cons .bool (.sl (.cons (.int .i64) (.int .i64)))))))) (.cons .bool (.cons (.int .i64) (.cons (.int .i64) (.cons .str (.cons .bool (.sl (.cons (.int .i64) (.int .i64))))))))))))))], []⟩, ⟨[.row (.cons .str (.cons (.int .i64) (.cons (.int .i64) (.sl (.sl (.cons (.int .i64) (.cons (.int .i64) (.cons (.int .i64) (.sl (.cons (.int .i64) (.int .i64))))))))))), .one (.int .i64)], []⟩, fun x => decltab_Compile x.1.1⟩
theorem con31 : Contract Try.prog 31 fc31 :=
  decltab_Compile_D.contract tok (cok_of (l := [(25, fc25), (64, fc64), (65, fc65), (66, fc66), (67, fc67)]) ⟨con25, con64, con65, con66, con67, trivial⟩) mixed (fn' := Try.f31) (by kernel_rfl) (by kernel_rfl) rfl (by kernel_rfl) (fun x => (FD.fn_eq _ _).trans (by kernel_rfl))
end
end Go.Proofs.Ytgjimkgehbppbaa
end

section
/-
Ytgjimkgehbppbaa: signalbench.signalbenchref36.row, as one plain function, its equations, its contract. No condition.
-/
set_option maxRecDepth 100000
set_option linter.unusedVariables false
set_option maxHeartbeats 4000000
open Go Go.AM
namespace Go.Proofs.Ytgjimkgehbppbaa
noncomputable section
def ref36_row_F4 : FSh := ⟨[(1, .one (.int .i64)), (2, .one (.ptr 0 0)), (6, .one (.own 1)), (7, .one (.int .i64))], [.boxr (.cons .str (.cons (.int .i64) (.cons (.int .i64) (.sl (.cons .str (.cons (.sl (.cons (.int .i64) (.cons (.int .i64) (.cons .str (.cons .bool (.sl (.cons (.int .i64) (.int .i64)))))))) (.cons .bool (.cons (.int .i64) (.cons (.int .i64) (.cons .str (.cons .bool (.sl (.cons (.int .i64) (.int .i64)))))))))))))), .arr 52 (.cons (.int .i64) (.cons (.int .i64) (.cons (.int .i64) (.sl (.cons (.int .i64) (.int .i64)))))) true]⟩
def ref36_row_D : FD := ⟨T, lookC [(74, fc74), (87, fc87), (88, fc88)], [], (Try.f68.body.getD .skip), Try.f68.results.toList, ⟨[.row (.cons .str (.cons (.int .i64) (.cons (.int .i64) (.sl (.cons .str (.cons (.sl (.cons (.int .i64) (.cons (.int .i64) (.cons .str (.cons .bool (.sl (.cons (.int .i64) (.int .i64)))))))) (.cons .bool (.cons (.int .i64) (.cons (.int .i64) (.cons .str (.cons .bool (.sl (.cons (.int .i64) (.int .i64)))))))))))))), .one (.int .i64)], []⟩, ⟨[.one (.sl (.cons (.int .i64) (.cons (.int .i64) (.cons (.int .i64) (.sl (.cons (.int .i64) (.int .i64))))))), .one (.int .i64)], []⟩, [(4, ref36_row_F4)]⟩
def ref36_row_l4 (state : Int) (s : Int) (h0 : TDecl) (l1 : (List TCell)) : (Option (((List TCell) × Int × Unit) × Unit)) := ref36_row_D.lab 4 ref36_row_F4 ((state, (), (), s, ()), (h0, l1, ()))
theorem ref36_row_l4_eq (state : Int) (s : Int) (h0 : TDecl) (l1 : (List TCell)) : ref36_row_l4 state s h0 l1 =
  (ref36_top h0.2.1).bind fun y1 =>
    if (decide (s ≤ y1.1.1)) = true then
      (ref36_Follow h0 state s).bind fun y2 =>
        if (decide ((y2.1.2.1.length : Int) > 64)) = true then
          some (([], 6, ()), ())
        else
          if (decide ((IntKind.i64.wrap ((l1.length : Int) - 1)) ≥ 0)) = true then
            if 0 ≤ IntKind.i64.wrap ((l1.length : Int) - 1) ∧ IntKind.i64.wrap ((l1.length : Int) - 1) < (l1.length : Int) then
              if ((l1.getD (IntKind.i64.wrap ((l1.length : Int) - 1)).toNat dCell).2.2.1 == y2.1.1) = true then
                if 0 ≤ IntKind.i64.wrap ((l1.length : Int) - 1) ∧ IntKind.i64.wrap ((l1.length : Int) - 1) < (l1.length : Int) then
                  (ref36_sameActs (l1.getD (IntKind.i64.wrap ((l1.length : Int) - 1)).toNat dCell).2.2.2 y2.1.2.1).bind fun y3 =>
                    if y3.1.1 = true then
                      if 0 ≤ IntKind.i64.wrap ((l1.length : Int) - 1) ∧ IntKind.i64.wrap ((l1.length : Int) - 1) < (l1.length : Int) then
                        ref36_row_l4 state (IntKind.i64.wrap (s + 1)) h0 (l1.set (IntKind.i64.wrap ((l1.length : Int) - 1)).toNat ((l1.getD (IntKind.i64.wrap ((l1.length : Int) - 1)).toNat dCell).1, s, (l1.getD (IntKind.i64.wrap ((l1.length : Int) - 1)).toNat dCell).2.2))
                      else
                        none
                    else
                      if (l1.length + 1) * 48 ≤ 140737488355328 ∧ 0 < 48 then
                        ref36_row_l4 state (IntKind.i64.wrap (s + 1)) h0 (l1 ++ [(s, s, y2.1.1, y2.1.2.1)])
                      else
                        none
                else
                  none
              else
                if (l1.length + 1) * 48 ≤ 140737488355328 ∧ 0 < 48 then
                  ref36_row_l4 state (IntKind.i64.wrap (s + 1)) h0 (l1 ++ [(s, s, y2.1.1, y2.1.2.1)])
                else
                  none
            else
              none
          else
            if (l1.length + 1) * 48 ≤ 140737488355328 ∧ 0 < 48 then
              ref36_row_l4 state (IntKind.i64.wrap (s + 1)) h0 (l1 ++ [(s, s, y2.1.1, y2.1.2.1)])
            else
              none
    else
      some ((l1, 0, ()), ()) := (FD.lab_eq _ _ _ _).trans (by kernel_rfl)
def ref36_row (d : TDecl) (state : Int) : (Option (((List TCell) × Int × Unit) × Unit)) :=
  ref36_row_l4 state 0 d []
def fc68 : FC := ⟨⟨[.row (.cons .str (.cons (.int .i64) (.cons (.int .i64) (.sl (.cons .str (.cons (.sl (.cons (.int .i64) (.cons (.int .i64) (.cons .str (.cons .bool (.sl (.cons (.int .i64) (.int .i64)))))))) (.cons .bool (.cons (.int .i64) (.cons (.int .i64) (.cons .str (.cons .bool (.sl (.cons (.int .i64) (.int .i64)))))))))))))), .one (.int .i64)], []⟩, ⟨[.one (.sl (.cons (.int .i64) (.cons (.int .i64) (.cons (.int .i64) (.sl (.cons (.int .i64) (.int .i64))))))), .one (.int .i64)], []⟩, fun x => ref36_row x.1.1 x.1.2.1⟩
theorem con68 : Contract Try.prog 68 fc68 :=
  ref36_row_D.contract tok (cok_of (l := [(74, fc74), (87, fc87), (88, fc88)]) ⟨con74, con87, con88, trivial⟩) mixed (fn' := Try.f68) (by kernel_rfl) (by kernel_rfl) rfl (by kernel_rfl) (fun x => (FD.fn_eq _ _).trans (by kernel_rfl))
end
end Go.Proofs.Ytgjimkgehbppbaa
end

section
/-
Ytgjimkgehbppbaa: signalbench.signalbenchref36.Compile, as one plain function, its equations, its contract. No condition.
-/
set_option maxRecDepth 100000
set_option linter.unusedVariables false
set_option maxHeartbeats 4000000
open Go Go.AM
namespace Go.Proofs.Ytgjimkgehbppbaa
noncomputable section
def ref36_Compile_F8 : FSh := ⟨[(1, .one (.ptr 0 0)), (2, .one (.ptr 1 0)), (5, .one (.ptr 2 0)), (6, .one (.int .i64))], [.boxr (.cons .str (.cons (.int .i64) (.cons (.int .i64) (.sl (.cons .str (.cons (.sl (.cons (.int .i64) (.cons (.int .i64) (.cons .str (.cons .bool (.sl (.cons (.int .i64) (.int .i64)))))))) (.cons .bool (.cons (.int .i64) (.cons (.int .i64) (.cons .str (.cons .bool (.sl (.cons (.int .i64) (.int .i64)))))))))))))), .box [.str, (.int .i64), (.int .i64), (.own 3)], .box [.str, (.int .i64), (.int .i64), (.own 4)], .arr 50 (.sl (.cons (.int .i64) (.cons (.int .i64) (.cons (.int .i64) (.sl (.cons (.int .i64) (.int .i64))))))) true, .arr 50 (.sl (.cons (.int .i64) (.cons (.int .i64) (.cons (.int .i64) (.sl (.cons (.int .i64) (.int .i64))))))) true]⟩
def ref36_Compile_D : FD := ⟨T, lookC [(26, fc26), (68, fc68)], [], (Try.f32.body.getD .skip), Try.f32.results.toList, ⟨[.row (.cons .str (.cons (.int .i64) (.cons (.int .i64) (.sl (.cons .str (.cons (.sl (.cons (.int .i64) (.cons (.int .i64) (.cons .str (.cons .bool (.sl (.cons (.int .i64) (.int .i64)))))))) (.cons .bool (.cons (.int .i64) (.cons (.int .i64) (.cons .str (.cons .bool (.sl (.cons (.int .i64) (.int .i64))))))))))))))], []⟩, ⟨[.row (.cons .str (.cons (.int .i64) (.cons (.int .i64) (.sl (.sl (.cons (.int .i64) (.cons (.int .i64) (.cons (.int .i64) (.sl (.cons (.int .i64) (.int .i64))))))))))), .one (.int .i64)], []⟩, [(8, ref36_Compile_F8)]⟩
def ref36_Compile_l8 (i : Int) (h0 : TDecl) (h1_0 : ByteArray) (h1_1 : Int) (h1_2 : Int) (h2_0 : ByteArray) (h2_1 : Int) (h2_2 : Int) (l3 : (List (List TCell))) (l4 : (List (List TCell))) : (Option ((TTable × Int × Unit) × Unit)) := ref36_Compile_D.lab 8 ref36_Compile_F8 (((), (), (), i, ()), (h0, (h1_0, h1_1, h1_2, (), ()), (h2_0, h2_1, h2_2, (), ()), l3, l4, ()))
theorem ref36_Compile_l8_eq (i : Int) (h0 : TDecl) (h1_0 : ByteArray) (h1_1 : Int) (h1_2 : Int) (h2_0 : ByteArray) (h2_1 : Int) (h2_2 : Int) (l3 : (List (List TCell))) (l4 : (List (List TCell))) : ref36_Compile_l8 i h0 h1_0 h1_1 h1_2 h2_0 h2_1 h2_2 l3 l4 =
  if (decide (i < (h0.2.2.2.length : Int))) = true then
    (ref36_row h0 i).bind fun y1 =>
      if (y1.1.2.1 != 0) = true then
        some ((((strB []), 0, 0, []), y1.1.2.1, ()), ())
      else
        if (l4.length + 1) * 24 ≤ 140737488355328 ∧ 0 < 24 then
          ref36_Compile_l8 (IntKind.i64.wrap (i + 1)) h0 h1_0 h1_1 h1_2 h2_0 h2_1 h2_2 l3 (l4 ++ [y1.1.1])
        else
          none
  else
    some (((h2_0, h2_1, h2_2, l4), 0, ()), ()) := (FD.lab_eq _ _ _ _).trans (by kernel_rfl)
def ref36_Compile (d : TDecl) : (Option ((TTable × Int × Unit) × Unit)) :=
  (ref35_Check d).bind fun y1 =>
    if (y1.1.1 != 0) = true then
      some ((((strB []), 0, 0, []), y1.1.1, ()), ())
    else
      ref36_Compile_l8 0 d (strB []) 0 0 d.1 d.2.1 d.2.2.1 [] []
def fc32 : FC := ⟨⟨[.row (.cons .str (.cons (.int .i64) (.cons (.int .i64) (.sl (.cons .str (.cons (.sl (.cons (.int .i64) (.cons (.int .i64) (.cons .str (.cons .bool (.sl (.cons (.int .i64) (.int .i64)))))))) (.cons .bool (.cons (.int .i64) (.cons (.int .i64) (.cons .str (.cons .bool (.sl (.cons (.int .i64) (.int .i64))))))))))))))], []⟩, ⟨[.row (.cons .str (.cons (.int .i64) (.cons (.int .i64) (.sl (.sl (.cons (.int .i64) (.cons (.int .i64) (.cons (.int .i64) (.sl (.cons (.int .i64) (.int .i64))))))))))), .one (.int .i64)], []⟩, fun x => ref36_Compile x.1.1⟩
theorem con32 : Contract Try.prog 32 fc32 :=
  ref36_Compile_D.contract tok (cok_of (l := [(26, fc26), (68, fc68)]) ⟨con26, con68, trivial⟩) mixed (fn' := Try.f32) (by kernel_rfl) (by kernel_rfl) rfl (by kernel_rfl) (fun x => (FD.fn_eq _ _).trans (by kernel_rfl))
end
end Go.Proofs.Ytgjimkgehbppbaa
end

section
/-
Ytgjimkgehbppbaa: compiled tables. No condition.
-/
set_option maxRecDepth 100000
open Go Go.AM
namespace Go.Proofs.Ytgjimkgehbppbaa

/-- What is last in the row is what was added last. -/
def LastIs (out : List TCell) (a : Int) (l : List TAct) : Prop := ∀ c, out.getLast? = some c → c.2.2 = (a, l)

theorem addC_none {out : List TCell} (h : out.getLast? = none) (x : Nat) (r : Tresult) : addC out x r = out ++ [((x : Int), (x : Int), r)] := by
  unfold addC; rw [h]
theorem addC_same {out : List TCell} {c : TCell} (h : out.getLast? = some c) (x : Nat) (r : Tresult) (e : c.2.2 = r) : addC out x r = out.dropLast ++ [(c.1, (x : Int), r)] := by
  unfold addC; rw [h]; exact if_pos e
theorem addC_new {out : List TCell} {c : TCell} (h : out.getLast? = some c) (x : Nat) (r : Tresult) (e : ¬ c.2.2 = r) : addC out x r = out ++ [((x : Int), (x : Int), r)] := by
  unfold addC; rw [h]; exact if_neg e
theorem addC_last (out : List TCell) (x : Nat) (r : Tresult) : ∃ c, (addC out x r).getLast? = some c ∧ c.2.2 = r := by
  cases h : out.getLast? with
  | none => exact ⟨((x : Int), (x : Int), r), by rw [addC_none h]; simp, rfl⟩
  | some c =>
    by_cases e : c.2.2 = r
    · exact ⟨(c.1, (x : Int), r), by rw [addC_same h x r e]; simp, rfl⟩
    · exact ⟨((x : Int), (x : Int), r), by rw [addC_new h x r e]; simp, rfl⟩
theorem addC_len (out : List TCell) (x : Nat) (r : Tresult) : (addC out x r).length ≤ out.length + 1 := by
  cases h : out.getLast? with
  | none => rw [addC_none h]; simp
  | some c =>
    by_cases e : c.2.2 = r
    · rw [addC_same h x r e]; simp
    · rw [addC_new h x r e]; simp

theorem lastIs_add (out : List TCell) (x : Nat) (r : Tresult) : LastIs (addC out x r) r.1 r.2 := by
  obtain ⟨c, h1, h2⟩ := addC_last out x r
  intro c' hc'
  rw [h1] at hc'
  cases hc'
  exact h2

theorem add_eq (out : List TCell) (x : Nat) (r : Tresult) (a : Int) (l : List TAct) (hv : LastIs out a l) (hlen : out.length ≤ 1048576) (hl : l.length ≤ 1048576) :
    decltab_result_add x r (0, 0, r) a l out = some ((), (((), r.1, r.2, (), ()), (), addC out x r, ())) := by
  unfold decltab_result_add
  cases h : out.getLast? with
  | none =>
    have e : out = [] := by simpa using h
    subst e
    rw [if_neg (dF (by simp)), if_pos ⟨by simp, by omega⟩, addC_none h]
  | some c =>
    obtain ⟨_, h2, h3⟩ := last_set (v := c) h
    have hc := hv c h
    have hw : IntKind.i64.wrap ((out.length : Int) - 1) = ((out.length - 1 : Nat) : Int) := by rw [w64 (by omega) (by omega)]; omega
    rw [if_pos (dT (by omega)), tsame_eq (a, l) r (by simp only; omega)]
    simp only [Option.bind_some]
    by_cases e : (a, l) = r
    · rw [if_pos (dT e), hw, if_pos ⟨by omega, by omega⟩, Int.toNat_natCast]
      have hg : out.getD (out.length - 1) dCell = c := by simp [List.getD, h2]
      rw [hg, (last_set (v := (c.1, (x : Int), c.2.2)) h).1, addC_same h x r (by rw [hc]; exact e), hc, e]
      subst e
      rfl
    · rw [if_neg (dF e), if_pos ⟨by omega, by omega⟩, addC_new h x r (by rw [hc]; exact e)]

theorem ttop_d (d : TDecl) : decltab_top d.2.1 = some (((topV d : Int), ()), ()) := ttop_eq d.2.1
theorem rttop_d (d : TDecl) : ref36_top d.2.1 = some (((topV d : Int), ()), ()) := rttop_eq d.2.1

theorem crow_loop (d : TDecl) (h : okDecl d) (i : Nat) (hi : i < d.2.2.2.length) (n1 : ByteArray) (n2 n3 : Int) (m1 : ByteArray) (m2 m3 : Int) (l4 l5 : List (List TCell)) (hl5 : l5.length ≤ 1048576) :
    ∀ (c x : Nat) (a : Int) (l : List TAct) (out : List TCell), c = topV d + 1 - x → x ≤ topV d + 1 → LastIs out a l → out.length ≤ x → l.length ≤ 64 →
    decltab_Compile_l16 i x (d.2.2.2.length : Int) i d n1 n2 n3 m1 m2 m3 a l l4 l5 out = match rowF (resF d.2.2.2 i) c x out with
      | none => some (((strB [], 0, 0, []), 6, ()), ())
      | some cs => decltab_Compile_l8 (d.2.2.2.length : Int) ((i + 1 : Nat) : Int) d n1 n2 n3 m1 m2 m3 l4 (l5 ++ [cs]) := by
  have hd := h.1
  have htop := topV_le d
  intro c
  induction c with
  | zero =>
    intro x a l out hc hx hv ho hl
    rw [decltab_Compile_l16_eq, ttop_d]
    simp only [Option.bind_some]
    rw [if_neg (dF (by omega)), if_pos ⟨by omega, by omega⟩, w64a i (by omega)]
    rfl
  | succ c ih =>
    intro x a l out hc hx hv ho hl
    have hlen := addC_len out x (resF d.2.2.2 i x)
    rw [decltab_Compile_l16_eq, ttop_d]
    simp only [Option.bind_some]
    rw [if_pos (dT (by omega)), follow_eq d h i x]
    simp only [Option.bind_some]
    by_cases hb : 64 < (resF d.2.2.2 i x).2.length
    · have e : rowF (resF d.2.2.2 i) (c + 1) x out = none := if_pos hb
      rw [e, decide_eq_false (by omega)]
      rfl
    · have e : rowF (resF d.2.2.2 i) (c + 1) x out = rowF (resF d.2.2.2 i) c (x + 1) (addC out x (resF d.2.2.2 i x)) := if_neg hb
      rw [e, decide_eq_true (by omega)]
      refine (if_neg (by simp)).trans ?_
      rw [add_eq out x _ a l hv (by omega) (by omega)]
      simp only [Option.bind_some]
      rw [w64a x (by omega)]
      exact ih (x + 1) _ _ _ (by omega) (by omega) (lastIs_add _ _ _) (by omega) (by omega)

theorem ctab_loop (d : TDecl) (h : okDecl d) (n1 : ByteArray) (n2 n3 : Int) (m1 : ByteArray) (m2 m3 : Int) (l4 : List (List TCell)) : ∀ (c i : Nat) (l5 : List (List TCell)), c = d.2.2.2.length - i → i ≤ d.2.2.2.length → l5.length = i →
    decltab_Compile_l8 (d.2.2.2.length : Int) i d n1 n2 n3 m1 m2 m3 l4 l5 = match rowsF d.2.2.2 (topV d) c i l5 with
      | none => some (((strB [], 0, 0, []), 6, ()), ())
      | some rows => some (((m1, m2, m3, rows), 0, ()), ()) := by
  have hd := h.1
  intro c
  induction c with
  | zero =>
    intro i l5 hc hi hl
    rw [decltab_Compile_l8_eq, if_neg (dF (by omega))]
    rfl
  | succ c ih =>
    intro i l5 hc hi hl
    have hloop : decltab_Compile_l16 i 0 (d.2.2.2.length : Int) i d n1 n2 n3 m1 m2 m3 0 [] l4 l5 [] = _ := crow_loop d h i (by omega) n1 n2 n3 m1 m2 m3 l4 l5 (by omega) (topV d + 1) 0 0 [] [] (by omega) (by omega) (fun c hc => by simp at hc) (by simp) (by simp)
    rw [decltab_Compile_l8_eq, if_pos (dT (by omega)), hloop]
    unfold rowsF
    cases rowF (resF d.2.2.2 i) (topV d + 1) 0 [] with
    | none => rfl
    | some cs => exact ih (i + 1) (l5 ++ [cs]) (by omega) (by omega) (by simp [hl])

theorem compile_eq (d : TDecl) (h : okDecl d) : decltab_Compile d = some (((compileV d).1, (compileV d).2, ()), ()) := by
  unfold decltab_Compile compileV
  rw [ccheck_eq d h]
  simp only [Option.bind_some]
  by_cases h0 : ccheckV d = 0
  · rw [if_neg (nF h0), if_pos h0]
    refine (ctab_loop d h _ 0 0 _ _ _ [] _ 0 [] rfl (Nat.zero_le _) rfl).trans ?_
    rw [Nat.sub_zero]
    cases rowsF d.2.2.2 (topV d) d.2.2.2.length 0 [] <;> rfl
  · rw [if_pos (nT h0), if_neg h0]

/-! ### the specification -/
theorem rrow_loop' (d : TDecl) (h : okDecl d) (g : GoodD d) (i : Nat) (hi : i < d.2.2.2.length) :
    ∀ (c x : Nat) (out : List TCell), c = topV d + 1 - x → x ≤ topV d + 1 → (∀ c, out.getLast? = some c → c.2.2.2.length ≤ 64) → out.length ≤ x →
    ref36_row_l4 i x d out = match rowF (resF d.2.2.2 i) c x out with
      | none => some (([], 6, ()), ())
      | some cs => some ((cs, 0, ()), ()) := by
  have hd := h.1
  have htop := topV_le d
  intro c
  induction c with
  | zero =>
    intro x out hc hx hv ho
    rw [ref36_row_l4_eq, rttop_d]
    simp only [Option.bind_some]
    rw [if_neg (dF (by omega))]
    rfl
  | succ c ih =>
    intro x out hc hx hv ho
    have hlen := addC_len out x (resF d.2.2.2 i x)
    rw [ref36_row_l4_eq, rttop_d]
    simp only [Option.bind_some]
    rw [if_pos (dT (by omega)), rfollow_eq d h g i x hi (by omega)]
    simp only [Option.bind_some]
    by_cases hb : 64 < (resF d.2.2.2 i x).2.length
    · have e : rowF (resF d.2.2.2 i) (c + 1) x out = none := if_pos hb
      rw [e, if_pos (dT (by omega))]
    · have e : rowF (resF d.2.2.2 i) (c + 1) x out = rowF (resF d.2.2.2 i) c (x + 1) (addC out x (resF d.2.2.2 i x)) := if_neg hb
      have ih' := ih (x + 1) (addC out x (resF d.2.2.2 i x)) (by omega) (by omega) (fun c hc => by rw [show c.2.2 = _ from lastIs_add _ _ _ c hc]; show (resF d.2.2.2 i x).2.length ≤ 64; omega) (by omega)
      rw [e, if_neg (dF (by omega)), w64a x (by omega), ← ih']
      cases hlast : out.getLast? with
      | none =>
        have e0 : out = [] := by simpa using hlast
        subst e0
        rw [if_neg (dF (by simp only [List.length_nil]; rw [w64 (by omega) (by omega)]; omega)), if_pos ⟨by simp, by omega⟩, addC_none hlast]
      | some cl =>
        obtain ⟨_, h2, h3⟩ := last_set (v := cl) hlast
        have hw : IntKind.i64.wrap ((out.length : Int) - 1) = ((out.length - 1 : Nat) : Int) := by rw [w64 (by omega) (by omega)]; omega
        have hg : out.getD (out.length - 1) dCell = cl := by simp [List.getD, h2]
        have hin : (0 : Int) ≤ ((out.length - 1 : Nat) : Int) ∧ ((out.length - 1 : Nat) : Int) < (out.length : Int) := ⟨by omega, by omega⟩
        rw [hw, if_pos (dT (by omega)), if_pos hin, Int.toNat_natCast, hg]
        by_cases e1 : cl.2.2.1 = (resF d.2.2.2 i x).1
        · rw [if_pos (eT e1), if_pos hin, rsame_eq _ _ (by have := hv cl hlast; omega)]
          simp only [Option.bind_some]
          by_cases e2 : cl.2.2.2 = (resF d.2.2.2 i x).2
          · have e3 : cl.2.2 = resF d.2.2.2 i x := Prod.ext e1 e2
            rw [if_pos (dT e2), if_pos hin, (last_set (v := (cl.1, (x : Int), cl.2.2)) hlast).1, addC_same hlast x _ e3, e3]
          · rw [if_neg (dF e2), if_pos ⟨by omega, by omega⟩, addC_new hlast x _ (fun q => e2 (by rw [q]))]
        · rw [if_neg (eF e1), if_pos ⟨by omega, by omega⟩, addC_new hlast x _ (fun q => e1 (by rw [q]))]

theorem rtab_loop (d : TDecl) (h : okDecl d) (g : GoodD d) (n1 : ByteArray) (n2 n3 : Int) (m1 : ByteArray) (m2 m3 : Int) (l4 : List (List TCell)) : ∀ (c i : Nat) (l5 : List (List TCell)), c = d.2.2.2.length - i → i ≤ d.2.2.2.length → l5.length = i →
    ref36_Compile_l8 i d n1 n2 n3 m1 m2 m3 l4 l5 = match rowsF d.2.2.2 (topV d) c i l5 with
      | none => some (((strB [], 0, 0, []), 6, ()), ())
      | some rows => some (((m1, m2, m3, rows), 0, ()), ()) := by
  have hd := h.1
  intro c
  induction c with
  | zero =>
    intro i l5 hc hi hl
    rw [ref36_Compile_l8_eq, if_neg (dF (by omega))]
    rfl
  | succ c ih =>
    intro i l5 hc hi hl
    have hrow : ref36_row d i = _ := rrow_loop' d h g i (by omega) (topV d + 1) 0 [] (by omega) (by omega) (fun c hc => by simp at hc) (by simp)
    rw [ref36_Compile_l8_eq, if_pos (dT (by omega)), hrow]
    unfold rowsF
    cases rowF (resF d.2.2.2 i) (topV d + 1) 0 [] with
    | none => rfl
    | some cs =>
      simp only [Option.bind_some]
      refine (if_neg (by simp)).trans ?_
      rw [if_pos ⟨by omega, by omega⟩, w64a i (by omega)]
      exact ih (i + 1) (l5 ++ [cs]) (by omega) (by omega) (by simp [hl])

theorem rcompile_eq (d : TDecl) (h : okDecl d) : ref36_Compile d = some (((compileV d).1, (compileV d).2, ()), ()) := by
  unfold ref36_Compile compileV
  rw [rccheck_eq d h]
  simp only [Option.bind_some]
  by_cases h0 : ccheckV d = 0
  · rw [if_neg (nF h0), if_pos h0]
    refine (rtab_loop d h (ccheck_zero.1 h0) _ 0 0 _ _ _ [] _ 0 [] rfl (Nat.zero_le _) rfl).trans ?_
    rw [Nat.sub_zero]
    cases rowsF d.2.2.2 (topV d) d.2.2.2.length 0 [] <;> rfl
  · rw [if_pos (nT h0), if_neg h0]

end Go.Proofs.Ytgjimkgehbppbaa
end

section
/-
Ytgjimkgehbppbaa: signalbench.signalbenchlaw36.lives, as one plain function, its equations, its contract. No condition.
-/
set_option maxRecDepth 100000
set_option linter.unusedVariables false
set_option maxHeartbeats 4000000
open Go Go.AM
namespace Go.Proofs.Ytgjimkgehbppbaa
noncomputable section
def law36_lives_D : FD := ⟨T, lookC [(31, fc31), (34, fc34), (36, fc36), (38, fc38)], [], (Try.f29.body.getD .skip), Try.f29.results.toList, ⟨[], []⟩, ⟨[.one .bool], []⟩, []⟩
def law36_lives : (Option ((Bool × Unit) × Unit)) :=
  (decltab_Compile ((strB [100]), 3, 5, [((strB [97]), [(0, 9, (strB [97]), false, [(2, 0)])], true, 0, 0, (strB [97]), false, [(5, 1)])])).bind fun y1 =>
    if (y1.1.2.1 != 0) = true then
      some ((false, ()), ())
    else
      if ((y1.1.1.2.2.2.length : Int) != 1) = true then
        some ((false, ()), ())
      else
        if 0 ≤ (0 : Int) ∧ 0 < (y1.1.1.2.2.2.length : Int) then
          if (((y1.1.1.2.2.2.getD 0 []).length : Int) != 2) = true then
            some ((false, ()), ())
          else
            if 0 ≤ (0 : Int) ∧ 0 < (y1.1.1.2.2.2.length : Int) then
              if 0 ≤ (1 : Int) ∧ 1 < ((y1.1.1.2.2.2.getD 0 []).length : Int) then
                if (((y1.1.1.2.2.2.getD 0 []).getD 1 dCell).1 != 10) = true then
                  some ((false, ()), ())
                else
                  (decltab_Check y1.1.1).bind fun y2 =>
                    if (y2.1.1 != 0) = true then
                      some ((false, ()), ())
                    else
                      (decltab_Next y1.1.1 0 5).bind fun y3 =>
                        if (y3.1.1 == 0) = true then
                          if y3.1.2.2.1 = true then
                            if ((y3.1.2.1.length : Int) == 1) = true then
                              if 0 ≤ (0 : Int) ∧ 0 < (y3.1.2.1.length : Int) then
                                if ((y3.1.2.1.getD 0 dAct).1 == 2) = true then
                                  (decltab_Size y1.1.1).bind fun y4 =>
                                    some ((y4.1.1 == 2, ()), ())
                                else
                                  some ((false, ()), ())
                              else
                                none
                            else
                              some ((false, ()), ())
                          else
                            some ((false, ()), ())
                        else
                          some ((false, ()), ())
              else
                none
            else
              none
        else
          none
def fc29 : FC := ⟨⟨[], []⟩, ⟨[.one .bool], []⟩, fun x => law36_lives⟩
theorem con29 : Contract Try.prog 29 fc29 :=
  law36_lives_D.contract tok (cok_of (l := [(31, fc31), (34, fc34), (36, fc36), (38, fc38)]) ⟨con31, con34, con36, con38, trivial⟩) mixed (fn' := Try.f29) (by kernel_rfl) (by kernel_rfl) rfl (by kernel_rfl) (fun x => (FD.fn_eq _ _).trans (by kernel_rfl))
end
end Go.Proofs.Ytgjimkgehbppbaa
end

section
/-
Ytgjimkgehbppbaa: signalbench.signalbenchlaw36.small, as one plain function, its equations, its contract. No condition.
-/
set_option maxRecDepth 100000
set_option linter.unusedVariables false
set_option maxHeartbeats 4000000
open Go Go.AM
namespace Go.Proofs.Ytgjimkgehbppbaa
noncomputable section
def law36_small_F6 : FSh := ⟨[(1, .one (.ptr 0 0)), (3, .one (.int .i64))], [.boxr (.cons .str (.cons (.int .i64) (.cons (.int .i64) (.sl (.cons .str (.cons (.sl (.cons (.int .i64) (.cons (.int .i64) (.cons .str (.cons .bool (.sl (.cons (.int .i64) (.int .i64)))))))) (.cons .bool (.cons (.int .i64) (.cons (.int .i64) (.cons .str (.cons .bool (.sl (.cons (.int .i64) (.int .i64))))))))))))))]⟩
def law36_small_F14 : FSh := ⟨[(1, .one (.ptr 0 0)), (3, .one (.int .i64)), (4, .one (.int .i64))], [.boxr (.cons .str (.cons (.int .i64) (.cons (.int .i64) (.sl (.cons .str (.cons (.sl (.cons (.int .i64) (.cons (.int .i64) (.cons .str (.cons .bool (.sl (.cons (.int .i64) (.int .i64)))))))) (.cons .bool (.cons (.int .i64) (.cons (.int .i64) (.cons .str (.cons .bool (.sl (.cons (.int .i64) (.int .i64))))))))))))))]⟩
def law36_small_D : FD := ⟨T, lookC [], [], (Try.f30.body.getD .skip), Try.f30.results.toList, ⟨[.row (.cons .str (.cons (.int .i64) (.cons (.int .i64) (.sl (.cons .str (.cons (.sl (.cons (.int .i64) (.cons (.int .i64) (.cons .str (.cons .bool (.sl (.cons (.int .i64) (.int .i64)))))))) (.cons .bool (.cons (.int .i64) (.cons (.int .i64) (.cons .str (.cons .bool (.sl (.cons (.int .i64) (.int .i64))))))))))))))], []⟩, ⟨[.one .bool], []⟩, [(6, law36_small_F6), (14, law36_small_F14)]⟩
def law36_small_l6 (i : Int) (h0 : TDecl) : (Option ((Bool × Unit) × Unit)) := law36_small_D.lab 6 law36_small_F6 (((), i, ()), (h0, ()))
def law36_small_l14 (i : Int) (k0 : Int) (h0 : TDecl) : (Option ((Bool × Unit) × Unit)) := law36_small_D.lab 14 law36_small_F14 (((), i, k0, ()), (h0, ()))
theorem law36_small_l6_eq (i : Int) (h0 : TDecl) : law36_small_l6 i h0 =
  if (decide (i < (h0.2.2.2.length : Int))) = true then
    if 0 ≤ i ∧ i < (h0.2.2.2.length : Int) then
      if (decide (((h0.2.2.2.getD i.toNat dDeclState).2.1.length : Int) > 80)) = true then
        some ((false, ()), ())
      else
        if 0 ≤ i ∧ i < (h0.2.2.2.length : Int) then
          if (decide (((h0.2.2.2.getD i.toNat dDeclState).2.2.2.2.2.2.2.length : Int) > 20)) = true then
            some ((false, ()), ())
          else
            law36_small_l14 i 0 h0
        else
          none
    else
      none
  else
    some ((true, ()), ()) := (FD.lab_eq _ _ _ _).trans (by kernel_rfl)
theorem law36_small_l14_eq (i : Int) (k0 : Int) (h0 : TDecl) : law36_small_l14 i k0 h0 =
  if 0 ≤ i ∧ i < (h0.2.2.2.length : Int) then
    if (decide (k0 < ((h0.2.2.2.getD i.toNat dDeclState).2.1.length : Int))) = true then
      if 0 ≤ i ∧ i < (h0.2.2.2.length : Int) then
        if 0 ≤ k0 ∧ k0 < ((h0.2.2.2.getD i.toNat dDeclState).2.1.length : Int) then
          if (decide ((((h0.2.2.2.getD i.toNat dDeclState).2.1.getD k0.toNat dRule).2.2.2.2.length : Int) > 20)) = true then
            some ((false, ()), ())
          else
            law36_small_l14 i (IntKind.i64.wrap (k0 + 1)) h0
        else
          none
      else
        none
    else
      law36_small_l6 (IntKind.i64.wrap (i + 1)) h0
  else
    none := (FD.lab_eq _ _ _ _).trans (by kernel_rfl)
def law36_small (d : TDecl) : (Option ((Bool × Unit) × Unit)) :=
  if (decide ((d.2.2.2.length : Int) > 40)) = true then
    some ((false, ()), ())
  else
    law36_small_l6 0 d
def fc30 : FC := ⟨⟨[.row (.cons .str (.cons (.int .i64) (.cons (.int .i64) (.sl (.cons .str (.cons (.sl (.cons (.int .i64) (.cons (.int .i64) (.cons .str (.cons .bool (.sl (.cons (.int .i64) (.int .i64)))))))) (.cons .bool (.cons (.int .i64) (.cons (.int .i64) (.cons .str (.cons .bool (.sl (.cons (.int .i64) (.int .i64))))))))))))))], []⟩, ⟨[.one .bool], []⟩, fun x => law36_small x.1.1⟩
theorem con30 : Contract Try.prog 30 fc30 :=
  law36_small_D.contract tok (cok_of (l := []) trivial) mixed (fn' := Try.f30) (by kernel_rfl) (by kernel_rfl) rfl (by kernel_rfl) (fun x => (FD.fn_eq _ _).trans (by kernel_rfl))
end
end Go.Proofs.Ytgjimkgehbppbaa
end

section
/-
Ytgjimkgehbppbaa: signalbench.signalbenchlaw36.sameRow, as one plain function, its equations, its contract. No condition.
-/
set_option maxRecDepth 100000
set_option linter.unusedVariables false
set_option maxHeartbeats 4000000
open Go Go.AM
namespace Go.Proofs.Ytgjimkgehbppbaa
noncomputable section
def law36_sameRow_F6 : FSh := ⟨[(0, .one (.sl (.cons (.int .i64) (.cons (.int .i64) (.cons (.int .i64) (.sl (.cons (.int .i64) (.int .i64)))))))), (1, .one (.sl (.cons (.int .i64) (.cons (.int .i64) (.cons (.int .i64) (.sl (.cons (.int .i64) (.int .i64)))))))), (5, .one (.int .i64))], []⟩
def law36_sameRow_D : FD := ⟨T, lookC [(40, fc40)], [], (Try.f69.body.getD .skip), Try.f69.results.toList, ⟨[.one (.sl (.cons (.int .i64) (.cons (.int .i64) (.cons (.int .i64) (.sl (.cons (.int .i64) (.int .i64))))))), .one (.sl (.cons (.int .i64) (.cons (.int .i64) (.cons (.int .i64) (.sl (.cons (.int .i64) (.int .i64)))))))], []⟩, ⟨[.one .bool], []⟩, [(6, law36_sameRow_F6)]⟩
def law36_sameRow_l6 (a : (List TCell)) (b : (List TCell)) (i : Int) : (Option ((Bool × Unit) × Unit)) := law36_sameRow_D.lab 6 law36_sameRow_F6 ((a, b, i, ()), ())
theorem law36_sameRow_l6_eq (a : (List TCell)) (b : (List TCell)) (i : Int) : law36_sameRow_l6 a b i =
  if (decide (i < (a.length : Int))) = true then
    if 0 ≤ i ∧ i < (a.length : Int) then
      if 0 ≤ i ∧ i < (b.length : Int) then
        if ((a.getD i.toNat dCell).1 != (b.getD i.toNat dCell).1) = true then
          some ((false, ()), ())
        else
          if 0 ≤ i ∧ i < (a.length : Int) then
            if 0 ≤ i ∧ i < (b.length : Int) then
              if ((a.getD i.toNat dCell).2.1 != (b.getD i.toNat dCell).2.1) = true then
                some ((false, ()), ())
              else
                if 0 ≤ i ∧ i < (a.length : Int) then
                  if 0 ≤ i ∧ i < (b.length : Int) then
                    if ((a.getD i.toNat dCell).2.2.1 != (b.getD i.toNat dCell).2.2.1) = true then
                      some ((false, ()), ())
                    else
                      if 0 ≤ i ∧ i < (a.length : Int) then
                        if 0 ≤ i ∧ i < (b.length : Int) then
                          (law36_sameActs (a.getD i.toNat dCell).2.2.2 (b.getD i.toNat dCell).2.2.2).bind fun y1 =>
                            if (!y1.1.1) = true then
                              some ((false, ()), ())
                            else
                              law36_sameRow_l6 a b (IntKind.i64.wrap (i + 1))
                        else
                          none
                      else
                        none
                  else
                    none
                else
                  none
            else
              none
          else
            none
      else
        none
    else
      none
  else
    some ((true, ()), ()) := (FD.lab_eq _ _ _ _).trans (by kernel_rfl)
def law36_sameRow (a : (List TCell)) (b : (List TCell)) : (Option ((Bool × Unit) × Unit)) :=
  if ((a.length : Int) != (b.length : Int)) = true then
    some ((false, ()), ())
  else
    law36_sameRow_l6 a b 0
def fc69 : FC := ⟨⟨[.one (.sl (.cons (.int .i64) (.cons (.int .i64) (.cons (.int .i64) (.sl (.cons (.int .i64) (.int .i64))))))), .one (.sl (.cons (.int .i64) (.cons (.int .i64) (.cons (.int .i64) (.sl (.cons (.int .i64) (.int .i64)))))))], []⟩, ⟨[.one .bool], []⟩, fun x => law36_sameRow x.1.1 x.1.2.1⟩
theorem con69 : Contract Try.prog 69 fc69 :=
  law36_sameRow_D.contract tok (cok_of (l := [(40, fc40)]) ⟨con40, trivial⟩) mixed (fn' := Try.f69) (by kernel_rfl) (by kernel_rfl) rfl (by kernel_rfl) (fun x => (FD.fn_eq _ _).trans (by kernel_rfl))
end
end Go.Proofs.Ytgjimkgehbppbaa
end

section
/-
Ytgjimkgehbppbaa: signalbench.signalbenchlaw36.same, as one plain function, its equations, its contract. No condition.
-/
set_option maxRecDepth 100000
set_option linter.unusedVariables false
set_option maxHeartbeats 4000000
open Go Go.AM
namespace Go.Proofs.Ytgjimkgehbppbaa
noncomputable section
def law36_same_F6 : FSh := ⟨[(2, .one (.ptr 0 0)), (3, .one (.ptr 1 0)), (5, .one (.int .i64))], [.boxr (.cons .str (.cons (.int .i64) (.cons (.int .i64) (.sl (.sl (.cons (.int .i64) (.cons (.int .i64) (.cons (.int .i64) (.sl (.cons (.int .i64) (.int .i64))))))))))), .boxr (.cons .str (.cons (.int .i64) (.cons (.int .i64) (.sl (.sl (.cons (.int .i64) (.cons (.int .i64) (.cons (.int .i64) (.sl (.cons (.int .i64) (.int .i64)))))))))))]⟩
def law36_same_D : FD := ⟨T, lookC [(69, fc69)], [], (Try.f33.body.getD .skip), Try.f33.results.toList, ⟨[.row (.cons .str (.cons (.int .i64) (.cons (.int .i64) (.sl (.sl (.cons (.int .i64) (.cons (.int .i64) (.cons (.int .i64) (.sl (.cons (.int .i64) (.int .i64))))))))))), .row (.cons .str (.cons (.int .i64) (.cons (.int .i64) (.sl (.sl (.cons (.int .i64) (.cons (.int .i64) (.cons (.int .i64) (.sl (.cons (.int .i64) (.int .i64)))))))))))], []⟩, ⟨[.one .bool], []⟩, [(6, law36_same_F6)]⟩
def law36_same_l6 (i : Int) (h0 : TTable) (h1 : TTable) : (Option ((Bool × Unit) × Unit)) := law36_same_D.lab 6 law36_same_F6 (((), (), i, ()), (h0, h1, ()))
theorem law36_same_l6_eq (i : Int) (h0 : TTable) (h1 : TTable) : law36_same_l6 i h0 h1 =
  if (decide (i < (h0.2.2.2.length : Int))) = true then
    if 0 ≤ i ∧ i < (h0.2.2.2.length : Int) then
      if 0 ≤ i ∧ i < (h1.2.2.2.length : Int) then
        (law36_sameRow (h0.2.2.2.getD i.toNat []) (h1.2.2.2.getD i.toNat [])).bind fun y1 =>
          if (!y1.1.1) = true then
            some ((false, ()), ())
          else
            law36_same_l6 (IntKind.i64.wrap (i + 1)) h0 h1
      else
        none
    else
      none
  else
    some ((true, ()), ()) := (FD.lab_eq _ _ _ _).trans (by kernel_rfl)
def law36_same (a : TTable) (b : TTable) : (Option ((Bool × Unit) × Unit)) :=
  if (!(a.1.toList == b.1.toList)) = true then
    some ((false, ()), ())
  else
    if (a.2.1 != b.2.1) = true then
      some ((false, ()), ())
    else
      if (a.2.2.1 != b.2.2.1) = true then
        some ((false, ()), ())
      else
        if ((a.2.2.2.length : Int) != (b.2.2.2.length : Int)) = true then
          some ((false, ()), ())
        else
          law36_same_l6 0 a b
def fc33 : FC := ⟨⟨[.row (.cons .str (.cons (.int .i64) (.cons (.int .i64) (.sl (.sl (.cons (.int .i64) (.cons (.int .i64) (.cons (.int .i64) (.sl (.cons (.int .i64) (.int .i64))))))))))), .row (.cons .str (.cons (.int .i64) (.cons (.int .i64) (.sl (.sl (.cons (.int .i64) (.cons (.int .i64) (.cons (.int .i64) (.sl (.cons (.int .i64) (.int .i64)))))))))))], []⟩, ⟨[.one .bool], []⟩, fun x => law36_same x.1.1 x.1.2.1⟩
theorem con33 : Contract Try.prog 33 fc33 :=
  law36_same_D.contract tok (cok_of (l := [(69, fc69)]) ⟨con69, trivial⟩) mixed (fn' := Try.f33) (by kernel_rfl) (by kernel_rfl) rfl (by kernel_rfl) (fun x => (FD.fn_eq _ _).trans (by kernel_rfl))
end
end Go.Proofs.Ytgjimkgehbppbaa
end

section
/-
Ytgjimkgehbppbaa: signalbench.signalbenchlaw36.DecltabCompiles, as one plain function, its equations, its contract. No condition.
-/
set_option maxRecDepth 100000
set_option linter.unusedVariables false
set_option maxHeartbeats 4000000
open Go Go.AM
namespace Go.Proofs.Ytgjimkgehbppbaa
noncomputable section
def law36_DecltabCompiles_D : FD := ⟨T, lookC [(29, fc29), (30, fc30), (31, fc31), (32, fc32), (33, fc33)], [], (Try.f9.body.getD .skip), Try.f9.results.toList, ⟨[.row (.cons .str (.cons (.int .i64) (.cons (.int .i64) (.sl (.cons .str (.cons (.sl (.cons (.int .i64) (.cons (.int .i64) (.cons .str (.cons .bool (.sl (.cons (.int .i64) (.int .i64)))))))) (.cons .bool (.cons (.int .i64) (.cons (.int .i64) (.cons .str (.cons .bool (.sl (.cons (.int .i64) (.int .i64))))))))))))))], []⟩, ⟨[.one .bool], []⟩, []⟩
def law36_DecltabCompiles (d : TDecl) : (Option ((Bool × Unit) × Unit)) :=
  (law36_lives).bind fun y1 =>
    if (!y1.1.1) = true then
      some ((false, ()), ())
    else
      (law36_small d).bind fun y2 =>
        if (!y2.1.1) = true then
          some ((true, ()), ())
        else
          (decltab_Compile d).bind fun y3 =>
            (ref36_Compile d).bind fun y4 =>
              if (y3.1.2.1 == y4.1.2.1) = true then
                (law36_same y3.1.1 y4.1.1).bind fun y5 =>
                  some ((y5.1.1, ()), ())
              else
                some ((false, ()), ())
def fc9 : FC := ⟨⟨[.row (.cons .str (.cons (.int .i64) (.cons (.int .i64) (.sl (.cons .str (.cons (.sl (.cons (.int .i64) (.cons (.int .i64) (.cons .str (.cons .bool (.sl (.cons (.int .i64) (.int .i64)))))))) (.cons .bool (.cons (.int .i64) (.cons (.int .i64) (.cons .str (.cons .bool (.sl (.cons (.int .i64) (.int .i64))))))))))))))], []⟩, ⟨[.one .bool], []⟩, fun x => law36_DecltabCompiles x.1.1⟩
theorem con9 : Contract Try.prog 9 fc9 :=
  law36_DecltabCompiles_D.contract tok (cok_of (l := [(29, fc29), (30, fc30), (31, fc31), (32, fc32), (33, fc33)]) ⟨con29, con30, con31, con32, con33, trivial⟩) mixed (fn' := Try.f9) (by kernel_rfl) (by kernel_rfl) rfl (by kernel_rfl) (fun x => (FD.fn_eq _ _).trans (by kernel_rfl))
end
end Go.Proofs.Ytgjimkgehbppbaa
end

section
/-
Ytgjimkgehbppbaa: signalbench.signalbenchlaw36.DecltabReads, as one plain function, its equations, its contract. No condition.
-/
set_option maxRecDepth 100000
set_option linter.unusedVariables false
set_option maxHeartbeats 4000000
open Go Go.AM
namespace Go.Proofs.Ytgjimkgehbppbaa
noncomputable section
def law36_DecltabReads_F9 : FSh := ⟨[(1, .one (.int .i64)), (2, .one (.int .i64)), (3, .one (.ptr 0 0)), (7, .one (.int .i64))], [.boxr (.cons .str (.cons (.int .i64) (.cons (.int .i64) (.sl (.sl (.cons (.int .i64) (.cons (.int .i64) (.cons (.int .i64) (.sl (.cons (.int .i64) (.int .i64)))))))))))]⟩
def law36_DecltabReads_F17 : FSh := ⟨[(1, .one (.int .i64)), (2, .one (.int .i64)), (3, .one (.ptr 0 0)), (7, .one (.int .i64)), (8, .one (.int .i64))], [.boxr (.cons .str (.cons (.int .i64) (.cons (.int .i64) (.sl (.sl (.cons (.int .i64) (.cons (.int .i64) (.cons (.int .i64) (.sl (.cons (.int .i64) (.int .i64)))))))))))]⟩
def law36_DecltabReads_D : FD := ⟨T, lookC [(29, fc29), (34, fc34), (35, fc35), (36, fc36), (37, fc37), (38, fc38), (39, fc39), (40, fc40)], [], (Try.f10.body.getD .skip), Try.f10.results.toList, ⟨[.row (.cons .str (.cons (.int .i64) (.cons (.int .i64) (.sl (.sl (.cons (.int .i64) (.cons (.int .i64) (.cons (.int .i64) (.sl (.cons (.int .i64) (.int .i64))))))))))), .one (.int .i64), .one (.int .i64)], []⟩, ⟨[.one .bool], []⟩, [(9, law36_DecltabReads_F9), (17, law36_DecltabReads_F17)]⟩
def law36_DecltabReads_l9 (state : Int) (symbol : Int) (i : Int) (h0 : TTable) : (Option ((Bool × Unit) × Unit)) := law36_DecltabReads_D.lab 9 law36_DecltabReads_F9 ((state, symbol, (), i, ()), (h0, ()))
def law36_DecltabReads_l17 (state : Int) (symbol : Int) (i : Int) (k0 : Int) (h0 : TTable) : (Option ((Bool × Unit) × Unit)) := law36_DecltabReads_D.lab 17 law36_DecltabReads_F17 ((state, symbol, (), i, k0, ()), (h0, ()))
theorem law36_DecltabReads_l9_eq (state : Int) (symbol : Int) (i : Int) (h0 : TTable) : law36_DecltabReads_l9 state symbol i h0 =
  if (decide (i < (h0.2.2.2.length : Int))) = true then
    if 0 ≤ i ∧ i < (h0.2.2.2.length : Int) then
      if (decide (((h0.2.2.2.getD i.toNat []).length : Int) > 300)) = true then
        some ((true, ()), ())
      else
        law36_DecltabReads_l17 state symbol i 0 h0
    else
      none
  else
    (decltab_Next h0 state symbol).bind fun y1 =>
      (ref36_Next h0 state symbol).bind fun y2 =>
        (decltab_Check h0).bind fun y3 =>
          (ref36_Check h0).bind fun y4 =>
            if (y3.1.1 == y4.1.1) = true then
              (decltab_Size h0).bind fun y5 =>
                (ref36_Size h0).bind fun y6 =>
                  if (y5.1.1 == y6.1.1) = true then
                    if (y1.1.1 == y2.1.1) = true then
                      if (y1.1.2.2.1 == y2.1.2.2.1) = true then
                        (law36_sameActs y1.1.2.1 y2.1.2.1).bind fun y7 =>
                          some ((y7.1.1, ()), ())
                      else
                        some ((false, ()), ())
                    else
                      some ((false, ()), ())
                  else
                    some ((false, ()), ())
            else
              some ((false, ()), ()) := (FD.lab_eq _ _ _ _).trans (by kernel_rfl)
theorem law36_DecltabReads_l17_eq (state : Int) (symbol : Int) (i : Int) (k0 : Int) (h0 : TTable) : law36_DecltabReads_l17 state symbol i k0 h0 =
  if 0 ≤ i ∧ i < (h0.2.2.2.length : Int) then
    if (decide (k0 < ((h0.2.2.2.getD i.toNat []).length : Int))) = true then
      if 0 ≤ i ∧ i < (h0.2.2.2.length : Int) then
        if 0 ≤ k0 ∧ k0 < ((h0.2.2.2.getD i.toNat []).length : Int) then
          if (decide ((((h0.2.2.2.getD i.toNat []).getD k0.toNat dCell).2.2.2.length : Int) > 100)) = true then
            some ((true, ()), ())
          else
            law36_DecltabReads_l17 state symbol i (IntKind.i64.wrap (k0 + 1)) h0
        else
          none
      else
        none
    else
      law36_DecltabReads_l9 state symbol (IntKind.i64.wrap (i + 1)) h0
  else
    none := (FD.lab_eq _ _ _ _).trans (by kernel_rfl)
def law36_DecltabReads (t : TTable) (state : Int) (symbol : Int) : (Option ((Bool × Unit) × Unit)) :=
  (law36_lives).bind fun y1 =>
    if (!y1.1.1) = true then
      some ((false, ()), ())
    else
      if (decide ((t.2.2.2.length : Int) > 40)) = true then
        some ((true, ()), ())
      else
        law36_DecltabReads_l9 state symbol 0 t
def fc10 : FC := ⟨⟨[.row (.cons .str (.cons (.int .i64) (.cons (.int .i64) (.sl (.sl (.cons (.int .i64) (.cons (.int .i64) (.cons (.int .i64) (.sl (.cons (.int .i64) (.int .i64))))))))))), .one (.int .i64), .one (.int .i64)], []⟩, ⟨[.one .bool], []⟩, fun x => law36_DecltabReads x.1.1 x.1.2.1 x.1.2.2.1⟩
theorem con10 : Contract Try.prog 10 fc10 :=
  law36_DecltabReads_D.contract tok (cok_of (l := [(29, fc29), (34, fc34), (35, fc35), (36, fc36), (37, fc37), (38, fc38), (39, fc39), (40, fc40)]) ⟨con29, con34, con35, con36, con37, con38, con39, con40, trivial⟩) mixed (fn' := Try.f10) (by kernel_rfl) (by kernel_rfl) rfl (by kernel_rfl) (fun x => (FD.fn_eq _ _).trans (by kernel_rfl))
end
end Go.Proofs.Ytgjimkgehbppbaa
end

section
/-
Ytgjimkgehbppbaa: the laws of reading and compiling tables, as plain functions, come to true. No condition.
-/
set_option maxRecDepth 100000
open Go Go.AM
namespace Go.Proofs.Ytgjimkgehbppbaa

def lvD : TDecl := (strB [100], 3, 5, [((strB [97]), [(0, 9, (strB [97]), false, [(2, 0)])], true, 0, 0, (strB [97]), false, [(5, 1)])])
def lvT : TTable := (strB [100], 3, 5, [[(0, 9, 0, [(2, 0)]), (10, 255, 0, [(5, 1)])]])
theorem ok_lv : okDecl lvD := okDecl_bk lvD (by decide)
theorem ok_lt : okTable lvT := okTable_bk lvT (by decide)
theorem lv_check : checkV lvD = 0 := by kernel_rfl
theorem lv_amb : firstV lvD.2.2.2.length (topV lvD) (ambP lvD.2.2.2) = none := by kernel_rfl
theorem lv_mis : firstV lvD.2.2.2.length (topV lvD) (misP lvD.2.2.2) = none := by kernel_rfl
theorem lv_cyc : firstV lvD.2.2.2.length (topV lvD) (cycP lvD.2.2.2) = none := by kernel_rfl
theorem lv_reach : (reachV lvD.2.2.2).all id = true := all_reach.2 fun j hj => by
  have hj' : j < 1 := hj
  have e : j = 0 := by omega
  subst e
  exact .zero hj
theorem lv_cc : ccheckV lvD = 0 := by unfold ccheckV; rw [lv_check, lv_amb, lv_mis, lv_cyc, if_pos lv_reach]; rfl
theorem lv_rows : rowsF lvD.2.2.2 (topV lvD) lvD.2.2.2.length 0 [] = some lvT.2.2.2 := by kernel_rfl
theorem lv_compile : compileV lvD = (lvT, 0) := by unfold compileV; rw [if_pos lv_cc, lv_rows]; rfl
theorem lt_check : checkT lvT = 0 := by kernel_rfl

theorem lives_b : law36_lives = some ((true, ()), ()) := by
  have e1 : decltab_Compile lvD = some ((lvT, 0, ()), ()) := by rw [compile_eq lvD ok_lv, lv_compile]
  have e2 : decltab_Check lvT = some ((0, ()), ()) := by rw [tcheck_eq lvT ok_lt, lt_check]
  have e3 : decltab_Next lvT 0 5 = some ((0, [(2, 0)], true, ()), ()) := by rw [next_eq lvT 0 5 ok_lt]; rfl
  have e4 : decltab_Size lvT = some ((2, ()), ()) := by rw [size_eq lvT ok_lt]; rfl
  unfold law36_lives
  refine (congrArg (fun z => Option.bind z _) e1).trans ?_
  simp only [Option.bind_some]
  refine Eq.trans (if_neg ?_) ?_
  · decide
  refine Eq.trans (if_neg ?_) ?_
  · decide
  refine Eq.trans (if_pos ?_) ?_
  · decide
  refine Eq.trans (if_neg ?_) ?_
  · decide
  refine Eq.trans (if_pos ?_) ?_
  · decide
  refine Eq.trans (if_pos ?_) ?_
  · decide
  refine Eq.trans (if_neg ?_) ?_
  · decide
  refine (congrArg (fun z => Option.bind z _) e2).trans ?_
  simp only [Option.bind_some]
  refine Eq.trans (if_neg ?_) ?_
  · decide
  refine (congrArg (fun z => Option.bind z _) e3).trans ?_
  simp only [Option.bind_some]
  iterate 5 (refine Eq.trans (if_pos ?_) ?_; · decide)
  refine (congrArg (fun z => Option.bind z _) e4).trans ?_
  rfl

theorem reads_end (t : TTable) (s x : Int) (h : okTable t) (i : Nat) (hi : t.2.2.2.length ≤ i) : law36_DecltabReads_l9 s x i t = some ((true, ()), ()) := by
  have hl : (nextV t.2.2.2 s x).2.1.length ≤ 1099511627776 := by
    unfold nextV
    split
    · simp
    · split
      · rename_i cs hc
        unfold cellAt
        split
        · rename_i c hf
          have := (h.2 cs (List.mem_of_getElem? hc)).2 c (List.mem_of_find?_eq_some hf)
          unfold okCell at this
          simp only
          omega
        · simp
      · simp
  rw [law36_DecltabReads_l9_eq, if_neg (dF (by omega)), next_eq t s x h, rnext_eq t s x h, tcheck_eq t h, rtcheck_eq t h, size_eq t h, rsize_eq t h]
  simp only [Option.bind_some]
  rw [sameActs_refl _ hl]
  simp

theorem reads_loop (t : TTable) (s x : Int) (h : okTable t) : ∀ (c i : Nat), c = t.2.2.2.length - i → i ≤ t.2.2.2.length → law36_DecltabReads_l9 s x i t = some ((true, ()), ()) := by
  have hn := h.1
  intro c
  induction c with
  | zero => intro i hc hi; exact reads_end t s x h i (by omega)
  | succ c ih =>
    intro i hc hi
    have hil : i < t.2.2.2.length := by omega
    obtain ⟨hl, _⟩ := h.2 _ (List.getElem_mem hil)
    have hin : (0 : Int) ≤ i ∧ (i : Int) < (t.2.2.2.length : Int) := ⟨by omega, by omega⟩
    have hg : t.2.2.2.getD (i : Int).toNat [] = t.2.2.2[i] := getD_in _ hil
    have inner : ∀ (e k : Nat), e = t.2.2.2[i].length - k → k ≤ t.2.2.2[i].length → law36_DecltabReads_l17 s x i k t = some ((true, ()), ()) := by
      intro e
      induction e with
      | zero =>
        intro k he hk
        rw [law36_DecltabReads_l17_eq, if_pos hin, hg, if_neg (dF (by omega)), w64a i (by omega)]
        exact ih (i + 1) (by omega) (by omega)
      | succ e ihe =>
        intro k he hk
        rw [law36_DecltabReads_l17_eq, if_pos hin, hg, if_pos (dT (by omega)), if_pos hin, if_pos ⟨by omega, by omega⟩, w64a k (by omega), ihe (k + 1) (by omega) (by omega)]
        split <;> rfl
    rw [law36_DecltabReads_l9_eq, if_pos (dT (by omega)), if_pos hin, hg]
    split
    · rfl
    · exact inner _ 0 rfl (Nat.zero_le _)

theorem DecltabReads_true (t : TTable) (s x : Int) (h : okTable t) : law36_DecltabReads t s x = some ((true, ()), ()) := by
  unfold law36_DecltabReads
  rw [lives_b]
  simp only [Option.bind_some]
  refine (if_neg (by simp)).trans ?_
  split
  · rfl
  · exact reads_loop t s x h _ 0 rfl (Nat.zero_le _)

/-! ### compiled -/
theorem small_ex (d : TDecl) (h : okDecl d) : ∃ b, law36_small d = some ((b, ()), ()) := by
  have hd := h.1
  have key : ∀ (c i : Nat), c = d.2.2.2.length - i → i ≤ d.2.2.2.length → ∃ b, law36_small_l6 i d = some ((b, ()), ()) := by
    intro c
    induction c with
    | zero => intro i hc hi; exact ⟨true, by rw [law36_small_l6_eq, if_neg (dF (by omega))]⟩
    | succ c ih =>
      intro i hc hi
      have hil : i < d.2.2.2.length := by omega
      obtain ⟨hl, _⟩ := h.2 _ (List.getElem_mem hil)
      have hin : (0 : Int) ≤ i ∧ (i : Int) < (d.2.2.2.length : Int) := ⟨by omega, by omega⟩
      have hg : d.2.2.2.getD (i : Int).toNat dDeclState = d.2.2.2[i] := getD_in _ hil
      have inner : ∀ (e k : Nat), e = d.2.2.2[i].2.1.length - k → k ≤ d.2.2.2[i].2.1.length → ∃ b, law36_small_l14 i k d = some ((b, ()), ()) := by
        intro e
        induction e with
        | zero =>
          intro k he hk
          rw [law36_small_l14_eq, if_pos hin, hg, if_neg (dF (by omega)), w64a i (by omega)]
          exact ih (i + 1) (by omega) (by omega)
        | succ e ihe =>
          intro k he hk
          rw [law36_small_l14_eq, if_pos hin, hg, if_pos (dT (by omega)), if_pos hin, if_pos ⟨by omega, by omega⟩, w64a k (by omega)]
          split
          · exact ⟨false, rfl⟩
          · exact ihe (k + 1) (by omega) (by omega)
      rw [law36_small_l6_eq, if_pos (dT (by omega)), if_pos hin, hg]
      split
      · exact ⟨false, rfl⟩
      · split
        · exact ⟨false, rfl⟩
        · exact inner _ 0 rfl (Nat.zero_le _)
  unfold law36_small
  split
  · exact ⟨false, rfl⟩
  · exact key _ 0 rfl (Nat.zero_le _)

theorem sameRow_loop (a : List TCell) (h : okRow a) : ∀ (c k : Nat), c = a.length - k → k ≤ a.length → law36_sameRow_l6 a a k = some ((true, ()), ()) := by
  obtain ⟨hl, ho⟩ := h
  intro c
  induction c with
  | zero => intro k hc hk; rw [law36_sameRow_l6_eq, if_neg (dF (by omega))]
  | succ c ih =>
    intro k hc hk
    have hkl : k < a.length := by omega
    have hin : (0 : Int) ≤ k ∧ (k : Int) < (a.length : Int) := ⟨by omega, by omega⟩
    have hg : a.getD (k : Int).toNat dCell = a[k] := getD_in _ hkl
    have hc' := ho _ (List.getElem_mem hkl)
    unfold okCell at hc'
    rw [law36_sameRow_l6_eq, if_pos (dT (by omega)), if_pos hin, if_pos hin, if_neg (nF rfl), if_pos hin, if_pos hin, if_neg (nF rfl), if_pos hin, if_pos hin, if_neg (nF rfl), if_pos hin, if_pos hin, hg, sameActs_refl _ (by omega), w64a k (by omega)]
    simp only [Option.bind_some]
    refine (if_neg (by simp)).trans ?_
    exact ih (k + 1) (by omega) (by omega)

theorem sameRow_refl (a : List TCell) (h : okRow a) : law36_sameRow a a = some ((true, ()), ()) := by
  unfold law36_sameRow
  rw [if_neg (nF rfl)]
  exact sameRow_loop a h _ 0 rfl (Nat.zero_le _)

theorem sameTab_loop (t : TTable) (h : okTable t) : ∀ (c k : Nat), c = t.2.2.2.length - k → k ≤ t.2.2.2.length → law36_same_l6 k t t = some ((true, ()), ()) := by
  obtain ⟨hl, ho⟩ := h
  intro c
  induction c with
  | zero => intro k hc hk; rw [law36_same_l6_eq, if_neg (dF (by omega))]
  | succ c ih =>
    intro k hc hk
    have hkl : k < t.2.2.2.length := by omega
    have hin : (0 : Int) ≤ k ∧ (k : Int) < (t.2.2.2.length : Int) := ⟨by omega, by omega⟩
    have hg : t.2.2.2.getD (k : Int).toNat [] = t.2.2.2[k] := getD_in _ hkl
    rw [law36_same_l6_eq, if_pos (dT (by omega)), if_pos hin, if_pos hin, hg, sameRow_refl _ (ho _ (List.getElem_mem hkl)), w64a k (by omega)]
    simp only [Option.bind_some]
    refine (if_neg (by simp)).trans ?_
    exact ih (k + 1) (by omega) (by omega)

theorem sameTab_refl (t : TTable) (h : okTable t) : law36_same t t = some ((true, ()), ()) := by
  unfold law36_same
  rw [if_neg (by simp), if_neg (nF rfl), if_neg (nF rfl), if_neg (nF rfl)]
  exact sameTab_loop t h _ 0 rfl (Nat.zero_le _)

theorem DecltabCompiles_true (d : TDecl) (h : okDecl d) : law36_DecltabCompiles d = some ((true, ()), ()) := by
  obtain ⟨b, hb⟩ := small_ex d h
  unfold law36_DecltabCompiles
  rw [lives_b, hb, compile_eq d h, rcompile_eq d h]
  simp only [Option.bind_some]
  refine (if_neg (by simp)).trans ?_
  cases b with
  | false => rfl
  | true =>
    refine (if_neg (by simp)).trans ?_
    refine (if_pos (eT rfl)).trans ?_
    rw [sameTab_refl _ (compileV_ok d h (topV_le d))]
    rfl

end Go.Proofs.Ytgjimkgehbppbaa
end

section
/-
Ytgjimkgehbppbaa: signalbench.signalbenchlaw36.DecltabCells, as one plain function, its equations, its contract. No condition.
-/
set_option maxRecDepth 100000
set_option linter.unusedVariables false
set_option maxHeartbeats 4000000
open Go Go.AM
namespace Go.Proofs.Ytgjimkgehbppbaa
noncomputable section
def law36_DecltabCells_F21 : FSh := ⟨[(3, .one (.ptr 0 0)), (6, .one (.int .i64)), (7, .one (.int .i64))], [.boxr (.cons .str (.cons (.int .i64) (.cons (.int .i64) (.sl (.sl (.cons (.int .i64) (.cons (.int .i64) (.cons (.int .i64) (.sl (.cons (.int .i64) (.int .i64)))))))))))]⟩
def law36_DecltabCells_F27 : FSh := ⟨[(3, .one (.ptr 0 0)), (6, .one (.int .i64)), (7, .one (.int .i64)), (8, .one (.int .i64))], [.boxr (.cons .str (.cons (.int .i64) (.cons (.int .i64) (.sl (.sl (.cons (.int .i64) (.cons (.int .i64) (.cons (.int .i64) (.sl (.cons (.int .i64) (.int .i64)))))))))))]⟩
def law36_DecltabCells_D : FD := ⟨T, lookC [(26, fc26), (29, fc29), (30, fc30), (31, fc31), (36, fc36), (38, fc38), (40, fc40)], [], (Try.f12.body.getD .skip), Try.f12.results.toList, ⟨[.row (.cons .str (.cons (.int .i64) (.cons (.int .i64) (.sl (.cons .str (.cons (.sl (.cons (.int .i64) (.cons (.int .i64) (.cons .str (.cons .bool (.sl (.cons (.int .i64) (.int .i64)))))))) (.cons .bool (.cons (.int .i64) (.cons (.int .i64) (.cons .str (.cons .bool (.sl (.cons (.int .i64) (.int .i64))))))))))))))], []⟩, ⟨[.one .bool], []⟩, [(21, law36_DecltabCells_F21), (27, law36_DecltabCells_F27)]⟩
def law36_DecltabCells_l21 (n : Int) (i : Int) (h0 : TTable) : (Option ((Bool × Unit) × Unit)) := law36_DecltabCells_D.lab 21 law36_DecltabCells_F21 (((), n, i, ()), (h0, ()))
def law36_DecltabCells_l27 (n : Int) (i : Int) (k0 : Int) (h0 : TTable) : (Option ((Bool × Unit) × Unit)) := law36_DecltabCells_D.lab 27 law36_DecltabCells_F27 (((), n, i, k0, ()), (h0, ()))
theorem law36_DecltabCells_l21_eq (n : Int) (i : Int) (h0 : TTable) : law36_DecltabCells_l21 n i h0 =
  if (decide (i < (h0.2.2.2.length : Int))) = true then
    law36_DecltabCells_l27 n i 1 h0
  else
    (decltab_Size h0).bind fun y1 =>
      some ((y1.1.1 == n, ()), ()) := (FD.lab_eq _ _ _ _).trans (by kernel_rfl)
theorem law36_DecltabCells_l27_eq (n : Int) (i : Int) (k0 : Int) (h0 : TTable) : law36_DecltabCells_l27 n i k0 h0 =
  if 0 ≤ i ∧ i < (h0.2.2.2.length : Int) then
    if (decide (k0 < ((h0.2.2.2.getD i.toNat []).length : Int))) = true then
      if 0 ≤ i ∧ i < (h0.2.2.2.length : Int) then
        if 0 ≤ k0 ∧ k0 < ((h0.2.2.2.getD i.toNat []).length : Int) then
          if 0 ≤ i ∧ i < (h0.2.2.2.length : Int) then
            if 0 ≤ IntKind.i64.wrap (k0 - 1) ∧ IntKind.i64.wrap (k0 - 1) < ((h0.2.2.2.getD i.toNat []).length : Int) then
              if (((h0.2.2.2.getD i.toNat []).getD k0.toNat dCell).2.2.1 == ((h0.2.2.2.getD i.toNat []).getD (IntKind.i64.wrap (k0 - 1)).toNat dCell).2.2.1) = true then
                if 0 ≤ i ∧ i < (h0.2.2.2.length : Int) then
                  if 0 ≤ k0 ∧ k0 < ((h0.2.2.2.getD i.toNat []).length : Int) then
                    if 0 ≤ i ∧ i < (h0.2.2.2.length : Int) then
                      if 0 ≤ IntKind.i64.wrap (k0 - 1) ∧ IntKind.i64.wrap (k0 - 1) < ((h0.2.2.2.getD i.toNat []).length : Int) then
                        (law36_sameActs ((h0.2.2.2.getD i.toNat []).getD k0.toNat dCell).2.2.2 ((h0.2.2.2.getD i.toNat []).getD (IntKind.i64.wrap (k0 - 1)).toNat dCell).2.2.2).bind fun y1 =>
                          if y1.1.1 = true then
                            some ((false, ()), ())
                          else
                            law36_DecltabCells_l27 n i (IntKind.i64.wrap (k0 + 1)) h0
                      else
                        none
                    else
                      none
                  else
                    none
                else
                  none
              else
                law36_DecltabCells_l27 n i (IntKind.i64.wrap (k0 + 1)) h0
            else
              none
          else
            none
        else
          none
      else
        none
    else
      if 0 ≤ i ∧ i < (h0.2.2.2.length : Int) then
        law36_DecltabCells_l21 (IntKind.i64.wrap (n + ((h0.2.2.2.getD i.toNat []).length : Int))) (IntKind.i64.wrap (i + 1)) h0
      else
        none
  else
    none := (FD.lab_eq _ _ _ _).trans (by kernel_rfl)
def law36_DecltabCells (d : TDecl) : (Option ((Bool × Unit) × Unit)) :=
  (law36_lives).bind fun y1 =>
    if (!y1.1.1) = true then
      some ((false, ()), ())
    else
      (law36_small d).bind fun y2 =>
        if (!y2.1.1) = true then
          some ((true, ()), ())
        else
          (decltab_Compile d).bind fun y3 =>
            (ref35_Check d).bind fun y4 =>
              if (y4.1.1 != 0) = true then
                if (y3.1.2.1 == y4.1.1) = true then
                  some (((y3.1.1.2.2.2.length : Int) == 0, ()), ())
                else
                  some ((false, ()), ())
              else
                if (y3.1.2.1 != 0) = true then
                  if (y3.1.2.1 == 6) = true then
                    some (((y3.1.1.2.2.2.length : Int) == 0, ()), ())
                  else
                    some ((false, ()), ())
                else
                  (decltab_Check y3.1.1).bind fun y5 =>
                    if (y5.1.1 != 0) = true then
                      some ((false, ()), ())
                    else
                      if ((y3.1.1.2.2.2.length : Int) != (d.2.2.2.length : Int)) = true then
                        some ((false, ()), ())
                      else
                        if (!(y3.1.1.1.toList == d.1.toList)) = true then
                          some ((false, ()), ())
                        else
                          if (y3.1.1.2.1 != d.2.1) = true then
                            some ((false, ()), ())
                          else
                            if (y3.1.1.2.2.1 != d.2.2.1) = true then
                              some ((false, ()), ())
                            else
                              law36_DecltabCells_l21 0 0 y3.1.1
def fc12 : FC := ⟨⟨[.row (.cons .str (.cons (.int .i64) (.cons (.int .i64) (.sl (.cons .str (.cons (.sl (.cons (.int .i64) (.cons (.int .i64) (.cons .str (.cons .bool (.sl (.cons (.int .i64) (.int .i64)))))))) (.cons .bool (.cons (.int .i64) (.cons (.int .i64) (.cons .str (.cons .bool (.sl (.cons (.int .i64) (.int .i64))))))))))))))], []⟩, ⟨[.one .bool], []⟩, fun x => law36_DecltabCells x.1.1⟩
theorem con12 : Contract Try.prog 12 fc12 :=
  law36_DecltabCells_D.contract tok (cok_of (l := [(26, fc26), (29, fc29), (30, fc30), (31, fc31), (36, fc36), (38, fc38), (40, fc40)]) ⟨con26, con29, con30, con31, con36, con38, con40, trivial⟩) mixed (fn' := Try.f12) (by kernel_rfl) (by kernel_rfl) rfl (by kernel_rfl) (fun x => (FD.fn_eq _ _).trans (by kernel_rfl))
end
end Go.Proofs.Ytgjimkgehbppbaa
end

section
/-
Ytgjimkgehbppbaa: compiled tables are valid, their adjacent cells differ. No condition.
-/
set_option maxRecDepth 100000
open Go Go.AM
namespace Go.Proofs.Ytgjimkgehbppbaa

theorem seg_mem : ∀ {cs : List CellT} {a b : Int}, SegC a cs b → ∀ c ∈ cs, a ≤ c.1 ∧ c.1 ≤ c.2.1 ∧ c.2.1 < b
  | c :: r, a, b, ⟨h1, h2, h3⟩, c', hc => by
    have := SegC.le h3
    rcases List.mem_cons.1 hc with rfl | hc
    · omega
    · have := seg_mem h3 c' hc; omega
  | [], _, _, _, c', hc => by simp at hc

theorem row_good (d : TDecl) (g : GoodD d) (i : Nat) (hi : i < d.2.2.2.length) (cs : List CellT) (hr : rowF (resF d.2.2.2 i) (topV d + 1) 0 [] = some cs) : rowE (topV d) d.2.2.2.length 0 cs = 0 ∧ AdjN (valsC cs) := by
  have hv := rowF_inv _ _ _ _ hr ⟨rfl, fun c hc => by simp at hc⟩
  have ha := (rowF_ok _ _ _ _ _ hr (fun q hq => by simp at hq)).2
  have hs : SegC 0 cs ((topV d : Int) + 1) := by
    have := hv.seg
    rwa [show ((0 + (topV d + 1) : Nat) : Int) = (topV d : Int) + 1 by omega] at this
  refine ⟨rowE_zero hs (fun c hc => ?_), rowF_adj _ _ _ _ hr trivial⟩
  obtain ⟨h1, h2, h3⟩ := seg_mem hs c hc
  obtain ⟨y, hy⟩ : ∃ y : Nat, c.1 = y := ⟨c.1.toNat, by omega⟩
  have e := hv.val c hc y (hitC_iff.2 ⟨by omega, by omega⟩)
  obtain ⟨k1, k2⟩ := follow_ok g (x := y) (by omega) (d.2.2.2.length + 1) i [] hi (fun a ha => by simp at ha)
  have e' : c.2.2 = followV d.2.2.2 y (d.2.2.2.length + 1) i [] := e
  exact ⟨ha c hc, by rw [e']; exact k1, by rw [e']; exact k2⟩

theorem table_good {top n : Int} : ∀ {rows : List (List CellT)}, (∀ cs ∈ rows, rowE top n 0 cs = 0) → tableE top n rows = 0
  | [], _ => rfl
  | cs :: r, h => by
    show (if rowE top n 0 cs = 0 then tableE top n r else _) = 0
    rw [if_pos (h cs (by simp))]
    exact table_good (fun c hc => h c (by simp [hc]))

theorem rows_good (d : TDecl) (g : GoodD d) (rows : List (List CellT)) (hr : rowsF d.2.2.2 (topV d) d.2.2.2.length 0 [] = some rows) :
    rows.length = d.2.2.2.length ∧ ∀ cs ∈ rows, rowE (topV d) d.2.2.2.length 0 cs = 0 ∧ AdjN (valsC cs) := by
  have hl := (rowsF_ok _ _ (topV_le d) _ _ _ _ hr (fun q hq => by simp at hq)).1
  have hl' : rows.length = d.2.2.2.length := by simpa using hl
  refine ⟨hl', fun cs hc => ?_⟩
  obtain ⟨j, hj⟩ := List.mem_iff_getElem?.1 hc
  have hjl := (List.getElem?_eq_some_iff.1 hj).1
  obtain ⟨cs', h1, h2⟩ := (rowsF_get _ _ _ 0 [] rows hr rfl).2 j (Nat.zero_le _) (by omega)
  rw [hj] at h1
  cases h1
  exact row_good d g j (by omega) cs h2

theorem checkT_good (d : TDecl) (g : GoodD d) (rows : List (List CellT)) (hr : rowsF d.2.2.2 (topV d) d.2.2.2.length 0 [] = some rows) : checkT (d.1, d.2.1, d.2.2.1, rows) = 0 := by
  obtain ⟨c1, ⟨c2, c3, c4⟩, c5, _⟩ := checkV_zero.1 g.check
  obtain ⟨h1, h2⟩ := rows_good d g rows hr
  unfold checkT
  simp only
  rw [if_pos c1, if_pos ⟨c2, c3⟩, if_neg (by omega), h1]
  exact table_good (fun cs hc => (h2 cs hc).1)

theorem acts_eq (a b : List TAct) (ha : a.length ≤ 1099511627776) (hab : a.length = b.length) : ∀ (r q : List TAct) (k : Nat), a.drop k = r → b.drop k = q → law36_sameActs_l6 a b k = some ((decide (r = q), ()), ())
  | [], q, k, h, hq => by
    have h1 := drop_nil h
    have : q = [] := by rw [← hq]; exact List.drop_of_length_le (by omega)
    subst this
    rw [law36_sameActs_l6_eq, if_neg (dF (by omega))]
    rfl
  | x :: r, q, k, h, hq => by
    have h1 := drop_lt h
    cases q with
    | nil => have := drop_nil hq; omega
    | cons y q =>
      have e1 : a.getD (k : Int).toNat dAct = x := getD_drop h
      have e2 : b.getD (k : Int).toNat dAct = y := getD_drop hq
      rw [law36_sameActs_l6_eq, if_pos (dT (by omega)), if_pos ⟨by omega, by omega⟩, if_pos ⟨by omega, by omega⟩, e1, e2, act_beq, w64a k (by omega), acts_eq a b ha hab r q (k + 1) (dropS h) (dropS hq)]
      by_cases p : x = y
      · subst p; simp
      · simp [p]

theorem sameActs_eq (l m : List TAct) (ha : l.length ≤ 1099511627776) : law36_sameActs l m = some ((decide (l = m), ()), ()) := by
  unfold law36_sameActs
  by_cases h2 : l.length = m.length
  · rw [if_neg (nF (by omega))]
    exact acts_eq l m ha h2 _ _ 0 rfl rfl
  · rw [if_pos (nT (by omega)), decide_eq_false]
    intro e
    exact h2 (by rw [e])


theorem cells_row (t : TTable) (h : okTable t) (i : Nat) (hi : i < t.2.2.2.length) (hadj : AdjN (valsC t.2.2.2[i])) (n : Nat) (hn : n ≤ i * 1048576) (G : Option ((Bool × Unit) × Unit)) (hG : law36_DecltabCells_l21 ((n + t.2.2.2[i].length : Nat) : Int) ((i + 1 : Nat) : Int) t = G) :
    ∀ (c k : Nat), c = t.2.2.2[i].length - k → 1 ≤ k → law36_DecltabCells_l27 n i k t = G := by
  obtain ⟨hl, ho⟩ := h.2 _ (List.getElem_mem hi)
  have hd := h.1
  have hin : (0 : Int) ≤ i ∧ (i : Int) < (t.2.2.2.length : Int) := ⟨by omega, by omega⟩
  have hg : t.2.2.2.getD (i : Int).toNat [] = t.2.2.2[i] := getD_in _ hi
  intro c
  induction c with
  | zero =>
    intro k hc hk
    rw [law36_DecltabCells_l27_eq, if_pos hin, hg, if_neg (dF (by omega)), if_pos hin, w64a i (by omega), w64n n _ (by omega)]
    exact hG
  | succ c ih =>
    intro k hc hk
    have hkl : k < t.2.2.2[i].length := by omega
    have hw : IntKind.i64.wrap ((k : Int) - 1) = ((k - 1 : Nat) : Int) := by rw [w64 (by omega) (by omega)]; omega
    have hk1 : (0 : Int) ≤ k ∧ (k : Int) < (t.2.2.2[i].length : Int) := ⟨by omega, by omega⟩
    have hk2 : (0 : Int) ≤ ((k - 1 : Nat) : Int) ∧ ((k - 1 : Nat) : Int) < (t.2.2.2[i].length : Int) := ⟨by omega, by omega⟩
    have g1 : t.2.2.2[i].getD (k : Int).toNat dCell = t.2.2.2[i][k] := getD_in _ hkl
    have g2 : t.2.2.2[i].getD ((k - 1 : Nat) : Int).toNat dCell = t.2.2.2[i][k - 1]'(by omega) := getD_in _ (by omega)
    have hne : (t.2.2.2[i][k - 1]'(by omega)).2.2 ≠ t.2.2.2[i][k].2.2 := by
      refine hadj.get (k := k - 1) ?_ ?_
      · simp [valsC, List.getElem?_eq_getElem (show k - 1 < t.2.2.2[i].length by omega)]
      · rw [show k - 1 + 1 = k by omega]
        simp [valsC, List.getElem?_eq_getElem hkl]
    have hca := ho _ (List.getElem_mem hkl)
    unfold okCell at hca
    rw [law36_DecltabCells_l27_eq, if_pos hin, hg, if_pos (dT (by omega)), if_pos hin, if_pos hk1, if_pos hin, hw, if_pos hk2, g1, g2, w64a k (by omega), ih (k + 1) (by omega) (by omega)]
    by_cases e : t.2.2.2[i][k].2.2.1 = (t.2.2.2[i][k - 1]'(by omega)).2.2.1
    · rw [if_pos (eT e), if_pos hin, if_pos hk1, if_pos hin, if_pos hk2, sameActs_eq _ _ (by omega)]
      simp only [Option.bind_some]
      exact if_neg (dF (fun q => hne (Prod.ext e.symm q.symm)))
    · exact if_neg (eF e)

theorem cells_rows (t : TTable) (h : okTable t) (hadj : ∀ cs ∈ t.2.2.2, AdjN (valsC cs)) : ∀ (r : List (List TCell)) (i n : Nat), t.2.2.2.drop i = r → n ≤ i * 1048576 → n + (r.map List.length).sum = sizeV t.2.2.2 → law36_DecltabCells_l21 n i t = some ((true, ()), ()) := by
  have hd := h.1
  intro r
  induction r with
  | nil =>
    intro i n hk hn hs
    have := drop_nil hk
    rw [law36_DecltabCells_l21_eq, if_neg (dF (by omega)), size_eq t h]
    simp only [Option.bind_some]
    simp at hs
    rw [eT (by omega)]
  | cons cs r ih =>
    intro i n hk hn hs
    have h1 := drop_lt hk
    have e : t.2.2.2[i] = cs := by rw [List.drop_eq_getElem_cons h1] at hk; injection hk
    have hl := (h.2 _ (List.getElem_mem h1)).1
    simp only [List.map_cons, List.sum_cons] at hs
    rw [law36_DecltabCells_l21_eq, if_pos (dT (by omega))]
    exact cells_row t h i h1 (hadj _ (List.getElem_mem h1)) n hn _ (ih (i + 1) (n + t.2.2.2[i].length) (dropS hk) (by omega) (by rw [e]; omega)) _ 1 rfl (Nat.le_refl _)

theorem DecltabCells_true (d : TDecl) (h : okDecl d) : law36_DecltabCells d = some ((true, ()), ()) := by
  obtain ⟨b, hb⟩ := small_ex d h
  have hok := compileV_ok d h (topV_le d)
  unfold law36_DecltabCells
  rw [lives_b, hb, compile_eq d h, rccheck_eq d h]
  simp only [Option.bind_some]
  refine (if_neg (by simp)).trans ?_
  cases b with
  | false => rfl
  | true =>
    refine (if_neg (by simp)).trans ?_
    by_cases hc : ccheckV d = 0
    · refine (if_neg (nF hc)).trans ?_
      have g := ccheck_zero.1 hc
      cases hr : rowsF d.2.2.2 (topV d) d.2.2.2.length 0 [] with
      | none =>
        have e : compileV d = ((strB [], 0, 0, []), 6) := by unfold compileV; rw [if_pos hc, hr]
        rw [e]
        rfl
      | some rows =>
        have e : compileV d = ((d.1, d.2.1, d.2.2.1, rows), 0) := by unfold compileV; rw [if_pos hc, hr]
        obtain ⟨h1, h2⟩ := rows_good d g rows hr
        rw [e] at hok ⊢
        refine (if_neg (nF rfl)).trans ?_
        rw [tcheck_eq _ hok, checkT_good d g rows hr]
        simp only [Option.bind_some]
        refine (if_neg (nF rfl)).trans ?_
        refine (if_neg (nF (by show (rows.length : Int) = (d.2.2.2.length : Int); omega))).trans ?_
        refine (if_neg (by simp)).trans ?_
        refine (if_neg (nF rfl)).trans ?_
        refine (if_neg (nF rfl)).trans ?_
        exact cells_rows _ hok (fun cs hcs => (h2 cs hcs).2) _ 0 0 rfl (by omega) (by simp [sizeV])
    · refine (if_pos (nT hc)).trans ?_
      have e : compileV d = ((strB [], 0, 0, []), ccheckV d) := by unfold compileV; rw [if_neg hc]
      rw [e]
      refine (if_pos (eT rfl)).trans ?_
      rfl

end Go.Proofs.Ytgjimkgehbppbaa
end

section
/-
Ytgjimkgehbppbaa: the given measure of what is read is the machine's. No condition.
-/
namespace Go.Proofs.Ytgjimkgehbppbaa
open Go

mutual
theorem bulk_eq {H : Type} : ∀ d : DataW H, Rows.uptoBulk d = AM.bulkW d
  | .lit (.string _) => by simp [Rows.uptoBulk, AM.bulkW]
  | .lit (.bool _) => by simp [Rows.uptoBulk, AM.bulkW]
  | .lit (.int _ _) => by simp [Rows.uptoBulk, AM.bulkW]
  | .lit (.float _ _) => by simp [Rows.uptoBulk, AM.bulkW]
  | .lit .nil => by simp [Rows.uptoBulk, AM.bulkW]
  | .nil => by simp [Rows.uptoBulk, AM.bulkW]
  | .ptr d => by simp [Rows.uptoBulk, AM.bulkW, bulk_eq d]
  | .slice a b => by simp [Rows.uptoBulk, AM.bulkW, bulkAll_eq a, bulkAll_eq b]
  | .agg a => by simp [Rows.uptoBulk, AM.bulkW, bulkAll_eq a]
  | .iface _ d => by simp [Rows.uptoBulk, AM.bulkW, bulk_eq d]
  | .map es => by simp [Rows.uptoBulk, AM.bulkW, bulkEntries_eq es]
  | .held _ => by simp [Rows.uptoBulk, AM.bulkW]
theorem bulkAll_eq {H : Type} : ∀ l : List (DataW H), Rows.uptoBulkAll l = AM.bulkAll l
  | [] => by simp [Rows.uptoBulkAll, AM.bulkAll]
  | d :: r => by simp [Rows.uptoBulkAll, AM.bulkAll, bulk_eq d, bulkAll_eq r]
theorem bulkEntries_eq {H : Type} : ∀ l : List (Lit × DataW H), Rows.uptoBulkEntries l = AM.bulkEntries l
  | [] => by simp [Rows.uptoBulkEntries, AM.bulkEntries]
  | x :: r => by simp [Rows.uptoBulkEntries, AM.bulkEntries, bulkEntry_eq x, bulkEntries_eq r]
theorem bulkEntry_eq {H : Type} : ∀ x : Lit × DataW H, Rows.uptoBulkEntry x = AM.bulkEntry x
  | (.string _, d) => by simp [Rows.uptoBulkEntry, AM.bulkEntry, bulk_eq d]
  | (.bool _, d) => by simp [Rows.uptoBulkEntry, AM.bulkEntry, bulk_eq d]
  | (.int _ _, d) => by simp [Rows.uptoBulkEntry, AM.bulkEntry, bulk_eq d]
  | (.float _ _, d) => by simp [Rows.uptoBulkEntry, AM.bulkEntry, bulk_eq d]
  | (.nil, d) => by simp [Rows.uptoBulkEntry, AM.bulkEntry, bulk_eq d]
end

theorem bulk_bound {H : Type} {l : List (DataW H)} (hk : Rows.uptoSmall H l = true) : AM.bulkAll l ≤ 1048576 := by
  rw [← bulkAll_eq]
  exact of_decide_eq_true hk

theorem own : ownKnob Try.prog.godebug = none := by kernel_rfl
theorem laidOut : laidOutB Try.prog = true := by kernel_rfl

end Go.Proofs.Ytgjimkgehbppbaa
end
