/-
The plain functions of the program that the law DeclcheckOneRule reaches, that the program computes them, and what they come to. No condition.
-/
import Derived.Test.YtgjimkgehbppbaaRows
import Derived.Test.YtgjimkgehbppbaaAm1
import Derived.Test.YtgjimkgehbppbaaAm2
import Derived.Test.YtgjimkgehbppbaaDeclcheckOneRuleC1
set_option linter.unusedVariables false
set_option linter.unusedSimpArgs false

section
/-
Ytgjimkgehbppbaa: the laws of one rule, of the order of rules, of an Else in each state, as plain functions, come to true. No condition.
-/
set_option maxRecDepth 100000
open Go Go.AM
namespace Go.Proofs.Ytgjimkgehbppbaa

/-! ### one rule -/
theorem one_walk (d : TDecl) (h : okDecl d) (g : GoodD d) (x : Nat) (hx : x ≤ topV d) : ∀ (c k i : Nat), c = d.2.2.2.length - k → k ≤ d.2.2.2.length → i < d.2.2.2.length → (iter (stepV d.2.2.2 x) c i).isSome = false →
    law35_DeclcheckOneRule_l19 x i k d = some ((true, ()), ()) := by
  have hd := h.1
  intro c
  induction c with
  | zero => intro k i hc hk hi hn; simp [iter] at hn
  | succ c ih =>
    intro k i hc hk hi hn
    have hm : (matchV d.2.2.2 i x).2 = true := by
      have := g.mis i x hi hx
      unfold misP at this
      simpa using this
    obtain ⟨j, hj⟩ := match_found g.check hm
    rw [law35_DeclcheckOneRule_l19_eq, if_pos (dT (by omega)), match_eq d i x h]
    simp only [Option.bind_some]
    rw [hm, if_neg (by simp), find_eq d _ hd, hj]
    simp only [Option.bind_some]
    refine (if_neg (dF (by simp [optI]))).trans ?_
    by_cases ha : (matchV d.2.2.2 i x).1.2.2.2.1 = true
    · rw [ha, if_neg (by simp), w64a k (by omega)]
      have hst : stepV d.2.2.2 x i = some j := by unfold stepV; rw [if_pos hm, if_pos ha]; exact hj
      refine ih (k + 1) j (by omega) (by omega) (findN_lt hj) ?_
      simpa [iter, hst] using hn
    · rw [if_pos (by simpa using ha), awake_b]
      rfl

theorem one_loop (d : TDecl) (h : okDecl d) (g : GoodD d) (x i : Nat) (hx : x ≤ topV d) (hi : i < d.2.2.2.length) : ∀ (rs : List TRule) (k n : Nat), d.2.2.2[i].2.1.drop k = rs → n + rs.countP (hitB x) = d.2.2.2[i].2.1.countP (hitB x) → n ≤ k →
    law35_DeclcheckOneRule_l8 i x n d.2.2.2[i].2.1 k d = some ((true, ()), ()) := by
  obtain ⟨hl, _, _⟩ := h.2 _ (List.getElem_mem hi)
  intro rs
  induction rs with
  | nil =>
    intro k n hk hn hnk
    have := drop_nil hk
    have ha := g.amb i x hi hx
    unfold ambP at ha
    rw [List.getElem?_eq_getElem hi] at ha
    simp only [decide_eq_false_iff_not] at ha
    simp at hn
    have hw : law35_DeclcheckOneRule_l19 x i 0 d = some ((true, ()), ()) := one_walk d h g x hx _ 0 i rfl (Nat.zero_le _) hi (walk_ends hi (g.cyc i x hi hx))
    rw [law35_DeclcheckOneRule_l8_eq, if_neg (dF (by omega)), if_neg (dF (by omega)), hw]
    by_cases h0 : n = 0
    · rw [if_pos (eT (by omega)), if_pos ⟨by omega, by omega⟩, show d.2.2.2.getD (i : Int).toNat dDeclState = d.2.2.2[i] from getD_in _ hi]
      have hm := g.mis i x hi hx
      unfold misP matchV at hm
      rw [if_neg (by omega), show d.2.2.2[(i : Int).toNat]? = some d.2.2.2[i] from List.getElem?_eq_getElem hi] at hm
      simp only at hm
      unfold ruleR at hm
      have hf : d.2.2.2[i].2.1.find? (hitB x) = none := by
        rw [List.find?_eq_none]
        intro r hr hh
        have := List.countP_pos_iff.2 ⟨r, hr, hh⟩
        omega
      rw [hf] at hm
      by_cases he : d.2.2.2[i].2.2.1 = true
      · exact if_neg (by rw [he]; simp)
      · simp [he] at hm
    · exact if_neg (eF (by omega))
  | cons r rs ih =>
    intro k n hk hn hnk
    have h1 := drop_lt hk
    have hr : d.2.2.2[i].2.1.getD (k : Int).toNat dRule = r := getD_drop hk
    have hin : (0 : Int) ≤ k ∧ (k : Int) < (d.2.2.2[i].2.1.length : Int) := ⟨by omega, by omega⟩
    rw [List.countP_cons] at hn
    rw [law35_DeclcheckOneRule_l8_eq, if_pos (dT (by omega)), if_pos hin, hr, w64a k (by omega), w64a n (by omega)]
    by_cases ha : r.1 ≤ (x : Int)
    · rw [if_pos (dT ha), if_pos hin]
      by_cases hb : (x : Int) ≤ r.2.1
      · rw [if_pos (dT hb)]
        rw [hit_iff.2 ⟨ha, hb⟩] at hn
        exact ih (k + 1) (n + 1) (dropS hk) (by simp at hn; omega) (by omega)
      · rw [if_neg (dF hb)]
        rw [show hitB x r = false from Bool.eq_false_iff.2 fun q => hb (hit_iff.1 q).2] at hn
        exact ih (k + 1) n (dropS hk) (by simpa using hn) (by omega)
    · rw [if_neg (dF ha)]
      rw [show hitB x r = false from Bool.eq_false_iff.2 fun q => ha (hit_iff.1 q).1] at hn
      exact ih (k + 1) n (dropS hk) (by simpa using hn) (by omega)

theorem DeclcheckOneRule_true (d : TDecl) (s x : Int) (h : okDecl d) : law35_DeclcheckOneRule d s x = some ((true, ()), ()) := by
  unfold law35_DeclcheckOneRule
  rw [ccheck_eq d h, awake_b]
  simp only [Option.bind_some]
  by_cases h0 : ccheckV d = 0
  · have g := ccheck_zero.1 h0
    refine (if_neg (nF h0)).trans ?_
    by_cases h1 : s < 0
    · exact if_pos (dT h1)
    refine (if_neg (dF h1)).trans ?_
    by_cases h2 : s ≥ (d.2.2.2.length : Int)
    · exact if_pos (dT h2)
    refine (if_neg (dF h2)).trans ?_
    by_cases h3 : x < 0
    · exact if_pos (dT h3)
    refine (if_neg (dF h3)).trans ?_
    by_cases h4 : x > 255
    · exact if_pos (dT h4)
    refine (if_neg (dF h4)).trans ?_
    obtain ⟨i, rfl⟩ : ∃ i : Nat, s = i := ⟨s.toNat, by omega⟩
    obtain ⟨y, rfl⟩ : ∃ y : Nat, x = y := ⟨x.toNat, by omega⟩
    have hi : i < d.2.2.2.length := by omega
    have fin : y ≤ topV d → (if 0 ≤ (i : Int) ∧ (i : Int) < (d.2.2.2.length : Int) then law35_DeclcheckOneRule_l8 i y 0 (d.2.2.2.getD (i : Int).toNat dDeclState).2.1 0 d else none) = some ((true, ()), ()) := by
      intro hy
      rw [if_pos ⟨by omega, by omega⟩, show d.2.2.2.getD (i : Int).toNat dDeclState = d.2.2.2[i] from getD_in _ hi]
      exact one_loop d h g y i hy hi _ 0 0 rfl (by simp) (Nat.le_refl _)
    by_cases h5 : d.2.1 = 2
    · refine (if_pos (eT h5)).trans ?_
      by_cases h6 : (y : Int) > 1
      · exact if_pos (dT h6)
      · refine (if_neg (dF h6)).trans ?_
        exact fin (by unfold topV; rw [if_pos h5]; omega)
    · refine (if_neg (eF h5)).trans ?_
      exact fin (by unfold topV; rw [if_neg h5]; omega)
  · exact if_pos (nT h0)

/-! ### the order of rules -/
theorem order_loop (d : TDecl) (h : okDecl d) (i : Nat) (hi : i < d.2.2.2.length) : ∀ (c k : Nat) (m : List TRule), c = k → k ≤ d.2.2.2[i].2.1.length → m = (d.2.2.2[i].2.1.drop k).reverse →
    law35_DeclcheckOrder_l9 i d.2.2.2[i].2.1 ((k : Int) - 1) d d.2.2.2 m = some ((true, ()), ()) := by
  obtain ⟨hl, hr, he⟩ := h.2 _ (List.getElem_mem hi)
  have hd := h.1
  intro c
  induction c with
  | zero =>
    intro k m hc hk hm
    subst hc
    rw [law35_DeclcheckOrder_l9_eq, if_neg (dF (by omega)), if_pos ⟨by omega, by omega⟩, show d.2.2.2.getD (i : Int).toNat dDeclState = d.2.2.2[i] from getD_in _ hi, ccheck_eq d h]
    simp only [Option.bind_some]
    rw [List.drop_zero] at hm
    subst hm
    have rel : RelSS d.2.2.2 (d.2.2.2.set i (d.2.2.2[i].1, d.2.2.2[i].2.1.reverse, d.2.2.2[i].2.2)) := by
      refine ⟨by simp, fun j s t hs ht => ?_⟩
      by_cases e : i = j
      · subst e
        rw [List.getElem?_set_self hi] at ht
        rw [List.getElem?_eq_getElem hi] at hs
        cases hs
        cases ht
        exact ⟨rfl, .inr rfl, rfl⟩
      · rw [List.getElem?_set_ne e, hs] at ht
        cases ht
        exact ⟨rfl, .inl rfl, rfl⟩
    have ok' : okDecl (d.1, d.2.1, d.2.2.1, d.2.2.2.set i (d.2.2.2[i].1, d.2.2.2[i].2.1.reverse, d.2.2.2[i].2.2)) := by
      refine ⟨by simpa using hd, fun s hs => ?_⟩
      rcases List.mem_or_eq_of_mem_set hs with q | q
      · exact h.2 s q
      · subst q
        exact ⟨by simpa using hl, fun r hr' => hr r (by simpa using hr'), he⟩
    have e1 := ccheck_eq _ ok'
    refine (congrArg (fun z => Option.bind z _) e1).trans ?_
    simp only [Option.bind_some]
    rw [awake_b]
    refine if_pos ?_
    rw [rel_ccheck rel]
    simp
  | succ c ih =>
    intro k m hc hk hm
    subst hc
    have hcl : c < d.2.2.2[i].2.1.length := by omega
    have e0 : (((c + 1 : Nat) : Int) - 1) = (c : Int) := by omega
    have hml : m.length + (c + 1) = d.2.2.2[i].2.1.length := by subst hm; simp; omega
    rw [e0, law35_DeclcheckOrder_l9_eq, if_pos (dT (by omega)), if_pos ⟨by omega, by omega⟩, if_pos ⟨by omega, by omega⟩, w64 (by omega) (by omega), show d.2.2.2[i].2.1.getD (c : Int).toNat dRule = d.2.2.2[i].2.1[c] from getD_in _ hcl]
    refine ih c _ rfl (by omega) ?_
    rw [hm, List.drop_eq_getElem_cons hcl, List.reverse_cons]

theorem DeclcheckOrder_true (d : TDecl) (s : Int) (h : okDecl d) : law35_DeclcheckOrder d s = some ((true, ()), ()) := by
  obtain ⟨b, hb⟩ := few_ex d h
  have hd := h.1
  unfold law35_DeclcheckOrder
  rw [hb, awake_b]
  simp only [Option.bind_some]
  cases b with
  | false => rfl
  | true =>
    refine (if_neg (by simp)).trans ?_
    by_cases h1 : s < 0
    · exact if_pos (dT h1)
    refine (if_neg (dF h1)).trans ?_
    by_cases h2 : s ≥ (d.2.2.2.length : Int)
    · exact if_pos (dT h2)
    refine (if_neg (dF h2)).trans ?_
    obtain ⟨i, rfl⟩ : ∃ i : Nat, s = i := ⟨s.toNat, by omega⟩
    have hi : i < d.2.2.2.length := by omega
    obtain ⟨hl, _, _⟩ := h.2 _ (List.getElem_mem hi)
    rw [if_pos ⟨by omega, by omega⟩, if_pos ⟨by omega, by omega⟩, show d.2.2.2.getD (i : Int).toNat dDeclState = d.2.2.2[i] from getD_in _ hi, if_pos ⟨.inl trivial, by omega, by omega, by omega⟩, w64 (by omega) (by omega)]
    exact order_loop d h i hi _ _ [] rfl (Nat.le_refl _) (by simp)

/-! ### an Else in each state -/
def elseOf (s : TDeclState) (nm : ByteArray) : TDeclState := (s.1, s.2.1, true, 0, 0, nm, false, [])

structure ElseInv (n i : Nat) (l : List TDeclState) : Prop where
  len : l.length = n
  ok : ∀ s ∈ l, okState s
  done : ∀ (j : Nat) (s : TDeclState), j < i → l[j]? = some s → ElseS s

theorem else_end (d : TDecl) (l : List TDeclState) (n : Nat) (hn : n ≤ 1048576) (h0 : 0 < n) (hv : ElseInv n n l) : law35_DeclcheckElse_l7 n d l = some ((true, ()), ()) := by
  have hlen := hv.len
  have hall : ∀ s ∈ l, ElseS s := fun s hs => by
    obtain ⟨j, hj⟩ := List.mem_iff_getElem?.1 hs
    exact hv.done j s (by have := (List.getElem?_eq_some_iff.1 hj).1; omega) hj
  have ok' : okDecl (d.1, d.2.1, d.2.2.1, l) := ⟨by show l.length ≤ _; omega, hv.ok⟩
  have e1 : declcheck_Missing (d.1, d.2.1, d.2.2.1, l) = some ((0, 0, false, ()), ()) := by rw [mis_eq _ ok', else_mis hall]; rfl
  have e2 : declcheck_Cycle (d.1, d.2.1, d.2.2.1, l) = some ((0, 0, false, ()), ()) := by rw [cyc_eq _ ok', else_cyc hall]; rfl
  have e3 : declcheck_Reach (d.1, d.2.1, d.2.2.1, l) = some ((reachV l, ()), ()) := reach_eq _ ok'
  have hrl := reachV_len l
  have hr0 : (reachV l).getD 0 false = true := by
    have := (reachV_get l 0).2 ⟨by omega, .zero (by omega)⟩
    simp [List.getD, this]
  rw [law35_DeclcheckElse_l7_eq, if_neg (dF (by omega)), e1, e2, e3]
  simp only [Option.bind_some]
  refine Eq.trans (if_pos (by simp)) ?_
  refine Eq.trans (if_pos (by simp)) ?_
  refine Eq.trans (if_pos (eT (by omega))) ?_
  refine Eq.trans (if_pos ⟨by omega, by omega⟩) ?_
  refine Eq.trans (if_pos hr0) ?_
  rw [awake_b]
  rfl

theorem else_loop (d : TDecl) (n : Nat) (hn : n ≤ 1048576) (h0 : 0 < n) : ∀ (c i : Nat) (l : List TDeclState), c = n - i → i ≤ n → ElseInv n i l → law35_DeclcheckElse_l7 i d l = some ((true, ()), ()) := by
  intro c
  induction c with
  | zero =>
    intro i l hc hi hv
    have : i = n := by omega
    subst this
    exact else_end d l i hn h0 hv
  | succ c ih =>
    intro i l hc hi hv
    have hlen := hv.len
    have hil : i < l.length := by omega
    have hs := hv.ok _ (List.getElem_mem hil)
    rw [law35_DeclcheckElse_l7_eq, if_pos (dT (by omega))]
    have inner : ∀ (rs : List TRule) (k : Nat), l[i].2.1.drop k = rs → (∀ r ∈ l[i].2.1.take k, r.2.2.2.1 = false) → law35_DeclcheckElse_l13 i k d l = some ((true, ()), ()) := by
      intro rs
      induction rs with
      | nil =>
        intro k hk hf
        have hkl := drop_nil hk
        have hin : (0 : Int) ≤ i ∧ (i : Int) < (l.length : Int) := ⟨by omega, by omega⟩
        rw [law35_DeclcheckElse_l13_eq, if_pos hin, show l.getD (i : Int).toNat dDeclState = l[i] from getD_in _ hil, if_neg (dF (by omega)), if_pos hin, Int.toNat_natCast, if_pos ⟨by omega, by simp; omega⟩, if_pos ⟨by omega, by simp; omega⟩, w64a i (by omega)]
        rw [getD_in (l := l.set i _) _ (by simpa using hil), List.getElem_set_self, List.set_set]
        refine ih (i + 1) _ (by omega) (by omega) ⟨by simpa using hlen, fun s hs' => ?_, fun j s hj hjs => ?_⟩
        · rcases List.mem_or_eq_of_mem_set hs' with q | q
          · exact hv.ok s q
          · subst q
            exact ⟨hs.1, hs.2.1, by unfold okRule; simp⟩
        · by_cases e : i = j
          · subst e
            rw [List.getElem?_set_self hil] at hjs
            cases hjs
            refine ⟨rfl, rfl, fun r hr => hf r ?_⟩
            rw [List.take_of_length_le hkl]
            exact hr
          · rw [List.getElem?_set_ne e] at hjs
            exact hv.done j s (by omega) hjs
      | cons r rs ihr =>
        intro k hk hf
        have h1 := drop_lt hk
        have hr : l[i].2.1.getD (k : Int).toNat dRule = r := getD_drop hk
        have hin : (0 : Int) ≤ i ∧ (i : Int) < (l.length : Int) := ⟨by omega, by omega⟩
        have hsl := hs.1
        rw [law35_DeclcheckElse_l13_eq, if_pos hin, show l.getD (i : Int).toNat dDeclState = l[i] from getD_in _ hil, if_pos (dT (by omega)), if_pos hin, if_pos ⟨by omega, by omega⟩, hr, w64a k (by omega)]
        by_cases ha : r.2.2.2.1 = true
        · rw [if_pos ha, awake_b]; rfl
        · rw [if_neg ha]
          refine ihr (k + 1) (dropS hk) (fun q hq => ?_)
          have e1 : l[i].2.1[k]'h1 = r := by
            rw [List.drop_eq_getElem_cons h1] at hk
            injection hk
          rw [List.take_succ_eq_append_getElem h1, e1] at hq
          rcases List.mem_append.1 hq with hq | hq
          · exact hf q hq
          · simp at hq; subst hq; simpa using ha
    exact inner _ 0 rfl (fun r hr => by simp at hr)

theorem DeclcheckElse_true (d : TDecl) (h : okDecl d) : law35_DeclcheckElse d = some ((true, ()), ()) := by
  obtain ⟨b, hb⟩ := few_ex d h
  have hd := h.1
  unfold law35_DeclcheckElse
  rw [hb, awake_b]
  simp only [Option.bind_some]
  cases b with
  | false => rfl
  | true =>
    refine (if_neg (by simp)).trans ?_
    by_cases h1 : d.2.2.2.length = 0
    · exact if_pos (eT (by omega))
    refine (if_neg (eF (by omega))).trans ?_
    rw [if_pos ⟨by omega, by omega⟩]
    exact else_loop d _ hd (by omega) _ 0 _ rfl (Nat.zero_le _) ⟨rfl, h.2, fun j s hj _ => by omega⟩

end Go.Proofs.Ytgjimkgehbppbaa
end

section
/-
Ytgjimkgehbppbaa: the given measure of what is read is the machine's. No condition.
-/
namespace Go.Proofs.Ytgjimkgehbppbaa
open Go

mutual
theorem bulk_eq {H : Type} : ∀ d : DataW H, Rows.uptoBulk d = AM.bulkW d
  | .lit (.string _) => by simp [Rows.uptoBulk, AM.bulkW]
  | .lit (.bool _) => by simp [Rows.uptoBulk, AM.bulkW]
  | .lit (.int _ _) => by simp [Rows.uptoBulk, AM.bulkW]
  | .lit (.float _ _) => by simp [Rows.uptoBulk, AM.bulkW]
  | .lit .nil => by simp [Rows.uptoBulk, AM.bulkW]
  | .nil => by simp [Rows.uptoBulk, AM.bulkW]
  | .ptr d => by simp [Rows.uptoBulk, AM.bulkW, bulk_eq d]
  | .slice a b => by simp [Rows.uptoBulk, AM.bulkW, bulkAll_eq a, bulkAll_eq b]
  | .agg a => by simp [Rows.uptoBulk, AM.bulkW, bulkAll_eq a]
  | .iface _ d => by simp [Rows.uptoBulk, AM.bulkW, bulk_eq d]
  | .map es => by simp [Rows.uptoBulk, AM.bulkW, bulkEntries_eq es]
  | .held _ => by simp [Rows.uptoBulk, AM.bulkW]
theorem bulkAll_eq {H : Type} : ∀ l : List (DataW H), Rows.uptoBulkAll l = AM.bulkAll l
  | [] => by simp [Rows.uptoBulkAll, AM.bulkAll]
  | d :: r => by simp [Rows.uptoBulkAll, AM.bulkAll, bulk_eq d, bulkAll_eq r]
theorem bulkEntries_eq {H : Type} : ∀ l : List (Lit × DataW H), Rows.uptoBulkEntries l = AM.bulkEntries l
  | [] => by simp [Rows.uptoBulkEntries, AM.bulkEntries]
  | x :: r => by simp [Rows.uptoBulkEntries, AM.bulkEntries, bulkEntry_eq x, bulkEntries_eq r]
theorem bulkEntry_eq {H : Type} : ∀ x : Lit × DataW H, Rows.uptoBulkEntry x = AM.bulkEntry x
  | (.string _, d) => by simp [Rows.uptoBulkEntry, AM.bulkEntry, bulk_eq d]
  | (.bool _, d) => by simp [Rows.uptoBulkEntry, AM.bulkEntry, bulk_eq d]
  | (.int _ _, d) => by simp [Rows.uptoBulkEntry, AM.bulkEntry, bulk_eq d]
  | (.float _ _, d) => by simp [Rows.uptoBulkEntry, AM.bulkEntry, bulk_eq d]
  | (.nil, d) => by simp [Rows.uptoBulkEntry, AM.bulkEntry, bulk_eq d]
end

theorem bulk_bound {H : Type} {l : List (DataW H)} (hk : Rows.uptoSmall H l = true) : AM.bulkAll l ≤ 1048576 := by
  rw [← bulkAll_eq]
  exact of_decide_eq_true hk

theorem own : ownKnob Try.prog.godebug = none := by kernel_rfl
theorem laidOut : laidOutB Try.prog = true := by kernel_rfl

end Go.Proofs.Ytgjimkgehbppbaa
end
