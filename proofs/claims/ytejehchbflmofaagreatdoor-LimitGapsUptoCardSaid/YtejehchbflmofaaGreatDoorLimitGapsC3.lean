/-
The plain functions of the program that the law LimitGaps reaches, that the program computes them, and what they come to. No condition.
-/
import Derived.Test.YtejehchbflmofaaGreatDoorAm1
import Derived.Test.YtejehchbflmofaaGreatDoorAm2
import Derived.Test.YtejehchbflmofaaGreatDoorAm3
import Derived.Test.YtejehchbflmofaaGreatDoorLimitGapsC1
import Derived.Test.YtejehchbflmofaaGreatDoorLimitGapsC2
set_option linter.unusedVariables false
set_option linter.unusedSimpArgs false
set_option linter.unusedSectionVars false

section
/-
YtejehchbflmofaaGreatDoor: the text of tokens, as plain functions, comes to what the plain law says. No condition.
-/
set_option maxRecDepth 100000
set_option linter.unusedVariables false
open Go Go.AM
namespace Go.Proofs.YtejehchbflmofaaGreatDoor

theorem strB_L (s : ByteArray) : strB (L s) = s := L_inj (L_strB _)
theorem strB_app (a b : List UInt8) : strB a ++ strB b = strB (a ++ b) := L_inj (by rw [L_app]; rfl)
theorem beq_dec (x y : Int) : (x == y) = decide (x = y) := by rw [Bool.eq_iff_iff]; simp
theorem bytesOf_strB (l : List UInt8) : bytesOfStr (strB l) = bI l := rfl

theorem itoa_b (n : Int) (h : -9223372036854775808 ≤ n ∧ n ≤ 9223372036854775807) : strconv_Itoa n = some ((strB (Lib.itoa n), ()), ()) := by
  unfold strconv_Itoa itoaG
  rw [if_pos h]
  rfl

theorem lex_form_b (t : TToken) (hs : t.2.1.size ≤ 1048576) (hv : -9223372036854775808 ≤ t.2.2.1 ∧ t.2.2.1 ≤ 9223372036854775807) : ∃ s, lex_form t = some ((s, formOk t, ()), ()) ∧ (formOk t = true → s = strB (formB t)) := by
  unfold lex_form formOk formB
  by_cases h1 : t.1 = 1
  · have e2 : ¬ t.1 = 2 := by omega
    have e3 : ¬ t.1 = 3 := by omega
    rw [if_pos (eT h1), if_pos h1, if_neg e2, if_neg e3, lex_Name_b, beq_dec]
    simp only [Option.bind_some]
    refine ⟨t.2.1, ?_, fun _ => (strB_L _).symm⟩
    cases nameB (L t.2.1) <;> simp
  rw [if_neg (eF h1), if_neg h1]
  by_cases h2 : t.1 = 2
  · rw [if_pos (eT h2), if_pos h2, if_pos h2, lex_Number_b _ (by omega), itoa_b _ hv]
    simp only [Option.bind_some, beq_dec]
    refine ⟨strB (Lib.itoa t.2.2.1), ?_, fun _ => rfl⟩
    by_cases he : (numV (L t.2.1)).2 = 0
    · rw [if_pos (by simpa using he)]; simp [he]
    · rw [if_neg (by simpa using he)]; simp [he]
  rw [if_neg (eF h2), if_neg h2, if_neg h2]
  by_cases h3 : t.1 = 3
  · rw [if_pos (eT h3), if_pos h3, if_pos h3, lex_Quote_b _ (by omega), beq_dec]
    simp only [Option.bind_some]
    exact ⟨_, rfl, fun _ => rfl⟩
  rw [if_neg (eF h3), if_neg h3, if_neg h3]
  by_cases h4 : t.1 = 4
  · rw [if_pos (eT h4), if_pos h4]
    refine ⟨t.2.1, ?_, fun _ => (strB_L _).symm⟩
    by_cases hz : (t.2.1.size : Int) = 1
    · rw [if_pos (eT hz), if_pos ⟨by omega, by omega⟩]
      have hl : (L t.2.1).length = 1 := by rw [L_len]; omega
      obtain ⟨c, hc⟩ : ∃ c, L t.2.1 = [c] := by
        match L t.2.1, hl with
        | [c], _ => exact ⟨c, rfl⟩
      rw [bt_at (i := 0) (c := c) (r := []) (by rw [hc]; rfl) 0 rfl, w32c, lex_mark_b, hc, beq_dec]
      simp only [Option.bind_some, markL]
      cases markB c <;> simp
    · rw [if_neg (eF hz)]
      have hm : markL (L t.2.1) = false := by
        have hl : (L t.2.1).length ≠ 1 := by rw [L_len]; omega
        match L t.2.1, hl with
        | [], _ => rfl
        | [c], hl => exact absurd rfl hl
        | _ :: _ :: _, _ => rfl
      rw [hm]
      simp
  rw [if_neg (eF h4), if_neg h4]
  exact ⟨strB [], rfl, fun h => by cases h⟩

theorem ref05_Right_b (t : TToken) (hs : t.2.1.size ≤ 1048576) : ref05_Right t = some ((formOk t, ()), ()) := by
  unfold ref05_Right formOk
  by_cases h2 : t.1 = 2
  · rw [if_pos (eT h2), if_neg (show ¬ t.1 = 1 by omega), if_pos h2, ref05_Number_b _ (by omega)]
    simp only [Option.bind_some, beq_dec]
    by_cases he : (numV (L t.2.1)).2 = 0
    · rw [if_pos (by simpa using he)]; simp [he]
    · rw [if_neg (by simpa using he)]; simp [he]
  rw [if_neg (eF h2), if_neg h2]
  by_cases hz : t.2.2.1 = 0
  · rw [if_neg (nF hz)]
    by_cases h1 : t.1 = 1
    · rw [if_pos (eT h1), if_pos h1, ref05_Name_b]
      simp [hz]
    rw [if_neg (eF h1), if_neg h1]
    by_cases h4 : t.1 = 4
    · rw [if_pos (eT h4), if_neg (show ¬ t.1 = 3 by omega), if_pos h4]
      by_cases hy : (t.2.1.size : Int) = 1
      · rw [if_pos (eT hy), if_pos ⟨by omega, by omega⟩]
        have hl : (L t.2.1).length = 1 := by rw [L_len]; omega
        obtain ⟨c, hc⟩ : ∃ c, L t.2.1 = [c] := by
          match L t.2.1, hl with
          | [c], _ => exact ⟨c, rfl⟩
        rw [bt_at (i := 0) (c := c) (r := []) (by rw [hc]; rfl) 0 rfl, ref05_Mark_b, hc]
        simp [hz, markL]
      · rw [if_neg (eF hy)]
        have hm : markL (L t.2.1) = false := by
          have hl : (L t.2.1).length ≠ 1 := by rw [L_len]; omega
          match L t.2.1, hl with
          | [], _ => rfl
          | [c], hl => exact absurd rfl hl
          | _ :: _ :: _, _ => rfl
        rw [hm]
        rfl
    · rw [if_neg (eF h4), if_neg h4, beq_dec]
      by_cases h3 : t.1 = 3
      · rw [if_pos h3, decide_eq_true h3, decide_eq_true hz]
      · rw [if_neg h3, decide_eq_false h3]
  · rw [if_pos (nT hz), decide_eq_false hz]
    simp

theorem digit_b : ∀ d : Nat, d < 10 → (strB [48, 49, 50, 51, 52, 53, 54, 55, 56, 57]).extract d (d + 1) = strB [UInt8.ofNat (48 + d)]
  | 0, _ => by kernel_rfl
  | 1, _ => by kernel_rfl
  | 2, _ => by kernel_rfl
  | 3, _ => by kernel_rfl
  | 4, _ => by kernel_rfl
  | 5, _ => by kernel_rfl
  | 6, _ => by kernel_rfl
  | 7, _ => by kernel_rfl
  | 8, _ => by kernel_rfl
  | 9, _ => by kernel_rfl
  | n + 10, h => by omega

theorem decimal_step (n : Int) (d : Nat) (hd : d < 10) (rest : Int) (o : List UInt8) (ho : o.length ≤ 1000) (hr : -9223372036854775808 ≤ rest.tdiv 10 ∧ rest.tdiv 10 ≤ 9223372036854775807) :
    ref05_Decimal_l12 n (strB [48, 49, 50, 51, 52, 53, 54, 55, 56, 57]) rest (strB o) d = ref05_Decimal_l8 n (strB [48, 49, 50, 51, 52, 53, 54, 55, 56, 57]) (rest.tdiv 10) (strB (UInt8.ofNat (48 + d) :: o)) := by
  rw [ref05_Decimal_l12_eq, w64a d (by omega)]
  have h10 : (((strB [48, 49, 50, 51, 52, 53, 54, 55, 56, 57]).size : Nat) : Int) = 10 := rfl
  rw [if_pos ⟨by omega, by omega, by rw [h10]; omega⟩, Int.toNat_natCast, Int.toNat_natCast, digit_b d hd, if_pos (by rw [strB_size, strB_size]; simp only [List.length_cons, List.length_nil]; omega), w64 hr.1 hr.2, strB_app]
  rfl

theorem decimal_loop (n : Int) (neg : Bool) : ∀ (k u : Nat) (o : List UInt8), u ≤ k → 0 < u → u ≤ 9007199254740992 → o.length + (Lib.decDigits u).length ≤ 500 →
    ref05_Decimal_l8 n (strB [48, 49, 50, 51, 52, 53, 54, 55, 56, 57]) (if neg = true then -(u : Int) else u) (strB o) = ref05_Decimal_l8 n (strB [48, 49, 50, 51, 52, 53, 54, 55, 56, 57]) 0 (strB (Lib.decDigits u ++ o)) := by
  intro k
  induction k with
  | zero => intro u o hk h0; omega
  | succ k ih =>
    intro u o hk h0 hu ho
    have key : ref05_Decimal_l8 n (strB [48, 49, 50, 51, 52, 53, 54, 55, 56, 57]) (if neg = true then -(u : Int) else u) (strB o) =
        ref05_Decimal_l8 n (strB [48, 49, 50, 51, 52, 53, 54, 55, 56, 57]) (if neg = true then -((u / 10 : Nat) : Int) else ((u / 10 : Nat) : Int)) (strB (UInt8.ofNat (48 + u % 10) :: o)) := by
      have hm : u % 10 < 10 := Nat.mod_lt _ (by omega)
      have hq : u / 10 ≤ u := Nat.div_le_self _ _
      have t1 : ((u : Nat) : Int).tmod 10 = ((u % 10 : Nat) : Int) := rfl
      have t2 : ((u : Nat) : Int).tdiv 10 = ((u / 10 : Nat) : Int) := rfl
      rw [ref05_Decimal_l8_eq]
      cases neg with
      | false =>
        rw [if_neg (show ¬ false = true by simp), if_neg (show ¬ false = true by simp), if_pos (nT (by omega)), t1, if_neg (dF (by omega)), decimal_step n (u % 10) hm u o (by omega) (by rw [t2]; omega), t2]
      | true =>
        rw [if_pos rfl, if_pos rfl, if_pos (nT (by omega)), Int.neg_tmod, t1]
        have hs := decimal_step n (u % 10) hm (-(u : Int)) o (by omega) (by rw [Int.neg_tdiv, t2]; omega)
        rw [Int.neg_tdiv, t2] at hs
        rw [show (0 : Int) - -((u % 10 : Nat) : Int) = ((u % 10 : Nat) : Int) by omega, w64 (x := ((u % 10 : Nat) : Int)) (by omega) (by omega)]
        by_cases hz : u % 10 = 0
        · rw [if_neg (dF (by omega)), show -((u % 10 : Nat) : Int) = ((u % 10 : Nat) : Int) by omega]
          exact hs
        · rw [if_pos (dT (by omega))]
          exact hs
    rw [key]
    by_cases h10 : u < 10
    · have e0 : u / 10 = 0 := by omega
      have em : u % 10 = u := by omega
      rw [e0, em, Lib.decDigits, dif_pos h10]
      cases neg <;> rfl
    · have e : Lib.decDigits u = Lib.decDigits (u / 10) ++ [UInt8.ofNat (48 + u % 10)] := by rw [Lib.decDigits, dif_neg h10]
      rw [e, List.length_append] at ho
      simp only [List.length_cons, List.length_nil] at ho
      rw [ih (u / 10) _ (by omega) (by omega) (by omega) (by simp only [List.length_cons]; omega), e]
      simp [List.append_assoc]

theorem decimal_b (v : Int) (h1 : -9007199254740992 ≤ v) (h2 : v ≤ 9007199254740992) : ref05_Decimal v = some ((strB (Lib.itoa v), ()), ()) := by
  unfold ref05_Decimal
  by_cases h0 : v = 0
  · subst h0
    rw [if_pos (by decide)]
    have : Lib.itoa 0 = [48] := by
      unfold Lib.itoa
      rw [if_neg (by decide), Lib.decDigits, dif_pos (by decide)]
      rfl
    rw [this]
  · rw [if_neg (eF h0)]
    by_cases hn : v < 0
    · have hl := decDigits_len 15 v.natAbs (by show _ < 10000000000000000; omega)
      have hd := decimal_loop v true v.natAbs v.natAbs [] (Nat.le_refl _) (by omega) (by omega) (by simp only [List.length_nil]; omega)
      rw [if_pos rfl, show -((v.natAbs : Nat) : Int) = v by omega, List.append_nil] at hd
      rw [hd, ref05_Decimal_l8_eq, if_neg (by decide), if_pos (dT hn), if_pos (by rw [strB_size, strB_size]; simp only [List.length_cons, List.length_nil]; omega), strB_app]
      unfold Lib.itoa
      rw [if_pos hn]
      rfl
    · have hl := decDigits_len 15 v.toNat (by show _ < 10000000000000000; omega)
      have hd := decimal_loop v false v.toNat v.toNat [] (Nat.le_refl _) (by omega) (by omega) (by simp only [List.length_nil]; omega)
      rw [if_neg (by simp), show ((v.toNat : Nat) : Int) = v by omega, List.append_nil] at hd
      rw [hd, ref05_Decimal_l8_eq, if_neg (by decide), if_neg (dF hn)]
      unfold Lib.itoa
      rw [if_neg hn]

theorem ref05_written_b (t : TToken) (hs : t.2.1.size ≤ 1048576) (h : formOk t = true) : ref05_written t = some ((strB (formB t), ()), ()) := by
  unfold ref05_written formB
  by_cases h2 : t.1 = 2
  · have hr : -9007199254740992 ≤ t.2.2.1 ∧ t.2.2.1 ≤ 9007199254740992 := by
      unfold formOk at h
      rw [if_neg (by omega), if_pos h2] at h
      simp only [Bool.and_eq_true, decide_eq_true_eq] at h
      rw [← h.2]
      exact numV_ok h.1
    rw [if_pos (eT h2), if_pos h2, decimal_b _ hr.1 hr.2]
    rfl
  rw [if_neg (eF h2), if_neg h2]
  by_cases h3 : t.1 = 3
  · rw [if_pos (eT h3), if_pos h3, ref05_Quote_b _ (by omega)]
    rfl
  · rw [if_neg (eF h3), if_neg h3, strB_L]

def okTok (t : TToken) : Prop := t.2.1.size ≤ 1048576 ∧ -9223372036854775808 ≤ t.2.2.1 ∧ t.2.2.1 ≤ 9223372036854775807

theorem len_b (l : List Int) : strings_Builder_Len l = some (((l.length : Int), ()), (((), (), ()), (), l, ())) := rfl

theorem lex_Text_loop (l : List TToken) (hl : l.length ≤ 1048576) (ho : ∀ t ∈ l, okTok t) : ∀ (r : List TToken) (n : Nat) (acc : List UInt8), l.drop n = r → acc.length + (r.map wt).sum ≤ 1073741824 →
    lex_Text_l4 l (l.length : Int) n (bI acc) = some (if r.all formOk = true then (if 1048576 < (acc ++ joinB (decide (n = 0)) r).length then (strB [], 6, ()) else (strB (acc ++ joinB (decide (n = 0)) r), 0, ())) else (strB [], 1, ()), ())
  | [], n, acc, h, ha => by
    have h1 := drop_nil h
    have hj : ∀ b, joinB b [] = [] := fun b => by cases b <;> rfl
    rw [lex_Text_l4_eq, if_neg (dF (by omega)), len_b, hj, List.append_nil]
    simp only [Option.bind_some, List.all_nil, if_true]
    by_cases hx : 1048576 < acc.length
    · rw [if_pos (dT (by rw [bI_len]; omega)), if_pos hx]
    · rw [if_neg (dF (by rw [bI_len]; omega)), if_neg hx, string_b]
      rfl
  | t :: r, n, acc, h, ha => by
    have h1 := drop_lt h
    have hg : l.getD (n : Int).toNat dToken = t := getD_drop h
    have ht := ho t (mem_drop h)
    obtain ⟨s, e1, e2⟩ := lex_form_b t ht.1 ht.2
    simp only [List.map_cons, List.sum_cons] at ha
    rw [lex_Text_l4_eq, if_pos (dT (by omega)), if_pos ⟨by omega, by omega⟩, hg, e1, w64a n (by omega)]
    simp only [Option.bind_some]
    by_cases hf : formOk t = true
    · have hs := e2 hf
      have hlen := formB_len hf
      subst hs
      refine (if_neg (by simp [hf])).trans ?_
      rw [show (t :: r).all formOk = r.all formOk by simp [hf]]
      have ih : ∀ p : List UInt8, p.length ≤ wt t → lex_Text_l4 l (l.length : Int) (n + 1 : Nat) (bI acc ++ bI p) = some (if r.all formOk = true then (if 1048576 < (acc ++ (p ++ joinB false r)).length then (strB [], 6, ()) else (strB (acc ++ (p ++ joinB false r)), 0, ())) else (strB [], 1, ()), ()) := fun p hp => by
        rw [bI_app, ← List.append_assoc]
        exact lex_Text_loop l hl ho r (n + 1) (acc ++ p) (dropS h) (by rw [List.length_append]; omega)
      by_cases hn : n = 0
      · subst hn
        rw [if_neg (dF (by omega)), writeString_b _ _ (by rw [bI_len, strB_size]; omega)]
        simp only [Option.bind_some]
        rw [bytesOf_strB]
        exact ih (formB t) (by omega)
      · rw [if_pos (dT (by omega)), writeByte_b _ _ (by rw [bI_len]; omega)]
        simp only [Option.bind_some]
        rw [writeString_b _ _ (by rw [List.length_append, bI_len, strB_size]; simp only [List.length_cons, List.length_nil]; omega)]
        simp only [Option.bind_some]
        rw [bytesOf_strB]
        have := ih (32 :: formB t) (by simp only [List.length_cons]; omega)
        rw [show bI (32 :: formB t) = [(32 : Int)] ++ bI (formB t) from rfl, ← List.append_assoc] at this
        rw [show joinB (decide (n = 0)) (t :: r) = 32 :: formB t ++ joinB false r by rw [decide_eq_false hn]; rfl]
        exact this
    · refine (if_pos (by simpa using hf)).trans ?_
      rw [show (t :: r).all formOk = false by simp [hf]]
      simp

theorem lex_Text_b (l : List TToken) (hl : l.length ≤ 1048576) (ho : ∀ t ∈ l, okTok t) (hw : (l.map wt).sum ≤ 1073741824) : lex_Text l = some ((strB (textV l).1, (textV l).2, ()), ()) := by
  unfold lex_Text textV
  refine (lex_Text_loop l hl ho l 0 [] rfl (by simpa using hw)).trans ?_
  simp only [List.nil_append, decide_true]
  split
  · split <;> rfl
  · rfl

theorem ref05_Text_l3_b (l : List TToken) (hl : l.length ≤ 1048576) (ho : ∀ t ∈ l, okTok t) : ∀ (r : List TToken) (n : Nat), l.drop n = r → ref05_Text_l3 l n = if r.all formOk = true then ref05_Text_l12 l 0 [] else some ((strB [], 1, ()), ())
  | [], n, h => by
    have h1 := drop_nil h
    rw [ref05_Text_l3_eq, if_neg (dF (by omega))]
    rfl
  | t :: r, n, h => by
    have h1 := drop_lt h
    have hg : l.getD (n : Int).toNat dToken = t := getD_drop h
    have ht := ho t (mem_drop h)
    rw [ref05_Text_l3_eq, if_pos (dT (by omega)), if_pos ⟨by omega, by omega⟩, hg, ref05_Right_b t ht.1, w64a n (by omega), ref05_Text_l3_b l hl ho r (n + 1) (dropS h)]
    simp only [Option.bind_some]
    by_cases hf : formOk t = true
    · rw [if_neg (by simp [hf]), show (t :: r).all formOk = r.all formOk by simp [hf]]
    · rw [if_pos (by simpa using hf), show (t :: r).all formOk = false by simp [hf]]
      rfl

theorem ref05_Text_l12_b (l : List TToken) (hl : l.length ≤ 1048576) (ho : ∀ t ∈ l, okTok t) : ∀ (r : List TToken) (n : Nat) (acc : List UInt8), l.drop n = r → r.all formOk = true → acc.length ≤ 1048576 →
    ref05_Text_l12 l n (bI acc) = some (if 1048576 < (acc ++ joinB (decide (n = 0)) r).length then (strB [], 6, ()) else (strB (acc ++ joinB (decide (n = 0)) r), 0, ()), ())
  | [], n, acc, h, hf, ha => by
    have h1 := drop_nil h
    have hj : ∀ b, joinB b [] = [] := fun b => by cases b <;> rfl
    rw [ref05_Text_l12_eq, if_neg (dF (by omega)), hj, List.append_nil, if_neg (by omega), strOf_bI]
  | t :: r, n, acc, h, hf, ha => by
    have h1 := drop_lt h
    have hg : l.getD (n : Int).toNat dToken = t := getD_drop h
    have ht := ho t (mem_drop h)
    simp only [List.all_cons, Bool.and_eq_true] at hf
    have hlen := formB_len hf.1
    have hwt : wt t ≤ 4194368 := by have := ht.1; unfold wt; omega
    have step : ∀ q : List UInt8, q.length ≤ 1048577 → ref05_Text_l16 l n (bI q) = some (if 1048576 < (q ++ (formB t ++ joinB false r)).length then (strB [], 6, ()) else (strB (q ++ (formB t ++ joinB false r)), 0, ()), ()) := by
      intro q hq
      rw [ref05_Text_l16_eq, if_pos ⟨by omega, by omega⟩, hg, ref05_written_b t ht.1 hf.1]
      simp only [Option.bind_some]
      rw [bytesOf_strB, bI_app, if_pos ⟨by rw [bI_len, bI_len]; omega, by decide⟩, w64a n (by omega)]
      by_cases hx : 1048576 < (q ++ formB t).length
      · rw [if_pos (dT (by rw [bI_len]; omega)), if_pos (by rw [← List.append_assoc, List.length_append]; omega)]
      · rw [if_neg (dF (by rw [bI_len]; omega)), ref05_Text_l12_b l hl ho r (n + 1) (q ++ formB t) (dropS h) hf.2 (by omega)]
        rw [show decide (n + 1 = 0) = false from rfl, List.append_assoc]
    rw [ref05_Text_l12_eq, if_pos (dT (by omega))]
    by_cases hn : n = 0
    · subst hn
      rw [if_neg (dF (by omega)), step acc (by omega)]
      rfl
    · rw [if_pos (dT (by omega)), if_pos ⟨by rw [bI_len]; omega, by decide⟩, show bI acc ++ [32] = bI (acc ++ [32]) from bI_snoc acc 32, step (acc ++ [32]) (by rw [List.length_append]; simp only [List.length_cons, List.length_nil]; omega)]
      simp [hn, joinB, List.append_assoc]

theorem ref05_Text_b (l : List TToken) (hl : l.length ≤ 1048576) (ho : ∀ t ∈ l, okTok t) : ref05_Text l = some ((strB (textV l).1, (textV l).2, ()), ()) := by
  unfold ref05_Text textV
  refine (ref05_Text_l3_b l hl ho l 0 rfl).trans ?_
  split
  · rename_i hf
    refine (ref05_Text_l12_b l hl ho l 0 [] rfl hf (by simp)).trans ?_
    simp only [List.nil_append, decide_true]
    split <;> rfl
  · rfl

/-! ### what is read is small -/
abbrev kTok : U := .cons (.int .i64) (.cons .str (.cons (.int .i64) (.int .i64)))

theorem toks_small (l : List TToken) (hb : bk (.sl kTok) l ≤ 1048576) : l.length ≤ 1048576 ∧ (l.map wt).sum ≤ 67108864 ∧ ∀ t ∈ l, t.2.1.size ≤ 1048576 := by
  have e1 : bk (.sl kTok) l = (l.map (bk kTok)).sum + 1 := rfl
  rw [e1] at hb
  have h1 := len_le_bk (e := kTok) (fun x => by simp only [bk]; omega) l
  refine ⟨by omega, ?_, fun t ht => ?_⟩
  · have key : ∀ m : List TToken, (m.map wt).sum ≤ 64 * (m.map (bk kTok)).sum := by
      intro m
      induction m with
      | nil => simp
      | cons t m ih =>
        have e2 : bk kTok t = 1 + ((t.2.1.size + 1) + (1 + 1)) := rfl
        simp only [List.map_cons, List.sum_cons]
        rw [e2]
        unfold wt at ih ⊢
        omega
    have := key l
    omega
  · have h2 := mem_le_bk (e := kTok) ht
    have e2 : bk kTok t = 1 + ((t.2.1.size + 1) + (1 + 1)) := rfl
    omega

theorem toks_ok (l : List TToken) (hw : Wf (.sl kTok) l) (hb : bk (.sl kTok) l ≤ 1048576) : ∀ t ∈ l, okTok t := by
  intro t ht
  have h1 := (toks_small l hb).2.2 t ht
  have h2 : Wf kTok t := hw.2 t ht
  have h3 : IntKind.i64.min ≤ t.2.2.1 ∧ t.2.2.1 ≤ IntKind.i64.max := h2.2.2.1
  exact ⟨h1, h3.1, h3.2⟩

end Go.Proofs.YtejehchbflmofaaGreatDoor
end

section
/-
YtejehchbflmofaaGreatDoor: checks of captures and limits, as plain functions, come to the plain law. No condition.
-/
set_option maxRecDepth 100000
set_option linter.unusedVariables false
open Go Go.AM
namespace Go.Proofs.YtejehchbflmofaaGreatDoor

theorem takeS {α : Type} {l : List α} {k : Nat} {b : α} {r : List α} (h : l.drop k = b :: r) : l.take (k + 1) = l.take k ++ [b] := by
  have h1 := drop_lt h
  rw [List.take_add_one, List.getElem?_eq_getElem h1]
  have : l[k] = b := by
    have := List.drop_eq_getElem_cons h1
    rw [h] at this
    exact (List.cons.inj this).1.symm
  rw [this]
  rfl

/-! ### limits -/
theorem clocked_b (x : TLimit) : limit_clocked x = some ((clkB x.1, ()), ()) := by
  unfold limit_clocked clkB
  by_cases h4 : x.1 = 4
  · rw [if_pos (eT h4), decide_eq_true (by omega)]
  rw [if_neg (eF h4)]
  by_cases h5 : x.1 = 5
  · rw [if_pos (eT h5), decide_eq_true (by omega)]
  rw [if_neg (eF h5)]
  by_cases h6 : x.1 = 6
  · rw [eT h6, decide_eq_true (by omega)]
  · rw [show (x.1 == 6) = false from beq_eq_false_iff_ne.2 h6, decide_eq_false (by omega)]

theorem rclocked_b (x : TLimit) : ref49_clocked x = some ((clkB x.1, ()), ()) := by
  unfold ref49_clocked clkB
  by_cases h4 : x.1 ≥ 4
  · rw [if_pos (dT h4)]
    by_cases h6 : x.1 ≤ 6
    · rw [decide_eq_true h6, decide_eq_true (by omega)]
    · rw [decide_eq_false h6, decide_eq_false (by omega)]
  · rw [if_neg (dF h4), decide_eq_false (by omega)]

theorem form_b (x : TLimit) : limit_form x = some ((formE x, ()), ()) := by
  unfold limit_form formE
  rw [clocked_b]
  simp only [Option.bind_some]
  by_cases h1 : x.1 < 1
  · rw [if_pos (dT h1), if_neg (by omega)]
  rw [if_neg (dF h1)]
  by_cases h2 : x.1 > 6
  · rw [if_pos (dT h2), if_neg (by omega)]
  rw [if_neg (dF h2)]
  by_cases h3 : x.2.2.2.2.1 < 0
  · rw [if_pos (dT h3), if_neg (by omega)]
  rw [if_neg (dF h3)]
  by_cases h4 : x.2.2.2.2.1 > x.2.2.2.2.2
  · rw [if_pos (dT h4), if_neg (by omega)]
  rw [if_neg (dF h4)]
  by_cases h5 : x.2.2.2.2.2 > 1099511627776
  · rw [if_pos (dT h5), if_neg (by omega)]
  have hok : (1 ≤ x.1 ∧ x.1 ≤ 6) ∧ (0 ≤ x.2.2.2.2.1 ∧ x.2.2.2.2.1 ≤ x.2.2.2.2.2 ∧ x.2.2.2.2.2 ≤ 1099511627776) := by omega
  rw [if_neg (dF h5), if_pos hok]
  cases hc : clkB x.1 with
  | true => rfl
  | false =>
    refine (if_pos (by simp)).trans ?_
    by_cases he : x.2.2.1 = strB []
    · rw [if_neg (by rw [he]; simp)]
      cases hr : x.2.2.2.1 with
      | true => rw [if_pos rfl, if_neg (by simp)]
      | false => rw [if_neg (by simp), if_pos (.inr ⟨he, rfl⟩)]
    · have hq : (x.2.2.1.toList == (strB []).toList) = false := by
        rw [beq_eq_false_iff_ne]
        intro q
        exact he (by rw [toL, toL] at q; exact L_inj q)
      rw [if_pos (by rw [hq]; rfl), if_neg (fun q => by rcases q with q | q; exact absurd q (by simp); exact he q.1)]

theorem rbad_b (x : TLimit) : ref49_bad x = some ((!decide (formE x = 0), ()), ()) := by
  unfold ref49_bad formE
  rw [rclocked_b]
  simp only [Option.bind_some]
  by_cases h1 : x.1 < 1
  · rw [if_pos (dT h1), if_neg (by omega)]; rfl
  rw [if_neg (dF h1)]
  by_cases h2 : x.1 > 6
  · rw [if_pos (dT h2), if_neg (by omega)]; rfl
  rw [if_neg (dF h2)]
  by_cases h3 : x.2.2.2.2.1 < 0
  · rw [if_pos (dT h3), if_neg (by omega)]; rfl
  rw [if_neg (dF h3)]
  by_cases h4 : x.2.2.2.2.1 > x.2.2.2.2.2
  · rw [if_pos (dT h4), if_neg (by omega)]; rfl
  rw [if_neg (dF h4)]
  by_cases h5 : x.2.2.2.2.2 > 1099511627776
  · rw [if_pos (dT h5), if_neg (by omega)]; rfl
  have hok : (1 ≤ x.1 ∧ x.1 ≤ 6) ∧ (0 ≤ x.2.2.2.2.1 ∧ x.2.2.2.2.1 ≤ x.2.2.2.2.2 ∧ x.2.2.2.2.2 ≤ 1099511627776) := by omega
  rw [if_neg (dF h5), if_pos hok]
  cases hc : clkB x.1 with
  | true => rfl
  | false =>
    refine (if_pos (by simp)).trans ?_
    by_cases he : x.2.2.1 = strB []
    · rw [if_neg (by rw [he]; simp)]
      cases hr : x.2.2.2.1 with
      | true => rw [if_neg (by simp)]; rfl
      | false => rw [if_pos (.inr ⟨he, rfl⟩)]; rfl
    · have hq : (x.2.2.1.toList == (strB []).toList) = false := by
        rw [beq_eq_false_iff_ne]
        intro q
        exact he (by rw [toL, toL] at q; exact L_inj q)
      rw [if_pos (by rw [hq]; rfl), if_neg (fun q => by rcases q with q | q; exact absurd q (by simp); exact he q.1)]
      rfl

/-! ### names of captures -/
theorem index_loop (l : List ByteArray) (hl : l.length ≤ 1048577) (v : ByteArray) : ∀ (r : List ByteArray) (k : Nat), l.drop k = r → k ≤ l.length → slices_Index_string_string_l3 l v (l.length : Int) k = some ((optI ((r.findIdx? fun b => L b == L v).map (· + k)), ()), ())
  | [], k, h, hk => by
    have h1 := drop_nil h
    rw [slices_Index_string_string_l3_eq, if_neg (dF (by omega))]
    rfl
  | b :: r, k, h, hk => by
    have h1 := drop_lt h
    have hg : l.getD (k : Int).toNat (strB []) = b := getD_drop h
    rw [slices_Index_string_string_l3_eq, if_pos (dT (by omega)), if_pos ⟨by omega, by omega⟩, hg, w64a k (by omega), List.findIdx?_cons, toL, toL]
    by_cases he : L v = L b
    · rw [if_pos (by simpa using he), he]
      simp [optI]
    · rw [if_neg (by simpa using he), index_loop l hl v r (k + 1) (dropS h) (by omega), show (L b == L v) = false from beq_eq_false_iff_ne.2 fun q => he q.symm]
      simp only [Option.map_map, Bool.false_eq_true, if_false]
      congr 4
      cases r.findIdx? (fun b => L b == L v) with
      | none => rfl
      | some i => simp; omega

theorem index_b (l : List ByteArray) (hl : l.length ≤ 1048577) (v : ByteArray) : slices_Index_string_string l v = some ((optI (l.findIdx? fun b => L b == L v), ()), ()) := by
  unfold slices_Index_string_string
  have := index_loop l hl v l 0 rfl (by omega)
  simpa using this

theorem contains_b (l : List ByteArray) (hl : l.length ≤ 1048577) (v : ByteArray) : slices_Contains_string_string l v = some ((hasB l v, ()), ()) := by
  unfold slices_Contains_string_string hasB
  rw [index_b l hl]
  simp only [Option.bind_some]
  cases h : l.findIdx? (fun b => L b == L v) with
  | none =>
    have : l.any (fun b => L b == L v) = false := by
      rw [List.any_eq_false]
      intro b hb
      have := List.findIdx?_eq_none_iff.1 h b hb
      simpa using this
    rw [this]
    rfl
  | some i =>
    have : l.any (fun b => L b == L v) = true := by
      obtain ⟨hi, hp, _⟩ := List.findIdx?_eq_some_iff_getElem.1 h
      exact List.any_eq_true.2 ⟨_, List.getElem_mem hi, hp⟩
    rw [this]
    show some ((decide ((i : Int) ≥ 0), ()), ()) = _
    rw [decide_eq_true (by omega)]

theorem names15 (l : List ByteArray) (hl : l.length ≤ 1048577) : ∀ (r : List ByteArray) (k : Nat), l.drop k = r → capture_checkNames_l15 l l (l.length : Int) k = some ((if dupB (l.take k) r = true then 9 else 0, ()), ())
  | [], k, h => by
    have h1 := drop_nil h
    rw [capture_checkNames_l15_eq, if_neg (dF (by omega))]
    rfl
  | b :: r, k, h => by
    have h1 := drop_lt h
    have hg : l.getD (k : Int).toNat (strB []) = b := getD_drop h
    have ht : l.take (k + 1) = l.take k ++ [b] := takeS h
    rw [capture_checkNames_l15_eq, if_pos (dT (by omega)), if_pos ⟨by omega, by omega⟩, if_pos ⟨by omega, by omega, by omega⟩, hg, Int.toNat_natCast, contains_b _ (by rw [List.length_take]; omega), w64a k (by omega)]
    simp only [Option.bind_some]
    unfold dupB
    by_cases he : hasB (l.take k) b = true
    · rw [if_pos he]
      have : (l.take k).any (fun c => L c == L b) = true := he
      rw [this]
      rfl
    · rw [if_neg he, names15 l hl r (k + 1) (dropS h), ht]
      have : (l.take k).any (fun c => L c == L b) = false := by simpa [hasB] using he
      rw [this, Bool.false_or]

theorem names6 (l : List ByteArray) (hl : l.length ≤ 1048577) : ∀ (r : List ByteArray) (k : Nat), l.drop k = r → capture_checkNames_l6 l l (l.length : Int) k = some ((if (r.all fun s => nameB (L s)) = true then (if dupB [] l = true then 9 else 0) else 4, ()), ())
  | [], k, h => by
    have h1 := drop_nil h
    rw [capture_checkNames_l6_eq, if_neg (dF (by omega))]
    exact names15 l hl l 0 rfl
  | b :: r, k, h => by
    have h1 := drop_lt h
    have hg : l.getD (k : Int).toNat (strB []) = b := getD_drop h
    rw [capture_checkNames_l6_eq, if_pos (dT (by omega)), if_pos ⟨by omega, by omega⟩, hg, lex_Name_b, w64a k (by omega)]
    simp only [Option.bind_some, List.all_cons]
    by_cases hn : nameB (L b) = true
    · simp only [hn, Bool.not_true, Bool.false_eq_true, if_false, Bool.true_and]
      exact names6 l hl r (k + 1) (dropS h)
    · simp only [Bool.eq_false_iff.2 hn, Bool.not_false, if_true, Bool.false_and, Bool.false_eq_true, if_false]

theorem checkNames_b (l : List ByteArray) (hl : l.length ≤ 1048577) : capture_checkNames l = some ((namesE l, ()), ()) := by
  unfold capture_checkNames namesE
  by_cases h : l = []
  · rw [if_pos (eT (by rw [h]; rfl)), if_pos h]
  · have h' : ¬ (l.length : Int) = 0 := fun q => h (List.length_eq_zero_iff.1 (by omega))
    rw [if_neg (eF h'), if_neg h]
    exact names6 l hl l 0 rfl

theorem mask_b (n : Nat) (h : n ≤ 16) : IntKind.i64.wrap ((IntKind.i64.wrap (1 * 2 ^ (min n 64))) - 1) = maskI n := by
  have : ∀ n, n < 17 → IntKind.i64.wrap ((IntKind.i64.wrap (1 * 2 ^ (min n 64))) - 1) = maskI n := by decide
  exact this n (by omega)

theorem runs11 (l : List TGap) (hl : l.length ≤ 1048577) (mask : Int) : ∀ (r : List TGap) (k : Nat) (left : Int), l.drop k = r → 0 ≤ left → left ≤ 1099511627776 → capture_Check_l11 mask left l (l.length : Int) k = some ((if runsB mask left r = true then 0 else 2, ()), ())
  | [], k, left, h, h0, h9 => by
    have h1 := drop_nil h
    rw [capture_Check_l11_eq, if_neg (dF (by omega))]
    rfl
  | b :: r, k, left, h, h0, h9 => by
    have h1 := drop_lt h
    have hg : l.getD (k : Int).toNat dGap = b := getD_drop h
    rw [capture_Check_l11_eq, if_pos (dT (by omega)), if_pos ⟨by omega, by omega⟩, hg, w64a k (by omega)]
    unfold runsB
    by_cases a1 : b.1 < 0
    · rw [if_pos (dT a1), decide_eq_false (by omega)]; rfl
    rw [if_neg (dF a1)]
    by_cases a2 : b.1 > mask
    · rw [if_pos (dT a2), decide_eq_false (by omega)]; rfl
    rw [if_neg (dF a2)]
    by_cases a3 : b.2 < 1
    · rw [if_pos (dT a3), decide_eq_false (by omega)]; rfl
    rw [if_neg (dF a3)]
    by_cases a4 : b.2 > left
    · rw [if_pos (dT a4), decide_eq_false (by omega)]; rfl
    rw [if_neg (dF a4), decide_eq_true (by omega), Bool.true_and, w64 (by omega) (by omega), runs11 l hl mask r (k + 1) (left - b.2) (dropS h) (by omega) (by omega)]

theorem ccheck_b (c : TCapture) (h1 : c.1.length ≤ 1048576) (h2 : c.2.length ≤ 1048576) : capture_Check c = some ((capE c, ()), ()) := by
  unfold capture_Check capE
  by_cases a1 : 16 < c.1.length
  · rw [if_pos (dT (by omega)), if_pos (.inl a1)]
  rw [if_neg (dF (by omega))]
  by_cases a2 : 262144 < c.2.length
  · rw [if_pos (dT (by omega)), if_pos (.inr a2)]
  rw [if_neg (dF (by omega)), if_neg (show ¬ (16 < c.1.length ∨ 262144 < c.2.length) by omega), checkNames_b _ (by omega)]
  simp only [Option.bind_some]
  by_cases a3 : namesE c.1 = 0
  · rw [if_neg (nF a3), if_pos a3, if_pos (by omega), Int.toNat_natCast, mask_b _ (by omega)]
    exact runs11 c.2 (by omega) _ c.2 0 _ rfl (by omega) (by omega)
  · rw [if_pos (nT a3), if_neg a3]

/-! ### the specification's -/
theorem rname_loop (s : ByteArray) (hs : s.size ≤ 4611686018427387904) : ∀ (r : List UInt8) (n : Nat), (L s).drop n = r → ref09_name_l6 s n = some ((r.all wordB, ()), ())
  | [], n, h => by
    have := drop_nil h
    rw [L_len] at this
    rw [ref09_name_l6_eq, if_neg (dF (by omega))]
    rfl
  | c :: r, n, h => by
    have h1 := drop_lt h
    rw [L_len] at h1
    have ih := rname_loop s hs r (n + 1) (drop_succ h)
    rw [ref09_name_l6_eq, if_pos (dT (by omega)), bt_drop h, w64 (by omega) (by omega), show ((n : Int) + 1) = ((n + 1 : Nat) : Int) by omega, ih]
    have e : 0 ≤ (n : Int) ∧ (n : Int) < (s.size : Int) := ⟨by omega, by omega⟩
    simp only [if_pos e, List.all_cons]
    have hw : wordB c = ((decide (97 ≤ c.toNat) && decide (c.toNat ≤ 122)) || (decide (48 ≤ c.toNat) && decide (c.toNat ≤ 57)) || (c == 95)) := rfl
    have h95 : ((c.toNat : Int) != 95) = !(c == 95) := by
      have := int_beq c 95
      show (!((c.toNat : Int) == 95)) = _
      rw [show ((95 : UInt8).toNat : Int) = 95 from rfl] at this
      rw [this]
    rw [hw, h95]
    have d1 : decide ((c.toNat : Int) ≥ 97) = decide (97 ≤ c.toNat) := by rw [Bool.eq_iff_iff]; simp only [decide_eq_true_eq]; omega
    have d2 : decide ((c.toNat : Int) ≥ 48) = decide (48 ≤ c.toNat) := by rw [Bool.eq_iff_iff]; simp only [decide_eq_true_eq]; omega
    have d3 : decide ((c.toNat : Int) ≤ 122) = decide (c.toNat ≤ 122) := by rw [Bool.eq_iff_iff]; simp only [decide_eq_true_eq]; omega
    have d4 : decide ((c.toNat : Int) ≤ 57) = decide (c.toNat ≤ 57) := by rw [Bool.eq_iff_iff]; simp only [decide_eq_true_eq]; omega
    rw [d1, d2, d3, d4]
    cases decide (97 ≤ c.toNat) <;> cases decide (48 ≤ c.toNat) <;> cases decide (c.toNat ≤ 122) <;> cases decide (c.toNat ≤ 57) <;> cases (c == 95) <;> rfl

theorem rname_b (s : ByteArray) : ref09_name s = some ((nameB (L s), ()), ()) := by
  unfold ref09_name
  have hl := L_len s
  cases hL : L s with
  | nil => rw [if_pos (by rw [toL, toL, hL, L_strB]; rfl)]; rfl
  | cons c r =>
    rw [hL] at hl
    simp only [List.length_cons] at hl
    rw [if_neg (by rw [toL, toL, hL, L_strB]; simp)]
    rw [nameB_cons]
    by_cases h : s.size ≤ 16
    · have e : 0 ≤ (0 : Int) ∧ 0 < (s.size : Int) := ⟨by omega, by omega⟩
      rw [if_neg (dF (by omega)), if_pos e, if_pos e, bt_cons hL, decide_eq_true (by omega : r.length + 1 ≤ 16), Bool.true_and]
      have hw : letterB c = (decide (97 ≤ c.toNat) && decide (c.toNat ≤ 122)) := rfl
      rw [hw]
      by_cases a1 : c.toNat < 97
      · rw [if_pos (dT (by omega)), decide_eq_false (by omega)]; rfl
      rw [if_neg (dF (by omega)), decide_eq_true (by omega : 97 ≤ c.toNat)]
      by_cases a2 : c.toNat > 122
      · rw [if_pos (dT (by omega)), decide_eq_false (by omega)]; rfl
      rw [if_neg (dF (by omega)), decide_eq_true (by omega : c.toNat ≤ 122)]
      exact rname_loop s (by omega) (c :: r) 0 (by rw [hL]; rfl)
    · rw [if_pos (dT (by omega)), decide_eq_false (by omega : ¬ r.length + 1 ≤ 16)]
      rfl

theorem rdup22 (l : List ByteArray) (hl : l.length ≤ 1048577) (i : Nat) (hi : i < l.length) : ∀ (d k : Nat), d = i - k → k ≤ i → ref09_names_l22 l i k = if ((l.take i).drop k).any (fun c => L c == L (l.getD i (strB []))) = true then some ((9, ()), ()) else ref09_names_l17 l ((i + 1 : Nat) : Int)
  | 0, k, hd, hk => by
    have : k = i := by omega
    subst this
    rw [ref09_names_l22_eq, if_neg (dF (by omega)), w64a k (by omega), List.drop_of_length_le (by rw [List.length_take]; omega)]
    rfl
  | d + 1, k, hd, hk => by
    have hk2 : k < (l.take i).length := by rw [List.length_take]; omega
    rw [ref09_names_l22_eq, if_pos (dT (by omega)), if_pos ⟨by omega, by omega⟩, if_pos ⟨by omega, by omega⟩, Int.toNat_natCast, Int.toNat_natCast, toL, toL, w64a k (by omega), List.drop_eq_getElem_cons hk2, List.any_cons, List.getElem_take, getD_in (strB []) (show k < l.length by omega)]
    by_cases he : L (l.getD i (strB [])) = L l[k]
    · rw [if_pos (by simpa using he), he]
      simp
    · rw [if_neg (by simpa using he), rdup22 l hl i hi d (k + 1) (by omega) (by omega), show (L l[k] == L (l.getD i (strB []))) = false from beq_eq_false_iff_ne.2 fun q => he q.symm, Bool.false_or]

theorem rnames17 (l : List ByteArray) (hl : l.length ≤ 1048577) : ∀ (r : List ByteArray) (k : Nat), l.drop k = r → ref09_names_l17 l k = some ((if dupB (l.take k) r = true then 9 else 0, ()), ())
  | [], k, h => by
    have h1 := drop_nil h
    rw [ref09_names_l17_eq, if_neg (dF (by omega))]
    rfl
  | b :: r, k, h => by
    have h1 := drop_lt h
    have hg : l.getD k (strB []) = b := getD_drop h
    have ht : l.take (k + 1) = l.take k ++ [b] := takeS h
    have e := rdup22 l hl k h1 k 0 (by omega) (by omega)
    rw [ref09_names_l17_eq, if_pos (dT (by omega))]
    refine Eq.trans e ?_
    rw [List.drop_zero, hg]
    unfold dupB
    by_cases he : (l.take k).any (fun c => L c == L b) = true
    · rw [if_pos he, he]
      rfl
    · rw [if_neg he, rnames17 l hl r (k + 1) (dropS h), ht]
      have : (l.take k).any (fun c => L c == L b) = false := by simpa using he
      rw [this, Bool.false_or]

theorem rnames9 (l : List ByteArray) (hl : l.length ≤ 1048577) : ∀ (r : List ByteArray) (k : Nat), l.drop k = r → ref09_names_l9 l k = some ((if (r.all fun s => nameB (L s)) = true then (if dupB [] l = true then 9 else 0) else 4, ()), ())
  | [], k, h => by
    have h1 := drop_nil h
    rw [ref09_names_l9_eq, if_neg (dF (by omega))]
    exact rnames17 l hl l 0 rfl
  | b :: r, k, h => by
    have h1 := drop_lt h
    have hg : l.getD (k : Int).toNat (strB []) = b := getD_drop h
    rw [ref09_names_l9_eq, if_pos (dT (by omega)), if_pos ⟨by omega, by omega⟩, hg, rname_b, w64a k (by omega)]
    simp only [Option.bind_some, List.all_cons]
    by_cases hn : nameB (L b) = true
    · simp only [hn, Bool.not_true, Bool.false_eq_true, if_false, Bool.true_and]
      exact rnames9 l hl r (k + 1) (dropS h)
    · simp only [Bool.eq_false_iff.2 hn, Bool.not_false, if_true, Bool.false_and, Bool.false_eq_true, if_false]

theorem rruns4 (l : List TGap) (hl : l.length ≤ 1048577) (mask : Int) : ∀ (r : List TGap) (k : Nat) (left : Int), l.drop k = r → 0 ≤ left → left ≤ 1099511627776 → ref09_runs_l4 l mask left k = some ((runsB mask left r, ()), ())
  | [], k, left, h, h0, h9 => by
    have h1 := drop_nil h
    rw [ref09_runs_l4_eq, if_neg (dF (by omega))]
    rfl
  | b :: r, k, left, h, h0, h9 => by
    have h1 := drop_lt h
    have hg : l.getD (k : Int).toNat dGap = b := getD_drop h
    have e : 0 ≤ (k : Int) ∧ (k : Int) < (l.length : Int) := ⟨by omega, by omega⟩
    rw [ref09_runs_l4_eq, if_pos (dT (by omega)), if_pos e, hg, w64a k (by omega)]
    unfold runsB
    by_cases a1 : b.1 < 0
    · rw [if_pos (dT a1), decide_eq_false (by omega)]; rfl
    rw [if_neg (dF a1), if_pos e]
    by_cases a2 : b.1 > mask
    · rw [if_pos (dT a2), decide_eq_false (by omega)]; rfl
    rw [if_neg (dF a2), if_pos e]
    by_cases a3 : b.2 < 1
    · rw [if_pos (dT a3), decide_eq_false (by omega)]; rfl
    rw [if_neg (dF a3), if_pos e]
    by_cases a4 : b.2 > left
    · rw [if_pos (dT a4), decide_eq_false (by omega)]; rfl
    rw [if_neg (dF a4), if_pos e, decide_eq_true (by omega), Bool.true_and, w64 (by omega) (by omega), rruns4 l hl mask r (k + 1) (left - b.2) (dropS h) (by omega) (by omega)]

theorem rnames_b (l : List ByteArray) (hl : l.length ≤ 1048577) : ref09_names l = some ((if 16 < l.length then 6 else namesE l, ()), ()) := by
  unfold ref09_names namesE
  by_cases a1 : 16 < l.length
  · rw [if_pos (dT (by omega)), if_pos a1]
  rw [if_neg (dF (by omega)), if_neg a1]
  by_cases h : l = []
  · rw [if_pos (eT (by rw [h]; rfl)), if_pos h]
  · have h' : ¬ (l.length : Int) = 0 := fun q => h (List.length_eq_zero_iff.1 (by omega))
    rw [if_neg (eF h'), if_neg h]
    exact rnames9 l hl l 0 rfl

theorem rccheck_b (c : TCapture) (h1 : c.1.length ≤ 1048576) (h2 : c.2.length ≤ 1048576) : ref09_Check c = some ((capE c, ()), ()) := by
  unfold ref09_Check capE
  by_cases a2 : 262144 < c.2.length
  · rw [if_pos (dT (by omega)), if_pos (.inr a2)]
  rw [if_neg (dF (by omega)), rnames_b _ (by omega)]
  simp only [Option.bind_some]
  by_cases a1 : 16 < c.1.length
  · rw [if_pos a1, if_pos (show 16 < c.1.length ∨ 262144 < c.2.length from .inl a1)]; rfl
  rw [if_neg a1, if_neg (show ¬ (16 < c.1.length ∨ 262144 < c.2.length) by omega)]
  by_cases a3 : namesE c.1 = 0
  · rw [if_neg (nF a3), if_pos a3, if_pos (by omega), Int.toNat_natCast, mask_b _ (by omega)]
    have e : ref09_runs c.2 (maskI c.1.length) = some ((runsB (maskI c.1.length) 1099511627776 c.2, ()), ()) := rruns4 c.2 (by omega) _ c.2 0 _ rfl (by omega) (by omega)
    rw [e]
    simp only [Option.bind_some]
    cases runsB (maskI c.1.length) 1099511627776 c.2 <;> rfl
  · rw [if_pos (nT a3), if_neg a3]

/-! ### limits of captures -/
theorem has_loop (v : ByteArray) (l : List ByteArray) (hl : l.length ≤ 1048577) : ∀ (r : List ByteArray) (k : Nat), l.drop k = r → limit_has_l3 v l (l.length : Int) k = some ((hasB r v, ()), ())
  | [], k, h => by
    have h1 := drop_nil h
    rw [limit_has_l3_eq, if_neg (dF (by omega))]
    rfl
  | b :: r, k, h => by
    have h1 := drop_lt h
    have hg : l.getD (k : Int).toNat (strB []) = b := getD_drop h
    rw [limit_has_l3_eq, if_pos (dT (by omega)), if_pos ⟨by omega, by omega⟩, hg, w64a k (by omega), toL, toL]
    unfold hasB
    rw [List.any_cons]
    by_cases he : L b = L v
    · rw [if_pos (by simpa using he), show (L b == L v) = true by simpa using he]; rfl
    · rw [if_neg (by simpa using he), show (L b == L v) = false by simpa using he, Bool.false_or]
      exact has_loop v l hl r (k + 1) (dropS h)
theorem has_b (c : TCapture) (hl : c.1.length ≤ 1048576) (v : ByteArray) : limit_has c v = some ((hasB c.1 v, ()), ()) := has_loop v c.1 (by omega) c.1 0 rfl

theorem rhas_loop (v : ByteArray) (l : List ByteArray) (hl : l.length ≤ 1048577) : ∀ (r : List ByteArray) (k : Nat), l.drop k = r → ref49_has_l3 l v k = some ((hasB r v, ()), ())
  | [], k, h => by
    have h1 := drop_nil h
    rw [ref49_has_l3_eq, if_neg (dF (by omega))]
    rfl
  | b :: r, k, h => by
    have h1 := drop_lt h
    have hg : l.getD (k : Int).toNat (strB []) = b := getD_drop h
    rw [ref49_has_l3_eq, if_pos (dT (by omega)), if_pos ⟨by omega, by omega⟩, hg, w64a k (by omega), toL, toL]
    unfold hasB
    rw [List.any_cons]
    by_cases he : L b = L v
    · rw [if_pos (by simpa using he), show (L b == L v) = true by simpa using he]; rfl
    · rw [if_neg (by simpa using he), show (L b == L v) = false by simpa using he, Bool.false_or]
      exact rhas_loop v l hl r (k + 1) (dropS h)
theorem rhas_b (l : List ByteArray) (hl : l.length ≤ 1048576) (v : ByteArray) : ref49_has l v = some ((hasB l v, ()), ()) := rhas_loop v l (by omega) l 0 rfl

theorem limsE_cons (ns : List ByteArray) (i : Nat) (x : LimT) (r : List LimT) : limsE ns i (x :: r) = if formE x = 0 then (if hasB ns x.2.1 = true ∧ (clkB x.1 = true → hasB ns x.2.2.1 = true) then limsE ns (i + 1) r else ((i : Int), 8)) else ((i : Int), formE x) := rfl

theorem lims_loop (c : TCapture) (hc : c.1.length ≤ 1048576) (l : List TLimit) (hl : l.length ≤ 1048577) : ∀ (r : List TLimit) (k : Nat), l.drop k = r → limit_Check_l10 l (l.length : Int) k c = some (((limsE c.1 k r).1, (limsE c.1 k r).2, ()), ())
  | [], k, h => by
    have h1 := drop_nil h
    rw [limit_Check_l10_eq, if_neg (dF (by omega))]
    rfl
  | x :: r, k, h => by
    have h1 := drop_lt h
    have hg : l.getD (k : Int).toNat dLimit = x := getD_drop h
    have ih := lims_loop c hc l hl r (k + 1) (dropS h)
    rw [limit_Check_l10_eq, if_pos (dT (by omega)), if_pos ⟨by omega, by omega⟩, hg, form_b, has_b c hc, has_b c hc, clocked_b, w64a k (by omega), ih]
    simp only [Option.bind_some]
    rw [limsE_cons]
    by_cases h0 : formE x = 0
    · rw [if_neg (nF h0), if_pos h0]
      cases hasB c.1 x.2.1 with
      | false => rfl
      | true =>
        refine (if_neg (by simp)).trans ?_
        cases clkB x.1 with
        | false => rw [if_neg (by simp), if_pos ⟨rfl, fun q => by simp at q⟩]
        | true =>
          rw [if_pos rfl]
          cases hasB c.1 x.2.2.1 with
          | false => rw [if_pos (by rfl), if_neg (fun q => by simpa using q.2 rfl)]
          | true => rw [if_neg (by simp), if_pos ⟨rfl, fun _ => rfl⟩]
    · rw [if_pos (nT h0), if_neg h0]

theorem lcheck_b (c : TCapture) (l : List TLimit) (h1 : c.1.length ≤ 1048576) (h2 : c.2.length ≤ 1048576) (hl : l.length ≤ 1048576) : limit_Check c l = some (((lcheckV c l).1, (lcheckV c l).2, ()), ()) := by
  unfold limit_Check lcheckV
  rw [ccheck_b c h1 h2]
  simp only [Option.bind_some]
  by_cases a : capE c = 0
  · rw [if_neg (nF a), if_pos a]
    by_cases b : 64 < l.length
    · rw [if_pos (dT (by omega)), if_pos b]
    · rw [if_neg (dF (by omega)), if_neg b]
      exact lims_loop c h1 l (by omega) l 0 rfl
  · rw [if_pos (nT a), if_neg a]

theorem rlims_loop (c : TCapture) (hc : c.1.length ≤ 1048576) (l : List TLimit) (hl : l.length ≤ 1048577) : ∀ (r : List TLimit) (k : Nat), l.drop k = r → ref49_Check_l10 l k c = some (((limsE c.1 k r).1, (limsE c.1 k r).2, ()), ())
  | [], k, h => by
    have h1 := drop_nil h
    rw [ref49_Check_l10_eq, if_neg (dF (by omega))]
    rfl
  | x :: r, k, h => by
    have h1 := drop_lt h
    have hg : l.getD (k : Int).toNat dLimit = x := getD_drop h
    have ih := rlims_loop c hc l hl r (k + 1) (dropS h)
    have e : 0 ≤ (k : Int) ∧ (k : Int) < (l.length : Int) := ⟨by omega, by omega⟩
    rw [ref49_Check_l10_eq, if_pos (dT (by omega)), if_pos e, if_pos e, if_pos e, if_pos e, hg, rbad_b, rhas_b _ hc, rhas_b _ hc, rclocked_b, w64a k (by omega), ih]
    simp only [Option.bind_some]
    rw [limsE_cons]
    by_cases h0 : formE x = 0
    · rw [decide_eq_true h0, if_neg (by simp), if_pos h0]
      cases hasB c.1 x.2.1 with
      | false => rfl
      | true =>
        refine (if_neg (by simp)).trans ?_
        cases clkB x.1 with
        | false => rw [if_neg (by simp), if_pos ⟨rfl, fun q => by simp at q⟩]
        | true =>
          rw [if_pos rfl]
          cases hasB c.1 x.2.2.1 with
          | false => rw [if_pos (by rfl), if_neg (fun q => by simpa using q.2 rfl)]
          | true => rw [if_neg (by simp), if_pos ⟨rfl, fun _ => rfl⟩]
    · rw [decide_eq_false h0, if_pos (by simp), if_neg h0]
      have : formE x = 1 := by
        unfold formE at h0 ⊢
        split at h0
        · split at h0
          · exact absurd rfl h0
          · rename_i q1 q2
            rw [if_pos q1, if_neg q2]
        · rename_i q1
          rw [if_neg q1]
      rw [this]

theorem rlcheck_b (c : TCapture) (l : List TLimit) (h1 : c.1.length ≤ 1048576) (h2 : c.2.length ≤ 1048576) (hl : l.length ≤ 1048576) : ref49_Check c l = some (((lcheckV c l).1, (lcheckV c l).2, ()), ()) := by
  unfold ref49_Check lcheckV
  rw [rccheck_b c h1 h2]
  simp only [Option.bind_some]
  by_cases a : capE c = 0
  · rw [if_neg (nF a), if_pos a]
    by_cases b : 64 < l.length
    · rw [if_pos (dT (by omega)), if_pos b]
    · rw [if_neg (dF (by omega)), if_neg b]
      exact rlims_loop c h1 l (by omega) l 0 rfl
  · rw [if_pos (nT a), if_neg a]

end Go.Proofs.YtejehchbflmofaaGreatDoor
end

section
/-
YtejehchbflmofaaGreatDoor: limit.Print, as plain functions, comes to the text of the tokens. No condition.
-/
set_option maxRecDepth 100000
set_option linter.unusedVariables false
open Go Go.AM
namespace Go.Proofs.YtejehchbflmofaaGreatDoor

theorem lname_b (b : ByteArray) : limit_name b = some ((wTok b, ()), ()) := rfl
theorem lmark_b (c : UInt8) : limit_mark (strB [c]) = some ((mTok c, ()), ()) := rfl
theorem lnumber_b (n : Int) (h : -9007199254740992 ≤ n ∧ n ≤ 9007199254740992) : limit_number n = some ((nTok n, ()), ()) := by
  unfold limit_number
  rw [itoa_b n (by omega)]
  rfl
theorem lword_b (n : Int) (h : 1 ≤ n ∧ n ≤ 6) : limit_word n = some ((measW n, ()), ()) := by
  unfold limit_word
  rw [if_pos ⟨by omega, by omega⟩]
  rfl

theorem okTok_goodG {t : TToken} (h : goodG t) : okTok t := ⟨by have := h.2.1; omega, by have := h.2.2.1; omega, by have := h.2.2.2; omega⟩

theorem print20 (l : List TLimit) (n i : Int) (q : List TToken) (x : TLimit) (hx : OkLim x) (hq : q.length ≤ 2000) : limit_Print_l20 l n i q x = limit_Print_l7 l n (IntKind.i64.wrap (i + 1)) (q ++ [nTok x.2.2.2.2.1, mTok 46, mTok 46, nTok x.2.2.2.2.2, mTok 59]) := by
  have h1 := hx.lo
  have h2 := hx.le
  have h3 := hx.hi
  rw [limit_Print_l20_eq, lnumber_b _ (by omega), lnumber_b _ (by omega), lmark_b, lmark_b]
  simp only [Option.bind_some]
  rw [if_pos ⟨by omega, by decide⟩]
theorem print23 (e : ByteArray) (l : List TLimit) (n i : Int) (q : List TToken) (x : TLimit) (hq : q.length ≤ 2000) : limit_Print_l23 e l n i q x = limit_Print_l20 l n i (q ++ [wTok x.2.2.1, wTok e]) x := by
  rw [limit_Print_l23_eq, lname_b, lname_b]
  simp only [Option.bind_some]
  rw [if_pos ⟨by omega, by decide⟩]

theorem errL_cons (e : Int) (r : List Int) : errL (e :: r) = if e = 0 then errL r else e := rfl

theorem print7 (l : List TLimit) (hl : l.length ≤ 64) : ∀ (r : List TLimit) (k : Nat) (acc : List TToken), l.drop k = r → acc.length + 9 * r.length ≤ 1000 → (∀ t ∈ acc, goodG t) →
    limit_Print_l7 l (l.length : Int) k acc = some ((if errL (r.map limE) = 0 then (strB (textV (acc ++ limsT r)).1, (textV (acc ++ limsT r)).2, ()) else (strB [], errL (r.map limE), ())), ())
  | [], k, acc, h, ha, hg => by
    have h1 := drop_nil h
    simp only [List.length_nil] at ha
    have hw := wt_sumG acc hg
    rw [limit_Print_l7_eq, if_neg (dF (by omega)), lex_Text_b _ (by omega) (fun t ht => okTok_goodG (hg t ht)) (by omega), limsT, List.append_nil]
    rfl
  | x :: r, k, acc, h, ha, hg => by
    have h1 := drop_lt h
    have hgd : l.getD (k : Int).toNat dLimit = x := getD_drop h
    simp only [List.length_cons] at ha
    rw [limit_Print_l7_eq, if_pos (dT (by omega)), if_pos ⟨by omega, by omega⟩, hgd, form_b, lex_Name_b, lex_Name_b, clocked_b, List.map_cons, errL_cons]
    simp only [Option.bind_some]
    by_cases h0 : formE x = 0
    · have hm := (formE_zero.1 h0).1.1
      rw [if_neg (nF h0)]
      by_cases hd : nameB (L x.2.1) = true
      · rw [if_neg (by rw [hd]; simp)]
        by_cases hk : clkB x.1 = true
        · rw [if_pos hk]
          by_cases hc : nameB (L x.2.2.1) = true
          · have e0 : limE x = 0 := by unfold limE; rw [if_pos h0, if_pos ⟨hd, fun _ => hc⟩]
            have ok := limE_zero.1 e0
            have g9 := good_lim ok
            rw [if_neg (by rw [hc]; simp), if_pos e0, lword_b _ hm]
            simp only [Option.bind_some, lname_b]
            rw [if_pos ⟨by omega, by decide⟩, if_pos hk, print23 _ _ _ _ _ _ (by simp; omega), print23 _ _ _ _ _ _ (by simp; omega), print20 _ _ _ _ _ ok (by simp; omega), print20 _ _ _ _ _ ok (by simp; omega), w64a k (by omega)]
            have ih := fun hq => print7 l hl r (k + 1) (acc ++ limT x) (dropS h) (by rw [List.length_append]; have := g9.2; omega) hq
            have hq : ∀ t ∈ acc ++ limT x, goodG t := fun t ht => by
              rcases List.mem_append.1 ht with q | q
              · exact hg t q
              · exact g9.1 t q
            have et : acc ++ limsT (x :: r) = (acc ++ limT x) ++ limsT r := by rw [limsT, List.append_assoc]
            rw [et, ← ih hq]
            unfold limT edgeT
            rw [if_pos hk]
            by_cases hr : x.2.2.2.1 = true
            · rw [if_pos hr, if_pos hr]
              simp [sRise]
            · rw [if_neg hr, if_neg hr]
              simp [sFall]
          · have e4 : limE x = 4 := by unfold limE; rw [if_pos h0, if_neg (fun q => hc (q.2 hk))]
            rw [if_pos (by simp [hc]), if_neg (show ¬ limE x = 0 by omega), if_neg (show ¬ limE x = 0 by omega), e4]
        · have e0 : limE x = 0 := by unfold limE; rw [if_pos h0, if_pos ⟨hd, fun q => absurd q hk⟩]
          have ok := limE_zero.1 e0
          have g9 := good_lim ok
          rw [if_neg hk, if_pos e0, lword_b _ hm]
          simp only [Option.bind_some, lname_b]
          rw [if_pos ⟨by omega, by decide⟩, if_neg hk, print20 _ _ _ _ _ ok (by simp; omega), w64a k (by omega)]
          have ih := fun hq => print7 l hl r (k + 1) (acc ++ limT x) (dropS h) (by rw [List.length_append]; have := g9.2; omega) hq
          have hq : ∀ t ∈ acc ++ limT x, goodG t := fun t ht => by
            rcases List.mem_append.1 ht with q | q
            · exact hg t q
            · exact g9.1 t q
          have et : acc ++ limsT (x :: r) = (acc ++ limT x) ++ limsT r := by rw [limsT, List.append_assoc]
          rw [et, ← ih hq]
          unfold limT edgeT
          rw [if_neg hk]
          simp
      · have e4 : limE x = 4 := by unfold limE; rw [if_pos h0, if_neg (fun q => hd q.1)]
        rw [if_pos (by simp [hd]), if_neg (show ¬ limE x = 0 by omega), if_neg (show ¬ limE x = 0 by omega), e4]
    · have e1 : limE x = formE x := by unfold limE; rw [if_neg h0]
      rw [if_pos (nT h0), if_neg (show ¬ limE x = 0 by omega), if_neg (show ¬ limE x = 0 by omega), e1]

theorem lprint_b (l : List TLimit) (hl : l.length ≤ 1048577) : limit_Print l = some ((strB (printL l).1, (printL l).2, ()), ()) := by
  unfold limit_Print printL wrongL
  by_cases h : 64 < l.length
  · rw [if_pos (dT (by omega)), if_pos h, if_neg (by omega)]
  · rw [if_neg (dF (by omega)), if_neg h]
    refine (print7 l (by omega) l 0 [] rfl (by simp only [List.length_nil]; omega) (by simp)).trans ?_
    rw [List.nil_append]
    by_cases he : errL (l.map limE) = 0
    · rw [if_pos he, if_pos he]
    · rw [if_neg he, if_neg he]

end Go.Proofs.YtejehchbflmofaaGreatDoor
end

section
/-
YtejehchbflmofaaGreatDoor: limit.Parse, as plain functions, comes to the plain reader of limits. No condition.
-/
set_option maxRecDepth 100000
set_option linter.unusedVariables false
open Go Go.AM
namespace Go.Proofs.YtejehchbflmofaaGreatDoor

structure Ctx (l : List TToken) : Prop where
  len : l.length ≤ 1048576
  good : ∀ t ∈ l, tokGood t

def ixn (l q : List TToken) : Int := ((l.length - q.length : Nat) : Int)
def rd (l q : List TToken) : Treader := (l, ixn l q, 0)
def bad (l e : List TToken) : Treader := (l, ixn l e, lineV l e)
def zT : TToken := (0, strB [], 0, 0)

theorem suf_drop {l q : List TToken} (h : q <:+ l) : l.drop (l.length - q.length) = q := (List.suffix_iff_eq_drop.1 h).symm
theorem sufk {α : Type} {l q r : List TToken} (h : q <:+ l) {x : PR α} {n : Nat} (g : Goes n q x) {a : α} (e : x = .ok (a, r)) : r <:+ l := by
  subst e
  exact List.IsSuffix.trans g.1 h
theorem sufe {α : Type} {l q r : List TToken} (h : q <:+ l) {x : PR α} {n : Nat} (g : Goes n q x) (e : x = .error r) : r <:+ l := by
  subst e
  exact List.IsSuffix.trans g h
theorem okLen {α : Type} {q r : List TToken} {x : PR α} {n : Nat} (g : Goes n q x) {a : α} (e : x = .ok (a, r)) : r.length + n ≤ q.length := by
  subst e
  exact g.2

theorem at_cons {l r : List TToken} {t : TToken} (h : (t :: r) <:+ l) : l.length - (t :: r).length < l.length ∧ l.getD (ixn l (t :: r)).toNat dToken = t ∧ l.length - r.length = l.length - (t :: r).length + 1 := by
  have h1 := suf_drop h
  have h2 := drop_lt h1
  have h3 := h.length_le
  refine ⟨h2, getD_drop h1, ?_⟩
  simp only [List.length_cons] at h3 ⊢
  omega

theorem ixn_nil (l : List TToken) : ixn l [] = (l.length : Int) := by unfold ixn; simp
theorem ixn_in {l r : List TToken} {t : TToken} (h : (t :: r) <:+ l) : 0 ≤ ixn l (t :: r) ∧ ixn l (t :: r) < (l.length : Int) := by
  have := (at_cons h).1
  unfold ixn
  omega
theorem ixn_next {l r : List TToken} {t : TToken} (c : Ctx l) (h : (t :: r) <:+ l) : IntKind.i64.wrap (ixn l (t :: r) + 1) = ixn l r := by
  obtain ⟨h1, _, h3⟩ := at_cons h
  have := c.len
  unfold ixn
  rw [w64a _ (by omega), h3]

theorem lineV_pos {l e : List TToken} (c : Ctx l) (h : e <:+ l) : lineV l e > 0 := by
  unfold lineV
  cases e with
  | cons t r =>
    have : t ∈ l := h.subset (by simp)
    have := (c.good t this).1
    show t.2.2.2 > 0
    omega
  | nil =>
    cases hq : l.getLast? with
    | none => decide
    | some t =>
      have := (c.good t (List.mem_of_getLast? hq)).1
      show t.2.2.2 > 0
      omega

theorem need_bad {r : Treader} (h : r.2.2 > 0) (k : Int) (x : ByteArray) : limit_reader_need k x r = some ((zT, ()), (r, ())) := by
  unfold limit_reader_need
  rw [if_pos (dT h)]
  rfl

theorem need_ok {l q r : List TToken} {t : TToken} (c : Ctx l) (h : q <:+ l) {k : Int} {text : ByteArray} {x : List UInt8} (hx : L text = x) (hp : pNeed k x q = .ok (t, r)) : limit_reader_need k text (rd l q) = some ((t, ()), (rd l r, ())) := by
  subst hx
  obtain ⟨rfl, hy⟩ := need_ok_inv hp
  obtain ⟨_, h2, _⟩ := at_cons h
  have hin := ixn_in h
  have hv : (decide (t.1 = k) && ((L text).isEmpty || (L t.2.1 == L text))) = true := hy
  simp only [Bool.and_eq_true, decide_eq_true_eq, Bool.or_eq_true] at hv
  have c0 : ¬ (rd l (t :: r)).2.2 > 0 := by show ¬ (0 : Int) > 0; omega
  have c1 : ¬ (rd l (t :: r)).2.1 ≥ ((rd l (t :: r)).1.length : Int) := by show ¬ ixn l (t :: r) ≥ (l.length : Int); omega
  have c2 : 0 ≤ (rd l (t :: r)).2.1 ∧ (rd l (t :: r)).2.1 < ((rd l (t :: r)).1.length : Int) := hin
  have h2' : (rd l (t :: r)).1.getD (rd l (t :: r)).2.1.toNat dToken = t := h2
  have e1 : IntKind.i64.wrap ((rd l (t :: r)).2.1 + 1) = ixn l r := ixn_next c h
  unfold limit_reader_need
  rw [if_neg (dF c0), if_neg (dF c1), if_pos c2, h2', if_neg (nF hv.1), e1]
  simp only [toL, L_strB]
  by_cases he : L text = []
  · rw [if_neg (by rw [he]; simp)]
    rfl
  · have h3 : L t.2.1 = L text := by
      rcases hv.2 with q | q
      · exact absurd (List.isEmpty_iff.1 q) he
      · exact beq_iff_eq.1 q
    rw [if_pos (by simpa using he), if_neg (by rw [h3]; simp)]
    rfl

theorem need_err {l q e : List TToken} (c : Ctx l) (h0 : 0 < l.length) (h : q <:+ l) {k : Int} {text : ByteArray} {x : List UInt8} (hx : L text = x) (hp : pNeed k x q = .error e) : limit_reader_need k text (rd l q) = some ((zT, ()), (bad l e, ())) := by
  subst hx
  obtain ⟨rfl, hy⟩ := need_err_inv hp
  have hl := c.len
  unfold limit_reader_need
  refine (if_neg (dF (by show ¬ (0 : Int) > 0; omega))).trans ?_
  cases e with
  | nil =>
    have c1 : (rd l []).2.1 ≥ ((rd l []).1.length : Int) := by show ixn l [] ≥ (l.length : Int); rw [ixn_nil]; omega
    have e1 : IntKind.i64.wrap ((l.length : Int) - 1) = ((l.length - 1 : Nat) : Int) := by rw [w64 (by omega) (by omega)]; omega
    rw [if_pos (dT c1)]
    show (if 0 ≤ IntKind.i64.wrap ((l.length : Int) - 1) ∧ IntKind.i64.wrap ((l.length : Int) - 1) < (l.length : Int) then some ((zT, ()), ((l, ixn l [], (l.getD (IntKind.i64.wrap ((l.length : Int) - 1)).toNat dToken).2.2.2), ())) else none) = _
    rw [e1, if_pos ⟨by omega, by omega⟩, Int.toNat_natCast, getD_in dToken (by omega)]
    unfold bad lineV
    have : l.getLast? = some l[l.length - 1] := by rw [List.getLast?_eq_getElem?, List.getElem?_eq_getElem (by omega)]
    rw [this]
  | cons t r =>
    obtain ⟨_, h2, _⟩ := at_cons h
    have hin := ixn_in h
    have hv : (decide (t.1 = k) && ((L text).isEmpty || (L t.2.1 == L text))) = false := hy
    have c1 : ¬ (rd l (t :: r)).2.1 ≥ ((rd l (t :: r)).1.length : Int) := by show ¬ ixn l (t :: r) ≥ (l.length : Int); omega
    have c2 : 0 ≤ (rd l (t :: r)).2.1 ∧ (rd l (t :: r)).2.1 < ((rd l (t :: r)).1.length : Int) := hin
    have h2' : (rd l (t :: r)).1.getD (rd l (t :: r)).2.1.toNat dToken = t := h2
    rw [if_neg (dF c1), if_pos c2, h2']
    by_cases hk : t.1 = k
    · have h4 : ¬ L text = [] ∧ ¬ L t.2.1 = L text := by
        rw [decide_eq_true hk, Bool.true_and, Bool.or_eq_false_iff] at hv
        exact ⟨fun q => by rw [q] at hv; simp at hv, fun q => by rw [q] at hv; simp at hv⟩
      simp only [toL, L_strB]
      rw [if_neg (nF hk), if_pos (by simpa using h4.1), if_pos (by simpa using h4.2)]
      rfl
    · rw [if_pos (nT hk)]
      rfl

def Out {α : Type} (l : List TToken) (o : Option ((α × Unit) × (Treader × Unit))) : PR α → Prop
  | .ok (a, q) => o = some ((a, ()), (rd l q, ()))
  | .error e => ∃ z r, r.1 = l ∧ r.2.2 = lineV l e ∧ o = some ((z, ()), ((r : Treader), ()))

theorem l16_bad {r : Treader} (h : r.2.2 > 0) (x y : TLimit) : ∃ z, limit_reader_limit_l16 r x y = some ((z, ()), (r, ())) := by
  rw [limit_reader_limit_l16_eq, need_bad h]
  simp only [Option.bind_some]
  rw [need_bad h]
  simp only [Option.bind_some]
  rw [need_bad h]
  simp only [Option.bind_some]
  rw [need_bad h]
  simp only [Option.bind_some]
  rw [need_bad h]
  exact ⟨_, rfl⟩

theorem range_rd {l q : List TToken} (c : Ctx l) (h0 : 0 < l.length) (h : q <:+ l) (x : TLimit) (m : Nat) (d ck : ByteArray) (e : Bool) (z : RunT) : Out l (limit_reader_limit_l16 (rd l q) x ((m : Int), d, ck, e, z)) (pRange m d ck e q) := by
  rw [limit_reader_limit_l16_eq]
  unfold pRange
  cases h1 : pNeed 2 [] q with
  | error w =>
    have hw := lineV_pos c (sufe h (goes_need 2 [] q) h1)
    rw [need_err c h0 h (L_strB _) h1]
    simp only [Option.bind_some]
    rw [need_bad (r := bad l w) hw]
    simp only [Option.bind_some]
    rw [need_bad (r := bad l w) hw]
    simp only [Option.bind_some]
    rw [need_bad (r := bad l w) hw]
    simp only [Option.bind_some]
    rw [need_bad (r := bad l w) hw]
    exact ⟨_, bad l w, rfl, rfl, rfl⟩
  | ok p =>
    obtain ⟨t1, q1⟩ := p
    have g1 := sufk h (goes_need 2 [] q) h1
    rw [need_ok c h (L_strB _) h1]
    simp only [Option.bind_some, andP_ok']
    cases h2 : pNeed 4 [46] q1 with
    | error w =>
      have hw := lineV_pos c (sufe g1 (goes_need 4 [46] q1) h2)
      rw [need_err c h0 g1 (L_strB _) h2]
      simp only [Option.bind_some]
      rw [need_bad (r := bad l w) hw]
      simp only [Option.bind_some]
      rw [need_bad (r := bad l w) hw]
      simp only [Option.bind_some]
      rw [need_bad (r := bad l w) hw]
      exact ⟨_, bad l w, rfl, rfl, rfl⟩
    | ok p =>
      obtain ⟨t2, q2⟩ := p
      have g2 := sufk g1 (goes_need 4 [46] q1) h2
      rw [need_ok c g1 (L_strB _) h2]
      simp only [Option.bind_some, andP_ok']
      cases h3 : pNeed 4 [46] q2 with
      | error w =>
        have hw := lineV_pos c (sufe g2 (goes_need 4 [46] q2) h3)
        rw [need_err c h0 g2 (L_strB _) h3]
        simp only [Option.bind_some]
        rw [need_bad (r := bad l w) hw]
        simp only [Option.bind_some]
        rw [need_bad (r := bad l w) hw]
        exact ⟨_, bad l w, rfl, rfl, rfl⟩
      | ok p =>
        obtain ⟨t3, q3⟩ := p
        have g3 := sufk g2 (goes_need 4 [46] q2) h3
        rw [need_ok c g2 (L_strB _) h3]
        simp only [Option.bind_some, andP_ok']
        cases h4 : pNeed 2 [] q3 with
        | error w =>
          have hw := lineV_pos c (sufe g3 (goes_need 2 [] q3) h4)
          rw [need_err c h0 g3 (L_strB _) h4]
          simp only [Option.bind_some]
          rw [need_bad (r := bad l w) hw]
          exact ⟨_, bad l w, rfl, rfl, rfl⟩
        | ok p =>
          obtain ⟨t4, q4⟩ := p
          have g4 := sufk g3 (goes_need 2 [] q3) h4
          rw [need_ok c g3 (L_strB _) h4]
          simp only [Option.bind_some, andP_ok']
          cases h5 : pNeed 4 [59] q4 with
          | error w =>
            rw [need_err c h0 g4 (L_strB _) h5]
            exact ⟨_, bad l w, rfl, rfl, rfl⟩
          | ok p =>
            obtain ⟨t5, q5⟩ := p
            rw [need_ok c g4 (L_strB _) h5]
            rfl

theorem edge_eq {l q : List TToken} : pEdge q = andP (pNeed 1 [] q) fun t r => if L t.2.1 = L sRise then .ok (true, r) else if L t.2.1 = L sFall then .ok (false, r) else .error q := by
  unfold pEdge
  cases q with
  | nil => rfl
  | cons t r =>
    have e1 : ∀ w, hdT 1 w (t :: r) = (decide (t.1 = 1) && (w.isEmpty || (L t.2.1 == w))) := fun w => rfl
    have e2 : ∀ w, pNeed 1 w (t :: r) = if (decide (t.1 = 1) && (w.isEmpty || (L t.2.1 == w))) = true then .ok (t, r) else .error (t :: r) := fun w => rfl
    rw [e1, e2, e2]
    by_cases h1 : t.1 = 1
    · rw [decide_eq_true h1]
      by_cases h2 : L t.2.1 = L sRise
      · rw [if_pos (show (true && ((L sRise).isEmpty || (L t.2.1 == L sRise))) = true by rw [h2]; simp), if_pos (show (true && (([] : List UInt8).isEmpty || (L t.2.1 == []))) = true by simp)]
        show _ = (if L t.2.1 = L sRise then _ else _)
        rw [if_pos h2]
        rfl
      · have n2 : (L t.2.1 == L sRise) = false := beq_eq_false_iff_ne.2 h2
        rw [if_neg (show ¬ (true && ((L sRise).isEmpty || (L t.2.1 == L sRise))) = true by rw [n2]; decide), if_pos (show (true && (([] : List UInt8).isEmpty || (L t.2.1 == []))) = true by simp)]
        by_cases h3 : L t.2.1 = L sFall
        · rw [if_pos (show (true && ((L sFall).isEmpty || (L t.2.1 == L sFall))) = true by rw [h3]; simp)]
          show _ = (if L t.2.1 = L sRise then _ else if L t.2.1 = L sFall then _ else _)
          rw [if_neg h2, if_pos h3]
          rfl
        · have n3 : (L t.2.1 == L sFall) = false := beq_eq_false_iff_ne.2 h3
          rw [if_neg (show ¬ (true && ((L sFall).isEmpty || (L t.2.1 == L sFall))) = true by rw [n3]; decide)]
          show _ = (if L t.2.1 = L sRise then _ else if L t.2.1 = L sFall then _ else _)
          rw [if_neg h2, if_neg h3]
          rfl
    · rw [decide_eq_false h1]
      rfl

theorem lim7 {l r : List TToken} {t : TToken} (c : Ctx l) (h : (t :: r) <:+ l) (x : TLimit) (m : Nat) (hm : 1 ≤ m ∧ m ≤ 6) : Out l (limit_reader_limit_l4 7 (rd l (t :: r)) x ((m : Int), strB [], strB [], false, 0, 0)) (andP (pNeed 1 [] r) fun d q => andP (pClock m q) fun ce q => pRange m d.2.1 ce.1 ce.2 q) := by
  have h0 : 0 < l.length := by have := (at_cons h).1; omega
  have hr : r <:+ l := (List.suffix_cons t r).trans h
  have bindOut : ∀ {e : List TToken} {rr : Treader} (y : TLimit), e <:+ l → rr.1 = l → rr.2.2 = lineV l e → ∃ z r, r.1 = l ∧ r.2.2 = lineV l e ∧ limit_reader_limit_l16 rr x y = some ((z, ()), ((r : Treader), ())) := fun y he h1 h2 => by
    obtain ⟨z, hz⟩ := l16_bad (r := _) (by rw [h2]; exact lineV_pos c he) x y
    exact ⟨z, _, h1, h2, hz⟩
  have e4 : ∀ mm : Nat, clkB (mm : Int) = true ↔ 4 ≤ mm ∧ mm ≤ 6 := fun mm => by
    unfold clkB
    rw [decide_eq_true_eq]
    omega
  rw [limit_reader_limit_l4_eq, if_neg (dF (by omega)), if_neg (eF (show ¬ ((m : Int)) = 0 by omega))]
  have er : ((rd l (t :: r)).1, IntKind.i64.wrap ((rd l (t :: r)).2.1 + 1), (rd l (t :: r)).2.2) = rd l r := by
    show (l, IntKind.i64.wrap (ixn l (t :: r) + 1), (0 : Int)) = _
    rw [ixn_next c h]
    rfl
  rw [er]
  cases h1 : pNeed 1 [] r with
  | error e =>
    have he := sufe hr (goes_need 1 [] r) h1
    have hw := lineV_pos c he
    rw [need_err c h0 hr (L_strB _) h1]
    simp only [Option.bind_some]
    rw [clocked_b]
    simp only [Option.bind_some]
    by_cases hk : clkB (m : Int) = true
    · rw [if_pos hk, need_bad (r := bad l e) hw]
      simp only [Option.bind_some]
      rw [need_bad (r := bad l e) hw]
      simp only [Option.bind_some]
      rw [if_neg (eF (by show ¬ lineV l e = 0; omega))]
      exact bindOut _ he rfl rfl
    · rw [if_neg hk]
      exact bindOut _ he rfl rfl
  | ok p =>
    obtain ⟨t1, q1⟩ := p
    have g1 := sufk hr (goes_need 1 [] r) h1
    rw [need_ok c hr (L_strB _) h1]
    simp only [Option.bind_some, andP_ok']
    rw [clocked_b]
    simp only [Option.bind_some]
    unfold pClock
    by_cases hk : 4 ≤ m
    · rw [if_pos ((e4 m).2 (by omega)), if_pos hk]
      cases h2 : pNeed 1 [] q1 with
      | error e =>
        have he := sufe g1 (goes_need 1 [] q1) h2
        have hw := lineV_pos c he
        rw [need_err c h0 g1 (L_strB _) h2]
        simp only [Option.bind_some]
        rw [need_bad (r := bad l e) hw]
        simp only [Option.bind_some]
        rw [if_neg (eF (by show ¬ lineV l e = 0; omega))]
        exact bindOut _ he rfl rfl
      | ok p =>
        obtain ⟨t2, q2⟩ := p
        have g2 := sufk g1 (goes_need 1 [] q1) h2
        rw [need_ok c g1 (L_strB _) h2]
        simp only [Option.bind_some, andP_ok']
        rw [edge_eq (l := l)]
        cases h3 : pNeed 1 [] q2 with
        | error e =>
          have he := sufe g2 (goes_need 1 [] q2) h3
          have hw := lineV_pos c he
          rw [need_err c h0 g2 (L_strB _) h3]
          simp only [Option.bind_some]
          rw [if_neg (eF (by show ¬ lineV l e = 0; omega))]
          exact bindOut _ he rfl rfl
        | ok p =>
          obtain ⟨t3, q3⟩ := p
          have g3 := sufk g2 (goes_need 1 [] q2) h3
          have e2 : q2 = t3 :: q3 := (need_ok_inv h3).1
          rw [need_ok c g2 (L_strB _) h3]
          simp only [Option.bind_some, andP_ok']
          rw [if_pos (eT (show (rd l q3).2.2 = 0 from rfl))]
          simp only [toL]
          have er : L (strB [114, 105, 115, 101]) = L sRise := rfl
          have ef : L (strB [102, 97, 108, 108]) = L sFall := rfl
          rw [er, ef]
          by_cases a1 : L t3.2.1 = L sRise
          · have b1 : (L t3.2.1 == L sRise) = true := beq_iff_eq.2 a1
            rw [b1, if_neg (by simp), if_pos a1, andP_ok', andP_ok']
            exact range_rd c h0 g3 x m _ _ true _
          · have b1 : (L t3.2.1 == L sRise) = false := beq_eq_false_iff_ne.2 a1
            rw [b1, if_pos (by simp), if_neg a1]
            by_cases a2 : L t3.2.1 = L sFall
            · have b2 : (L t3.2.1 == L sFall) = true := beq_iff_eq.2 a2
              rw [b2, if_neg (by simp), if_pos a2, andP_ok', andP_ok']
              exact range_rd c h0 g3 x m _ _ false _
            · have b2 : (L t3.2.1 == L sFall) = false := beq_eq_false_iff_ne.2 a2
              rw [b2, if_pos (by simp), if_neg a2]
              exact bindOut _ g2 rfl (by rw [e2]; rfl)
    · rw [if_neg (fun q => hk ((e4 m).1 q).1), if_neg hk, andP_ok']
      exact range_rd c h0 g1 x m _ _ false _

theorem lim_step {l r : List TToken} {t : TToken} (h : (t :: r) <:+ l) (x : TLimit) (z : ByteArray × ByteArray × Bool × RunT) (v m : Int) (hm : 1 ≤ m ∧ m ≤ 6) :
    limit_reader_limit_l4 m (rd l (t :: r)) x (v, z) = limit_reader_limit_l4 (m + 1) (rd l (t :: r)) x (if t.1 = 1 ∧ L t.2.1 = L (measW m) then m else v, z) := by
  obtain ⟨_, h2, _⟩ := at_cons h
  have c2 : 0 ≤ (rd l (t :: r)).2.1 ∧ (rd l (t :: r)).2.1 < ((rd l (t :: r)).1.length : Int) := ixn_in h
  have h2' : (rd l (t :: r)).1.getD (rd l (t :: r)).2.1.toNat dToken = t := h2
  rw [limit_reader_limit_l4_eq, if_pos (dT (by omega)), if_pos c2, h2', lword_b m hm, w64 (by omega) (by omega)]
  simp only [Option.bind_some, toL]
  by_cases a : t.1 = 1
  · rw [if_pos (eT a)]
    by_cases b : L t.2.1 = L (measW m)
    · rw [if_pos (beq_iff_eq.2 b), if_pos ⟨a, b⟩]
    · rw [if_neg (by simpa using b), if_neg (fun q => b q.2)]
  · rw [if_neg (eF a), if_neg (fun q => a q.1)]

theorem meas_last (b : List UInt8) : (if b = L (measW 6) then (6 : Int) else if b = L (measW 5) then 5 else if b = L (measW 4) then 4 else if b = L (measW 3) then 3 else if b = L (measW 2) then 2 else if b = L (measW 1) then 1 else 0) = (measNo b : Int) := by
  unfold measNo
  by_cases h1 : b = L (measW 1)
  · subst h1; decide
  by_cases h2 : b = L (measW 2)
  · subst h2; decide
  by_cases h3 : b = L (measW 3)
  · subst h3; decide
  by_cases h4 : b = L (measW 4)
  · subst h4; decide
  by_cases h5 : b = L (measW 5)
  · subst h5; decide
  by_cases h6 : b = L (measW 6)
  · subst h6; decide
  rw [if_neg h1, if_neg h2, if_neg h3, if_neg h4, if_neg h5, if_neg h6, if_neg h1, if_neg h2, if_neg h3, if_neg h4, if_neg h5, if_neg h6]
  rfl

theorem measNo_le (b : List UInt8) : measNo b ≤ 6 := by
  unfold measNo
  repeat' split
  all_goals omega

theorem limit_rd {l r : List TToken} {t : TToken} (c : Ctx l) (h : (t :: r) <:+ l) : Out l (limit_reader_limit (rd l (t :: r))) (pLim (t :: r)) := by
  unfold limit_reader_limit pLim
  rw [lim_step h _ _ _ _ (by omega)]
  rw [show (1 : Int) + 1 = 2 from rfl, lim_step h _ _ _ _ (by omega)]
  rw [show (2 : Int) + 1 = 3 from rfl, lim_step h _ _ _ _ (by omega)]
  rw [show (3 : Int) + 1 = 4 from rfl, lim_step h _ _ _ _ (by omega)]
  rw [show (4 : Int) + 1 = 5 from rfl, lim_step h _ _ _ _ (by omega)]
  rw [show (5 : Int) + 1 = 6 from rfl, lim_step h _ _ _ _ (by omega)]
  rw [show (6 : Int) + 1 = 7 from rfl]
  by_cases a : t.1 = 1
  · simp only [a, true_and]
    rw [meas_last]
    by_cases b : measNo (L t.2.1) = 0
    · have ep : pMeas (t :: r) = .error (t :: r) := by
        show (if t.1 = 1 ∧ measNo (L t.2.1) ≠ 0 then _ else _) = _
        rw [if_neg (fun q => q.2 b)]
      have c2 : 0 ≤ (rd l (t :: r)).2.1 ∧ (rd l (t :: r)).2.1 < ((rd l (t :: r)).1.length : Int) := ixn_in h
      have h2' : (rd l (t :: r)).1.getD (rd l (t :: r)).2.1.toNat dToken = t := (at_cons h).2.1
      rw [ep, b, limit_reader_limit_l4_eq, if_neg (dF (by omega)), if_pos (by rfl), if_pos c2, h2']
      exact ⟨_, _, rfl, rfl, rfl⟩
    · have ep : pMeas (t :: r) = .ok (measNo (L t.2.1), r) := by
        show (if t.1 = 1 ∧ measNo (L t.2.1) ≠ 0 then _ else _) = _
        rw [if_pos ⟨a, b⟩]
      rw [ep, andP_ok']
      exact lim7 c h _ _ ⟨by omega, measNo_le _⟩
  · have ep : pMeas (t :: r) = .error (t :: r) := by
      show (if t.1 = 1 ∧ measNo (L t.2.1) ≠ 0 then _ else _) = _
      rw [if_neg (fun q => a q.1)]
    have c2 : 0 ≤ (rd l (t :: r)).2.1 ∧ (rd l (t :: r)).2.1 < ((rd l (t :: r)).1.length : Int) := ixn_in h
    have h2' : (rd l (t :: r)).1.getD (rd l (t :: r)).2.1.toNat dToken = t := (at_cons h).2.1
    simp only [a, false_and, if_false]
    rw [ep, limit_reader_limit_l4_eq, if_neg (dF (by omega)), if_pos (by rfl), if_pos c2, h2']
    exact ⟨_, _, rfl, rfl, rfl⟩

/-! ### lists of limits -/
theorem l8_bad {r : Treader} (h : r.2.2 > 0) (acc : List TLimit) : limit_Parse_l8 r acc = some (([], r.2.2, 4, ()), ()) := by
  rw [limit_Parse_l8_eq, if_pos (dT h), if_neg (eF (by omega))]
  split <;> rfl

def OutT (o : Option ((List TLimit × Int × Int × Unit) × Unit)) (l : List TToken) : PR (List LimT) → Prop
  | .ok (x, _) => o = some ((if wrongL x = 0 then (x, 0, 0, ()) else ([], 0, wrongL x, ())), ())
  | .error e => o = some (([], lineV l e, 4, ()), ())

theorem l8_rd {l : List TToken} (c : Ctx l) : ∀ (k : Nat) (acc : List TLimit) (q : List TToken), q <:+ l → q.length ≤ k → acc.length + k ≤ 1048577 → OutT (limit_Parse_l8 (rd l q) acc) l (pLims k acc q) := by
  have endk : ∀ (acc : List TLimit), acc.length ≤ 1048577 → limit_Parse_l8 (rd l []) acc = some ((if wrongL acc = 0 then (acc, 0, 0, ()) else ([], 0, wrongL acc, ())), ()) := fun acc ha => by
    rw [limit_Parse_l8_eq]
    refine (if_neg (dF (by show ¬ ixn l [] < (l.length : Int); rw [ixn_nil]; omega))).trans ?_
    refine (if_neg (dF (by show ¬ (0 : Int) > 0; omega))).trans ?_
    rw [lprint_b acc ha, printL_err]
    simp only [Option.bind_some]
    by_cases he : wrongL acc = 0
    · rw [if_neg (nF he), if_pos he]
    · rw [if_pos (nT he), if_neg he]
  intro k
  induction k with
  | zero =>
    intro acc q h hk hb
    have : q = [] := List.length_eq_zero_iff.1 (by omega)
    subst this
    exact endk acc (by omega)
  | succ k ih =>
    intro acc q h hk hb
    unfold pLims
    cases q with
    | nil =>
      rw [if_pos rfl]
      exact endk acc (by omega)
    | cons t r =>
      rw [if_neg (by simp), limit_Parse_l8_eq]
      have hin := ixn_in h
      have hl := c.len
      refine Eq.subst (motive := fun o => OutT o l _) (if_pos (dT (by show ixn l (t :: r) < (l.length : Int); omega))).symm ?_
      refine Eq.subst (motive := fun o => OutT o l _) (if_pos (eT (show (rd l (t :: r)).2.2 = 0 from rfl))).symm ?_
      have ho := limit_rd c h
      cases h1 : pLim (t :: r) with
      | error e =>
        have he := sufe h (goes_lim (t :: r)) h1
        rw [h1] at ho
        obtain ⟨z, rr, hr1, hr2, hz⟩ := ho
        rw [hz]
        simp only [Option.bind_some]
        rw [if_pos ⟨by omega, by decide⟩]
        have hp := lineV_pos c he
        refine (l8_bad (r := rr) (by omega) _).trans ?_
        rw [hr2]
      | ok p =>
        obtain ⟨x, q1⟩ := p
        have g1 := sufk h (goes_lim (t :: r)) h1
        have o1 := okLen (goes_lim (t :: r)) h1
        rw [h1] at ho
        rw [show limit_reader_limit (rd l (t :: r)) = some ((x, ()), (rd l q1, ())) from ho]
        simp only [Option.bind_some, andP_ok']
        rw [if_pos ⟨by omega, by decide⟩]
        exact ih (acc ++ [x]) q1 g1 (by omega) (by rw [List.length_append]; simp only [List.length_cons, List.length_nil]; omega)

theorem lparse_b (s : ByteArray) : limit_Parse s = some (((parseL (L s)).1, (parseL (L s)).2.1, (parseL (L s)).2.2, ()), ()) := by
  unfold limit_Parse parseL
  have hlen := tokOut_length s
  rw [lex_Tokens_b]
  simp only [Option.bind_some]
  cases h : tokV (L s) with
  | error e =>
    simp only [tokOut]
    by_cases he : e.2 = 0
    · exact absurd he (tokV_err h)
    · refine (if_pos (nT he)).trans ?_
      rfl
  | ok l =>
    rw [h] at hlen
    simp only [tokOut, List.nil_append] at hlen ⊢
    refine (if_neg (nF rfl)).trans ?_
    have c : Ctx l := ⟨hlen, tokV_good h⟩
    have e0 : ((l, 0, 0) : Treader) = rd l l := by unfold rd ixn; simp
    have ho := l8_rd c l.length [] l (List.suffix_refl l) (Nat.le_refl _) (by simp only [List.length_nil]; omega)
    rw [← e0] at ho
    cases ha : pLims l.length [] l with
    | error e =>
      rw [ha] at ho
      exact ho
    | ok d =>
      obtain ⟨t, q⟩ := d
      rw [ha] at ho
      refine Eq.trans ho ?_
      simp only
      split <;> rfl

end Go.Proofs.YtejehchbflmofaaGreatDoor
end

section
/-
YtejehchbflmofaaGreatDoor: channels of captures, measurements, gaps, violations and the worst gap, as plain functions, come to the plain law. No condition.
-/
set_option maxRecDepth 100000
set_option linter.unusedVariables false
open Go Go.AM
namespace Go.Proofs.YtejehchbflmofaaGreatDoor

theorem sum0 : ∀ (l : List RunT), (∀ r ∈ l, 1 ≤ r.2) → 0 ≤ (l.map (·.2)).sum
  | [], _ => by simp
  | x :: l, h => by
    have h1 := sum0 l (fun r hr => h r (by simp [hr]))
    have h2 := h x (by simp)
    simp only [List.map_cons, List.sum_cons]
    omega
theorem le_sum : ∀ (l : List RunT), (∀ r ∈ l, 1 ≤ r.2) → ∀ r ∈ l, r.2 ≤ (l.map (·.2)).sum
  | [], _, r, hr => by simp at hr
  | x :: l, h, r, hr => by
    have h1 := sum0 l (fun r hr => h r (by simp [hr]))
    have h2 := h x (by simp)
    simp only [List.map_cons, List.sum_cons]
    rcases List.mem_cons.1 hr with rfl | hr
    · omega
    · have := le_sum l (fun r hr => h r (by simp [hr])) r hr
      omega

def bitF (k v : Int) : Int := IntKind.i64.wrap (BitVec.ofInt 64 (v.fdiv (2 ^ (min k.toNat 64))) &&& BitVec.ofInt 64 1).toNat
theorem bitF01 (k v : Int) : bitF k v = 0 ∨ bitF k v = 1 := by
  unfold bitF
  have h : (BitVec.ofInt 64 (v.fdiv (2 ^ (min k.toNat 64))) &&& BitVec.ofInt 64 1).toNat = 0 ∨ (BitVec.ofInt 64 (v.fdiv (2 ^ (min k.toNat 64))) &&& BitVec.ofInt 64 1).toNat = 1 := by
    rw [BitVec.toNat_and, show (BitVec.ofInt 64 1).toNat = 1 from rfl, Nat.and_one_is_mod]
    omega
  rcases h with h | h
  · rw [h]; exact .inl (by decide)
  · rw [h]; exact .inr (by decide)

def ixN (l : List ByteArray) (v : ByteArray) : Nat := (l.findIdx? fun b => L b == L v).getD 0
def chanOf (c : TCapture) (v : ByteArray) : List RunT := chanW (bitF (ixN c.1 v)) c.2
def gapsC (c : TCapture) (x : LimT) : List GapT := gapsV x (chanOf c x.2.1) (if clkB x.1 = true then chanOf c x.2.2.1 else [])

structure CapOk (c : TCapture) : Prop where
  n : c.1.length ≤ 16
  r : c.2.length ≤ 262144
  names : namesE c.1 = 0
  runs : runsB (maskI c.1.length) 1099511627776 c.2 = true

theorem capE_zero {c : TCapture} (h : capE c = 0) : CapOk c := by
  unfold capE at h
  by_cases a : 16 < c.1.length ∨ 262144 < c.2.length
  · rw [if_pos a] at h; omega
  · rw [if_neg a] at h
    by_cases b : namesE c.1 = 0
    · rw [if_pos b] at h
      by_cases d : runsB (maskI c.1.length) 1099511627776 c.2 = true
      · exact ⟨by omega, by omega, b, d⟩
      · rw [if_neg d] at h; omega
    · rw [if_neg b] at h; exact absurd h b

theorem chanOf_ok {c : TCapture} (h : capE c = 0) (v : ByteArray) : WaveOk (chanOf c v) ∧ AltW (chanOf c v) := chan_ok (fun v => bitF01 _ v) (capE_zero h).runs (capE_zero h).r
theorem nil_ok : WaveOk [] ∧ AltW [] := ⟨⟨by simp, by simp, by simp, by simp⟩, trivial⟩

/-! ### channels -/
theorem last_ix (b : List RunT) (y : TGap) (h : b.length ≤ 1048577) : IntKind.i64.wrap (((b ++ [y]).length : Int) - 1) = (b.length : Int) := by
  have : (b ++ [y]).length = b.length + 1 := by simp
  rw [w64 (by omega) (by omega)]
  omega

theorem join_b (lv t : Int) (l : List RunT) (hl : l.length ≤ 1048577) (ht : 0 ≤ t ∧ t ≤ 1099511627776) (hr : ∀ r ∈ l, 0 ≤ r.2 ∧ r.2 ≤ 1099511627776) : capture_join lv t l = some (((), ()), ((), putW l (lv, t), ())) := by
  unfold capture_join
  rcases snoc_cases l with rfl | ⟨b, y, rfl⟩
  · rw [if_neg (dF (by simp)), if_pos ⟨by simp, by decide⟩]; rfl
  · have hb : (b ++ [y]).length = b.length + 1 := by simp
    have hy := hr y (by simp)
    have hg : (b ++ [y]).getD b.length dGap = y := by simp
    have hs : ∀ v, (b ++ [y]).set b.length v = b ++ [v] := by simp
    have hin : 0 ≤ (b.length : Int) ∧ (b.length : Int) < ((b ++ [y]).length : Int) := by omega
    rw [if_pos (dT (by omega)), last_ix b y (by omega), if_pos hin, if_pos hin, if_pos hin, Int.toNat_natCast, hg, hs, putW_snoc]
    by_cases he : y.1 = lv
    · rw [if_pos (eT he), if_pos he, w64 (by omega) (by omega)]
    · rw [if_neg (eF he), if_neg he, if_pos ⟨by omega, by decide⟩]; simp

theorem acc_ok {acc r : List RunT} (h1 : ∀ x ∈ acc, 1 ≤ x.2) (h2 : ∀ x ∈ r, 1 ≤ x.2) (h3 : (acc.map (·.2)).sum + (r.map (·.2)).sum ≤ 1099511627776) : ∀ x ∈ acc, 0 ≤ x.2 ∧ x.2 ≤ 1099511627776 := fun x hx => by
  have a := h1 x hx
  have b := le_sum acc h1 x hx
  have d := sum0 r h2
  omega

theorem chan12 (k : Nat) (l : List RunT) (hl : l.length ≤ 1048576) : ∀ (r : List RunT) (i : Nat) (acc : List RunT), l.drop i = r → acc.length ≤ i → (∀ x ∈ acc, 1 ≤ x.2) → (∀ x ∈ r, 1 ≤ x.2) → (acc.map (·.2)).sum + (r.map (·.2)).sum ≤ 1099511627776 →
    capture_Channel_l12 k l (l.length : Int) i acc = some (((r.map fun x => (bitF k x.1, x.2)).foldl putW acc, 0, ()), ())
  | [], i, acc, h, ha, h1, h2, h3 => by
    have h0 := drop_nil h
    rw [capture_Channel_l12_eq, if_neg (dF (by omega))]
    rfl
  | x :: r, i, acc, h, ha, h1, h2, h3 => by
    have h0 := drop_lt h
    have hg : l.getD (i : Int).toNat dGap = x := getD_drop h
    have hx := h2 x (by simp)
    have hr : ∀ x ∈ r, 1 ≤ x.2 := fun y hy => h2 y (by simp [hy])
    have s0 := sum0 r hr
    have sa := sum0 acc h1
    have ok := acc_ok h1 h2 h3
    simp only [List.map_cons, List.sum_cons] at h3
    rw [capture_Channel_l12_eq, if_pos (dT (by omega)), if_pos ⟨by omega, by omega⟩, if_pos (show 0 ≤ (k : Int) by omega), hg, join_b _ _ _ (by omega) (by omega) ok, w64a i (by omega)]
    simp only [Option.bind_some]
    have ln := putW_len acc (bitF k x.1, x.2)
    exact chan12 k l hl r (i + 1) (putW acc (bitF k x.1, x.2)) (dropS h) (by omega) (putW_mem (p := fun r => 1 ≤ r.2) (fun l t t' q q' => by show 1 ≤ t + t'; have q : 1 ≤ t := q; have q' : 1 ≤ t' := q'; omega) h1 hx) hr (by rw [putW_sum]; show _ + x.2 + _ ≤ _; omega)

theorem ix_of {l : List ByteArray} {v : ByteArray} (h : hasB l v = true) : l.findIdx? (fun b => L b == L v) = some (ixN l v) := by
  unfold ixN
  cases hf : l.findIdx? (fun b => L b == L v) with
  | some i => rfl
  | none =>
    obtain ⟨b, hb, hp⟩ := List.any_eq_true.1 h
    have := List.findIdx?_eq_none_iff.1 hf b hb
    rw [hp] at this
    cases this

theorem channel_b (c : TCapture) (hc : capE c = 0) (v : ByteArray) (hv : hasB c.1 v = true) : capture_Channel c v = some ((chanOf c v, 0, ()), ()) := by
  have ok := capE_zero hc
  have h1 := ok.n
  have h2 := ok.r
  obtain ⟨f1, f2⟩ := runsB_facts c.2 _ ok.runs (by omega)
  unfold capture_Channel
  rw [ccheck_b c (by omega) (by omega), hc, index_b _ (by omega), ix_of hv]
  simp only [Option.bind_some]
  refine (if_neg (by decide)).trans ?_
  refine (if_neg (dF (by show ¬ ((ixN c.1 v : Nat) : Int) < 0; omega))).trans ?_
  exact chan12 (ixN c.1 v) c.2 (by omega) c.2 0 [] rfl (by simp) (by simp) (fun x hx => (f1 x hx).1) (by simpa using f2)

/-! ### waves -/
theorem bit_ok {v : Int} (h : v = 0 ∨ v = 1) : IntKind.i64.wrap (BitVec.ofInt 64 v &&& ~~~ BitVec.ofInt 64 1).toNat = 0 := by
  rcases h with rfl | rfl <;> decide

theorem valid_loop (l : List RunT) (hl : l.length ≤ 262144) (hv : ∀ r ∈ l, r.1 = 0 ∨ r.1 = 1) (ht : ∀ r ∈ l, 1 ≤ r.2) : ∀ (r : List RunT) (k : Nat) (left : Int), l.drop k = r → (r.map (·.2)).sum ≤ left → left ≤ 1099511627776 → wave_Valid_l7 left l (l.length : Int) k = some ((true, ()), ())
  | [], k, left, h, h1, h2 => by
    have h0 := drop_nil h
    rw [wave_Valid_l7_eq, if_neg (dF (by omega))]
  | x :: r, k, left, h, h1, h2 => by
    have h0 := drop_lt h
    have hg : l.getD (k : Int).toNat dGap = x := getD_drop h
    have hx := ht x (mem_drop h)
    have s0 := sum0 r (fun y hy => ht y (by
      have : y ∈ l.drop k := by rw [h]; simp [hy]
      exact List.mem_of_mem_drop this))
    simp only [List.map_cons, List.sum_cons] at h1
    rw [wave_Valid_l7_eq, if_pos (dT (by omega)), if_pos ⟨by omega, by omega⟩, hg, if_neg (nF (bit_ok (hv x (mem_drop h)))), if_neg (dF (by omega)), if_neg (dF (by omega)), w64 (by omega) (by omega), w64a k (by omega)]
    exact valid_loop l hl hv ht r (k + 1) (left - x.2) (dropS h) (by omega) (by omega)

theorem wvalid_b {w : List RunT} (h : WaveOk w) : wave_Valid w = some ((true, ()), ()) := by
  have hl := h.len
  unfold wave_Valid
  rw [if_neg (dF (by omega))]
  exact valid_loop w hl h.level h.ticks w 0 _ rfl h.sum (by omega)

theorem alt_mid : ∀ (b : List RunT) (y x : RunT) (l : List RunT), AltW (b ++ y :: x :: l) → y.1 ≠ x.1
  | [], y, x, l, h => h.1
  | [c], y, x, l, h => h.2.1
  | c :: d :: b, y, x, l, h => alt_mid (d :: b) y x l h.2

theorem joined_loop (l : List RunT) (hl : l.length ≤ 262144) : ∀ (r : List RunT) (k : Nat) (acc : List RunT), l.drop k = r → acc.length ≤ k → AltW (acc ++ r) → wave_joined_l4 l (l.length : Int) k acc = some ((acc ++ r, ()), ())
  | [], k, acc, h, ha, hw => by
    have h0 := drop_nil h
    rw [wave_joined_l4_eq, if_neg (dF (by omega)), List.append_nil]
  | x :: r, k, acc, h, ha, hw => by
    have h0 := drop_lt h
    have hg : l.getD (k : Int).toNat dGap = x := getD_drop h
    have ih := joined_loop l hl r (k + 1) (acc ++ [x]) (dropS h) (by simp; omega) (by simpa using hw)
    rw [wave_joined_l4_eq, if_pos (dT (by omega)), if_pos ⟨by omega, by omega⟩, hg, w64a k (by omega)]
    rw [List.append_assoc] at ih
    rcases snoc_cases acc with rfl | ⟨b, y, rfl⟩
    · rw [if_neg (dF (by simp)), if_pos ⟨by simp, by decide⟩]
      exact ih
    · have hb : (b ++ [y]).length = b.length + 1 := by simp
      have hg2 : (b ++ [y]).getD b.length dGap = y := by simp
      have hin : 0 ≤ (b.length : Int) ∧ (b.length : Int) < ((b ++ [y]).length : Int) := by omega
      have hne : y.1 ≠ x.1 := alt_mid b y x r (by simpa using hw)
      rw [if_pos (dT (by omega)), last_ix b y (by omega), if_pos hin, Int.toNat_natCast, hg2, if_neg (eF hne), if_pos ⟨by omega, by decide⟩]
      exact ih

theorem clean_b {w : List RunT} (h : WaveOk w) (ha : AltW w) : wave_Clean w = some ((w, ()), ()) := by
  have hl := h.len
  unfold wave_Clean wave_joined
  rw [wvalid_b h]
  simp only [Option.bind_some]
  refine (if_neg (by decide)).trans ?_
  have := joined_loop w hl w 0 [] rfl (by simp) ha
  rw [List.nil_append] at this
  rw [show wave_joined_l4 w (w.length : Int) 0 [] = _ from this]
  rfl

def riseC (p : Int × Int) : Tchange := (p.1, p.2 == 1)

theorem changes_loop (l : List RunT) (hl : l.length ≤ 262144) : ∀ (r : List RunT) (k : Nat) (t : Int) (acc : List Tchange), l.drop k = r → 1 ≤ k → acc.length ≤ k → 0 ≤ t → (∀ x ∈ r, 1 ≤ x.2) → t + (r.map (·.2)).sum ≤ 1099511627776 →
    measure_changes_l5 t l (l.length : Int) k acc = some ((acc ++ (chg t r).map riseC, ()), ())
  | [], k, t, acc, h, hk, ha, h0, h1, h2 => by
    have h3 := drop_nil h
    rw [measure_changes_l5_eq, if_neg (dF (by omega))]
    simp [chg]
  | x :: r, k, t, acc, h, hk, ha, h0, h1, h2 => by
    have h3 := drop_lt h
    have hg : l.getD (k : Int).toNat dGap = x := getD_drop h
    have hr : ∀ x ∈ r, 1 ≤ x.2 := fun y hy => h1 y (by simp [hy])
    have hx := h1 x (by simp)
    have s0 := sum0 r hr
    simp only [List.map_cons, List.sum_cons] at h2
    rw [measure_changes_l5_eq, if_pos (dT (by omega)), if_pos ⟨by omega, by omega⟩, hg, if_pos (dT (by omega)), if_pos ⟨by omega, by decide⟩, w64 (by omega) (by omega), w64a k (by omega), changes_loop l hl r (k + 1) (t + x.2) _ (dropS h) (by omega) (by simp; omega) (by omega) hr (by omega)]
    simp [chg, riseC]

theorem changes_b {w : List RunT} (h : WaveOk w) (ha : AltW w) : measure_changes w = some (((chgs w).map riseC, ()), ()) := by
  have hl := h.len
  have hs := h.sum
  unfold measure_changes
  rw [clean_b h ha]
  simp only [Option.bind_some]
  cases w with
  | nil => rw [measure_changes_l5_eq, if_neg (dF (by simp))]; rfl
  | cons x r =>
    have hx := h.ticks x (by simp)
    have hr : ∀ x ∈ r, 1 ≤ x.2 := fun y hy => h.ticks y (by simp [hy])
    have s0 := sum0 r hr
    simp only [List.map_cons, List.sum_cons] at hs
    have e := changes_loop (x :: r) hl r 1 x.2 [] rfl (by omega) (by simp) (by omega) hr (by omega)
    rw [measure_changes_l5_eq, if_pos (dT (by simp)), if_pos ⟨by omega, by simp⟩, if_neg (dF (by omega)), show ((x :: r).getD (0 : Int).toNat dGap) = x from rfl, Int.zero_add, w64 (by omega) (by omega), show IntKind.i64.wrap (0 + 1) = ((1 : Nat) : Int) from by decide]
    exact e

theorem rises_loop (rising : Bool) (l : List (Int × Int)) (hl : l.length ≤ 262144) (hv : ∀ p ∈ l, p.2 = 0 ∨ p.2 = 1) : ∀ (r : List (Int × Int)) (k : Nat) (acc : List Int), l.drop k = r → acc.length ≤ k →
    measure_rises_l4 rising (l.map riseC) ((l.map riseC).length : Int) k acc = some ((acc ++ actV' rising r, ()), ())
  | [], k, acc, h, ha => by
    have h3 := drop_nil h
    rw [measure_rises_l4_eq, if_neg (dF (by rw [List.length_map]; omega))]
    simp [actV', toV]
  | x :: r, k, acc, h, ha => by
    have h3 := drop_lt h
    have hg : (l.map riseC).getD (k : Int).toNat dchange = riseC x := getD_drop (by rw [← List.map_drop, Int.toNat_natCast, h]; rfl)
    have hx := hv x (mem_drop h)
    have hlen : (l.map riseC).length = l.length := List.length_map ..
    rw [measure_rises_l4_eq, if_pos (dT (by omega)), if_pos ⟨by omega, by omega⟩, hg, w64a k (by omega)]
    have e : ((riseC x).2 == rising) = (x.2 == (if rising = true then (1 : Int) else 0)) := by
      unfold riseC
      rcases hx with q | q <;> rw [q] <;> cases rising <;> rfl
    rw [e]
    have ec : actV' rising (x :: r) = (if (x.2 == (if rising = true then (1 : Int) else 0)) = true then [x.1] else []) ++ actV' rising r := by
      unfold actV' toV
      generalize (if rising = true then (1 : Int) else 0) = v
      rw [List.filter_cons]
      by_cases q : (x.2 == v) = true
      · rw [if_pos q, if_pos q]; rfl
      · rw [if_neg q, if_neg q]; rfl
    rw [ec]
    by_cases q : (x.2 == (if rising = true then (1 : Int) else 0)) = true
    · rw [if_pos q, if_pos q, if_pos ⟨by omega, by decide⟩, rises_loop rising l hl hv r (k + 1) _ (dropS h) (by simp; omega)]
      simp [riseC]
    · rw [if_neg q, if_neg q, rises_loop rising l hl hv r (k + 1) _ (dropS h) (by omega)]
      simp

theorem rises_b {w : List RunT} (h : WaveOk w) (ha : AltW w) (rising : Bool) : measure_rises w rising = some ((actV' rising (chgs w), ()), ()) := by
  have ok := chgs_ok h
  unfold measure_rises
  rw [changes_b h ha]
  simp only [Option.bind_some]
  exact rises_loop rising (chgs w) ok.len ok.level (chgs w) 0 [] rfl (by simp)

theorem act_ok {w : List RunT} (h : WaveOk w) (rising : Bool) : TimesOk (actV' rising (chgs w)) := toV_ok (chgs_ok h) _

theorem edges_loop (l : List RunT) (hl : l.length ≤ 262144) (hw : AltW l) : ∀ (r : List RunT) (k : Nat) (t : Int) (acc : List Int), l.drop k = r → 1 ≤ k → acc.length ≤ k → 0 ≤ t → (∀ x ∈ r, 1 ≤ x.2) → t + (r.map (·.2)).sum ≤ 1099511627776 →
    wave_Edges_l8 l t l (l.length : Int) k acc = some ((acc ++ (chg t r).map (·.1), ()), ())
  | [], k, t, acc, h, hk, ha, h0, h1, h2 => by
    have h3 := drop_nil h
    rw [wave_Edges_l8_eq, if_neg (dF (by omega))]
    simp [chg]
  | x :: r, k, t, acc, h, hk, ha, h0, h1, h2 => by
    have h3 := drop_lt h
    have hg : l.getD (k : Int).toNat dGap = x := getD_drop h
    have hr : ∀ x ∈ r, 1 ≤ x.2 := fun y hy => h1 y (by simp [hy])
    have hx := h1 x (by simp)
    have s0 := sum0 r hr
    obtain ⟨j, rfl⟩ : ∃ j, k = j + 1 := ⟨k - 1, by omega⟩
    have hj : j < l.length := by omega
    have hd : l = l.take j ++ l[j] :: x :: r := by
      have e1 := List.take_append_drop j l
      rw [List.drop_eq_getElem_cons hj, h] at e1
      exact e1.symm
    have hne : l[j].1 ≠ x.1 := alt_mid (l.take j) l[j] x r (by rw [← hd]; exact hw)
    have hgj : l.getD ((j : Int)).toNat dGap = l[j] := by rw [Int.toNat_natCast]; exact getD_in _ hj
    simp only [List.map_cons, List.sum_cons] at h2
    rw [wave_Edges_l8_eq, if_pos (dT (by omega)), if_pos ⟨by omega, by omega⟩, hg, if_pos (dT (by omega)), w64 (x := ((j + 1 : Nat) : Int) - 1) (by omega) (by omega), show ((j + 1 : Nat) : Int) - 1 = (j : Int) by omega, if_pos ⟨by omega, by omega⟩, hgj, if_pos (nT hne), if_pos ⟨by omega, by decide⟩, w64 (by omega) (by omega), w64a (j + 1) (by omega), edges_loop l hl hw r (j + 1 + 1) (t + x.2) _ (dropS h) (by omega) (by simp; omega) (by omega) hr (by omega)]
    simp [chg]

theorem edges_b {w : List RunT} (h : WaveOk w) (ha : AltW w) : wave_Edges w = some (((chgs w).map (·.1), ()), ()) := by
  have hl := h.len
  have hs := h.sum
  unfold wave_Edges
  rw [wvalid_b h]
  simp only [Option.bind_some]
  refine (if_neg (by decide)).trans ?_
  cases w with
  | nil => rw [wave_Edges_l8_eq, if_neg (dF (by simp))]; rfl
  | cons x r =>
    have hx := h.ticks x (by simp)
    have hr : ∀ x ∈ r, 1 ≤ x.2 := fun y hy => h.ticks y (by simp [hy])
    have s0 := sum0 r hr
    simp only [List.map_cons, List.sum_cons] at hs
    have e := edges_loop (x :: r) hl ha r 1 x.2 [] rfl (by omega) (by simp) (by omega) hr (by omega)
    rw [wave_Edges_l8_eq, if_pos (dT (by simp)), if_pos ⟨by omega, by simp⟩, if_neg (dF (by omega)), show ((x :: r).getD (0 : Int).toNat dGap) = x from rfl, Int.zero_add, w64 (by omega) (by omega), show IntKind.i64.wrap (0 + 1) = ((1 : Nat) : Int) from by decide]
    exact e

/-! ### measurements -/
theorem perV_cons (a b : Int) (r : List Int) : perV (a :: b :: r) = (a, b - a) :: perV (b :: r) := rfl

theorem periods_loop (l : List Int) (hl : l.length ≤ 262144) (ht : ∀ t ∈ l, 1 ≤ t ∧ t ≤ 1099511627776) : ∀ (r : List Int) (a : Int) (k : Nat) (acc : List RunT), l.drop k = a :: r → acc.length ≤ k →
    measure_Periods_l5 l ((k + 1 : Nat) : Int) acc = some ((acc ++ perV (a :: r), ()), ())
  | [], a, k, acc, h, ha => by
    have h1 := drop_nil (dropS h)
    rw [measure_Periods_l5_eq, if_neg (dF (by omega))]
    simp [perV]
  | b :: r, a, k, acc, h, ha => by
    have h1 := drop_lt h
    have h2 := dropS h
    have h3 := drop_lt h2
    have hg : l.getD (k : Int).toNat 0 = a := getD_drop h
    have hg2 : l.getD ((k + 1 : Nat) : Int).toNat 0 = b := getD_drop h2
    have ta := ht a (mem_drop h)
    have tb := ht b (mem_drop h2)
    have hin : 0 ≤ (k : Int) ∧ (k : Int) < (l.length : Int) := by omega
    rw [measure_Periods_l5_eq, if_pos (dT (by omega)), w64 (x := ((k + 1 : Nat) : Int) - 1) (by omega) (by omega), show ((k + 1 : Nat) : Int) - 1 = (k : Int) by omega, if_pos hin, if_pos ⟨by omega, by omega⟩, if_pos hin, if_pos ⟨by omega, by decide⟩, hg, hg2, w64 (x := b - a) (by omega) (by omega), w64a (k + 1) (by omega), periods_loop l hl ht r b (k + 1) _ h2 (by simp; omega), perV_cons]
    simp

theorem periods_b {w : List RunT} (h : WaveOk w) (ha : AltW w) : measure_Periods w = some ((perV (toV 1 (chgs w)), ()), ()) := by
  have ok := act_ok h true
  have hl := ok.len
  unfold measure_Periods
  rw [rises_b h ha true]
  simp only [Option.bind_some]
  show measure_Periods_l5 (toV 1 (chgs w)) 1 [] = _
  have ok : TimesOk (toV 1 (chgs w)) := ok
  have hl : (toV 1 (chgs w)).length ≤ 262144 := hl
  cases hq : toV 1 (chgs w) with
  | nil => rw [measure_Periods_l5_eq, if_neg (dF (by simp))]; rfl
  | cons a r =>
    rw [hq] at ok hl
    exact periods_loop (a :: r) hl ok.top r a 0 [] rfl (by simp)

theorem pulV_cons (v : Int) (p q : Int × Int) (r : List (Int × Int)) : pulV v (p :: q :: r) = (if p.2 = v then [(p.1, q.1 - p.1)] else []) ++ pulV v (q :: r) := rfl

theorem pulses_loop (v : Int) (l : List RunT) (hl : l.length ≤ 262144) : ∀ (r : List RunT) (k : Nat) (t : Int) (acc : List RunT), l.drop k = r → 1 ≤ k → acc.length ≤ k → 0 ≤ t → (∀ x ∈ r, 1 ≤ x.2) → t + (r.map (·.2)).sum ≤ 1099511627776 →
    measure_Pulses_l6 v l t l (l.length : Int) k acc = some ((acc ++ pulV v (chg t r), ()), ())
  | [], k, t, acc, h, hk, ha, h0, h1, h2 => by
    have h3 := drop_nil h
    rw [measure_Pulses_l6_eq, if_neg (dF (by omega))]
    simp [chg, pulV]
  | [x], k, t, acc, h, hk, ha, h0, h1, h2 => by
    have h3 := drop_lt h
    have h4 := drop_nil (dropS h)
    have hg : l.getD (k : Int).toNat dGap = x := getD_drop h
    have hx := h1 x (by simp)
    simp only [List.map_cons, List.sum_cons, List.map_nil, List.sum_nil] at h2
    rw [measure_Pulses_l6_eq, if_pos (dT (by omega)), if_pos ⟨by omega, by omega⟩, hg, if_pos (dT (by omega)), w64 (x := (l.length : Int) - 1) (by omega) (by omega), if_neg (dF (by omega)), w64 (x := t + x.2) (by omega) (by omega), w64a k (by omega), pulses_loop v l hl [] (k + 1) (t + x.2) _ (dropS h) (by omega) (by omega) (by omega) (by simp) (by simp; omega)]
    simp [chg, pulV]
  | x :: y :: r, k, t, acc, h, hk, ha, h0, h1, h2 => by
    have h3 := drop_lt h
    have h4 := drop_lt (dropS h)
    have hg : l.getD (k : Int).toNat dGap = x := getD_drop h
    have hr : ∀ x ∈ y :: r, 1 ≤ x.2 := fun z hz => h1 z (List.mem_cons_of_mem _ hz)
    have hx := h1 x (by simp)
    have s0 := sum0 (y :: r) hr
    have e2 : ((x :: y :: r).map (·.2)).sum = x.2 + ((y :: r).map (·.2)).sum := by simp
    rw [e2] at h2
    rw [measure_Pulses_l6_eq, if_pos (dT (by omega)), if_pos ⟨by omega, by omega⟩, hg, if_pos (dT (by omega)), w64 (x := (l.length : Int) - 1) (by omega) (by omega), if_pos (dT (by omega)), w64 (x := t + x.2) (by omega) (by omega), w64a k (by omega)]
    have ec : chg t (x :: y :: r) = (t, x.1) :: (t + x.2, y.1) :: chg (t + x.2 + y.2) r := rfl
    have ec2 : chg (t + x.2) (y :: r) = (t + x.2, y.1) :: chg (t + x.2 + y.2) r := rfl
    rw [ec, pulV_cons, ← ec2]
    have e3 : (t + x.2, y.1).1 - (t, x.1).1 = x.2 := by show t + x.2 - t = x.2; omega
    rw [e3]
    by_cases q : x.1 = v
    · rw [if_pos (eT q), if_pos (show (t, x.1).2 = v from q), if_pos ⟨by omega, by decide⟩, pulses_loop v l hl (y :: r) (k + 1) (t + x.2) _ (dropS h) (by omega) (by simp; omega) (by omega) hr (by omega)]
      simp
    · rw [if_neg (eF q), if_neg (show ¬ (t, x.1).2 = v from q), pulses_loop v l hl (y :: r) (k + 1) (t + x.2) _ (dropS h) (by omega) (by omega) (by omega) hr (by omega)]
      simp

theorem pulses_b {w : List RunT} (h : WaveOk w) (ha : AltW w) (v : Int) : measure_Pulses w v = some ((pulV v (chgs w), ()), ()) := by
  have hl := h.len
  have hs := h.sum
  unfold measure_Pulses
  rw [clean_b h ha]
  simp only [Option.bind_some]
  cases w with
  | nil => rw [measure_Pulses_l6_eq, if_neg (dF (by simp))]; rfl
  | cons x r =>
    have hx := h.ticks x (by simp)
    have hr : ∀ x ∈ r, 1 ≤ x.2 := fun y hy => h.ticks y (by simp [hy])
    have s0 := sum0 r hr
    simp only [List.map_cons, List.sum_cons] at hs
    have e := pulses_loop v (x :: r) hl r 1 x.2 [] rfl (by omega) (by simp) (by omega) hr (by omega)
    rw [measure_Pulses_l6_eq, if_pos (dT (by simp)), if_pos ⟨by omega, by simp⟩, if_neg (dF (by omega)), show ((x :: r).getD (0 : Int).toNat dGap) = x from rfl, Int.zero_add, w64 (by omega) (by omega), show IntKind.i64.wrap (0 + 1) = ((1 : Nat) : Int) from by decide]
    exact e

theorem both_b {a b : List RunT} (h : WaveOk a) (h2 : WaveOk b) : measure_both a b = some ((true, ()), ()) := by
  unfold measure_both
  rw [wvalid_b h, wvalid_b h2]
  rfl

theorem setup14 (d : List Int) (hd : TimesOk d) (t : Int) (ht : 1 ≤ t ∧ t ≤ 1099511627776) (a : List Int) (n i : Int) (acc : List RunT) (ha : acc.length ≤ 1048577) : ∀ (m k : Nat), m = uptoV d t - k → k ≤ uptoV d t →
    measure_Setup_l14 d k t a n i acc = measure_Setup_l8 d ((uptoV d t : Nat) : Int) a n (IntKind.i64.wrap (i + 1)) (acc ++ supG d t)
  | 0, k, hm, hk => by
    have hl := hd.len
    have hu := uptoV_le d t
    have ek : uptoV d t = k := by omega
    unfold supG
    rw [ek, measure_Setup_l14_eq]
    by_cases h1 : k < d.length
    rw [if_pos (dT (by omega)), if_pos ⟨by omega, by omega⟩, Int.toNat_natCast, if_neg (dF (by have := uptoV_end d t (by omega); rw [ek] at this; omega))]
    rotate_left
    rw [if_neg (dF (by omega))]
    all_goals
      by_cases h0 : 0 < k
      · have hin : 0 ≤ (k : Int) - 1 ∧ (k : Int) - 1 < (d.length : Int) := by omega
        have hn : ((k : Int) - 1).toNat = k - 1 := by omega
        have hv := hd.top _ (getD_mem (l := d) (k := k - 1) (by omega))
        rw [if_pos (dT (by omega)), w64 (x := (k : Int) - 1) (by omega) (by omega), if_pos hin, if_pos hin, if_pos ⟨by omega, by decide⟩, hn, w64 (x := t - d.getD (k - 1) 0) (by omega) (by omega), if_pos h0]
      · rw [if_neg (dF (by omega)), if_neg h0, List.append_nil]
  | m + 1, k, hm, hk => by
    have hl := hd.len
    have hu := uptoV_le d t
    have hlt := uptoV_at d t k (by omega)
    rw [measure_Setup_l14_eq, if_pos (dT (by omega)), if_pos ⟨by omega, by omega⟩, Int.toNat_natCast, if_pos (dT hlt), w64a k (by omega)]
    exact setup14 d hd t ht a n i acc ha m (k + 1) (by omega) (by omega)

theorem setup8 (d a : List Int) (hd : TimesOk d) (hta : TimesOk a) : ∀ (r : List Int) (i k : Nat) (acc : List RunT) (b : Int), a.drop i = r → Asc b r → k ≤ uptoV d b → acc.length ≤ i →
    measure_Setup_l8 d k a (a.length : Int) i acc = some ((acc ++ r.flatMap (supG d), ()), ())
  | [], i, k, acc, b, h, hb, hk, ha => by
    have h0 := drop_nil h
    rw [measure_Setup_l8_eq, if_neg (dF (by omega))]
    simp
  | t :: r, i, k, acc, b, h, hb, hk, ha => by
    have h0 := drop_lt h
    have hl := hta.len
    have hg : a.getD (i : Int).toNat 0 = t := getD_drop h
    have h1 : b ≤ t := hb.1
    have hm := uptoV_mono d h1
    have hs : (supG d t).length ≤ 1 := by unfold supG; split <;> simp
    rw [measure_Setup_l8_eq, if_pos (dT (by omega)), if_pos ⟨by omega, by omega⟩, hg, setup14 d hd t (hta.top t (mem_drop h)) a _ _ acc (by omega) _ k rfl (by omega), w64a i (by omega), setup8 d a hd hta r (i + 1) (uptoV d t) (acc ++ supG d t) (t + 1) (dropS h) hb.2 (uptoV_mono d (by omega)) (by rw [List.length_append]; omega)]
    simp

theorem setup_b {d c : List RunT} (hd : WaveOk d) (ad : AltW d) (hc : WaveOk c) (ac : AltW c) (rising : Bool) : measure_Setup d c rising = some ((supV ((chgs d).map (·.1)) (actV' rising (chgs c)), ()), ()) := by
  unfold measure_Setup
  rw [both_b hd hc, edges_b hd ad, rises_b hc ac]
  simp only [Option.bind_some]
  refine (if_neg (by decide)).trans ?_
  have ok := act_ok hc rising
  exact setup8 _ _ (times_ok (chgs_ok hd)) ok _ 0 0 [] 1 rfl ok.asc (by omega) (by simp)

theorem fol2 (d : List Int) (hd : TimesOk d) (t : Int) : ∀ (m k : Nat), m = uptoV d t - k → k ≤ uptoV d t →
    measure_follower_1_l2 t k d = if uptoV d t < d.length then some ((d.getD (uptoV d t) 0, true, ()), ((((uptoV d t : Nat) : Int), ()), (d, ()), ())) else some ((0, false, ()), ((((uptoV d t : Nat) : Int), ()), (d, ()), ()))
  | 0, k, hm, hk => by
    have hl := hd.len
    have hu := uptoV_le d t
    have ek : uptoV d t = k := by omega
    rw [ek, measure_follower_1_l2_eq]
    by_cases h1 : k < d.length
    · have hin : 0 ≤ (k : Int) ∧ (k : Int) < (d.length : Int) := by omega
      rw [if_pos (dT (by omega)), if_pos hin, Int.toNat_natCast, if_neg (dF (by have := uptoV_end d t (by omega); rw [ek] at this; omega)), if_neg (eF (by omega)), if_pos hin, if_pos h1]
    · rw [if_neg (dF (by omega)), if_pos (eT (by omega)), if_neg h1]
  | m + 1, k, hm, hk => by
    have hl := hd.len
    have hu := uptoV_le d t
    have hlt := uptoV_at d t k (by omega)
    rw [measure_follower_1_l2_eq, if_pos (dT (by omega)), if_pos ⟨by omega, by omega⟩, Int.toNat_natCast, if_pos (dT hlt), w64a k (by omega)]
    exact fol2 d hd t m (k + 1) (by omega) (by omega)

theorem behind5 (d a : List Int) (hd : TimesOk d) (hta : TimesOk a) : ∀ (r : List Int) (i k : Nat) (acc : List RunT) (b : Int), a.drop i = r → Asc b r → k ≤ uptoV d b → acc.length ≤ i →
    measure_behind_l5 a (a.length : Int) i acc k d = some ((acc ++ r.flatMap (aftG d), ()), ())
  | [], i, k, acc, b, h, hb, hk, ha => by
    have h0 := drop_nil h
    rw [measure_behind_l5_eq, if_neg (dF (by omega))]
    simp
  | t :: r, i, k, acc, b, h, hb, hk, ha => by
    have h0 := drop_lt h
    have hl := hta.len
    have hg : a.getD (i : Int).toNat 0 = t := getD_drop h
    have h1 : b ≤ t := hb.1
    have hm := uptoV_mono d h1
    have ht := hta.top t (mem_drop h)
    have hf : measure_follower_1 t k d = _ := fol2 d hd t _ k rfl (by omega)
    have e : (t :: r).flatMap (aftG d) = aftG d t ++ r.flatMap (aftG d) := by simp
    rw [measure_behind_l5_eq, if_pos (dT (by omega)), if_pos ⟨by omega, by omega⟩, hg, hf, w64a i (by omega), e]
    unfold aftG
    by_cases q : uptoV d t < d.length
    · have hv := hd.top _ (getD_mem (l := d) q)
      rw [if_pos q, if_pos q]
      show (if true = true then (if (acc.length + 1) * 16 ≤ 140737488355328 ∧ 0 < 16 then measure_behind_l5 a (a.length : Int) ((i + 1 : Nat) : Int) (acc ++ [(t, IntKind.i64.wrap (d.getD (uptoV d t) 0 - t))]) ((uptoV d t : Nat) : Int) d else none) else measure_behind_l5 a (a.length : Int) ((i + 1 : Nat) : Int) acc ((uptoV d t : Nat) : Int) d) = _
      rw [if_pos rfl, if_pos ⟨by omega, by decide⟩, w64 (x := d.getD (uptoV d t) 0 - t) (by omega) (by omega)]
      refine (behind5 d a hd hta r (i + 1) (uptoV d t) _ (t + 1) (dropS h) hb.2 (uptoV_mono d (by omega)) (by simp; omega)).trans ?_
      rw [List.append_assoc]
      rfl
    · rw [if_neg q, if_neg q]
      show (if false = true then (if (acc.length + 1) * 16 ≤ 140737488355328 ∧ 0 < 16 then measure_behind_l5 a (a.length : Int) ((i + 1 : Nat) : Int) (acc ++ [(t, IntKind.i64.wrap (0 - t))]) ((uptoV d t : Nat) : Int) d else none) else measure_behind_l5 a (a.length : Int) ((i + 1 : Nat) : Int) acc ((uptoV d t : Nat) : Int) d) = _
      rw [if_neg (show ¬ false = true by simp), List.nil_append]
      exact behind5 d a hd hta r (i + 1) (uptoV d t) _ (t + 1) (dropS h) hb.2 (uptoV_mono d (by omega)) (by omega)

theorem behind_b (d a : List Int) (hd : TimesOk d) (hta : TimesOk a) : measure_behind d a = some ((aftV d a, ()), ()) := by
  unfold measure_behind measure_follower
  simp only [Option.bind_some]
  exact behind5 d a hd hta a 0 0 [] 1 rfl hta.asc (by omega) (by simp)

theorem hold_b {d c : List RunT} (hd : WaveOk d) (ad : AltW d) (hc : WaveOk c) (ac : AltW c) (rising : Bool) : measure_Hold d c rising = some ((aftV ((chgs d).map (·.1)) (actV' rising (chgs c)), ()), ()) := by
  unfold measure_Hold
  rw [both_b hd hc, edges_b hd ad, rises_b hc ac]
  simp only [Option.bind_some]
  refine (if_neg (by decide)).trans ?_
  rw [behind_b _ _ (times_ok (chgs_ok hd)) (act_ok hc rising)]
  rfl
theorem delay_b {d c : List RunT} (hd : WaveOk d) (ad : AltW d) (hc : WaveOk c) (ac : AltW c) (rising : Bool) : measure_Delay d c rising = some ((aftV (toV 1 (chgs d)) (actV' rising (chgs c)), ()), ()) := by
  unfold measure_Delay
  rw [both_b hd hc, rises_b hd ad, rises_b hc ac]
  simp only [Option.bind_some]
  refine (if_neg (by decide)).trans ?_
  rw [behind_b _ _ (act_ok hd true) (act_ok hc rising)]
  rfl

/-! ### gaps -/
theorem orK_some {α β : Type} (a : α) (f : α → Option β) (y : Option β) : orK (some a) f y = f a := rfl
theorem orK_none {α β : Type} (f : α → Option β) (y : Option β) : orK none f y = y := rfl

theorem meas_pick (x : TLimit) (h : 1 ≤ x.1 ∧ x.1 ≤ 6) {β : Type} (f1 f2 f3 f4 f5 f6 : (Unit × Unit) × Unit → Option β) :
    orK (limit_measurementvperiod x) f1 (orK (limit_measurementvhigh x) f2 (orK (limit_measurementvlow x) f3 (orK (limit_measurementvsetup x) f4 (orK (limit_measurementvhold x) f5 ((limit_measurementvdelay x).bind f6))))) =
    if x.1 = 1 then f1 (((), ()), ()) else if x.1 = 2 then f2 (((), ()), ()) else if x.1 = 3 then f3 (((), ()), ()) else if x.1 = 4 then f4 (((), ()), ()) else if x.1 = 5 then f5 (((), ()), ()) else f6 (((), ()), ()) := by
  unfold limit_measurementvperiod limit_measurementvhigh limit_measurementvlow limit_measurementvsetup limit_measurementvhold limit_measurementvdelay
  have : x.1 = 1 ∨ x.1 = 2 ∨ x.1 = 3 ∨ x.1 = 4 ∨ x.1 = 5 ∨ x.1 = 6 := by omega
  rcases this with e | e | e | e | e | e <;> rw [e] <;> rfl

structure LimOk (c : TCapture) (x : LimT) : Prop where
  form : formE x = 0
  data : hasB c.1 x.2.1 = true
  clock : clkB x.1 = true → hasB c.1 x.2.2.1 = true

theorem gaps_b (c : TCapture) (hc : capE c = 0) (x : TLimit) (hx : LimOk c x) : limit_gaps c x = some ((gapsC c x, ()), ()) := by
  have hm := (formE_zero.1 hx.form).1.1
  obtain ⟨dk, da⟩ := chanOf_ok hc x.2.1
  unfold limit_gaps gapsC
  rw [channel_b c hc _ hx.data, clocked_b]
  simp only [Option.bind_some]
  by_cases hk : clkB x.1 = true
  · obtain ⟨ck, ca⟩ := chanOf_ok hc x.2.2.1
    rw [if_pos hk, if_pos hk, channel_b c hc _ (hx.clock hk)]
    simp only [Option.bind_some]
    rw [meas_pick x hm]
    unfold limit_waves_period limit_waves_high limit_waves_low limit_waves_setup limit_waves_hold limit_waves_delay
    simp only
    rw [periods_b dk da, pulses_b dk da, pulses_b dk da, setup_b dk da ck ca, hold_b dk da ck ca, delay_b dk da ck ca]
    simp only [Option.bind_some]
    unfold gapsV
    repeat' split
    all_goals rfl
  · obtain ⟨ck, ca⟩ := nil_ok
    rw [if_neg hk, if_neg hk, meas_pick x hm]
    unfold limit_waves_period limit_waves_high limit_waves_low limit_waves_setup limit_waves_hold limit_waves_delay
    simp only
    rw [periods_b dk da, pulses_b dk da, pulses_b dk da, setup_b dk da ck ca, hold_b dk da ck ca, delay_b dk da ck ca]
    simp only [Option.bind_some]
    unfold gapsV
    repeat' split
    all_goals rfl

theorem gapsC_ok {c : TCapture} (hc : capE c = 0) (x : LimT) : GapsOk (gapsC c x) := by
  unfold gapsC
  refine gapsV_ok x (chanOf_ok hc _).1 ?_
  split
  · exact (chanOf_ok hc _).1
  · exact nil_ok.1

theorem limsE_ok (c : TCapture) : ∀ (l : List LimT) (i : Nat), (limsE c.1 i l).2 = 0 → ∀ x ∈ l, LimOk c x
  | [], i, _, x, hx => by simp at hx
  | y :: l, i, h, x, hx => by
    rw [limsE_cons] at h
    split at h
    · rename_i h0
      split at h
      · rename_i h1
        rcases List.mem_cons.1 hx with rfl | hx
        · exact ⟨h0, h1.1, h1.2⟩
        · exact limsE_ok c l (i + 1) h x hx
      · simp at h
    · rename_i h0
      exact absurd h h0

theorem lcheck_zero {c : TCapture} {l : List LimT} (h : (lcheckV c l).2 = 0) : capE c = 0 ∧ l.length ≤ 64 ∧ ∀ x ∈ l, LimOk c x := by
  unfold lcheckV at h
  split at h
  · rename_i h0
    split at h
    · simp at h
    · exact ⟨h0, by omega, limsE_ok c l 0 h⟩
  · rename_i h0
    exact absurd h h0

def gapsR (c : TCapture) (x : LimT) : List GapT × Int := if (lcheckV c [x]).2 = 0 then (gapsC c x, 0) else ([], (lcheckV c [x]).2)

theorem Gaps_b (c : TCapture) (x : TLimit) (h1 : c.1.length ≤ 1048576) (h2 : c.2.length ≤ 1048576) : limit_Gaps c x = some (((gapsR c x).1, (gapsR c x).2, ()), ()) := by
  unfold limit_Gaps gapsR
  rw [lcheck_b c [x] h1 h2 (by simp)]
  simp only [Option.bind_some]
  by_cases h : (lcheckV c [x]).2 = 0
  · obtain ⟨a, _, b⟩ := lcheck_zero h
    rw [if_neg (nF h), if_pos h, gaps_b c a x (b x (by simp))]
    rfl
  · rw [if_pos (nT h), if_neg h]

/-! ### violations -/
def findC (c : TCapture) : Nat → List LimT → List (Int × GapT)
  | _, [] => []
  | i, x :: r => violV i x (gapsC c x) ++ findC c (i + 1) r
def findR (c : TCapture) (l : List LimT) : List (Int × GapT) × Int := if (lcheckV c l).2 = 0 then (findC c 0 l, 0) else ([], (lcheckV c l).2)

theorem viol_len (i : Nat) (x : LimT) (g : List GapT) : (violV i x g).length ≤ g.length := by
  unfold violV
  rw [List.length_map]
  exact List.length_filter_le _ _

theorem violV_cons (i : Nat) (x : LimT) (g : GapT) (l : List GapT) : violV i x (g :: l) = (if outB x g = true then [((i : Int), g)] else []) ++ violV i x l := by
  unfold violV
  rw [List.filter_cons]
  split <;> simp

theorem find14 (c : TCapture) (l : List TLimit) (n : Int) (x : TLimit) (g : List RunT) (hg : g.length ≤ 262144) (i : Nat) : ∀ (r : List RunT) (k : Nat) (acc : List TViolation), g.drop k = r → acc.length + r.length ≤ 100000000 →
    limit_Find_l14 i l n i g (g.length : Int) k c acc x = limit_Find_l8 l n (IntKind.i64.wrap ((i : Int) + 1)) c (acc ++ violV i x r)
  | [], k, acc, h, ha => by
    have h0 := drop_nil h
    rw [limit_Find_l14_eq, if_neg (dF (by omega))]
    simp [violV]
  | y :: r, k, acc, h, ha => by
    have h0 := drop_lt h
    have hgd : g.getD (k : Int).toNat dGap = y := getD_drop h
    simp only [List.length_cons] at ha
    rw [limit_Find_l14_eq, if_pos (dT (by omega)), if_pos ⟨by omega, by omega⟩, hgd, w64a k (by omega), violV_cons, ← List.append_assoc]
    unfold outB
    by_cases a : y.2 < x.2.2.2.2.1
    · rw [if_pos (dT a), if_pos (dT (show y.2 < x.2.2.2.2.1 ∨ x.2.2.2.2.2 < y.2 from .inl a)), if_pos ⟨by omega, by decide⟩]
      exact find14 c l n x g hg i r (k + 1) _ (dropS h) (by simp; omega)
    · rw [if_neg (dF a)]
      by_cases b : y.2 > x.2.2.2.2.2
      · rw [if_pos (dT b), if_pos (dT (show y.2 < x.2.2.2.2.1 ∨ x.2.2.2.2.2 < y.2 from .inr b)), if_pos ⟨by omega, by decide⟩]
        exact find14 c l n x g hg i r (k + 1) _ (dropS h) (by simp; omega)
      · rw [if_neg (dF b), if_neg (dF (show ¬ (y.2 < x.2.2.2.2.1 ∨ x.2.2.2.2.2 < y.2) by omega)), List.append_nil]
        exact find14 c l n x g hg i r (k + 1) _ (dropS h) (by omega)

theorem find8 (c : TCapture) (hc : capE c = 0) (l : List TLimit) (hl : l.length ≤ 64) (hx : ∀ x ∈ l, LimOk c x) : ∀ (r : List TLimit) (i : Nat) (acc : List TViolation), l.drop i = r → acc.length + 262144 * r.length ≤ 100000000 →
    limit_Find_l8 l (l.length : Int) i c acc = some ((acc ++ findC c i r, 0, ()), ())
  | [], i, acc, h, ha => by
    have h0 := drop_nil h
    rw [limit_Find_l8_eq, if_neg (dF (by omega))]
    simp [findC]
  | x :: r, i, acc, h, ha => by
    have h0 := drop_lt h
    have hg : l.getD (i : Int).toNat dLimit = x := getD_drop h
    have ok := (gapsC_ok hc x).len
    have vl := viol_len i x (gapsC c x)
    simp only [List.length_cons] at ha
    rw [limit_Find_l8_eq, if_pos (dT (by omega)), if_pos ⟨by omega, by omega⟩, hg, gaps_b c hc x (hx x (mem_drop h))]
    simp only [Option.bind_some]
    refine (find14 c l _ x (gapsC c x) ok i (gapsC c x) 0 acc rfl (by omega)).trans ?_
    rw [w64a i (by omega), find8 c hc l hl hx r (i + 1) _ (dropS h) (by rw [List.length_append]; omega)]
    simp [findC]

theorem Find_b (c : TCapture) (l : List TLimit) (h1 : c.1.length ≤ 1048576) (h2 : c.2.length ≤ 1048576) (hl : l.length ≤ 1048576) : limit_Find c l = some (((findR c l).1, (findR c l).2, ()), ()) := by
  unfold limit_Find findR
  rw [lcheck_b c l h1 h2 hl]
  simp only [Option.bind_some]
  by_cases h : (lcheckV c l).2 = 0
  · obtain ⟨a, b, d⟩ := lcheck_zero h
    rw [if_neg (nF h), if_pos h]
    refine (find8 c a l b d l 0 [] rfl (by simp only [List.length_nil]; omega)).trans ?_
    simp
  · rw [if_pos (nT h), if_neg h]

/-! ### the worst gap -/
theorem away_b (x : TLimit) (g : TGap) (hx : formE x = 0) (hg : 0 ≤ g.2 ∧ g.2 ≤ 1099511627776) : limit_away x g = some ((awayI x g, ()), ()) := by
  have h := (formE_zero.1 hx).1.2
  unfold limit_away awayI
  rw [w64 (x := 2 * g.2) (by omega) (by omega), w64 (x := 2 * g.2 - x.2.2.2.2.1) (by omega) (by omega), w64 (x := 2 * g.2 - x.2.2.2.2.1 - x.2.2.2.2.2) (by omega) (by omega), w64 (x := 0 - (2 * g.2 - x.2.2.2.2.1 - x.2.2.2.2.2)) (by omega) (by omega)]
  have : (if 2 * g.2 - x.2.2.2.2.1 - x.2.2.2.2.2 < 0 - (2 * g.2 - x.2.2.2.2.1 - x.2.2.2.2.2) then 0 - (2 * g.2 - x.2.2.2.2.1 - x.2.2.2.2.2) else 2 * g.2 - x.2.2.2.2.1 - x.2.2.2.2.2) = (if 2 * g.2 - x.2.2.2.2.1 - x.2.2.2.2.2 < 0 then -(2 * g.2 - x.2.2.2.2.1 - x.2.2.2.2.2) else 2 * g.2 - x.2.2.2.2.1 - x.2.2.2.2.2) := by
    split <;> split <;> omega
  rw [this]

theorem worst8 (x : TLimit) (hx : formE x = 0) (l : List RunT) (hl : GapsOk l) (z : TGap) : ∀ (r : List RunT) (k : Nat) (b : TGap), l.drop k = r → b ∈ l → limit_Worst_l8 l (l.length : Int) k x z b = some ((worstF x b r, true, ()), ())
  | [], k, b, h, hb => by
    have h0 := drop_nil h
    rw [limit_Worst_l8_eq, if_neg (dF (by omega))]
    rfl
  | y :: r, k, b, h, hb => by
    have h0 := drop_lt h
    have hlen := hl.len
    have hg : l.getD (k : Int).toNat dGap = y := getD_drop h
    have ym := hl.ok y (mem_drop h)
    have bm := hl.ok b hb
    rw [limit_Worst_l8_eq, if_pos (dT (by omega)), if_pos ⟨by omega, by omega⟩, hg, away_b x y hx ⟨ym.1, ym.2.1⟩, away_b x b hx ⟨bm.1, bm.2.1⟩, w64a k (by omega), worstF_cons]
    simp only [Option.bind_some]
    by_cases q : awayI x y > awayI x b
    · rw [if_pos (dT q), if_pos q]
      exact worst8 x hx l hl z r (k + 1) y (dropS h) (mem_drop h)
    · rw [if_neg (dF q), if_neg q]
      exact worst8 x hx l hl z r (k + 1) b (dropS h) hb

def worstR (c : TCapture) (x : LimT) : GapT × Bool := match (gapsR c x).1 with
  | [] => ((0, 0), false)
  | g :: l => (worstF x g (g :: l), true)

theorem gapsR_ok {c : TCapture} {x : LimT} (h : (gapsR c x).1 ≠ []) : (gapsR c x).2 = 0 ∧ capE c = 0 ∧ formE x = 0 ∧ (gapsR c x).1 = gapsC c x := by
  unfold gapsR at h ⊢
  by_cases q : (lcheckV c [x]).2 = 0
  · obtain ⟨a, _, b⟩ := lcheck_zero q
    rw [if_pos q]
    exact ⟨rfl, a, (b x (by simp)).form, rfl⟩
  · rw [if_neg q] at h
    exact absurd rfl h

theorem Worst_b (c : TCapture) (x : TLimit) (h1 : c.1.length ≤ 1048576) (h2 : c.2.length ≤ 1048576) : limit_Worst c x = some (((worstR c x).1, (worstR c x).2, ()), ()) := by
  unfold limit_Worst worstR
  rw [Gaps_b c x h1 h2]
  simp only [Option.bind_some]
  cases hq : (gapsR c x).1 with
  | nil =>
    by_cases he : (gapsR c x).2 = 0
    · rw [if_neg (nF he), if_pos (by rfl)]
    · rw [if_pos (nT he)]
  | cons g l =>
    obtain ⟨a, b, d, e⟩ := gapsR_ok (c := c) (x := x) (by rw [hq]; simp)
    have ok := gapsC_ok b x
    rw [← e, hq] at ok
    rw [if_neg (nF a), if_neg (eF (by simp only [List.length_cons]; omega)), if_pos ⟨by omega, by simp only [List.length_cons]; omega⟩]
    exact worst8 x d (g :: l) ok _ (g :: l) 0 g rfl (by simp)

end Go.Proofs.YtejehchbflmofaaGreatDoor
end

section
/-
YtejehchbflmofaaGreatDoor: the bounds of the laws of limits, equal lists, the chapter's examples, as plain functions. No condition.
-/
set_option maxRecDepth 100000
set_option linter.unusedVariables false
open Go Go.AM
namespace Go.Proofs.YtejehchbflmofaaGreatDoor

theorem brief49_b (s : ByteArray) : law49_brief s = some ((decide ((s.size : Int) ≤ 20), ()), ()) := rfl

theorem csmall_loop (c : TCapture) (hl : c.1.length ≤ 1048576) : ∀ (r : List ByteArray) (k : Nat), c.1.drop k = r → ∃ b, law49_small_l6 k c = some ((b, ()), ())
  | [], k, h => by
    have h1 := drop_nil h
    rw [law49_small_l6_eq, if_neg (dF (by omega))]
    exact ⟨_, rfl⟩
  | s :: r, k, h => by
    have h1 := drop_lt h
    rw [law49_small_l6_eq, if_pos (dT (by omega)), if_pos ⟨by omega, by omega⟩, brief49_b, w64a k (by omega)]
    simp only [Option.bind_some]
    split
    · exact ⟨_, rfl⟩
    · exact csmall_loop c hl r (k + 1) (dropS h)

theorem csmall_ex (c : TCapture) (hl : c.1.length ≤ 1048576) : ∃ b, law49_small c = some ((b, ()), ()) := by
  unfold law49_small
  split
  · exact ⟨_, rfl⟩
  · split
    · exact ⟨_, rfl⟩
    · exact csmall_loop c hl c.1 0 rfl

theorem lfew_loop (l : List TLimit) (hl : l.length ≤ 1048576) : ∀ (r : List TLimit) (k : Nat), l.drop k = r → ∃ b, law49_few_l6 l k = some ((b, ()), ())
  | [], k, h => by
    have h1 := drop_nil h
    rw [law49_few_l6_eq, if_neg (dF (by omega))]
    exact ⟨_, rfl⟩
  | s :: r, k, h => by
    have h1 := drop_lt h
    have c1 : 0 ≤ (k : Int) ∧ (k : Int) < (l.length : Int) := ⟨by omega, by omega⟩
    rw [law49_few_l6_eq, if_pos (dT (by omega)), if_pos c1, if_pos c1, brief49_b, brief49_b, w64a k (by omega)]
    simp only [Option.bind_some]
    split
    · exact ⟨_, rfl⟩
    split
    · exact ⟨_, rfl⟩
    · exact lfew_loop l hl r (k + 1) (dropS h)

theorem lfew_ex (l : List TLimit) (hl : l.length ≤ 1048576) : ∃ b, law49_few l = some ((b, ()), ()) := by
  unfold law49_few
  split
  · exact ⟨_, rfl⟩
  · exact lfew_loop l hl l 0 rfl

theorem sameL_loop (l : List TLimit) (hl : l.length ≤ 1048577) : ∀ (r : List TLimit) (k : Nat), l.drop k = r → ref49_Same_l6 l l k = some ((true, ()), ())
  | [], k, h => by
    have h1 := drop_nil h
    rw [ref49_Same_l6_eq, if_neg (dF (by omega))]
  | s :: r, k, h => by
    have h1 := drop_lt h
    have c1 : 0 ≤ (k : Int) ∧ (k : Int) < (l.length : Int) := ⟨by omega, by omega⟩
    rw [ref49_Same_l6_eq, if_pos (dT (by omega)), if_pos c1, if_pos c1, (eqU_iff uLimit rfl _ _).2 rfl, if_neg (by simp), w64a k (by omega)]
    exact sameL_loop l hl r (k + 1) (dropS h)

theorem sameL_refl (l : List TLimit) (hl : l.length ≤ 1048577) : ref49_Same l l = some ((true, ()), ()) := by
  unfold ref49_Same
  rw [if_neg (nF rfl)]
  exact sameL_loop l hl l 0 rfl

def exC : TCapture := ([(strB [100]), (strB [99])], [(0, 10), (1, 4), (3, 5)])
def exL : TLimit := (4, (strB [100]), (strB [99]), true, 4, 9)
def exL5 : TLimit := (4, (strB [100]), (strB [99]), true, 5, 9)
def exS : List UInt8 := [115, 101, 116, 117, 112, 32, 100, 32, 99, 32, 114, 105, 115, 101, 32, 52, 32, 46, 32, 46, 32, 57, 32, 59]
theorem wrong_ex : wrongL [exL] = 0 := by kernel_rfl
theorem print_ex : printL [exL] = (exS, 0) := by kernel_rfl
theorem gaps_ex : gapsR exC exL = ([(10, 4)], 0) := by kernel_rfl
theorem find_ex : findR exC [exL] = ([], 0) := by kernel_rfl
theorem find_ex5 : findR exC [exL5] = ([(0, 10, 4)], 0) := by kernel_rfl

theorem awake49_b : law49_awake = some ((true, ()), ()) := by
  unfold law49_awake
  have hp := (parse_printL wrong_ex).2
  have e1 : limit_Print [(4, (strB [100]), (strB [99]), true, 4, 9)] = some ((strB exS, 0, ()), ()) := (lprint_b [exL] (by decide)).trans (by rw [print_ex])
  have e2 : limit_Gaps ([(strB [100]), (strB [99])], [(0, 10), (1, 4), (3, 5)]) (4, (strB [100]), (strB [99]), true, 4, 9) = some (([(10, 4)], 0, ()), ()) := (Gaps_b exC exL (by decide) (by decide)).trans (by rw [gaps_ex])
  have e3 : limit_Parse (strB exS) = some (([exL], 0, 0, ()), ()) := by
    rw [print_ex] at hp
    rw [lparse_b, L_strB, hp]
  have e4 : limit_Find ([(strB [100]), (strB [99])], [(0, 10), (1, 4), (3, 5)]) [(4, (strB [100]), (strB [99]), true, 4, 9)] = some (([], 0, ()), ()) := (Find_b exC [exL] (by decide) (by decide) (by decide)).trans (by rw [find_ex])
  have e5 : limit_Find ([(strB [100]), (strB [99])], [(0, 10), (1, 4), (3, 5)]) [(4, (strB [100]), (strB [99]), true, 5, 9)] = some (([(0, 10, 4)], 0, ()), ()) := (Find_b exC [exL5] (by decide) (by decide) (by decide)).trans (by rw [find_ex5])
  rw [e1]
  simp only [Option.bind_some]
  rw [e2, e3, e4, e5]
  simp only [Option.bind_some]
  show _ = some ((true, ()), ())
  kernel_rfl

theorem cap_len (c : TCapture) {n : Nat} (h : bk uCapture c ≤ n) : c.1.length ≤ n ∧ c.2.length ≤ n := by
  obtain ⟨a, l⟩ := c
  have h1 := len_le_bk (e := .str) (fun x => by simp only [bk]; omega) a
  have h2 := len_le_bk (e := uGap) (fun x => by simp only [bk]; omega) l
  have e1 : bk uCapture (a, l) = ((a.map (bk .str)).sum + 1) + ((l.map (bk uGap)).sum + 1) := rfl
  rw [e1] at h
  show a.length ≤ n ∧ l.length ≤ n
  omega
theorem lims_len (l : List TLimit) {n : Nat} (h : bk (.sl uLimit) l ≤ n) : l.length ≤ n := by
  have h1 := len_le_bk (e := uLimit) (fun x => by simp only [bk]; omega) l
  have e1 : bk (.sl uLimit) l = (l.map (bk uLimit)).sum + 1 := rfl
  rw [e1] at h
  omega

end Go.Proofs.YtejehchbflmofaaGreatDoor
end

section
/-
YtejehchbflmofaaGreatDoor: the document's measurements, gaps, violations and printer of limits, as plain functions, come to the plain law; three laws of limits. No condition.
-/
set_option maxRecDepth 100000
set_option linter.unusedVariables false
open Go Go.AM
namespace Go.Proofs.YtejehchbflmofaaGreatDoor

/-! ### channels -/
theorem rplace_loop (l : List ByteArray) (hl : l.length ≤ 1048577) (v : ByteArray) : ∀ (r : List ByteArray) (k : Nat), l.drop k = r → k ≤ l.length → ref09_place_l3 l v k = some ((optI ((r.findIdx? fun b => L b == L v).map (· + k)), ()), ())
  | [], k, h, hk => by
    have h1 := drop_nil h
    rw [ref09_place_l3_eq, if_neg (dF (by omega))]
    rfl
  | b :: r, k, h, hk => by
    have h1 := drop_lt h
    have hg : l.getD (k : Int).toNat (strB []) = b := getD_drop h
    rw [ref09_place_l3_eq, if_pos (dT (by omega)), if_pos ⟨by omega, by omega⟩, hg, w64a k (by omega), List.findIdx?_cons, toL, toL]
    by_cases he : L b = L v
    · rw [if_pos (by simpa using he), he]
      simp [optI]
    · rw [if_neg (by simpa using he), rplace_loop l hl v r (k + 1) (dropS h) (by omega), show (L b == L v) = false from beq_eq_false_iff_ne.2 he]
      simp only [Option.map_map, Bool.false_eq_true, if_false]
      congr 4
      cases r.findIdx? (fun b => L b == L v) with
      | none => rfl
      | some i => simp; omega

theorem rplace_b (l : List ByteArray) (hl : l.length ≤ 1048577) (v : ByteArray) : ref09_place l v = some ((optI (l.findIdx? fun b => L b == L v), ()), ()) := by
  unfold ref09_place
  have := rplace_loop l hl v l 0 rfl (by omega)
  simpa using this

theorem rput_b (x : RunT) (l : List RunT) (hl : l.length ≤ 1048577) (ht : 1 ≤ x.2 ∧ x.2 ≤ 1099511627776) (hr : ∀ r ∈ l, 0 ≤ r.2 ∧ r.2 ≤ 1099511627776) : ref09_put x l = some (((), ()), ((), putW l x, ())) := by
  unfold ref09_put
  rw [if_neg (dF (by omega))]
  rcases snoc_cases l with rfl | ⟨b, y, rfl⟩
  · rw [if_neg (dF (by simp)), if_pos ⟨by simp, by decide⟩]; rfl
  · have hb : (b ++ [y]).length = b.length + 1 := by simp
    have hy := hr y (by simp)
    have hg : (b ++ [y]).getD b.length dGap = y := by simp
    have hs : ∀ v, (b ++ [y]).set b.length v = b ++ [v] := by simp
    have hin : 0 ≤ (b.length : Int) ∧ (b.length : Int) < ((b ++ [y]).length : Int) := by omega
    rw [if_pos (dT (by omega)), last_ix b y (by omega), if_pos hin, if_pos hin, if_pos hin, Int.toNat_natCast, hg, hs, putW_snoc]
    by_cases he : y.1 = x.1
    · rw [if_pos (eT he), if_pos he, w64 (by omega) (by omega)]
    · rw [if_neg (eF he), if_neg he, if_pos ⟨by omega, by decide⟩]; simp

theorem rchan12 (k : Nat) (c : TCapture) (hl : c.2.length ≤ 1048576) : ∀ (r : List RunT) (i : Nat) (acc : List RunT), c.2.drop i = r → acc.length ≤ i → (∀ x ∈ acc, 1 ≤ x.2) → (∀ x ∈ r, 1 ≤ x.2) → (acc.map (·.2)).sum + (r.map (·.2)).sum ≤ 1099511627776 →
    ref09_Channel_l12 k i c acc = some (((r.map fun x => (bitF k x.1, x.2)).foldl putW acc, 0, ()), ())
  | [], i, acc, h, ha, h1, h2, h3 => by
    have h0 := drop_nil h
    rw [ref09_Channel_l12_eq, if_neg (dF (by omega))]
    rfl
  | x :: r, i, acc, h, ha, h1, h2, h3 => by
    have h0 := drop_lt h
    have hg : c.2.getD (i : Int).toNat dGap = x := getD_drop h
    have hx := h2 x (by simp)
    have hr : ∀ x ∈ r, 1 ≤ x.2 := fun y hy => h2 y (by simp [hy])
    have s0 := sum0 r hr
    have sa := sum0 acc h1
    have ok := acc_ok h1 h2 h3
    have hin : 0 ≤ (i : Int) ∧ (i : Int) < (c.2.length : Int) := ⟨by omega, by omega⟩
    simp only [List.map_cons, List.sum_cons] at h3
    have hp := fun v : Int => rput_b (v, x.2) acc (by omega) ⟨hx, by show x.2 ≤ _; omega⟩ ok
    rw [ref09_Channel_l12_eq, if_pos (dT (by omega)), if_pos hin, if_pos (show 0 ≤ (k : Int) by omega), if_pos hin, hg, hp, w64a i (by omega)]
    simp only [Option.bind_some]
    have ln := putW_len acc (bitF k x.1, x.2)
    exact rchan12 k c hl r (i + 1) (putW acc (bitF k x.1, x.2)) (dropS h) (by omega) (putW_mem (p := fun r => 1 ≤ r.2) (fun l t t' q q' => by show 1 ≤ t + t'; have q : 1 ≤ t := q; have q' : 1 ≤ t' := q'; omega) h1 hx) hr (by rw [putW_sum]; show _ + x.2 + _ ≤ _; omega)

theorem rchannel_b (c : TCapture) (hc : capE c = 0) (v : ByteArray) (hv : hasB c.1 v = true) : ref09_Channel c v = some ((chanOf c v, 0, ()), ()) := by
  have ok := capE_zero hc
  have h1 := ok.n
  have h2 := ok.r
  obtain ⟨f1, f2⟩ := runsB_facts c.2 _ ok.runs (by omega)
  unfold ref09_Channel
  rw [rccheck_b c (by omega) (by omega), hc, rplace_b _ (by omega), ix_of hv]
  simp only [Option.bind_some]
  refine (if_neg (by decide)).trans ?_
  refine (if_neg (dF (by show ¬ ((ixN c.1 v : Nat) : Int) < 0; omega))).trans ?_
  exact rchan12 (ixN c.1 v) c (by omega) c.2 0 [] rfl (by simp) (by simp) (fun x hx => (f1 x hx).1) (by simpa using f2)

/-! ### changes -/
theorem rvalid_loop (l : List RunT) (hl : l.length ≤ 262144) (hv : ∀ r ∈ l, r.1 = 0 ∨ r.1 = 1) (ht : ∀ r ∈ l, 1 ≤ r.2) : ∀ (r : List RunT) (k : Nat) (s : Int), l.drop k = r → 0 ≤ s → s + (r.map (·.2)).sum ≤ 1099511627776 → ref08_Valid_l7 l s k = some ((true, ()), ())
  | [], k, s, h, h1, h2 => by
    have h0 := drop_nil h
    rw [ref08_Valid_l7_eq, if_neg (dF (by omega))]
  | x :: r, k, s, h, h1, h2 => by
    have h0 := drop_lt h
    have hg : l.getD (k : Int).toNat dGap = x := getD_drop h
    have hx := ht x (mem_drop h)
    have s0 := sum0 r (fun y hy => ht y (by
      have : y ∈ l.drop k := by rw [h]; simp [hy]
      exact List.mem_of_mem_drop this))
    have hin : 0 ≤ (k : Int) ∧ (k : Int) < (l.length : Int) := ⟨by omega, by omega⟩
    simp only [List.map_cons, List.sum_cons] at h2
    have ih := rvalid_loop l hl hv ht r (k + 1) (s + x.2) (dropS h) (by omega) (by omega)
    rw [ref08_Valid_l7_eq, if_pos (dT (by omega)), hg, w64 (x := 1099511627776 - s) (by omega) (by omega), w64 (x := s + x.2) (by omega) (by omega), w64a k (by omega)]
    simp only [if_pos hin]
    rw [if_neg (dF (show ¬ x.2 < 1 by omega)), if_neg (dF (show ¬ x.2 > 1099511627776 - s by omega)), ih]
    rcases hv x (mem_drop h) with q | q
    · rw [if_neg (nF q)]
    · rw [if_pos (nT (show ¬ x.1 = 0 by omega)), if_neg (nF q)]

theorem rvalid_b {w : List RunT} (h : WaveOk w) : ref08_Valid w = some ((true, ()), ()) := by
  have hl := h.len
  have hs := h.sum
  unfold ref08_Valid
  rw [if_neg (dF (by omega))]
  exact rvalid_loop w hl h.level h.ticks w 0 0 rfl (by omega) (by omega)

theorem rchanges_loop (l : List RunT) (hl : l.length ≤ 262144) (hw : AltW l) : ∀ (r : List RunT) (k : Nat) (t : Int) (acc : List RunT), l.drop k = r → 1 ≤ k → acc.length ≤ k → 0 ≤ t → (∀ x ∈ r, 1 ≤ x.2) → t + (r.map (·.2)).sum ≤ 1099511627776 →
    ref48_changes_l8 l t k acc = some ((acc ++ chg t r, ()), ())
  | [], k, t, acc, h, hk, ha, h0, h1, h2 => by
    have h3 := drop_nil h
    rw [ref48_changes_l8_eq, if_neg (dF (by omega))]
    simp [chg]
  | x :: r, k, t, acc, h, hk, ha, h0, h1, h2 => by
    have h3 := drop_lt h
    have hg : l.getD (k : Int).toNat dGap = x := getD_drop h
    have hr : ∀ x ∈ r, 1 ≤ x.2 := fun y hy => h1 y (by simp [hy])
    have hx := h1 x (by simp)
    have s0 := sum0 r hr
    obtain ⟨j, rfl⟩ : ∃ j, k = j + 1 := ⟨k - 1, by omega⟩
    have hj : j < l.length := by omega
    have hd : l = l.take j ++ l[j] :: x :: r := by
      have e1 := List.take_append_drop j l
      rw [List.drop_eq_getElem_cons hj, h] at e1
      exact e1.symm
    have hne : x.1 ≠ l[j].1 := fun q => alt_mid (l.take j) l[j] x r (by rw [← hd]; exact hw) q.symm
    have hgj : l.getD ((j : Int)).toNat dGap = l[j] := by rw [Int.toNat_natCast]; exact getD_in _ hj
    have hin : 0 ≤ ((j + 1 : Nat) : Int) ∧ ((j + 1 : Nat) : Int) < (l.length : Int) := ⟨by omega, by omega⟩
    simp only [List.map_cons, List.sum_cons] at h2
    rw [ref48_changes_l8_eq, if_pos (dT (by omega)), if_pos (dT (by omega)), if_pos hin, w64 (x := ((j + 1 : Nat) : Int) - 1) (by omega) (by omega), show ((j + 1 : Nat) : Int) - 1 = (j : Int) by omega, if_pos ⟨by omega, by omega⟩, hg, hgj, if_pos (nT hne), if_pos hin, if_pos ⟨by omega, by decide⟩, ref48_changes_l12_eq, if_pos hin, hg, w64 (by omega) (by omega), w64a (j + 1) (by omega), rchanges_loop l hl hw r (j + 1 + 1) (t + x.2) _ (dropS h) (by omega) (by simp; omega) (by omega) hr (by omega)]
    simp [chg]

theorem rchanges_b {w : List RunT} (h : WaveOk w) (ha : AltW w) : ref48_changes w = some ((chgs w, ()), ()) := by
  have hl := h.len
  have hs := h.sum
  unfold ref48_changes
  rw [rvalid_b h]
  simp only [Option.bind_some]
  refine (if_neg (by decide)).trans ?_
  cases w with
  | nil => rw [ref48_changes_l8_eq, if_neg (dF (by simp))]; rfl
  | cons x r =>
    have hx := h.ticks x (by simp)
    have hr : ∀ x ∈ r, 1 ≤ x.2 := fun y hy => h.ticks y (by simp [hy])
    have s0 := sum0 r hr
    simp only [List.map_cons, List.sum_cons] at hs
    have e := rchanges_loop (x :: r) hl ha r 1 x.2 [] rfl (by omega) (by simp) (by omega) hr (by omega)
    rw [ref48_changes_l8_eq, if_pos (dT (by simp)), if_neg (dF (by omega)), ref48_changes_l12_eq, if_pos ⟨by omega, by simp⟩, show ((x :: r).getD (0 : Int).toNat dGap) = x from rfl, Int.zero_add, w64 (by omega) (by omega), show IntKind.i64.wrap (0 + 1) = ((1 : Nat) : Int) from by decide]
    exact e

def toP (v : Int) (c : List (Int × Int)) : List (Int × Int) := c.filter fun p => p.2 == v
theorem toP_map (v : Int) (c : List (Int × Int)) : (toP v c).map (·.1) = toV v c := rfl
theorem toP_cons (v : Int) (x : Int × Int) (r : List (Int × Int)) : toP v (x :: r) = (if (x.2 == v) = true then [x] else []) ++ toP v r := by
  unfold toP
  rw [List.filter_cons]
  split <;> rfl

theorem rto_loop (v : Int) (l : List RunT) (hl : l.length ≤ 262144) : ∀ (r : List RunT) (k : Nat) (acc : List RunT), l.drop k = r → acc.length ≤ k → ref48_to_l4 l v k acc = some ((acc ++ toP v r, ()), ())
  | [], k, acc, h, ha => by
    have h1 := drop_nil h
    rw [ref48_to_l4_eq, if_neg (dF (by omega))]
    simp [toP]
  | x :: r, k, acc, h, ha => by
    have h1 := drop_lt h
    have hg : l.getD (k : Int).toNat dGap = x := getD_drop h
    have hin : 0 ≤ (k : Int) ∧ (k : Int) < (l.length : Int) := ⟨by omega, by omega⟩
    rw [ref48_to_l4_eq, if_pos (dT (by omega)), if_pos hin, hg, w64a k (by omega), toP_cons]
    by_cases q : (x.2 == v) = true
    · rw [if_pos q, if_pos q, if_pos hin, if_pos ⟨by omega, by decide⟩, rto_loop v l hl r (k + 1) _ (dropS h) (by simp; omega)]
      simp
    · rw [if_neg q, if_neg q, rto_loop v l hl r (k + 1) _ (dropS h) (by omega)]
      simp
theorem rto_b (v : Int) (l : List RunT) (hl : l.length ≤ 262144) : ref48_to l v = some ((toP v l, ()), ()) := rto_loop v l hl l 0 [] rfl (by simp)

theorem ractive_b {w : List RunT} (h : WaveOk w) (ha : AltW w) (rising : Bool) : ref48_active w rising = some ((toP (if rising = true then 1 else 0) (chgs w), ()), ()) := by
  have hl := (chgs_ok h).len
  unfold ref48_active
  rw [rchanges_b h ha]
  simp only [Option.bind_some]
  rw [rto_b _ _ hl, rto_b _ _ hl]
  cases rising <;> rfl

theorem getD_map1 (d : List RunT) (k : Nat) : (d.map (·.1)).getD k 0 = (d.getD k dGap).1 := by
  rw [List.getD_eq_getElem?_getD, List.getD_eq_getElem?_getD, List.getElem?_map]
  cases d[k]? <;> rfl

/-! ### measurements -/
theorem rperiods_loop (l : List RunT) (hl : l.length ≤ 262144) (ht : ∀ t ∈ l, 1 ≤ t.1 ∧ t.1 ≤ 1099511627776) : ∀ (r : List RunT) (a : RunT) (k : Nat) (acc : List RunT), l.drop k = a :: r → acc.length ≤ k →
    ref48_Periods_l5 l ((k + 1 : Nat) : Int) acc = some ((acc ++ perV ((a :: r).map (·.1)), ()), ())
  | [], a, k, acc, h, ha => by
    have h1 := drop_nil (dropS h)
    rw [ref48_Periods_l5_eq, if_neg (dF (by omega))]
    simp [perV]
  | b :: r, a, k, acc, h, ha => by
    have h1 := drop_lt h
    have h2 := dropS h
    have h3 := drop_lt h2
    have hg : l.getD (k : Int).toNat dGap = a := getD_drop h
    have hg2 : l.getD ((k + 1 : Nat) : Int).toNat dGap = b := getD_drop h2
    have ta := ht a (mem_drop h)
    have tb := ht b (mem_drop h2)
    have hin : 0 ≤ (k : Int) ∧ (k : Int) < (l.length : Int) := by omega
    rw [ref48_Periods_l5_eq, if_pos (dT (by omega)), w64 (x := ((k + 1 : Nat) : Int) - 1) (by omega) (by omega), show ((k + 1 : Nat) : Int) - 1 = (k : Int) by omega, if_pos hin, if_pos ⟨by omega, by omega⟩, if_pos hin, if_pos ⟨by omega, by decide⟩, hg, hg2, w64 (x := b.1 - a.1) (by omega) (by omega), w64a (k + 1) (by omega), rperiods_loop l hl ht r b (k + 1) _ h2 (by simp; omega), show perV ((a :: b :: r).map (·.1)) = (a.1, b.1 - a.1) :: perV ((b :: r).map (·.1)) from rfl]
    simp

theorem rperiods_b {w : List RunT} (h : WaveOk w) (ha : AltW w) : ref48_Periods w = some ((perV (toV 1 (chgs w)), ()), ()) := by
  have ok := chgs_ok h
  have hl := ok.len
  have hl2 : (toP 1 (chgs w)).length ≤ 262144 := Nat.le_trans (List.length_filter_le _ _) hl
  have ht : ∀ t ∈ toP 1 (chgs w), 1 ≤ t.1 ∧ t.1 ≤ 1099511627776 := fun t q => ok.top t (List.mem_filter.1 q).1
  unfold ref48_Periods
  rw [rchanges_b h ha]
  simp only [Option.bind_some]
  rw [rto_b _ _ hl]
  simp only [Option.bind_some]
  rw [← toP_map]
  cases hq : toP 1 (chgs w) with
  | nil => rw [ref48_Periods_l5_eq, if_neg (dF (by simp))]; rfl
  | cons a r =>
    rw [hq] at hl2 ht
    exact rperiods_loop (a :: r) hl2 ht r a 0 [] rfl (by simp)

theorem rpulses_loop (v : Int) (l : List RunT) (hl : l.length ≤ 262144) (ht : ∀ t ∈ l, 1 ≤ t.1 ∧ t.1 ≤ 1099511627776) : ∀ (r : List RunT) (a : RunT) (k : Nat) (acc : List RunT), l.drop k = a :: r → acc.length ≤ k →
    ref48_Pulses_l5 v l ((k + 1 : Nat) : Int) acc = some ((acc ++ pulV v (a :: r), ()), ())
  | [], a, k, acc, h, ha => by
    have h1 := drop_nil (dropS h)
    rw [ref48_Pulses_l5_eq, if_neg (dF (by omega))]
    simp [pulV]
  | b :: r, a, k, acc, h, ha => by
    have h1 := drop_lt h
    have h2 := dropS h
    have h3 := drop_lt h2
    have hg : l.getD (k : Int).toNat dGap = a := getD_drop h
    have hg2 : l.getD ((k + 1 : Nat) : Int).toNat dGap = b := getD_drop h2
    have ta := ht a (mem_drop h)
    have tb := ht b (mem_drop h2)
    have hin : 0 ≤ (k : Int) ∧ (k : Int) < (l.length : Int) := by omega
    rw [ref48_Pulses_l5_eq, if_pos (dT (by omega)), w64 (x := ((k + 1 : Nat) : Int) - 1) (by omega) (by omega), show ((k + 1 : Nat) : Int) - 1 = (k : Int) by omega, if_pos hin, hg, hg2, pulV_cons]
    by_cases q : a.2 = v
    · rw [if_pos (eT q), if_pos q, if_pos hin, if_pos ⟨by omega, by omega⟩, if_pos hin, if_pos ⟨by omega, by decide⟩, w64 (x := b.1 - a.1) (by omega) (by omega), w64a (k + 1) (by omega), rpulses_loop v l hl ht r b (k + 1) _ h2 (by simp; omega)]
      simp
    · rw [if_neg (eF q), if_neg q, w64a (k + 1) (by omega), rpulses_loop v l hl ht r b (k + 1) _ h2 (by omega)]
      simp

theorem rpulses_b {w : List RunT} (h : WaveOk w) (ha : AltW w) (v : Int) : ref48_Pulses w v = some ((pulV v (chgs w), ()), ()) := by
  have ok := chgs_ok h
  have hl := ok.len
  have ht := ok.top
  unfold ref48_Pulses
  rw [rchanges_b h ha]
  simp only [Option.bind_some]
  cases hq : chgs w with
  | nil => rw [ref48_Pulses_l5_eq, if_neg (dF (by simp))]; rfl
  | cons a r =>
    rw [hq] at hl ht
    exact rpulses_loop v (a :: r) hl ht r a 0 [] rfl (by simp)

theorem rsetup15 (d a : List RunT) (hd : TimesOk (d.map (·.1))) (t : Int) (i : Nat) (hi : i < a.length) (hla : a.length ≤ 262144) (hat : (a.getD i dGap).1 = t) (ht : 1 ≤ t ∧ t ≤ 1099511627776) (acc : List RunT) (hacc : acc.length ≤ 1048577) :
    ∀ (m k : Nat) (last : Int), m = uptoV (d.map (·.1)) t - k → k ≤ uptoV (d.map (·.1)) t → ((k = 0 ∧ last = -1) ∨ (0 < k ∧ last = (d.map (·.1)).getD (k - 1) 0)) →
    ref48_Setup_l15 d a i last k acc = ref48_Setup_l8 d a ((i + 1 : Nat) : Int) (acc ++ supG (d.map (·.1)) t)
  | 0, k, last, hm, hk, hlast => by
    have hl := hd.len
    have hu := uptoV_le (d.map (·.1)) t
    have hlen : (d.map (·.1)).length = d.length := List.length_map ..
    have ek : uptoV (d.map (·.1)) t = k := by omega
    have hia : 0 ≤ (i : Int) ∧ (i : Int) < (a.length : Int) := ⟨by omega, by omega⟩
    unfold supG
    rw [ek, ref48_Setup_l15_eq, w64a i (by omega), Int.toNat_natCast, Int.toNat_natCast, hat]
    by_cases h1 : k < d.length
    rw [if_pos (dT (by omega)), if_pos ⟨by omega, by omega⟩, if_pos hia, if_neg (dF (by have := uptoV_end (d.map (·.1)) t (by omega); rw [ek, getD_map1] at this; omega))]
    rotate_left
    rw [if_neg (dF (by omega))]
    all_goals
      rcases hlast with ⟨h0, hl0⟩ | ⟨h0, hl0⟩
      · rw [if_neg (dF (by omega)), if_neg (by omega), List.append_nil]
      · have hv := hd.top _ (getD_mem (l := d.map (·.1)) (k := k - 1) (by omega))
        rw [if_pos (dT (show last ≥ 0 by omega)), if_pos hia, if_pos ⟨by omega, by decide⟩, if_pos h0, ← hl0, w64 (x := t - last) (by omega) (by omega)]
  | m + 1, k, last, hm, hk, hlast => by
    have hl := hd.len
    have hu := uptoV_le (d.map (·.1)) t
    have hlen : (d.map (·.1)).length = d.length := List.length_map ..
    have hlt := uptoV_at (d.map (·.1)) t k (by omega)
    rw [getD_map1] at hlt
    have hin : 0 ≤ (k : Int) ∧ (k : Int) < (d.length : Int) := ⟨by omega, by omega⟩
    rw [ref48_Setup_l15_eq, if_pos (dT (by omega)), if_pos hin, if_pos ⟨by omega, by omega⟩, Int.toNat_natCast, Int.toNat_natCast, hat, if_pos (dT hlt), if_pos hin, w64a k (by omega)]
    exact rsetup15 d a hd t i hi hla hat ht acc hacc m (k + 1) _ (by omega) (by omega) (.inr ⟨by omega, by rw [getD_map1]; rfl⟩)

theorem rsetup8 (d a : List RunT) (hd : TimesOk (d.map (·.1))) (hla : a.length ≤ 262144) (hta : ∀ t ∈ a, 1 ≤ t.1 ∧ t.1 ≤ 1099511627776) : ∀ (r : List RunT) (i : Nat) (acc : List RunT), a.drop i = r → acc.length ≤ i →
    ref48_Setup_l8 d a i acc = some ((acc ++ (r.map (·.1)).flatMap (supG (d.map (·.1))), ()), ())
  | [], i, acc, h, ha => by
    have h0 := drop_nil h
    rw [ref48_Setup_l8_eq, if_neg (dF (by omega))]
    simp
  | x :: r, i, acc, h, ha => by
    have h0 := drop_lt h
    have hg : a.getD i dGap = x := getD_drop h
    have hs : (supG (d.map (·.1)) x.1).length ≤ 1 := by unfold supG; split <;> simp
    rw [ref48_Setup_l8_eq, if_pos (dT (by omega))]
    refine (rsetup15 d a hd x.1 i h0 hla (by rw [hg]) (hta x (mem_drop h)) acc (by omega) _ 0 (-1) rfl (by omega) (.inl ⟨rfl, rfl⟩)).trans ?_
    rw [rsetup8 d a hd hla hta r (i + 1) _ (dropS h) (by rw [List.length_append]; omega)]
    simp

theorem toP_len (v : Int) {w : List RunT} (h : WaveOk w) : (toP v (chgs w)).length ≤ 262144 := Nat.le_trans (List.length_filter_le _ _) (chgs_ok h).len
theorem toP_top (v : Int) {w : List RunT} (h : WaveOk w) : ∀ t ∈ toP v (chgs w), 1 ≤ t.1 ∧ t.1 ≤ 1099511627776 := fun t q => (chgs_ok h).top t (List.mem_filter.1 q).1

theorem rsetup_b {d c : List RunT} (hd : WaveOk d) (ad : AltW d) (hc : WaveOk c) (ac : AltW c) (rising : Bool) : ref48_Setup d c rising = some ((supV ((chgs d).map (·.1)) (actV' rising (chgs c)), ()), ()) := by
  unfold ref48_Setup
  rw [rvalid_b hd, rchanges_b hd ad, ractive_b hc ac]
  simp only [Option.bind_some]
  refine (if_neg (by decide)).trans ?_
  exact rsetup8 _ _ (times_ok (chgs_ok hd)) (toP_len _ hc) (toP_top _ hc) _ 0 [] rfl (by simp)

theorem rafter10 (d a : List RunT) (hd : TimesOk (d.map (·.1))) (t : Int) (i : Nat) (hi : i < a.length) (hla : a.length ≤ 262144) (hat : (a.getD i dGap).1 = t) (ht : 1 ≤ t ∧ t ≤ 1099511627776) (acc : List RunT) (hacc : acc.length ≤ 1048577) :
    ∀ (m k : Nat), m = uptoV (d.map (·.1)) t - k → k ≤ uptoV (d.map (·.1)) t →
    ref48_after_l10 d a i k acc = ref48_after_l4 d a ((i + 1 : Nat) : Int) (acc ++ aftG (d.map (·.1)) t)
  | 0, k, hm, hk => by
    have hl := hd.len
    have hu := uptoV_le (d.map (·.1)) t
    have hlen : (d.map (·.1)).length = d.length := List.length_map ..
    have ek : uptoV (d.map (·.1)) t = k := by omega
    have hia : 0 ≤ (i : Int) ∧ (i : Int) < (a.length : Int) := ⟨by omega, by omega⟩
    unfold aftG
    rw [ek, ref48_after_l10_eq, w64a i (by omega), Int.toNat_natCast, Int.toNat_natCast, hat, hlen, getD_map1]
    by_cases h1 : k < d.length
    · have hv := hd.top _ (getD_mem (l := d.map (·.1)) (k := k) (by omega))
      rw [getD_map1] at hv
      have hin : 0 ≤ (k : Int) ∧ (k : Int) < (d.length : Int) := ⟨by omega, by omega⟩
      rw [if_pos (dT (by omega)), if_pos hin, if_pos hia, if_neg (dF (by have := uptoV_end (d.map (·.1)) t (by omega); rw [ek, getD_map1] at this; omega)), if_pos (dT (by omega)), if_pos hia, if_pos hin, if_pos hia, if_pos ⟨by omega, by decide⟩, if_pos h1, w64 (x := (d.getD k dGap).1 - t) (by omega) (by omega)]
    · rw [if_neg (dF (by omega)), if_neg (dF (by omega)), if_neg h1, List.append_nil]
  | m + 1, k, hm, hk => by
    have hl := hd.len
    have hu := uptoV_le (d.map (·.1)) t
    have hlen : (d.map (·.1)).length = d.length := List.length_map ..
    have hlt := uptoV_at (d.map (·.1)) t k (by omega)
    rw [getD_map1] at hlt
    rw [ref48_after_l10_eq, if_pos (dT (by omega)), if_pos ⟨by omega, by omega⟩, if_pos ⟨by omega, by omega⟩, Int.toNat_natCast, Int.toNat_natCast, hat, if_pos (dT hlt), w64a k (by omega)]
    exact rafter10 d a hd t i hi hla hat ht acc hacc m (k + 1) (by omega) (by omega)

theorem rafter4 (d a : List RunT) (hd : TimesOk (d.map (·.1))) (hla : a.length ≤ 262144) (hta : ∀ t ∈ a, 1 ≤ t.1 ∧ t.1 ≤ 1099511627776) : ∀ (r : List RunT) (i : Nat) (acc : List RunT), a.drop i = r → acc.length ≤ i →
    ref48_after_l4 d a i acc = some ((acc ++ (r.map (·.1)).flatMap (aftG (d.map (·.1))), ()), ())
  | [], i, acc, h, ha => by
    have h0 := drop_nil h
    rw [ref48_after_l4_eq, if_neg (dF (by omega))]
    simp
  | x :: r, i, acc, h, ha => by
    have h0 := drop_lt h
    have hg : a.getD i dGap = x := getD_drop h
    have hs : (aftG (d.map (·.1)) x.1).length ≤ 1 := by unfold aftG; split <;> simp
    rw [ref48_after_l4_eq, if_pos (dT (by omega))]
    refine (rafter10 d a hd x.1 i h0 hla (by rw [hg]) (hta x (mem_drop h)) acc (by omega) _ 0 rfl (by omega)).trans ?_
    rw [rafter4 d a hd hla hta r (i + 1) _ (dropS h) (by rw [List.length_append]; omega)]
    simp

theorem rhold_b {d c : List RunT} (hd : WaveOk d) (ad : AltW d) (hc : WaveOk c) (ac : AltW c) (rising : Bool) : ref48_Hold d c rising = some ((aftV ((chgs d).map (·.1)) (actV' rising (chgs c)), ()), ()) := by
  unfold ref48_Hold
  rw [rchanges_b hd ad, ractive_b hc ac]
  simp only [Option.bind_some]
  rw [show ref48_after (chgs d) (toP (if rising = true then 1 else 0) (chgs c)) = _ from rafter4 _ _ (times_ok (chgs_ok hd)) (toP_len _ hc) (toP_top _ hc) _ 0 [] rfl (by simp)]
  rfl
theorem rdelay_b {d c : List RunT} (hd : WaveOk d) (ad : AltW d) (hc : WaveOk c) (ac : AltW c) (rising : Bool) : ref48_Delay d c rising = some ((aftV (toV 1 (chgs d)) (actV' rising (chgs c)), ()), ()) := by
  unfold ref48_Delay
  rw [rchanges_b hd ad, ractive_b hc ac]
  simp only [Option.bind_some]
  rw [rto_b _ _ (chgs_ok hd).len]
  simp only [Option.bind_some]
  rw [show ref48_after (toP 1 (chgs d)) (toP (if rising = true then 1 else 0) (chgs c)) = _ from rafter4 _ _ (toV_ok (chgs_ok hd) 1) (toP_len _ hc) (toP_top _ hc) _ 0 [] rfl (by simp)]
  rfl

/-! ### gaps -/
theorem rgaps7 (c : TCapture) (x : TLimit) (d ck : List RunT) (hm : 1 ≤ x.1 ∧ x.1 ≤ 6) (hd : WaveOk d) (ad : AltW d) (hc : WaveOk ck) (ac : AltW ck) : ref49_Gaps_l7 d ck x = some ((gapsV x d ck, 0, ()), ()) := by
  rw [ref49_Gaps_l7_eq, rperiods_b hd ad, rpulses_b hd ad, rpulses_b hd ad, rsetup_b hd ad hc ac, rhold_b hd ad hc ac, rdelay_b hd ad hc ac]
  simp only [Option.bind_some, beq_iff_eq]
  unfold gapsV
  repeat' split
  all_goals rfl

theorem rGaps_b (c : TCapture) (x : TLimit) (h1 : c.1.length ≤ 1048576) (h2 : c.2.length ≤ 1048576) : ref49_Gaps c x = some (((gapsR c x).1, (gapsR c x).2, ()), ()) := by
  unfold ref49_Gaps gapsR
  rw [rlcheck_b c [x] h1 h2 (by simp)]
  simp only [Option.bind_some]
  by_cases h : (lcheckV c [x]).2 = 0
  · obtain ⟨a, _, b⟩ := lcheck_zero h
    have hx := b x (by simp)
    have hm := (formE_zero.1 hx.form).1.1
    obtain ⟨dk, da⟩ := chanOf_ok a x.2.1
    rw [if_neg (nF h), if_pos h, rchannel_b c a _ hx.data, rclocked_b]
    simp only [Option.bind_some]
    unfold gapsC
    by_cases hk : clkB x.1 = true
    · obtain ⟨ck, ca⟩ := chanOf_ok a x.2.2.1
      rw [if_pos hk, if_pos hk, rchannel_b c a _ (hx.clock hk)]
      exact rgaps7 c x _ _ hm dk da ck ca
    · obtain ⟨ck, ca⟩ := nil_ok
      rw [if_neg hk, if_neg hk]
      exact rgaps7 c x _ _ hm dk da ck ca
  · rw [if_pos (nT h), if_neg h]

theorem gapsR_of {c : TCapture} (hc : capE c = 0) {x : LimT} (hx : LimOk c x) : gapsR c x = (gapsC c x, 0) := by
  have : (lcheckV c [x]).2 = 0 := by
    unfold lcheckV
    rw [if_pos hc, if_neg (by simp), limsE_cons, if_pos hx.form, if_pos ⟨hx.data, hx.clock⟩]
    rfl
  unfold gapsR
  rw [if_pos this]

theorem rfind14 (c : TCapture) (l : List TLimit) (i : Nat) (hi : i < l.length) (x : TLimit) (hx : l.getD i dLimit = x) (g : List RunT) (hg : g.length ≤ 262144) : ∀ (r : List RunT) (k : Nat) (acc : List TViolation), g.drop k = r → acc.length + r.length ≤ 100000000 →
    ref49_Find_l14 l i g k c acc = ref49_Find_l8 l (IntKind.i64.wrap ((i : Int) + 1)) c (acc ++ violV i x r)
  | [], k, acc, h, ha => by
    have h0 := drop_nil h
    rw [ref49_Find_l14_eq, if_neg (dF (by omega))]
    simp [violV]
  | y :: r, k, acc, h, ha => by
    have h0 := drop_lt h
    have hgd : g.getD k dGap = y := getD_drop h
    have hin : 0 ≤ (k : Int) ∧ (k : Int) < (g.length : Int) := ⟨by omega, by omega⟩
    have hii : 0 ≤ (i : Int) ∧ (i : Int) < (l.length : Int) := ⟨by omega, by omega⟩
    simp only [List.length_cons] at ha
    rw [ref49_Find_l14_eq, if_pos (dT (by omega)), if_pos hin, if_pos hii, Int.toNat_natCast, Int.toNat_natCast, hgd, hx, w64a k (by omega), violV_cons, ← List.append_assoc]
    unfold outB
    by_cases a : y.2 < x.2.2.2.2.1
    · rw [if_pos (dT a), if_pos hin, if_pos (dT (show y.2 < x.2.2.2.2.1 ∨ x.2.2.2.2.2 < y.2 from .inl a)), if_pos ⟨by omega, by decide⟩]
      exact rfind14 c l i hi x hx g hg r (k + 1) _ (dropS h) (by simp; omega)
    · rw [if_neg (dF a), if_pos hin, if_pos hii]
      by_cases b : y.2 > x.2.2.2.2.2
      · rw [if_pos (dT b), if_pos hin, if_pos (dT (show y.2 < x.2.2.2.2.1 ∨ x.2.2.2.2.2 < y.2 from .inr b)), if_pos ⟨by omega, by decide⟩]
        exact rfind14 c l i hi x hx g hg r (k + 1) _ (dropS h) (by simp; omega)
      · rw [if_neg (dF b), if_neg (dF (show ¬ (y.2 < x.2.2.2.2.1 ∨ x.2.2.2.2.2 < y.2) by omega)), List.append_nil]
        exact rfind14 c l i hi x hx g hg r (k + 1) _ (dropS h) (by omega)

theorem rfind8 (c : TCapture) (h1 : c.1.length ≤ 1048576) (h2 : c.2.length ≤ 1048576) (hc : capE c = 0) (l : List TLimit) (hl : l.length ≤ 64) (hx : ∀ x ∈ l, LimOk c x) : ∀ (r : List TLimit) (i : Nat) (acc : List TViolation), l.drop i = r → acc.length + 262144 * r.length ≤ 100000000 →
    ref49_Find_l8 l i c acc = some ((acc ++ findC c i r, 0, ()), ())
  | [], i, acc, h, ha => by
    have h0 := drop_nil h
    rw [ref49_Find_l8_eq, if_neg (dF (by omega))]
    simp [findC]
  | x :: r, i, acc, h, ha => by
    have h0 := drop_lt h
    have hg : l.getD (i : Int).toNat dLimit = x := getD_drop h
    have ok := (gapsC_ok hc x).len
    have vl := viol_len i x (gapsC c x)
    simp only [List.length_cons] at ha
    rw [ref49_Find_l8_eq, if_pos (dT (by omega)), if_pos ⟨by omega, by omega⟩, hg, rGaps_b c x h1 h2, gapsR_of hc (hx x (mem_drop h))]
    simp only [Option.bind_some]
    refine (rfind14 c l i h0 x hg (gapsC c x) ok (gapsC c x) 0 acc rfl (by omega)).trans ?_
    rw [w64a i (by omega), rfind8 c h1 h2 hc l hl hx r (i + 1) _ (dropS h) (by rw [List.length_append]; omega)]
    simp [findC]

theorem rFind_b (c : TCapture) (l : List TLimit) (h1 : c.1.length ≤ 1048576) (h2 : c.2.length ≤ 1048576) (hl : l.length ≤ 1048576) : ref49_Find c l = some (((findR c l).1, (findR c l).2, ()), ()) := by
  unfold ref49_Find findR
  rw [rlcheck_b c l h1 h2 hl]
  simp only [Option.bind_some]
  by_cases h : (lcheckV c l).2 = 0
  · obtain ⟨a, b, d⟩ := lcheck_zero h
    rw [if_neg (nF h), if_pos h]
    refine (rfind8 c h1 h2 a l b d l 0 [] rfl (by simp only [List.length_nil]; omega)).trans ?_
    simp
  · rw [if_pos (nT h), if_neg h]

theorem far_b (x : TLimit) (g : RunT) (hx : formE x = 0) (hg : 0 ≤ g.2 ∧ g.2 ≤ 1099511627776) : ref49_Far x g = some ((awayI x g, ()), ()) := by
  have h := (formE_zero.1 hx).1.2
  unfold ref49_Far awayI
  rw [w64 (x := 2 * g.2) (by omega) (by omega), w64 (x := 2 * g.2 - x.2.2.2.2.1) (by omega) (by omega), w64 (x := 2 * g.2 - x.2.2.2.2.1 - x.2.2.2.2.2) (by omega) (by omega), w64 (x := 0 - (2 * g.2 - x.2.2.2.2.1 - x.2.2.2.2.2)) (by omega) (by omega)]
  by_cases q : 2 * g.2 - x.2.2.2.2.1 - x.2.2.2.2.2 < 0
  · rw [if_pos (dT q), if_pos q, Int.zero_sub]
  · rw [if_neg (dF q), if_neg q]

theorem rworst8 (x : TLimit) (hx : formE x = 0) (l : List RunT) (hl : GapsOk l) (z : RunT) : ∀ (r : List RunT) (k : Nat) (b : RunT), l.drop k = r → b ∈ l → ref49_Worst_l8 l k x z b = some ((worstF x b r, true, ()), ())
  | [], k, b, h, hb => by
    have h0 := drop_nil h
    rw [ref49_Worst_l8_eq, if_neg (dF (by omega))]
    rfl
  | y :: r, k, b, h, hb => by
    have h0 := drop_lt h
    have hlen := hl.len
    have hg : l.getD (k : Int).toNat dGap = y := getD_drop h
    have ym := hl.ok y (mem_drop h)
    have bm := hl.ok b hb
    have hin : 0 ≤ (k : Int) ∧ (k : Int) < (l.length : Int) := ⟨by omega, by omega⟩
    rw [ref49_Worst_l8_eq, if_pos (dT (by omega)), if_pos hin, hg, far_b x y hx ⟨ym.1, ym.2.1⟩, far_b x b hx ⟨bm.1, bm.2.1⟩, w64a k (by omega), worstF_cons]
    simp only [Option.bind_some]
    by_cases q : awayI x y > awayI x b
    · rw [if_pos (dT q), if_pos q, if_pos hin]
      exact rworst8 x hx l hl z r (k + 1) y (dropS h) (mem_drop h)
    · rw [if_neg (dF q), if_neg q]
      exact rworst8 x hx l hl z r (k + 1) b (dropS h) hb

theorem rWorst_b (c : TCapture) (x : TLimit) (h1 : c.1.length ≤ 1048576) (h2 : c.2.length ≤ 1048576) : ref49_Worst c x = some (((worstR c x).1, (worstR c x).2, ()), ()) := by
  unfold ref49_Worst worstR
  rw [rGaps_b c x h1 h2]
  simp only [Option.bind_some]
  cases hq : (gapsR c x).1 with
  | nil =>
    by_cases he : (gapsR c x).2 = 0
    · rw [if_neg (nF he), if_pos (by rfl)]
    · rw [if_pos (nT he)]
  | cons g l =>
    obtain ⟨a, b, d, e⟩ := gapsR_ok (c := c) (x := x) (by rw [hq]; simp)
    have ok := gapsC_ok b x
    rw [← e, hq] at ok
    rw [if_neg (nF a), if_neg (eF (by simp only [List.length_cons]; omega)), if_pos ⟨by omega, by simp only [List.length_cons]; omega⟩]
    have e0 : worstF x g (g :: l) = worstF x g l := by rw [worstF_cons, if_neg (by omega)]
    show _ = some ((worstF x g (g :: l), true, ()), ())
    rw [e0]
    exact rworst8 x d (g :: l) ok _ l 1 g rfl (by simp)

theorem sameG_loop (l : List RunT) (hl : l.length ≤ 262144) : ∀ (r : List RunT) (k : Nat), l.drop k = r → law49_sameGaps_l6 l l k = some ((true, ()), ())
  | [], k, h => by
    have h1 := drop_nil h
    rw [law49_sameGaps_l6_eq, if_neg (dF (by omega))]
  | s :: r, k, h => by
    have h1 := drop_lt h
    have c1 : 0 ≤ (k : Int) ∧ (k : Int) < (l.length : Int) := ⟨by omega, by omega⟩
    rw [law49_sameGaps_l6_eq, if_pos (dT (by omega)), if_pos c1, if_pos c1, (eqU_iff uGap rfl _ _).2 rfl, if_neg (by simp), w64a k (by omega)]
    exact sameG_loop l hl r (k + 1) (dropS h)
theorem sameG_refl (l : List RunT) (hl : l.length ≤ 262144) : law49_sameGaps l l = some ((true, ()), ()) := by
  unfold law49_sameGaps
  rw [if_neg (nF rfl)]
  exact sameG_loop l hl l 0 rfl

theorem gapsR_len (c : TCapture) (x : LimT) : (gapsR c x).1.length ≤ 262144 := by
  unfold gapsR
  by_cases q : (lcheckV c [x]).2 = 0
  · rw [if_pos q]
    exact (gapsC_ok (lcheck_zero q).1 x).len
  · rw [if_neg q]
    simp

theorem LimitGaps_true (c : TCapture) (x : TLimit) (h1 : c.1.length ≤ 1048576) (h2 : c.2.length ≤ 1048576) : law49_LimitGaps c x = some ((true, ()), ()) := by
  obtain ⟨b, hb⟩ := csmall_ex c h1
  unfold law49_LimitGaps
  rw [hb, brief49_b, brief49_b, awake49_b, Gaps_b c x h1 h2, Worst_b c x h1 h2, rGaps_b c x h1 h2, rWorst_b c x h1 h2]
  simp only [Option.bind_some]
  rw [sameG_refl _ (gapsR_len c x), (eqU_iff uGap rfl _ _).2 rfl]
  cases b <;> (repeat' split) <;> simp_all

theorem findC_len (c : TCapture) (hc : capE c = 0) : ∀ (l : List LimT) (i : Nat), (findC c i l).length ≤ 262144 * l.length
  | [], i => by simp [findC]
  | x :: l, i => by
    have h1 := findC_len c hc l (i + 1)
    have h2 := viol_len i x (gapsC c x)
    have h3 := (gapsC_ok hc x).len
    unfold findC
    rw [List.length_append]
    simp only [List.length_cons]
    omega
theorem findR_len (c : TCapture) (l : List LimT) : (findR c l).1.length ≤ 100000000 := by
  unfold findR
  by_cases q : (lcheckV c l).2 = 0
  · obtain ⟨a, b, _⟩ := lcheck_zero q
    have := findC_len c a l 0
    rw [if_pos q]
    show (findC c 0 l).length ≤ _
    omega
  · rw [if_neg q]
    simp

theorem finds_loop (l : List TViolation) (hl : l.length ≤ 100000000) : ∀ (r : List TViolation) (k : Nat), l.drop k = r → law49_LimitFinds_l11 l l k = some ((true, ()), ())
  | [], k, h => by
    have h1 := drop_nil h
    rw [law49_LimitFinds_l11_eq, if_neg (dF (by omega)), awake49_b]
    rfl
  | s :: r, k, h => by
    have h1 := drop_lt h
    have c1 : 0 ≤ (k : Int) ∧ (k : Int) < (l.length : Int) := ⟨by omega, by omega⟩
    rw [law49_LimitFinds_l11_eq, if_pos (dT (by omega)), if_pos c1, if_pos c1, (eqU_iff uViolation rfl _ _).2 rfl, if_neg (by simp), w64a k (by omega)]
    exact finds_loop l hl r (k + 1) (dropS h)

theorem LimitFinds_true (c : TCapture) (l : List TLimit) (h1 : c.1.length ≤ 1048576) (h2 : c.2.length ≤ 1048576) (hl : l.length ≤ 1048576) : law49_LimitFinds c l = some ((true, ()), ()) := by
  obtain ⟨b, hb⟩ := csmall_ex c h1
  obtain ⟨b2, hb2⟩ := lfew_ex l hl
  unfold law49_LimitFinds
  rw [hb, hb2, awake49_b, Find_b c l h1 h2 hl, rFind_b c l h1 h2 hl]
  simp only [Option.bind_some]
  rw [if_neg (nF (show (findR c l).2 = (findR c l).2 from rfl)), if_neg (nF (show ((findR c l).1.length : Int) = ((findR c l).1.length : Int) from rfl)), show law49_LimitFinds_l11 (findR c l).1 (findR c l).1 0 = _ from finds_loop _ (findR_len c l) _ 0 rfl]
  cases b <;> cases b2 <;> rfl

/-! ### the document's printer -/
theorem tdigits_R : ∀ (k u : Nat), u < 10 ^ k → 0 < k → u ≤ 9007199254740992 → ref49_digits_R k (u : Int) = some ((strB (Lib.decDigits u), ()), ())
  | 0, u, _, h, _ => by omega
  | k + 1, u, h, _, hu => by
    have h10 : (((strB [48, 49, 50, 51, 52, 53, 54, 55, 56, 57]).size : Nat) : Int) = 10 := rfl
    unfold ref49_digits_R
    by_cases hs : u < 10
    · rw [if_pos (dT (by omega)), w64a u (by omega), if_pos ⟨by omega, by omega, by rw [h10]; omega⟩, Int.toNat_natCast, Int.toNat_natCast, digit_b u hs, dec_one hs]
    · have hm : u % 10 < 10 := Nat.mod_lt _ (by omega)
      have t1 : ((u : Nat) : Int).tmod 10 = ((u % 10 : Nat) : Int) := rfl
      have t2 : ((u : Nat) : Int).tdiv 10 = ((u / 10 : Nat) : Int) := rfl
      have hk : 0 < k := by
        rcases Nat.eq_zero_or_pos k with rfl | q
        · simp at h; omega
        · exact q
      have hd : u / 10 < 10 ^ k := by rw [Nat.div_lt_iff_lt_mul (by omega)]; rw [Nat.pow_succ] at h; exact h
      have hq : u / 10 ≤ u := Nat.div_le_self _ _
      rw [if_neg (dF (by omega)), t1, t2, w64 (by omega) (by omega), tdigits_R k (u / 10) hd hk (by omega), w64a _ (by omega)]
      simp only [Option.bind_some]
      have hl := decDigits_len 15 (u / 10) (by show _ < 10000000000000000; omega)
      rw [if_pos ⟨by omega, by omega, by rw [h10]; omega⟩, Int.toNat_natCast, Int.toNat_natCast, digit_b _ hm, if_pos (by rw [strB_size, strB_size]; simp only [List.length_cons, List.length_nil]; omega), strB_app, dec_cut hs]

theorem rlnumber_b (n : Int) (h : 0 ≤ n ∧ n ≤ 9007199254740992) : ref49_number n = some ((nTok n, ()), ()) := by
  unfold ref49_number ref49_digits
  have e := tdigits_R 20 n.toNat (by omega) (by omega) (by omega)
  rw [show ((n.toNat : Nat) : Int) = n by omega] at e
  rw [e]
  simp only [Option.bind_some]
  unfold nTok Lib.itoa
  rw [if_neg (by omega)]
theorem rlmark_b (c : UInt8) : ref49_mark (strB [c]) = some ((mTok c, ()), ()) := rfl
theorem rlword_b (b : ByteArray) : ref49_word b = some ((wTok b, ()), ()) := rfl

theorem rwrong6 (l : List TLimit) (hl : l.length ≤ 1048577) : ∀ (r : List TLimit) (k : Nat), l.drop k = r → ref49_wrong_l6 l k = some ((errL (r.map limE), ()), ())
  | [], k, h => by
    have h1 := drop_nil h
    rw [ref49_wrong_l6_eq, if_neg (dF (by omega))]
    rfl
  | x :: r, k, h => by
    have h1 := drop_lt h
    have hg : l.getD (k : Int).toNat dLimit = x := getD_drop h
    have ih := rwrong6 l hl r (k + 1) (dropS h)
    have e : 0 ≤ (k : Int) ∧ (k : Int) < (l.length : Int) := ⟨by omega, by omega⟩
    rw [ref49_wrong_l6_eq, if_pos (dT (by omega)), if_pos e, if_pos e, if_pos e, if_pos e, hg, rbad_b, ref05_Name_b, ref05_Name_b, rclocked_b, w64a k (by omega), ih, List.map_cons, errL_cons]
    simp only [Option.bind_some]
    by_cases h0 : formE x = 0
    · rw [decide_eq_true h0, if_neg (by simp)]
      by_cases hd : nameB (L x.2.1) = true
      · rw [if_neg (by rw [hd]; simp)]
        by_cases hk : clkB x.1 = true
        · rw [if_pos hk]
          by_cases hc : nameB (L x.2.2.1) = true
          · rw [if_neg (by rw [hc]; simp), if_pos (show limE x = 0 by unfold limE; rw [if_pos h0, if_pos ⟨hd, fun _ => hc⟩])]
          · have e4 : limE x = 4 := by unfold limE; rw [if_pos h0, if_neg (fun q => hc (q.2 hk))]
            rw [if_pos (by simp [hc]), if_neg (show ¬ limE x = 0 by omega), e4]
        · rw [if_neg hk, if_pos (show limE x = 0 by unfold limE; rw [if_pos h0, if_pos ⟨hd, fun q => absurd q hk⟩])]
      · have e4 : limE x = 4 := by unfold limE; rw [if_pos h0, if_neg (fun q => hd q.1)]
        rw [if_pos (by simp [hd]), if_neg (show ¬ limE x = 0 by omega), e4]
    · have e1 : limE x = formE x := by unfold limE; rw [if_neg h0]
      have e2 : formE x = 1 := by
        unfold formE at h0 ⊢
        split at h0
        · split at h0
          · exact absurd rfl h0
          · rename_i q1 q2
            rw [if_pos q1, if_neg q2]
        · rename_i q1
          rw [if_neg q1]
      rw [decide_eq_false h0, if_pos (by simp), if_neg (show ¬ limE x = 0 by omega), e1, e2]

theorem rwrong_b (l : List TLimit) (hl : l.length ≤ 1048577) : ref49_wrong l = some ((wrongL l, ()), ()) := by
  unfold ref49_wrong wrongL
  by_cases h : 64 < l.length
  · rw [if_pos (dT (by omega)), if_pos h]
  · rw [if_neg (dF (by omega)), if_neg h]
    exact rwrong6 l hl l 0 rfl

theorem rtok10 (l : List TLimit) (i : Int) (q : List TToken) (x : TLimit) (hx : OkLim x) (hq : q.length ≤ 2000) : ref49_Tokens_l10 l i q x = ref49_Tokens_l4 l (IntKind.i64.wrap (i + 1)) (q ++ [nTok x.2.2.2.2.1, mTok 46, mTok 46, nTok x.2.2.2.2.2, mTok 59]) := by
  have h1 := hx.lo
  have h2 := hx.le
  have h3 := hx.hi
  rw [ref49_Tokens_l10_eq, rlnumber_b _ (by omega), rlnumber_b _ (by omega), rlmark_b, rlmark_b]
  simp only [Option.bind_some]
  rw [if_pos ⟨by omega, by decide⟩]

def mTab : List ByteArray := [(strB [112, 101, 114, 105, 111, 100]), (strB [104, 105, 103, 104]), (strB [108, 111, 119]), (strB [115, 101, 116, 117, 112]), (strB [104, 111, 108, 100]), (strB [100, 101, 108, 97, 121])]
theorem rmeas_b : ref49_measures = some ((mTab, ()), ()) := rfl
theorem mTab_at (n : Int) (h : 1 ≤ n ∧ n ≤ 6) : mTab.getD (n - 1).toNat (strB []) = measW n := by
  have : n = 1 ∨ n = 2 ∨ n = 3 ∨ n = 4 ∨ n = 5 ∨ n = 6 := by omega
  rcases this with rfl | rfl | rfl | rfl | rfl | rfl <;> rfl

theorem rtok4 (l : List TLimit) (hl : l.length ≤ 64) (ho : ∀ x ∈ l, OkLim x) : ∀ (r : List TLimit) (k : Nat) (acc : List TToken), l.drop k = r → acc.length + 9 * r.length ≤ 1000 → ref49_Tokens_l4 l k acc = some ((acc ++ limsT r, ()), ())
  | [], k, acc, h, ha => by
    have h1 := drop_nil h
    rw [ref49_Tokens_l4_eq, if_neg (dF (by omega)), limsT, List.append_nil]
  | x :: r, k, acc, h, ha => by
    have h1 := drop_lt h
    have hg : l.getD (k : Int).toNat dLimit = x := getD_drop h
    have ok := ho x (mem_drop h)
    have hm := ok.meas
    have g9 := good_lim ok
    simp only [List.length_cons] at ha
    have ih := rtok4 l hl ho r (k + 1) (acc ++ limT x) (dropS h) (by rw [List.length_append]; have := g9.2; omega)
    have et : acc ++ limsT (x :: r) = (acc ++ limT x) ++ limsT r := by rw [limsT, List.append_assoc]
    rw [et, ← ih, ref49_Tokens_l4_eq, if_pos (dT (by omega)), if_pos ⟨by omega, by omega⟩, hg, rmeas_b]
    simp only [Option.bind_some]
    rw [w64 (x := x.1 - 1) (by omega) (by omega), if_pos ⟨by omega, by show x.1 - 1 < 6; omega⟩, mTab_at _ hm]
    simp only [rlword_b, Option.bind_some]
    rw [if_pos ⟨by omega, by decide⟩, rclocked_b]
    simp only [Option.bind_some]
    unfold limT edgeT
    by_cases hk : clkB x.1 = true
    · rw [if_pos hk, if_pos hk, if_pos ⟨by simp; omega, by decide⟩]
      by_cases hr : x.2.2.2.1 = true
      · rw [if_pos hr, if_pos hr, if_pos ⟨by simp; omega, by decide⟩, rtok10 _ _ _ _ ok (by simp; omega), w64a k (by omega)]
        simp [sRise]
      · rw [if_neg hr, if_neg hr, if_pos ⟨by simp; omega, by decide⟩, rtok10 _ _ _ _ ok (by simp; omega), w64a k (by omega)]
        simp [sFall]
    · rw [if_neg hk, if_neg hk, rtok10 _ _ _ _ ok (by simp; omega), w64a k (by omega)]
      simp

theorem rlprint_b (l : List TLimit) (hl : l.length ≤ 1048577) : ref49_Print l = some ((strB (printL l).1, (printL l).2, ()), ()) := by
  unfold ref49_Print
  rw [rwrong_b l hl]
  simp only [Option.bind_some]
  by_cases hc : wrongL l = 0
  · have ho := wrongL_zero.1 hc
    have hg := good_lims l ho.2
    have hw := wt_sumG (limsT l) hg.1
    have e : printL l = textV (limsT l) := by unfold printL; rw [if_pos hc]
    rw [if_neg (nF hc), show ref49_Tokens l = some ((limsT l, ()), ()) from (rtok4 l ho.1 ho.2 l 0 [] rfl (by simp only [List.length_nil]; omega)).trans (by rw [List.nil_append])]
    simp only [Option.bind_some]
    rw [ref05_Text_b _ (by have := hg.2; omega) (fun t ht => okTok_goodG (hg.1 t ht)), e]
    rfl
  · rw [if_pos (nT hc), printL_no hc]

theorem LimitPrints_true (l : List TLimit) (hl : l.length ≤ 1048576) : law49_LimitPrints l = some ((true, ()), ()) := by
  obtain ⟨b, hb⟩ := lfew_ex l hl
  unfold law49_LimitPrints
  rw [hb, awake49_b, lprint_b l (by omega), rlprint_b l (by omega)]
  cases b <;> simp

end Go.Proofs.YtejehchbflmofaaGreatDoor
end
