/-
The plain functions of the program that the law TrigParses reaches, that the program computes them, and what they come to. No condition.
-/
import Derived.Test.YtgpgpelaabdkhaaGreatDoorAm1
import Derived.Test.YtgpgpelaabdkhaaGreatDoorAm2
import Derived.Test.YtgpgpelaabdkhaaGreatDoorAm3
import Derived.Test.YtgpgpelaabdkhaaGreatDoorTrigParsesC1
import Derived.Test.YtgpgpelaabdkhaaGreatDoorTrigParsesC2
set_option linter.unusedVariables false
set_option linter.unusedSimpArgs false
set_option linter.unusedSectionVars false

section
/-
YtgpgpelaabdkhaaGreatDoor: the document's reader of triggers, as plain functions, comes to the plain reader. No condition.
-/
set_option maxRecDepth 100000
set_option linter.unusedVariables false
open Go Go.AM
namespace Go.Proofs.YtgpgpelaabdkhaaGreatDoor

theorem at_k {l q : List TToken} (h : q <:+ l) (k : Nat) : l[l.length - q.length + k]? = q[k]? := by
  have h1 := suf_drop h
  rw [← List.getElem?_drop, h1]

theorem rkind_n {l : List TToken} (c : Ctx l) (n : Nat) (k : Int) : ref43_kind l n k = some ((isO k [] l[n]?, ()), ()) := by
  unfold ref43_kind
  by_cases h : n < l.length
  · rw [if_pos (dT (by omega)), if_pos ⟨by omega, by omega⟩, Int.toNat_natCast, getD_in dToken h, List.getElem?_eq_getElem h, beq_dec]
    show _ = some ((decide _ && (true || _), ()), ())
    simp
  · rw [if_neg (dF (by omega)), List.getElem?_eq_none (by omega)]
    rfl

theorem ris_n {l : List TToken} (c : Ctx l) (n : Nat) (s : ByteArray) : ref43_is l n s = some ((match l[n]? with | some t => (decide (t.1 = 1) || decide (t.1 = 4)) && (L t.2.1 == L s) | none => false, ()), ()) := by
  unfold ref43_is
  by_cases h : n < l.length
  · have c1 : 0 ≤ (n : Int) ∧ (n : Int) < (l.length : Int) := ⟨by omega, by omega⟩
    rw [if_pos (dT (by omega)), if_pos c1, Int.toNat_natCast, getD_in dToken h, List.getElem?_eq_getElem h]
    simp only
    by_cases h1 : l[n].1 = 1
    · rw [if_pos (eT h1), if_pos c1, toL, toL, decide_eq_true h1]
      simp
    · rw [if_neg (eF h1), if_pos c1, decide_eq_false h1]
      by_cases h4 : l[n].1 = 4
      · rw [if_pos (eT h4), if_pos c1, toL, toL, decide_eq_true h4]
        simp
      · rw [if_neg (eF h4), decide_eq_false h4]
        simp
  · rw [if_neg (dF (by omega)), List.getElem?_eq_none (by omega)]

theorem ris_mark {l : List TToken} (c : Ctx l) (n : Nat) (x : UInt8) (hx : nameB [x] = false) : ref43_is l n (strB [x]) = some ((isO 4 [x] l[n]?, ()), ()) := by
  rw [ris_n c]
  cases h : l[n]? with
  | none => rfl
  | some t =>
    have hg := c.good t (List.mem_of_getElem? h)
    simp only [L_strB]
    show _ = some ((decide (t.1 = 4) && (false || _), ()), ())
    by_cases h1 : t.1 = 1
    · have h2 := hg.2.2 h1
      have : ¬ L t.2.1 = [x] := fun q => by rw [q, hx] at h2; cases h2
      rw [decide_eq_true h1, decide_eq_false (show ¬ t.1 = 4 by omega)]
      simpa using this
    · rw [decide_eq_false h1]
      simp

theorem ris_word {l : List TToken} (c : Ctx l) (n : Nat) (s : ByteArray) (hx : markL (L s) = false) (he : (L s).isEmpty = false) : ref43_is l n s = some ((isO 1 (L s) l[n]?, ()), ()) := by
  rw [ris_n c]
  cases h : l[n]? with
  | none => rfl
  | some t =>
    have hg := c.good t (List.mem_of_getElem? h)
    simp only
    show _ = some ((decide (t.1 = 1) && (_ || _), ()), ())
    rw [he]
    by_cases h4 : t.1 = 4
    · have h2 := hg.2.1 h4
      have : ¬ L t.2.1 = L s := fun q => by rw [q, hx] at h2; cases h2
      rw [decide_eq_true h4, decide_eq_false (show ¬ t.1 = 1 by omega)]
      simpa using this
    · rw [decide_eq_false h4]
      simp

theorem rkind_q {l q : List TToken} (c : Ctx l) (h : q <:+ l) (k : Int) : ref43_kind l (ixn l q) k = some ((hdT k [] q, ()), ()) := by
  unfold ixn
  rw [rkind_n c, hd_isO]
  have := at_k h 0
  rw [Nat.add_zero] at this
  rw [this]
theorem rmark_q {l q : List TToken} (c : Ctx l) (h : q <:+ l) (x : UInt8) (hx : nameB [x] = false) : ref43_is l (ixn l q) (strB [x]) = some ((hdT 4 [x] q, ()), ()) := by
  unfold ixn
  rw [ris_mark c _ x hx, hd_isO]
  have := at_k h 0
  rw [Nat.add_zero] at this
  rw [this]
theorem rword_q {l q : List TToken} (c : Ctx l) (h : q <:+ l) (s : ByteArray) (hx : markL (L s) = false) (he : (L s).isEmpty = false) : ref43_is l (ixn l q) s = some ((hdT 1 (L s) q, ()), ()) := by
  unfold ixn
  rw [ris_word c _ s hx he, hd_isO]
  have := at_k h 0
  rw [Nat.add_zero] at this
  rw [this]

/-- Where there is a mark 'x', which is no name of one letter: kind 1. -/
theorem ixn_2 {l r : List TToken} {t1 t2 : TToken} (c : Ctx l) (h : (t1 :: t2 :: r) <:+ l) : IntKind.i64.wrap (ixn l (t1 :: t2 :: r) + 2) = ixn l r := by
  have h3 := (at_cons h).2.2
  have h4 := (at_cons ((List.suffix_cons t1 (t2 :: r)).trans h)).2.2
  have := c.len
  unfold ixn
  rw [w64b _ (by omega)]
  omega
theorem ixn_3 {l r : List TToken} {t1 t2 t3 : TToken} (c : Ctx l) (h : (t1 :: t2 :: t3 :: r) <:+ l) : IntKind.i64.wrap (ixn l (t1 :: t2 :: t3 :: r) + 3) = ixn l r := by
  have h3 := (at_cons h).2.2
  have h4 := (at_cons ((List.suffix_cons t1 (t2 :: t3 :: r)).trans h)).2.2
  have h5 := (at_cons ((List.suffix_cons t2 (t3 :: r)).trans ((List.suffix_cons t1 (t2 :: t3 :: r)).trans h))).2.2
  have := c.len
  unfold ixn
  rw [w64c _ (by omega)]
  omega

def OutR {α : Type} (l : List TToken) (o : Option ((α × Int × Bool × Unit) × Unit)) : PR α → Prop
  | .ok (a, q) => o = some ((a, ixn l q, true, ()), ())
  | .error e => ∃ z, o = some ((z, ixn l e, false, ()), ())

theorem among_loop {l q : List TToken} (c : Ctx l) (h : q <:+ l) (w : List ByteArray) (hw : w.length ≤ 1000) : ∀ (r : List ByteArray) (k : Nat), w.drop k = r → k ≤ w.length →
    ref43_among_l3 l (ixn l q) w k = some ((optI ((among r q).map (· + k)), ()), ())
  | [], k, hr, hk => by
    have h1 := drop_nil hr
    rw [ref43_among_l3_eq, if_neg (dF (by omega))]
    have : among [] q = none := by
      cases q with
      | nil => rfl
      | cons t r =>
        show (if t.1 = 1 then ([] : List ByteArray).findIdx? (fun b => L b == L t.2.1) else none) = none
        split <;> rfl
    rw [this]
    rfl
  | b :: r, k, hr, hk => by
    have h1 := drop_lt hr
    have hg : w.getD (k : Int).toNat (strB []) = b := getD_drop hr
    have ih := among_loop c h w hw r (k + 1) (dropS hr) (by omega)
    rw [ref43_among_l3_eq, if_pos (dT (by omega)), rkind_q c h, w64a k (by omega)]
    simp only [Option.bind_some]
    cases q with
    | nil =>
      refine (if_neg (by simp [hdT])).trans ?_
      rw [ih]
      rfl
    | cons t r' =>
      have hv : ∀ tab, among tab (t :: r') = if t.1 = 1 then tab.findIdx? (fun b => L b == L t.2.1) else none := fun tab => rfl
      by_cases ht : t.1 = 1
      · refine (if_pos (by simp [hdT, isT, ht])).trans ?_
        rw [if_pos (ixn_in h), if_pos ⟨by omega, by omega⟩, hg, (at_cons h).2.1, hv, if_pos ht, List.findIdx?_cons, toL, toL]
        by_cases he : L t.2.1 = L b
        · rw [if_pos (by simpa using he), he]
          simp [optI]
        · rw [if_neg (by simpa using he), ih, hv, if_pos ht, show (L b == L t.2.1) = false from beq_eq_false_iff_ne.2 fun q => he q.symm]
          simp only [Option.map_map, Bool.false_eq_true, if_false]
          congr 4
          cases r.findIdx? (fun b => L b == L t.2.1) with
          | none => rfl
          | some i => simp; omega
      · refine (if_neg (by simp [hdT, isT, ht])).trans ?_
        rw [ih, hv, hv, if_neg ht, if_neg ht]
        rfl

theorem ramong_q {l q : List TToken} (c : Ctx l) (h : q <:+ l) (w : List ByteArray) (hw : w.length ≤ 1000) : ref43_among l (ixn l q) w = some ((optI (among w q), ()), ()) := by
  unfold ref43_among
  have := among_loop c h w hw w 0 rfl (by omega)
  simpa using this

theorem hd_other {a b : UInt8} {q : List TToken} (h : hdT 4 [a] q = true) (hab : a ≠ b) : hdT 4 [b] q = false := by
  obtain ⟨t, r, rfl, hy⟩ := hdT_cons h
  have h2 : t.1 = 4 ∧ L t.2.1 = [a] := by
    unfold isT at hy
    simpa using hy
  show (decide (t.1 = 4) && (false || (L t.2.1 == [b]))) = false
  rw [h2.2]
  simp [hab]

theorem rtakeOp_q {l q : List TToken} (c : Ctx l) (h : q <:+ l) : OutR l (ref43_takeOp l (ixn l q)) (pOp q) := by
  unfold ref43_takeOp pOp
  rw [rmark_q c h 61 (by decide), rmark_q c h 33 (by decide), rmark_q c h 60 (by decide), rmark_q c h 62 (by decide), rmark_q c h 38 (by decide)]
  simp only [Option.bind_some]
  by_cases h1 : hdT 4 [61] q = true
  · obtain ⟨t, r, rfl, _⟩ := hdT_cons h1
    rw [if_pos h1, if_pos h1, ixn_next c h]
    rfl
  rw [if_neg h1, if_neg h1]
  by_cases h2 : hdT 4 [33] q = true
  · rw [if_pos h2, if_neg (by rw [hd_other h2 (by decide)]; simp), if_neg (by rw [hd_other h2 (by decide)]; simp), if_neg (by rw [hd_other h2 (by decide)]; simp)]
    obtain ⟨t, r, rfl, hn⟩ := need_yes h2
    have hr : r <:+ l := (List.suffix_cons t r).trans h
    rw [hn, andP_ok', ixn_next c h, rmark_q c hr 61 (by decide)]
    simp only [Option.bind_some]
    by_cases h3 : hdT 4 [61] r = true
    · obtain ⟨t3, r3, rfl, hn3⟩ := need_yes h3
      rw [hn3, andP_ok', h3]
      unfold ref43_one
      have hin := ixn_in hr
      have := c.len
      have e : IntKind.i64.wrap (IntKind.i64.wrap (ixn l (t :: t3 :: r3) + 2) - 0) = ixn l r3 := by
        rw [ixn_2 c h]
        have : 0 ≤ ixn l r3 ∧ ixn l r3 ≤ 1048576 := by unfold ixn; omega
        rw [w64 (by omega) (by omega)]
        omega
      show some ((2, IntKind.i64.wrap (IntKind.i64.wrap (ixn l (t :: t3 :: r3) + 2) - 0), true, ()), ()) = _
      rw [e]
    · have hf : hdT 4 [61] r = false := by simpa using h3
      rw [need_no hf, hf]
      unfold ref43_one
      have hin := ixn_in h
      have := c.len
      have e : IntKind.i64.wrap (IntKind.i64.wrap (ixn l (t :: r) + 2) - 1) = ixn l r := by
        obtain ⟨a1, _, a3⟩ := at_cons h
        unfold ixn
        rw [w64b _ (by omega), w64 (by omega) (by omega)]
        omega
      refine ⟨2, ?_⟩
      show some ((2, IntKind.i64.wrap (IntKind.i64.wrap (ixn l (t :: r) + 2) - 1), false, ()), ()) = _
      rw [e]
  rw [if_neg h2]
  by_cases h3 : hdT 4 [60] q = true
  · obtain ⟨t, r, rfl, _⟩ := hdT_cons h3
    rw [if_pos h3, if_pos h3, ixn_next c h]
    rfl
  rw [if_neg h3, if_neg h3]
  by_cases h4 : hdT 4 [62] q = true
  · obtain ⟨t, r, rfl, _⟩ := hdT_cons h4
    rw [if_pos h4, if_pos h4, ixn_next c h]
    rfl
  rw [if_neg h4, if_neg h4]
  by_cases h5 : hdT 4 [38] q = true
  · obtain ⟨t, r, rfl, _⟩ := hdT_cons h5
    rw [if_pos h5, h5]
    unfold ref43_one
    show some ((5, IntKind.i64.wrap (ixn l (t :: r) + 1), true, ()), ()) = _
    rw [ixn_next c h]
    rfl
  · have hf : hdT 4 [38] q = false := by simpa using h5
    have hf2 : hdT 4 [33] q = false := by simpa using h2
    rw [if_neg h5, need_no hf2, hf]
    unfold ref43_one
    refine ⟨5, ?_⟩
    show some ((5, IntKind.i64.wrap (ixn l q + 0), false, ()), ()) = _
    have := c.len
    have : 0 ≤ ixn l q ∧ ixn l q ≤ 1048576 := by unfold ixn; omega
    rw [w64 (by omega) (by omega), Int.add_zero]

theorem rtakeCond_q {l q : List TToken} (c : Ctx l) (h : q <:+ l) : OutR l (ref43_takeCond l (ixn l q)) (pCond q) := by
  unfold ref43_takeCond pCond
  rw [rkind_q c h]
  simp only [Option.bind_some]
  by_cases h1 : hdT 1 [] q = true
  rotate_left
  · have hf : hdT 1 [] q = false := by simpa using h1
    rw [need_no hf, hf]
    exact ⟨_, if_pos (by simp)⟩
  obtain ⟨t1, q1, rfl, n1⟩ := need_yes h1
  have g1 : q1 <:+ l := (List.suffix_cons t1 q1).trans h
  rw [n1, andP_ok', h1]
  refine Eq.subst (motive := fun o => OutR l o _) (if_neg (by simp)).symm ?_
  rw [if_pos (ixn_in h), (at_cons h).2.1, ixn_next c h, rmark_q c g1 46 (by decide)]
  simp only [Option.bind_some]
  by_cases h2 : hdT 4 [46] q1 = true
  rotate_left
  · have hf : hdT 4 [46] q1 = false := by simpa using h2
    rw [need_no hf, hf]
    exact ⟨_, if_pos (by simp)⟩
  obtain ⟨t2, q2, rfl, n2⟩ := need_yes h2
  have g2 : q2 <:+ l := (List.suffix_cons t2 q2).trans g1
  rw [n2, andP_ok', h2]
  refine Eq.subst (motive := fun o => OutR l o _) (if_neg (by simp)).symm ?_
  rw [rkinds_b]
  simp only [Option.bind_some]
  rw [ixn_2 c h, ramong_q c g2 kindTab (by decide)]
  simp only [Option.bind_some]
  unfold pAmong
  cases hf : among kindTab q2 with
  | none => exact ⟨_, if_pos (by decide)⟩
  | some j =>
    obtain ⟨t3, q3, rfl⟩ := among_cons hf
    have g3 : q3 <:+ l := (List.suffix_cons t3 q3).trans g2
    simp only [andP_ok', List.tail_cons]
    refine Eq.subst (motive := fun o => OutR l o _) (if_neg (dF (by show ¬ (j : Int) < 0; omega))).symm ?_
    rw [rfields_b]
    simp only [Option.bind_some]
    rw [ixn_3 c h, ramong_q c g3 fieldTab (by decide)]
    simp only [Option.bind_some]
    unfold pRest
    cases hf2 : among fieldTab q3 with
    | none => exact if_pos (by decide)
    | some f =>
      obtain ⟨t4, q4, rfl⟩ := among_cons hf2
      have g4 : q4 <:+ l := (List.suffix_cons t4 q4).trans g3
      simp only [List.tail_cons]
      refine Eq.subst (motive := fun o => OutR l o _) (if_neg (dF (by show ¬ (f : Int) < 0; omega))).symm ?_
      rw [ixn_next c g3]
      have hfl : f < 6 := by
        have hv : among fieldTab (t4 :: q4) = if t4.1 = 1 then fieldTab.findIdx? (fun b => L b == L t4.2.1) else none := rfl
        rw [hv] at hf2
        by_cases ht : t4.1 = 1
        · rw [if_pos ht] at hf2
          obtain ⟨hlt, _⟩ := List.findIdx?_eq_some_iff_getElem.1 hf2
          exact hlt
        · rw [if_neg ht] at hf2
          cases hf2
      have ho := rtakeOp_q c g4
      cases hp : pOp q4 with
      | error e =>
        rw [hp] at ho
        obtain ⟨z, hz⟩ := ho
        rw [hz]
        simp only [Option.bind_some]
        exact ⟨_, if_pos (by simp)⟩
      | ok p =>
        obtain ⟨op, q5⟩ := p
        have g5 := sufk g4 (goes_op q4) hp
        rw [hp] at ho
        rw [show ref43_takeOp l (ixn l q4) = some ((op, ixn l q5, true, ()), ()) from ho]
        simp only [Option.bind_some, andP_ok']
        refine Eq.subst (motive := fun o => OutR l o _) (if_neg (by simp)).symm ?_
        rw [rkind_q c g5]
        simp only [Option.bind_some]
        by_cases h6 : hdT 2 [] q5 = true
        rotate_left
        · have hf6 : hdT 2 [] q5 = false := by simpa using h6
          rw [need_no hf6, hf6]
          exact ⟨_, if_pos (by simp)⟩
        obtain ⟨t6, q6, rfl, n6⟩ := need_yes h6
        rw [n6, andP_ok', h6]
        refine Eq.subst (motive := fun o => OutR l o _) (if_neg (by simp)).symm ?_
        rw [if_pos (ixn_in g5), (at_cons g5).2.1, ixn_next c g5]
        show some (((t1.2.1, (j : Int), IntKind.i64.wrap ((f : Int) + 1), op, t6.2.2.1), ixn l q6, true, ()), ()) = _
        rw [w64a f (by omega)]

theorem r12_q {l q : List TToken} (c : Ctx l) (h : q <:+ l) (z : TTrigStep) (x : CondT) (n w : Int) : OutR l (ref43_takeStep_l12 l (ixn l q) true z (x, n, w, false, noCond)) (andP (pUnless q) fun u q => .ok ((x, n, w, u.1, u.2), q)) := by
  rw [ref43_takeStep_l12_eq, rword_q c h (strB [117, 110, 108, 101, 115, 115]) (by decide) (by decide)]
  simp only [Option.bind_some]
  unfold pUnless
  by_cases h1 : hdT 1 (L sUnless) q = true
  · obtain ⟨t, r, rfl, _⟩ := hdT_cons h1
    have hr : r <:+ l := (List.suffix_cons t r).trans h
    rw [if_pos h1]
    refine Eq.subst (motive := fun o => OutR l o _) (if_pos h1).symm ?_
    rw [ixn_next c h, List.tail_cons]
    have ho := rtakeCond_q c hr
    cases hp : pCond r with
    | error e =>
      rw [hp] at ho
      obtain ⟨y, hy⟩ := ho
      rw [hy]
      exact ⟨_, rfl⟩
    | ok p =>
      obtain ⟨a, q'⟩ := p
      rw [hp] at ho
      rw [show ref43_takeCond l (ixn l r) = some ((a, ixn l q', true, ()), ()) from ho]
      rfl
  · rw [if_neg h1]
    exact if_neg h1

theorem r6_q {l q : List TToken} (c : Ctx l) (h : q <:+ l) (z : TTrigStep) (x : CondT) (n : Int) : OutR l (ref43_takeStep_l6 l (ixn l q) true z (x, n, 0, false, noCond)) (andP (pNum (L sWithin) 0 q) fun w q => andP (pUnless q) fun u q => .ok ((x, n, w, u.1, u.2), q)) := by
  rw [ref43_takeStep_l6_eq, rword_q c h (strB [119, 105, 116, 104, 105, 110]) (by decide) (by decide)]
  simp only [Option.bind_some]
  unfold pNum
  by_cases h1 : hdT 1 (L sWithin) q = true
  · obtain ⟨t, r, rfl, _⟩ := hdT_cons h1
    have hr : r <:+ l := (List.suffix_cons t r).trans h
    rw [if_pos h1]
    refine Eq.subst (motive := fun o => OutR l o _) (if_pos h1).symm ?_
    rw [ixn_next c h, List.tail_cons, rkind_q c hr]
    simp only [Option.bind_some]
    by_cases h2 : hdT 2 [] r = true
    rotate_left
    · have hf : hdT 2 [] r = false := by simpa using h2
      rw [need_no hf, hf]
      exact ⟨_, if_pos (by simp)⟩
    obtain ⟨t2, r2, rfl, n2⟩ := need_yes h2
    rw [n2, h2]
    refine Eq.subst (motive := fun o => OutR l o _) (if_neg (by simp)).symm ?_
    rw [if_pos (ixn_in hr), (at_cons hr).2.1, ixn_2 c h]
    exact r12_q c ((List.suffix_cons t2 r2).trans hr) z x n _
  · rw [if_neg h1]
    refine Eq.subst (motive := fun o => OutR l o _) (if_neg h1).symm ?_
    exact r12_q c h z x n 0

theorem rtakeStep_q {l q : List TToken} (c : Ctx l) (h : q <:+ l) : OutR l (ref43_takeStep l (ixn l q)) (pStep q) := by
  unfold ref43_takeStep pStep
  have ho := rtakeCond_q c h
  cases hp : pCond q with
  | error e =>
    rw [hp] at ho
    obtain ⟨y, hy⟩ := ho
    rw [hy]
    simp only [Option.bind_some]
    exact ⟨_, if_pos (by simp)⟩
  | ok p =>
    obtain ⟨x, q1⟩ := p
    have g1 := sufk h (goes_cond q) hp
    rw [hp] at ho
    rw [show ref43_takeCond l (ixn l q) = some ((x, ixn l q1, true, ()), ()) from ho]
    simp only [Option.bind_some, andP_ok']
    refine Eq.subst (motive := fun o => OutR l o _) (if_neg (by simp)).symm ?_
    rw [rword_q c g1 (strB [120]) (by decide) (by decide)]
    simp only [Option.bind_some]
    have e : pNum (L sX) 1 q1 = if hdT 1 (L sX) q1 = true then andP (pNeed 2 [] q1.tail) fun t q => .ok (t.2.2.1, q) else .ok (1, q1) := rfl
    rw [e]
    by_cases h1 : hdT 1 (L sX) q1 = true
    · obtain ⟨t, r, rfl, _⟩ := hdT_cons h1
      have hr : r <:+ l := (List.suffix_cons t r).trans g1
      rw [if_pos h1]
      refine Eq.subst (motive := fun o => OutR l o _) (if_pos h1).symm ?_
      rw [ixn_next c g1, List.tail_cons, rkind_q c hr]
      simp only [Option.bind_some]
      by_cases h2 : hdT 2 [] r = true
      rotate_left
      · have hf : hdT 2 [] r = false := by simpa using h2
        rw [need_no hf, hf]
        exact ⟨_, if_pos (by simp)⟩
      obtain ⟨t2, r2, rfl, n2⟩ := need_yes h2
      rw [n2, h2]
      refine Eq.subst (motive := fun o => OutR l o _) (if_neg (by simp)).symm ?_
      rw [if_pos (ixn_in hr), (at_cons hr).2.1, ixn_2 c g1]
      exact r6_q c ((List.suffix_cons t2 r2).trans hr) _ x _
    · rw [if_neg h1]
      refine Eq.subst (motive := fun o => OutR l o _) (if_neg h1).symm ?_
      exact r6_q c g1 _ x 1

theorem r15_rd {l : List TToken} (c : Ctx l) (a nm : ByteArray) (x : List TTrigStep) : ∀ (k : Nat) (acc : List TTrigStep) (q : List TToken) (n : Nat), q <:+ l → q.length ≤ k → acc.length + k ≤ 1048577 → 1 ≤ n → n + k ≤ 2000000 →
    OutR l (ref43_takeTrigger_l15 l (ixn l q) n a nm x acc) (andP (pSteps k acc q) fun ss q => .ok ((nm, ss), q)) := by
  have fin : ∀ (acc : List TTrigStep) (q : List TToken) (n : Nat), q <:+ l → 1 ≤ n → hdT 4 [59] q = false → ref43_takeTrigger_l15 l (ixn l q) n a nm x acc = some (((nm, acc), ixn l q, ixn l q == (l.length : Int), ()), ()) := fun acc q n h hn hd => by
    rw [ref43_takeTrigger_l15_eq, if_neg (eF (by omega)), rmark_q c h 59 (by decide), hd]
    simp only [Option.bind_some]
    exact if_neg (by simp)
  intro k
  induction k with
  | zero =>
    intro acc q n h hk hb hn hn2
    have : q = [] := List.length_eq_zero_iff.1 (by omega)
    subst this
    rw [fin acc [] n h hn rfl]
    show _ = some (((nm, acc), ixn l [], true, ()), ())
    rw [ixn_nil]
    simp
  | succ k ih =>
    intro acc q n h hk hb hn hn2
    unfold pSteps
    cases q with
    | nil =>
      rw [fin acc [] n h hn rfl, if_pos rfl]
      show _ = some (((nm, acc), ixn l [], true, ()), ())
      rw [ixn_nil]
      simp
    | cons t r =>
      rw [if_neg (by simp)]
      by_cases h1 : hdT 4 [59] (t :: r) = true
      rotate_left
      · have hf : hdT 4 [59] (t :: r) = false := by simpa using h1
        have hin := ixn_in h
        rw [fin acc _ n h hn hf, need_no hf]
        refine ⟨(nm, acc), ?_⟩
        rw [show (ixn l (t :: r) == (l.length : Int)) = false from beq_eq_false_iff_ne.2 (by omega)]
      obtain ⟨t', r', e, n1⟩ := need_yes h1
      cases e
      have hr : r <:+ l := (List.suffix_cons t r).trans h
      rw [n1, andP_ok', ref43_takeTrigger_l15_eq, if_neg (eF (by omega)), rmark_q c h 59 (by decide), h1]
      simp only [Option.bind_some]
      refine Eq.subst (motive := fun o => OutR l o _) (if_pos (by simp)).symm ?_
      rw [if_pos (dT (by omega)), ixn_next c h, ref43_takeTrigger_l19_eq]
      have ho := rtakeStep_q c hr
      cases hp : pStep r with
      | error e =>
        rw [hp] at ho
        obtain ⟨y, hy⟩ := ho
        rw [hy]
        simp only [Option.bind_some]
        exact ⟨_, if_pos (by simp)⟩
      | ok p =>
        obtain ⟨s, q2⟩ := p
        have g2 := sufk hr (goes_step r) hp
        have o2 := okLen (goes_step r) hp
        rw [hp] at ho
        rw [show ref43_takeStep l (ixn l r) = some ((s, ixn l q2, true, ()), ()) from ho]
        simp only [Option.bind_some, andP_ok']
        refine Eq.subst (motive := fun o => OutR l o _) (if_neg (by simp)).symm ?_
        simp only [List.length_cons] at hk
        rw [if_pos ⟨by omega, by decide⟩, w64a n (by omega)]
        exact ih (acc ++ [s]) q2 (n + 1) g2 (by omega) (by rw [List.length_append]; simp only [List.length_cons, List.length_nil]; omega) (by omega) (by omega)

theorem rtrig_q {l : List TToken} (c : Ctx l) : OutR l (ref43_takeTrigger l) (pTrig l) := by
  have h0 : l <:+ l := List.suffix_refl l
  have e0 : ixn l l = 0 := by unfold ixn; simp
  unfold ref43_takeTrigger pTrig
  have w := rword_q c h0 (strB [116, 114, 105, 103, 103, 101, 114]) (by decide) (by decide)
  rw [e0] at w
  rw [w]
  simp only [Option.bind_some]
  by_cases h1 : hdT 1 (L sTrigger) l = true
  rotate_left
  · have hf : hdT 1 (L sTrigger) l = false := by simpa using h1
    rw [need_no hf, show hdT 1 (L (strB [116, 114, 105, 103, 103, 101, 114])) l = false from hf]
    refine ⟨(strB [], []), (if_pos (by simp)).trans ?_⟩
    rw [e0]
  obtain ⟨t1, q1, hl, n1⟩ := need_yes h1
  have g1 : q1 <:+ l := by rw [hl]; exact List.suffix_cons t1 q1
  have e1 : ixn l q1 = 1 := by unfold ixn; rw [hl]; simp
  rw [n1, andP_ok', show hdT 1 (L (strB [116, 114, 105, 103, 103, 101, 114])) l = true from h1]
  refine Eq.subst (motive := fun o => OutR l o _) (if_neg (by simp)).symm ?_
  have w1 := rkind_q c g1 1
  rw [e1] at w1
  rw [w1]
  simp only [Option.bind_some]
  by_cases h2 : hdT 1 [] q1 = true
  rotate_left
  · have hf : hdT 1 [] q1 = false := by simpa using h2
    rw [need_no hf, hf]
    refine ⟨(strB [], []), (if_pos (by simp)).trans ?_⟩
    rw [e1]
  obtain ⟨t2, q2, hq1, n2⟩ := need_yes h2
  subst hq1
  have g2 : q2 <:+ l := (List.suffix_cons t2 q2).trans g1
  have e2 : ixn l q2 = 2 := by unfold ixn; rw [hl]; simp only [List.length_cons]; omega
  have hin := ixn_in g1
  rw [e1] at hin
  have hd : l.getD 1 dToken = t2 := by rw [hl]; rfl
  rw [n2, andP_ok', h2]
  refine Eq.subst (motive := fun o => OutR l o _) (if_neg (by simp)).symm ?_
  have w2 := rmark_q c g2 58 (by decide)
  rw [e2] at w2
  rw [if_pos ⟨by omega, hin.2⟩, w2, hd]
  simp only [Option.bind_some]
  by_cases h3 : hdT 4 [58] q2 = true
  rotate_left
  · have hf : hdT 4 [58] q2 = false := by simpa using h3
    rw [need_no hf, hf]
    refine ⟨(t2.2.1, []), (if_pos (by simp)).trans ?_⟩
    rw [e2]
  obtain ⟨t3, q3, hq2, n3⟩ := need_yes h3
  subst hq2
  have g3 : q3 <:+ l := (List.suffix_cons t3 q3).trans g2
  have e3 : ixn l q3 = 3 := by unfold ixn; rw [hl]; simp only [List.length_cons]; omega
  rw [n3, andP_ok', h3]
  refine Eq.subst (motive := fun o => OutR l o _) (if_neg (by simp)).symm ?_
  rw [ref43_takeTrigger_l15_eq, if_pos (by decide), if_neg (by decide), ref43_takeTrigger_l19_eq, ← e3]
  have ho := rtakeStep_q c g3
  cases hp : pStep q3 with
  | error e =>
    rw [hp] at ho
    obtain ⟨y, hy⟩ := ho
    rw [hy]
    simp only [Option.bind_some]
    exact ⟨_, if_pos (by simp)⟩
  | ok p =>
    obtain ⟨s, q4⟩ := p
    have g4 := sufk g3 (goes_step q3) hp
    have o4 := okLen (goes_step q3) hp
    rw [hp] at ho
    rw [show ref43_takeStep l (ixn l q3) = some ((s, ixn l q4, true, ()), ()) from ho]
    simp only [Option.bind_some, andP_ok']
    refine Eq.subst (motive := fun o => OutR l o _) (if_neg (by simp)).symm ?_
    rw [if_pos ⟨by simp, by decide⟩]
    have := g4.length_le
    have := c.len
    exact r15_rd c _ _ _ q4.length [s] q4 1 g4 (Nat.le_refl _) (by simp only [List.length_cons, List.length_nil]; omega) (by omega) (by omega)

theorem rtline_b {l e : List TToken} (c : Ctx l) (h : e <:+ l) : ref43_line l (ixn l e) = some ((lineV l e, ()), ()) := by
  have hl := c.len
  unfold ref43_line
  cases e with
  | nil =>
    rw [if_neg (dF (by rw [ixn_nil]; omega))]
    by_cases h0 : l.length = 0
    · have : l = [] := List.length_eq_zero_iff.1 h0
      subst this
      rfl
    · have e1 : IntKind.i64.wrap ((l.length : Int) - 1) = ((l.length - 1 : Nat) : Int) := by rw [w64 (by omega) (by omega)]; omega
      rw [if_pos (dT (by omega)), e1, if_pos ⟨by omega, by omega⟩, Int.toNat_natCast, getD_in dToken (by omega)]
      unfold lineV
      have : l.getLast? = some l[l.length - 1] := by rw [List.getLast?_eq_getElem?, List.getElem?_eq_getElem (by omega)]
      rw [this]
  | cons t r =>
    rw [if_pos (dT (ixn_in h).2), if_pos (ixn_in h), (at_cons h).2.1]
    rfl

theorem rtparse_b (s : ByteArray) : ref43_Parse s = some (((parseT (L s)).1, (parseT (L s)).2.1, (parseT (L s)).2.2, ()), ()) := by
  unfold ref43_Parse parseT
  have hlen := tokOut_length s
  rw [ref05_Tokens_b]
  simp only [Option.bind_some]
  cases h : tokV (L s) with
  | error e =>
    simp only [tokOut]
    by_cases he : e.2 = 0
    · exact absurd he (tokV_err h)
    · refine (if_pos (nT he)).trans ?_
      rfl
  | ok l =>
    rw [h] at hlen
    simp only [tokOut, List.nil_append] at hlen ⊢
    refine (if_neg (nF rfl)).trans ?_
    have c : Ctx l := ⟨hlen, tokV_good h⟩
    have ho := rtrig_q c
    have g := goes_trig l
    cases hp : pTrig l with
    | error e =>
      rw [hp] at ho g
      obtain ⟨z, hz⟩ := ho
      have hs : e <:+ l := g
      rw [hz]
      simp only [Option.bind_some]
      refine (if_pos (by simp)).trans ?_
      rw [rtline_b c hs]
      rfl
    | ok p =>
      obtain ⟨t, q⟩ := p
      rw [hp] at ho
      rw [show ref43_takeTrigger l = some ((t, ixn l q, true, ()), ()) from ho]
      simp only [Option.bind_some]
      refine (if_neg (by simp)).trans ?_
      have hk : t.2.length ≤ 1048577 := by
        unfold pTrig at hp
        obtain ⟨a1, q1, h1, hp⟩ := andP_ok hp
        obtain ⟨a2, q2, h2, hp⟩ := andP_ok hp
        obtain ⟨a3, q3, h3, hp⟩ := andP_ok hp
        obtain ⟨a4, q4, h4, hp⟩ := andP_ok hp
        obtain ⟨a5, q5, h5, hp⟩ := andP_ok hp
        cases hp
        have o1 := okLen (goes_need 1 (L sTrigger) l) h1
        have o2 := okLen (goes_need 1 [] q1) h2
        have o3 := okLen (goes_need 4 [58] q2) h3
        have o4 := okLen (goes_step q3) h4
        have := steps_len _ _ _ _ h5
        simp only [List.length_cons, List.length_nil] at this
        show a5.length ≤ _
        omega
      rw [rwrong_eq' t hk]
      simp only [Option.bind_some]
      by_cases hc : wrongE t = 0
      · rw [if_neg (nF hc), if_pos hc]
      · rw [if_pos (nT hc), if_neg hc]
        rfl

theorem TrigParses_true (s : ByteArray) : law43_TrigParses s = some ((true, ()), ()) := by
  unfold law43_TrigParses
  rw [awake43_b]
  simp only [Option.bind_some]
  split
  · rfl
  · rw [tparse_b, rtparse_b]
    simp only [Option.bind_some]
    have hd : (parseT (L s)).1.2.length ≤ 1048576 := by
      rcases parseT_cases (L s) with h1 | h1
      · rw [h1.2]; decide
      · have := (wrongE_zero.1 h1.2).few
        omega
    rw [sameT_refl _ hd]
    simp

end Go.Proofs.YtgpgpelaabdkhaaGreatDoor
end
