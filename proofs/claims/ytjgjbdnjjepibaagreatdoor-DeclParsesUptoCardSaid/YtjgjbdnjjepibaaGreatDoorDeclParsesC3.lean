/-
The plain functions of the program that the law DeclParses reaches, that the program computes them, and what they come to. No condition.
-/
import Derived.Test.YtjgjbdnjjepibaaGreatDoorAm1
import Derived.Test.YtjgjbdnjjepibaaGreatDoorAm2
import Derived.Test.YtjgjbdnjjepibaaGreatDoorAm3
import Derived.Test.YtjgjbdnjjepibaaGreatDoorDeclParsesC1
import Derived.Test.YtjgjbdnjjepibaaGreatDoorDeclParsesC2
set_option linter.unusedVariables false
set_option linter.unusedSimpArgs false
set_option linter.unusedSectionVars false

section
/-
YtjgjbdnjjepibaaGreatDoor: decl.Parse, as plain functions, comes to the plain reader of declarations. No condition.
-/
set_option maxRecDepth 100000
set_option linter.unusedVariables false
open Go Go.AM
namespace Go.Proofs.YtjgjbdnjjepibaaGreatDoor

structure Ctx (l : List TToken) : Prop where
  len : l.length ≤ 1048576
  good : ∀ t ∈ l, tokGood t

def rd (l q : List TToken) : Treader := (l, ((l.length - q.length : Nat) : Int), 0)
def bad (l e : List TToken) : Treader := (l, ((l.length - e.length : Nat) : Int), lineV l e)
def zT : TToken := (0, strB [], 0, 0)

theorem suf_drop {l q : List TToken} (h : q <:+ l) : l.drop (l.length - q.length) = q := (List.suffix_iff_eq_drop.1 h).symm
theorem sufk {α : Type} {l q r : List TToken} (h : q <:+ l) {x : PR α} {n : Nat} (g : Goes n q x) {a : α} (e : x = .ok (a, r)) : r <:+ l := by
  subst e
  exact List.IsSuffix.trans g.1 h
theorem sufe {α : Type} {l q r : List TToken} (h : q <:+ l) {x : PR α} {n : Nat} (g : Goes n q x) (e : x = .error r) : r <:+ l := by
  subst e
  exact List.IsSuffix.trans g h
theorem okLen {α : Type} {q r : List TToken} {x : PR α} {n : Nat} (g : Goes n q x) {a : α} (e : x = .ok (a, r)) : r.length + n ≤ q.length := by
  subst e
  exact g.2

theorem line_pos {l e : List TToken} (c : Ctx l) (h : e <:+ l) : 0 < lineV l e := by
  unfold lineV
  split
  · rename_i t r
    have := (c.good t (h.mem (by simp))).1
    omega
  · split
    · rename_i t ht
      have := (c.good t (List.mem_of_getLast? ht)).1
      omega
    · omega

theorem at_cons {l r : List TToken} {t : TToken} (h : (t :: r) <:+ l) : l.length - (t :: r).length < l.length ∧ l.getD (((l.length - (t :: r).length : Nat) : Int)).toNat dToken = t ∧ l.length - r.length = l.length - (t :: r).length + 1 := by
  have h1 := suf_drop h
  have h2 := drop_lt h1
  have h3 := h.length_le
  refine ⟨h2, getD_drop h1, ?_⟩
  simp only [List.length_cons] at h3 ⊢
  omega

theorem is_rd {l q : List TToken} (c : Ctx l) (h : q <:+ l) (k : Int) (text : ByteArray) {x : List UInt8} (hx : L text = x) : decl_reader_is k text (rd l q) = some ((hdT k x q, ()), (rd l q, ())) := by
  subst hx
  unfold decl_reader_is
  have c0 : ¬ (rd l q).2.2 > 0 := by show ¬ (0 : Int) > 0; omega
  rw [if_neg (dF c0)]
  cases q with
  | nil =>
    have c1 : (rd l []).2.1 ≥ ((rd l []).1.length : Int) := by show ((l.length - 0 : Nat) : Int) ≥ (l.length : Int); simp
    rw [if_pos (dT c1)]
    rfl
  | cons t r =>
    obtain ⟨h1, h2, _⟩ := at_cons h
    have c1 : ¬ (rd l (t :: r)).2.1 ≥ ((rd l (t :: r)).1.length : Int) := by show ¬ ((l.length - (t :: r).length : Nat) : Int) ≥ (l.length : Int); omega
    have c2 : 0 ≤ (rd l (t :: r)).2.1 ∧ (rd l (t :: r)).2.1 < ((rd l (t :: r)).1.length : Int) := by show 0 ≤ ((l.length - (t :: r).length : Nat) : Int) ∧ ((l.length - (t :: r).length : Nat) : Int) < (l.length : Int); omega
    have h2' : (rd l (t :: r)).1.getD (rd l (t :: r)).2.1.toNat dToken = t := h2
    rw [if_neg (dF c1), if_pos c2, h2']
    show _ = some ((isT k (L text) t, ()), _)
    unfold isT
    by_cases hk : t.1 = k
    · rw [if_pos (eT hk), decide_eq_true hk, Bool.true_and]
      by_cases he : L text = []
      · rw [if_pos (by rw [toL, he, toL, L_strB]; rfl), he]
        rfl
      · rw [if_neg (by rw [toL, toL]; simpa [L_strB] using he), toL, toL]
        have : (L text).isEmpty = false := by simpa using he
        rw [this, Bool.false_or]
    · rw [if_neg (eF hk), decide_eq_false hk, Bool.false_and]

theorem is_bad {l e : List TToken} (c : Ctx l) (h : e <:+ l) (k : Int) (text : ByteArray) : decl_reader_is k text (bad l e) = some ((false, ()), (bad l e, ())) := by
  unfold decl_reader_is
  have c0 : (bad l e).2.2 > 0 := line_pos c h
  rw [if_pos (dT c0)]

theorem take_yes {l r : List TToken} {t : TToken} (c : Ctx l) (h : (t :: r) <:+ l) {k : Int} {text : ByteArray} {x : List UInt8} (hx : L text = x) (hy : hdT k x (t :: r) = true) :
    decl_reader_take k text (rd l (t :: r)) = some ((t, true, ()), (rd l r, ())) := by
  obtain ⟨h1, h2, h3⟩ := at_cons h
  have hl := c.len
  unfold decl_reader_take
  rw [is_rd c h k text hx, hy]
  simp only [Option.bind_some]
  refine (if_neg (by simp)).trans ?_
  have e1 : IntKind.i64.wrap ((rd l (t :: r)).2.1 + 1) = ((l.length - r.length : Nat) : Int) := by
    show IntKind.i64.wrap (((l.length - (t :: r).length : Nat) : Int) + 1) = _
    rw [w64a _ (by omega), h3]
  have e2 : IntKind.i64.wrap (((l.length - r.length : Nat) : Int) - 1) = ((l.length - (t :: r).length : Nat) : Int) := by
    rw [w64 (by omega) (by omega)]; omega
  have c2 : 0 ≤ ((l.length - (t :: r).length : Nat) : Int) ∧ ((l.length - (t :: r).length : Nat) : Int) < ((rd l (t :: r)).1.length : Int) := by show _ ∧ _ < (l.length : Int); omega
  rw [e1, e2, if_pos c2]
  have h2' : (rd l (t :: r)).1.getD (((l.length - (t :: r).length : Nat) : Int)).toNat dToken = t := h2
  rw [h2']
  rfl

theorem take_no {l q : List TToken} (c : Ctx l) (h : q <:+ l) {k : Int} {text : ByteArray} {x : List UInt8} (hx : L text = x) (hy : hdT k x q = false) : decl_reader_take k text (rd l q) = some ((zT, false, ()), (rd l q, ())) := by
  unfold decl_reader_take
  rw [is_rd c h k text hx, hy]
  rfl

theorem take_bad {l e : List TToken} (c : Ctx l) (h : e <:+ l) (k : Int) (text : ByteArray) : decl_reader_take k text (bad l e) = some ((zT, false, ()), (bad l e, ())) := by
  unfold decl_reader_take
  rw [is_bad c h]
  rfl

theorem fail_rd {l q : List TToken} (c : Ctx l) (h : q <:+ l) : decl_reader_fail (rd l q) = some ((), (bad l q, ())) := by
  have hl := c.len
  unfold decl_reader_fail
  have c0 : ¬ (rd l q).2.2 > 0 := by show ¬ (0 : Int) > 0; omega
  rw [if_neg (dF c0)]
  cases q with
  | nil =>
    have c1 : ¬ (rd l []).2.1 < ((rd l []).1.length : Int) := by show ¬ ((l.length - 0 : Nat) : Int) < (l.length : Int); simp
    rw [if_neg (dF c1)]
    by_cases h0 : l.length = 0
    · have : l = [] := List.length_eq_zero_iff.1 h0
      subst this
      rfl
    · have e1 : IntKind.i64.wrap ((l.length : Int) - 1) = ((l.length - 1 : Nat) : Int) := by rw [w64 (by omega) (by omega)]; omega
      rw [if_pos (dT (show ((rd l []).1.length : Int) > 0 by show (l.length : Int) > 0; omega))]
      show (if 0 ≤ IntKind.i64.wrap ((l.length : Int) - 1) ∧ IntKind.i64.wrap ((l.length : Int) - 1) < (l.length : Int) then
        some ((), ((l, ((l.length - 0 : Nat) : Int), (l.getD (IntKind.i64.wrap ((l.length : Int) - 1)).toNat dToken).2.2.2), ())) else none) = _
      rw [e1, if_pos ⟨by omega, by omega⟩, Int.toNat_natCast, getD_in dToken (by omega)]
      unfold bad lineV
      have : l.getLast? = some l[l.length - 1] := by rw [List.getLast?_eq_getElem?, List.getElem?_eq_getElem (by omega)]
      rw [this]
      rfl
  | cons t r =>
    obtain ⟨h1, h2, h3⟩ := at_cons h
    have c2 : (rd l (t :: r)).2.1 < ((rd l (t :: r)).1.length : Int) := by show ((l.length - (t :: r).length : Nat) : Int) < (l.length : Int); omega
    have h2' : (rd l (t :: r)).1.getD (rd l (t :: r)).2.1.toNat dToken = t := h2
    rw [if_pos (dT c2), if_pos ⟨by show 0 ≤ ((l.length - (t :: r).length : Nat) : Int); omega, c2⟩, h2']
    rfl

theorem fail_bad {l e : List TToken} (c : Ctx l) (h : e <:+ l) : decl_reader_fail (bad l e) = some ((), (bad l e, ())) := by
  unfold decl_reader_fail
  have c0 : (bad l e).2.2 > 0 := line_pos c h
  rw [if_pos (dT c0)]

theorem need_ok {l q r : List TToken} {t : TToken} (c : Ctx l) (h : q <:+ l) {k : Int} {text : ByteArray} {x : List UInt8} (hx : L text = x) (hp : pNeed k x q = .ok (t, r)) : decl_reader_need k text (rd l q) = some ((t, ()), (rd l r, ())) := by
  unfold decl_reader_need
  cases q with
  | nil => cases hp
  | cons t' r' =>
    rw [need_cons] at hp
    split at hp
    · rename_i hy
      cases hp
      rw [take_yes c h hx hy]
      simp only [Option.bind_some]
      exact if_neg (by simp)
    · cases hp

theorem need_err {l q e : List TToken} (c : Ctx l) (h : q <:+ l) {k : Int} {text : ByteArray} {x : List UInt8} (hx : L text = x) (hp : pNeed k x q = .error e) : decl_reader_need k text (rd l q) = some ((zT, ()), (bad l e, ())) := by
  unfold decl_reader_need
  have key : hdT k x q = false ∧ e = q := by
    cases q with
    | nil => cases hp; exact ⟨rfl, rfl⟩
    | cons t r =>
      rw [need_cons] at hp
      split at hp
      · cases hp
      · rename_i hy
        cases hp
        exact ⟨by simpa [hdT] using hy, rfl⟩
  obtain ⟨hy, rfl⟩ := key
  rw [take_no c h hx hy]
  simp only [Option.bind_some]
  refine (if_pos (by simp)).trans ?_
  rw [fail_rd c h]
  rfl

theorem need_bad {l e : List TToken} (c : Ctx l) (h : e <:+ l) (k : Int) (text : ByteArray) : decl_reader_need k text (bad l e) = some ((zT, ()), (bad l e, ())) := by
  unfold decl_reader_need
  rw [take_bad c h]
  simp only [Option.bind_some]
  refine (if_pos (by simp)).trans ?_
  rw [fail_bad c h]
  rfl

theorem either_bad {l e : List TToken} (c : Ctx l) (h : e <:+ l) (a : ByteArray) (na : Int) (b : ByteArray) (nb : Int) : decl_reader_either a na b nb (bad l e) = some ((nb, ()), (bad l e, ())) := by
  unfold decl_reader_either
  rw [take_bad c h]
  simp only [Option.bind_some]
  refine (if_neg (by simp)).trans ?_
  rw [need_bad c h]
  rfl

def Out {α : Type} (l : List TToken) (o : Option ((α × Unit) × (Treader × Unit))) : PR α → Prop
  | .ok (a, q) => o = some ((a, ()), (rd l q, ()))
  | .error e => ∃ z, o = some ((z, ()), (bad l e, ()))

theorem either_rd {l q : List TToken} (c : Ctx l) (h : q <:+ l) (a : ByteArray) (na : Int) (b : ByteArray) (nb : Int) : Out l (decl_reader_either a na b nb (rd l q)) (pEither (L a) na (L b) nb q) := by
  unfold decl_reader_either pEither
  by_cases hy : hdT 1 (L a) q = true
  · obtain ⟨t, r, rfl, _⟩ := hdT_cons hy
    rw [take_yes c h rfl hy, if_pos hy]
    rfl
  · rw [take_no c h rfl (by simpa using hy), if_neg hy]
    simp only [Option.bind_some]
    cases hp : pNeed 1 (L b) q with
    | ok p => rw [need_ok c h rfl hp]; rfl
    | error e => rw [need_err c h rfl hp]; exact ⟨nb, rfl⟩

theorem act_step {l q : List TToken} (c : Ctx l) (h : q <:+ l) (n : Nat) (h1 : 1 ≤ n) (h6 : n ≤ 6) (z : TAct) :
    (hdT 1 (L (opW n)) q = true → Out l (decl_reader_act_l3 n (rd l q) z) (pArg n q.tail)) ∧ (hdT 1 (L (opW n)) q = false → decl_reader_act_l3 n (rd l q) z = decl_reader_act_l3 ((n + 1 : Nat) : Int) (rd l q) z) := by
  refine ⟨fun hy => ?_, fun hy => ?_⟩
  · obtain ⟨t, r, rfl, _⟩ := hdT_cons hy
    rw [decl_reader_act_l3_eq, if_pos (dT (by omega)), word_b _ (by omega)]
    simp only [Option.bind_some]
    rw [take_yes c h rfl hy]
    simp only [Option.bind_some, List.tail_cons, if_true]
    have hr : r <:+ l := (List.suffix_cons t r).trans h
    unfold pArg
    by_cases h2 : n ≤ 2
    · rw [if_pos h2, if_neg (dF (by omega))]
      rfl
    · rw [if_neg h2, if_pos (dT (by omega))]
      cases hp : pNeed 2 [] r with
      | ok p => rw [need_ok c hr rfl hp]; rfl
      | error e => rw [need_err c hr rfl hp]; exact ⟨_, rfl⟩
  · rw [decl_reader_act_l3_eq, if_pos (dT (by omega)), word_b _ (by omega)]
    simp only [Option.bind_some]
    rw [take_no c h rfl hy]
    simp only [Option.bind_some]
    rw [w64a n (by omega)]
    exact if_neg (by simp)

theorem act_end {l q : List TToken} (c : Ctx l) (h : q <:+ l) (z : TAct) : decl_reader_act_l3 ((7 : Nat) : Int) (rd l q) z = some (((0, 0), ()), (bad l q, ())) := by
  rw [decl_reader_act_l3_eq, if_neg (dF (by omega)), fail_rd c h]
  rfl

theorem act_rd {l q : List TToken} (c : Ctx l) (h : q <:+ l) : Out l (decl_reader_act (rd l q)) (pAct q) := by
  have s := fun n h1 h6 => act_step c h n h1 h6 ((0, 0) : TAct)
  have all_no : (∀ n : Nat, 1 ≤ n → n ≤ 6 → hdT 1 (L (opW n)) q = false) → decl_reader_act (rd l q) = some (((0, 0), ()), (bad l q, ())) := fun hn => by
    have e : decl_reader_act (rd l q) = decl_reader_act_l3 ((1 : Nat) : Int) (rd l q) (0, 0) := rfl
    rw [e, (s 1 (by omega) (by omega)).2 (hn 1 (by omega) (by omega)), (s 2 (by omega) (by omega)).2 (hn 2 (by omega) (by omega)), (s 3 (by omega) (by omega)).2 (hn 3 (by omega) (by omega)),
      (s 4 (by omega) (by omega)).2 (hn 4 (by omega) (by omega)), (s 5 (by omega) (by omega)).2 (hn 5 (by omega) (by omega)), (s 6 (by omega) (by omega)).2 (hn 6 (by omega) (by omega)), act_end c h]
  cases q with
  | nil => exact ⟨_, all_no fun n _ _ => rfl⟩
  | cons t r =>
    have e : decl_reader_act (rd l (t :: r)) = decl_reader_act_l3 ((1 : Nat) : Int) (rd l (t :: r)) (0, 0) := rfl
    by_cases ht : t.1 = 1
    · have hv : ∀ n : Nat, 1 ≤ n → n ≤ 6 → hdT 1 (L (opW n)) (t :: r) = (L t.2.1 == L (opW n)) := fun n h1 h6 => by
        have : (L (opW n)).isEmpty = false := by
          have : n = 1 ∨ n = 2 ∨ n = 3 ∨ n = 4 ∨ n = 5 ∨ n = 6 := by omega
          rcases this with rfl | rfl | rfl | rfl | rfl | rfl <;> rfl
        show (decide (t.1 = 1) && (_ || _)) = _
        rw [decide_eq_true ht, this]
        rfl
      have yes : ∀ n : Nat, 1 ≤ n → n ≤ 6 → L t.2.1 = L (opW n) → Out l (decl_reader_act_l3 n (rd l (t :: r)) (0, 0)) (pArg n r) := fun n h1 h6 he => (s n h1 h6).1 (by rw [hv n h1 h6, he]; simp)
      have no : ∀ n : Nat, 1 ≤ n → n ≤ 6 → ¬ L t.2.1 = L (opW n) → decl_reader_act_l3 n (rd l (t :: r)) (0, 0) = decl_reader_act_l3 ((n + 1 : Nat) : Int) (rd l (t :: r)) (0, 0) := fun n h1 h6 he => (s n h1 h6).2 (by rw [hv n h1 h6]; simpa using he)
      have pv : ∀ n : Nat, n ≠ 0 → opNo (L t.2.1) = n → pAct (t :: r) = pArg n r := fun n h0 hn => by
        show (if t.1 = 1 ∧ opNo (L t.2.1) ≠ 0 then pArg (opNo (L t.2.1)) r else .error (t :: r)) = _
        rw [hn, if_pos ⟨ht, h0⟩]
      rw [e]
      by_cases e1 : L t.2.1 = L (opW 1)
      · rw [pv 1 (by omega) (by unfold opNo; rw [if_pos e1])]
        exact yes 1 (by omega) (by omega) e1
      rw [no 1 (by omega) (by omega) e1]
      by_cases e2 : L t.2.1 = L (opW 2)
      · rw [pv 2 (by omega) (by unfold opNo; rw [if_neg e1, if_pos e2])]
        exact yes 2 (by omega) (by omega) e2
      rw [no 2 (by omega) (by omega) e2]
      by_cases e3 : L t.2.1 = L (opW 3)
      · rw [pv 3 (by omega) (by unfold opNo; rw [if_neg e1, if_neg e2, if_pos e3])]
        exact yes 3 (by omega) (by omega) e3
      rw [no 3 (by omega) (by omega) e3]
      by_cases e4 : L t.2.1 = L (opW 4)
      · rw [pv 4 (by omega) (by unfold opNo; rw [if_neg e1, if_neg e2, if_neg e3, if_pos e4])]
        exact yes 4 (by omega) (by omega) e4
      rw [no 4 (by omega) (by omega) e4]
      by_cases e5 : L t.2.1 = L (opW 5)
      · rw [pv 5 (by omega) (by unfold opNo; rw [if_neg e1, if_neg e2, if_neg e3, if_neg e4, if_pos e5])]
        exact yes 5 (by omega) (by omega) e5
      rw [no 5 (by omega) (by omega) e5]
      by_cases e6 : L t.2.1 = L (opW 6)
      · rw [pv 6 (by omega) (by unfold opNo; rw [if_neg e1, if_neg e2, if_neg e3, if_neg e4, if_neg e5, if_pos e6])]
        exact yes 6 (by omega) (by omega) e6
      rw [no 6 (by omega) (by omega) e6, act_end c h]
      have : pAct (t :: r) = .error (t :: r) := by
        show (if t.1 = 1 ∧ opNo (L t.2.1) ≠ 0 then pArg (opNo (L t.2.1)) r else .error (t :: r)) = _
        rw [if_neg]
        unfold opNo
        rw [if_neg e1, if_neg e2, if_neg e3, if_neg e4, if_neg e5, if_neg e6]
        simp
      rw [this]
      exact ⟨_, rfl⟩
    · have hn : ∀ n : Nat, 1 ≤ n → n ≤ 6 → hdT 1 (L (opW n)) (t :: r) = false := fun n _ _ => by
        show (decide (t.1 = 1) && _) = _
        rw [decide_eq_false ht]
        rfl
      have : pAct (t :: r) = .error (t :: r) := by
        show (if t.1 = 1 ∧ opNo (L t.2.1) ≠ 0 then pArg (opNo (L t.2.1)) r else .error (t :: r)) = _
        rw [if_neg (fun q => ht q.1)]
      rw [this]
      exact ⟨_, all_no hn⟩

theorem act_bad {l e : List TToken} (c : Ctx l) (h : e <:+ l) : decl_reader_act (bad l e) = some (((0, 0), ()), (bad l e, ())) := by
  have st : ∀ n : Nat, 1 ≤ n → n ≤ 6 → decl_reader_act_l3 n (bad l e) ((0, 0) : TAct) = decl_reader_act_l3 ((n + 1 : Nat) : Int) (bad l e) (0, 0) := fun n h1 h6 => by
    rw [decl_reader_act_l3_eq, if_pos (dT (by omega)), word_b _ (by omega)]
    simp only [Option.bind_some]
    rw [take_bad c h]
    simp only [Option.bind_some]
    rw [w64a n (by omega)]
    exact if_neg (by simp)
  have e0 : decl_reader_act (bad l e) = decl_reader_act_l3 ((1 : Nat) : Int) (bad l e) (0, 0) := rfl
  rw [e0, st 1 (by omega) (by omega), st 2 (by omega) (by omega), st 3 (by omega) (by omega), st 4 (by omega) (by omega), st 5 (by omega) (by omega), st 6 (by omega) (by omega), decl_reader_act_l3_eq, if_neg (dF (by omega)), fail_bad c h]
  rfl

/-! ### targets -/
def OutT (l : List TToken) (o : Option ((TRule × Unit) × (Treader × Unit × Unit))) : PR TRule → Prop
  | .ok (a, q) => o = some ((a, ()), (rd l q, (), ()))
  | .error e => ∃ z, o = some ((z, ()), (bad l e, (), ()))

theorem l8_bad {l e : List TToken} (c : Ctx l) (h : e <:+ l) (lo hi : Int) (nx : ByteArray) (ag : Bool) (acc acc' : List TAct) :
    decl_reader_target_l8 (bad l e) lo hi nx ag 0 0 (strB []) false acc acc' = some (((lo, hi, nx, ag, acc), ()), (bad l e, (), ())) := by
  rw [decl_reader_target_l8_eq, take_bad c h]
  simp only [Option.bind_some]
  refine (if_pos (by simp)).trans ?_
  rw [need_bad c h]
  rfl

theorem end_rd {l q : List TToken} (c : Ctx l) (h : q <:+ l) (lo hi : Int) (nx : ByteArray) (ag : Bool) (acc : List TAct) :
    OutT l ((decl_reader_need 4 (strB [59]) (rd l q)).bind fun y2 => some (((lo, hi, nx, ag, acc), ()), (y2.2.1, (), ()))) (andP (pNeed 4 [59] q) fun _ q => .ok ((lo, hi, nx, ag, acc), q)) := by
  cases hp : pNeed 4 [59] q with
  | ok p => rw [need_ok c h (L_strB _) hp]; rfl
  | error e => rw [need_err c h (L_strB _) hp]; exact ⟨_, rfl⟩

theorem l8_rd {l : List TToken} (c : Ctx l) (lo hi : Int) (nx : ByteArray) (ag : Bool) (acc' : List TAct) : ∀ (k : Nat) (acc : List TAct) (q : List TToken), q <:+ l → q.length ≤ k → acc ≠ [] → acc.length + k ≤ 2000000 →
    OutT l (decl_reader_target_l8 (rd l q) lo hi nx ag 0 0 (strB []) false acc acc') (andP (pActs k acc q) fun acts q => andP (pNeed 4 [59] q) fun _ q => .ok ((lo, hi, nx, ag, acts), q))
  | 0, acc, q, h, hk, ha, hb => by
    have : q = [] := List.length_eq_zero_iff.1 (by omega)
    subst this
    rw [decl_reader_target_l8_eq, take_no c h (L_strB _) rfl]
    simp only [Option.bind_some]
    rw [if_pos (by simp)]
    exact end_rd c h lo hi nx ag acc
  | k + 1, acc, q, h, hk, ha, hb => by
    have hs : sepB acc = [44] := by unfold sepB; rw [if_neg ha]
    unfold pActs
    rw [hs, decl_reader_target_l8_eq]
    by_cases hy : hdT 4 [44] q = true
    · obtain ⟨t, r, rfl, _⟩ := hdT_cons hy
      have hr : r <:+ l := (List.suffix_cons t r).trans h
      rw [take_yes c h (L_strB _) hy, if_pos hy]
      simp only [Option.bind_some, List.tail_cons]
      rw [if_neg (by simp)]
      have ho := act_rd c hr
      cases hp : pAct r with
      | ok p =>
        rw [hp] at ho
        rw [show decl_reader_act (rd l r) = some ((p.1, ()), (rd l p.2, ())) from ho]
        simp only [Option.bind_some]
        have hl := okLen (goes_act r) (a := p.1) (r := p.2) hp
        simp only [List.length_cons] at hk
        rw [if_pos ⟨by omega, by decide⟩]
        exact l8_rd c lo hi nx ag acc' k (acc ++ [p.1]) p.2 (sufk hr (goes_act r) (a := p.1) hp) (by omega) (by simp) (by rw [List.length_append]; simp only [List.length_cons, List.length_nil]; omega)
      | error e =>
        rw [hp] at ho
        obtain ⟨z, hz⟩ := ho
        rw [hz]
        simp only [Option.bind_some]
        rw [if_pos ⟨by omega, by decide⟩]
        exact ⟨_, l8_bad c (sufe hr (goes_act r) hp) lo hi nx ag (acc ++ [z]) acc'⟩
    · have hn : hdT 4 [44] q = false := by simpa using hy
      rw [take_no c h (L_strB _) hn, if_neg hy]
      simp only [Option.bind_some]
      rw [if_pos (by simp)]
      exact end_rd c h lo hi nx ag acc

theorem target_bad {l e : List TToken} (c : Ctx l) (h : e <:+ l) (lo hi : Int) (nx : ByteArray) (ag : Bool) : decl_reader_target lo hi nx ag (bad l e) [] = some (((lo, hi, strB [], false, []), ()), (bad l e, (), ())) := by
  unfold decl_reader_target
  rw [need_bad c h]
  simp only [Option.bind_some]
  rw [need_bad c h]
  simp only [Option.bind_some]
  rw [take_bad c h]
  simp only [Option.bind_some]
  rw [take_bad c h]
  simp only [Option.bind_some]
  rw [if_neg (by simp), need_bad c h]
  rfl

theorem target_rd {l q : List TToken} (c : Ctx l) (h : q <:+ l) (lo hi : Int) (nx : ByteArray) (ag : Bool) : OutT l (decl_reader_target lo hi nx ag (rd l q) []) (pTarget lo hi q) := by
  unfold decl_reader_target pTarget
  cases h1 : pNeed 4 [62] q with
  | error e =>
    have he := sufe h (goes_need 4 [62] q) h1
    rw [need_err c h (L_strB _) h1]
    simp only [Option.bind_some]
    rw [need_bad c he]
    simp only [Option.bind_some]
    rw [take_bad c he]
    simp only [Option.bind_some]
    rw [take_bad c he]
    simp only [Option.bind_some]
    rw [if_neg (by simp), need_bad c he]
    exact ⟨_, rfl⟩
  | ok p =>
    obtain ⟨t1, q1⟩ := p
    have g1 := sufk h (goes_need 4 [62] q) h1
    rw [need_ok c h (L_strB _) h1]
    simp only [Option.bind_some, andP_ok']
    cases h2 : pNeed 1 [] q1 with
    | error e =>
      have he := sufe g1 (goes_need 1 [] q1) h2
      rw [need_err c g1 (L_strB _) h2]
      simp only [Option.bind_some]
      rw [take_bad c he]
      simp only [Option.bind_some]
      rw [take_bad c he]
      simp only [Option.bind_some]
      rw [if_neg (by simp), need_bad c he]
      exact ⟨_, rfl⟩
    | ok p =>
      obtain ⟨t2, q2⟩ := p
      have g2 := sufk g1 (goes_need 1 [] q1) h2
      rw [need_ok c g1 (L_strB _) h2]
      simp only [Option.bind_some, andP_ok']
      have rest : ∀ (b : Bool) (q3 : List TToken), q3 <:+ l → OutT l ((decl_reader_take 4 (strB [58]) (rd l q3)).bind fun y4 =>
          if y4.1.2.1 = true then
            (decl_reader_act y4.2.1).bind fun y5 =>
              if (([] : List TAct).length + 1) * 16 ≤ 140737488355328 ∧ 0 < 16 then
                decl_reader_target_l8 y5.2.1 lo hi t2.2.1 b 0 0 (strB []) false (([] : List TAct) ++ [y5.1.1]) []
              else
                none
          else
            (decl_reader_need 4 (strB [59]) y4.2.1).bind fun y6 =>
              some (((lo, hi, t2.2.1, b, []), ()), (y6.2.1, (), ())))
          (andP (pActs q3.length [] q3) fun acts q => andP (pNeed 4 [59] q) fun _ q => .ok ((lo, hi, t2.2.1, b, acts), q)) := fun b q3 g3 => by
        have hlen := g3.length_le
        have hcl := c.len
        by_cases hy : hdT 4 [58] q3 = true
        · obtain ⟨t, r, rfl, _⟩ := hdT_cons hy
          have hr : r <:+ l := (List.suffix_cons t r).trans g3
          rw [take_yes c g3 (L_strB _) hy]
          simp only [Option.bind_some, if_true]
          have e : pActs (t :: r).length [] (t :: r) = andP (pAct r) fun a q => pActs r.length [a] q := by
            rw [List.length_cons, acts_succ, if_pos (show hdT 4 (sepB []) (t :: r) = true from hy)]
            rfl
          rw [e]
          have ho := act_rd c hr
          cases hp : pAct r with
          | ok p =>
            rw [hp] at ho
            rw [show decl_reader_act (rd l r) = some ((p.1, ()), (rd l p.2, ())) from ho]
            simp only [Option.bind_some]
            have hl := okLen (goes_act r) (a := p.1) (r := p.2) hp
            simp only [List.length_cons] at hlen
            rw [if_pos ⟨by decide, by decide⟩]
            exact l8_rd c lo hi t2.2.1 b [] r.length [p.1] p.2 (sufk hr (goes_act r) (a := p.1) hp) (by omega) (by simp) (by simp only [List.length_cons, List.length_nil]; omega)
          | error e =>
            rw [hp] at ho
            obtain ⟨z, hz⟩ := ho
            rw [hz]
            simp only [Option.bind_some]
            rw [if_pos ⟨by decide, by decide⟩]
            exact ⟨_, l8_bad c (sufe hr (goes_act r) hp) lo hi t2.2.1 b ([] ++ [z]) []⟩
        · have hn : hdT 4 [58] q3 = false := by simpa using hy
          rw [take_no c g3 (L_strB _) hn]
          simp only [Option.bind_some]
          rw [if_neg (by simp)]
          have e : pActs q3.length [] q3 = .ok ([], q3) := by
            cases q3 with
            | nil => rfl
            | cons t r =>
              rw [List.length_cons, acts_succ, if_neg (show ¬ hdT 4 (sepB []) (t :: r) = true from hy)]
          rw [e]
          exact end_rd c g3 lo hi t2.2.1 b []
      unfold pOpt
      by_cases hy : hdT 1 (L sAgain) q2 = true
      · obtain ⟨t, r, rfl, _⟩ := hdT_cons hy
        rw [take_yes c g2 (text := strB [97, 103, 97, 105, 110]) rfl hy, if_pos hy]
        simp only [Option.bind_some, andP_ok', List.tail_cons]
        exact rest true r ((List.suffix_cons t r).trans g2)
      · rw [take_no c g2 (text := strB [97, 103, 97, 105, 110]) (x := L sAgain) rfl (by simpa using hy), if_neg hy]
        simp only [Option.bind_some, andP_ok']
        exact rest false q2 g2

/-! ### states -/
theorem l4_bad {l e : List TToken} (c : Ctx l) (h : e <:+ l) (a0 : ByteArray) (a2 : Bool) (a3 a4 : Int) (a5 : ByteArray) (a6 : Bool) (a7 : List TAct) (b0 : ByteArray) (b2 : Bool) (b3 b4 : Int) (b5 : ByteArray) (b6 : Bool) (b7 : List TAct) (x acc : List TRule) :
    decl_reader_state_l4 (bad l e) a0 a2 a3 a4 a5 a6 a7 b0 b2 b3 b4 b5 b6 b7 x acc = some (((b0, acc, b2, b3, b4, b5, b6, b7), ()), (bad l e, ())) := by
  rw [decl_reader_state_l4_eq, is_bad c h]
  simp only [Option.bind_some]
  rw [if_neg (by simp), take_bad c h]
  simp only [Option.bind_some]
  rw [if_neg (by simp), need_bad c h]
  rfl

theorem l9_bad {l e : List TToken} (c : Ctx l) (h : e <:+ l) (lo hi : Int) (a0 : ByteArray) (a2 : Bool) (a3 a4 : Int) (a5 : ByteArray) (a6 : Bool) (a7 : List TAct) (b0 : ByteArray) (x acc : List TRule) (hb : acc.length ≤ 2000000) :
    ∃ z, decl_reader_state_l9 (bad l e) a0 a2 a3 a4 a5 a6 a7 b0 false 0 0 (strB []) false [] lo hi (strB []) false x acc [] = some ((z, ()), (bad l e, ())) := by
  rw [decl_reader_state_l9_eq, target_bad c h]
  simp only [Option.bind_some]
  rw [if_pos ⟨by omega, by decide⟩, l4_bad c h]
  exact ⟨_, rfl⟩

theorem l9_rd {l q : List TToken} (c : Ctx l) (h : q <:+ l) (lo hi : Int) (a0 : ByteArray) (a2 : Bool) (a3 a4 : Int) (a5 : ByteArray) (a6 : Bool) (a7 : List TAct) (b0 : ByteArray) (x acc : List TRule) (hb : acc.length ≤ 2000000) :
    (∀ r q', pTarget lo hi q = .ok (r, q') → decl_reader_state_l9 (rd l q) a0 a2 a3 a4 a5 a6 a7 b0 false 0 0 (strB []) false [] lo hi (strB []) false x acc [] = decl_reader_state_l4 (rd l q') a0 a2 a3 a4 a5 a6 a7 b0 false 0 0 (strB []) false [] x (acc ++ [r])) ∧
    (∀ e, pTarget lo hi q = .error e → ∃ z, decl_reader_state_l9 (rd l q) a0 a2 a3 a4 a5 a6 a7 b0 false 0 0 (strB []) false [] lo hi (strB []) false x acc [] = some ((z, ()), (bad l e, ()))) := by
  have ho := target_rd c h lo hi (strB []) false
  refine ⟨fun r q' hp => ?_, fun e hp => ?_⟩
  · rw [hp] at ho
    rw [decl_reader_state_l9_eq, show decl_reader_target lo hi (strB []) false (rd l q) [] = some ((r, ()), (rd l q', (), ())) from ho]
    simp only [Option.bind_some]
    rw [if_pos ⟨by omega, by decide⟩]
  · rw [hp] at ho
    obtain ⟨z, hz⟩ := ho
    have he := sufe h (goes_target lo hi q) hp
    rw [decl_reader_state_l9_eq, hz]
    simp only [Option.bind_some]
    rw [if_pos ⟨by omega, by decide⟩, l4_bad c he]
    exact ⟨_, rfl⟩

/-- What follows the rules of a state. -/
def pTail (n : ByteArray) (rs : List RuleT) (q : List TokT) : PR StateT := andP (pElse q) fun e q => andP (pNeed 4 [125] q) fun _ q => .ok ((n, rs, e.1, e.2), q)

theorem tail_rd {l q : List TToken} (c : Ctx l) (h : q <:+ l) (hn : hdT 2 [] q = false) (a0 : ByteArray) (a2 : Bool) (a3 a4 : Int) (a5 : ByteArray) (a6 : Bool) (a7 : List TAct) (b0 : ByteArray) (x acc : List TRule) :
    Out l (decl_reader_state_l4 (rd l q) a0 a2 a3 a4 a5 a6 a7 b0 false 0 0 (strB []) false [] x acc) (pTail b0 acc q) := by
  rw [decl_reader_state_l4_eq, is_rd c h 2 (strB []) (L_strB _), hn]
  simp only [Option.bind_some]
  rw [if_neg (by simp)]
  unfold pTail pElse
  by_cases hy : hdT 4 [42] q = true
  · obtain ⟨t, r, rfl, _⟩ := hdT_cons hy
    have hr : r <:+ l := (List.suffix_cons t r).trans h
    rw [take_yes c h (L_strB _) hy, if_pos hy]
    simp only [Option.bind_some, List.tail_cons, if_true]
    have ho := target_rd c hr 0 0 (strB []) false
    cases hp : pTarget 0 0 r with
    | ok p =>
      obtain ⟨r1, q1⟩ := p
      rw [hp] at ho
      have g1 := sufk hr (goes_target 0 0 r) hp
      rw [show decl_reader_target 0 0 (strB []) false (rd l r) [] = some ((r1, ()), (rd l q1, (), ())) from ho]
      simp only [Option.bind_some, andP_ok']
      cases h2 : pNeed 4 [125] q1 with
      | ok p => rw [need_ok c g1 (L_strB _) h2]; rfl
      | error e => rw [need_err c g1 (L_strB _) h2]; exact ⟨_, rfl⟩
    | error e =>
      rw [hp] at ho
      obtain ⟨z, hz⟩ := ho
      rw [hz]
      simp only [Option.bind_some]
      rw [need_bad c (sufe hr (goes_target 0 0 r) hp)]
      exact ⟨_, rfl⟩
  · rw [take_no c h (L_strB _) (by simpa using hy), if_neg hy]
    simp only [Option.bind_some, andP_ok']
    rw [if_neg (by simp)]
    cases h2 : pNeed 4 [125] q with
    | ok p => rw [need_ok c h (L_strB _) h2]; rfl
    | error e => rw [need_err c h (L_strB _) h2]; exact ⟨_, rfl⟩

theorem rule_rd {l q : List TToken} (c : Ctx l) (h : q <:+ l) (hy : hdT 2 [] q = true) (a0 : ByteArray) (a2 : Bool) (a3 a4 : Int) (a5 : ByteArray) (a6 : Bool) (a7 : List TAct) (b0 : ByteArray) (x acc : List TRule) (hb : acc.length ≤ 2000000) :
    (∀ r q', pRule q = .ok (r, q') → decl_reader_state_l4 (rd l q) a0 a2 a3 a4 a5 a6 a7 b0 false 0 0 (strB []) false [] x acc = decl_reader_state_l4 (rd l q') a0 a2 a3 a4 a5 a6 a7 b0 false 0 0 (strB []) false [] x (acc ++ [r])) ∧
    (∀ e, pRule q = .error e → ∃ z, decl_reader_state_l4 (rd l q) a0 a2 a3 a4 a5 a6 a7 b0 false 0 0 (strB []) false [] x acc = some ((z, ()), (bad l e, ()))) := by
  obtain ⟨t, r, rfl, _⟩ := hdT_cons hy
  have hr : r <:+ l := (List.suffix_cons t r).trans h
  have h1 : pNeed 2 [] (t :: r) = .ok (t, r) := need_of hy
  rw [decl_reader_state_l4_eq, is_rd c h 2 (strB []) (L_strB _), hy]
  simp only [Option.bind_some, if_true]
  rw [need_ok c h (L_strB _) h1]
  simp only [Option.bind_some]
  unfold pRule
  rw [h1, andP_ok']
  unfold pHi
  by_cases h46 : hdT 4 [46] r = true
  · obtain ⟨t2, r2, rfl, _⟩ := hdT_cons h46
    have hr2 : r2 <:+ l := (List.suffix_cons t2 r2).trans hr
    rw [take_yes c hr (L_strB _) h46, if_pos h46]
    simp only [Option.bind_some, List.tail_cons, if_true]
    cases h3 : pNeed 4 [46] r2 with
    | error e =>
      have he := sufe hr2 (goes_need 4 [46] r2) h3
      rw [need_err c hr2 (L_strB _) h3]
      simp only [Option.bind_some]
      rw [need_bad c he]
      simp only [Option.bind_some]
      obtain ⟨z, hz⟩ := l9_bad c he t.2.2.1 zT.2.2.1 a0 a2 a3 a4 a5 a6 a7 b0 x acc hb
      refine ⟨fun r q' hp => (by cases hp), fun e' hp => ?_⟩
      cases hp
      exact ⟨z, hz⟩
    | ok p =>
      obtain ⟨t3, q3⟩ := p
      have g3 := sufk hr2 (goes_need 4 [46] r2) h3
      rw [need_ok c hr2 (L_strB _) h3]
      simp only [Option.bind_some, andP_ok']
      cases h4 : pNeed 2 [] q3 with
      | error e =>
        have he := sufe g3 (goes_need 2 [] q3) h4
        rw [need_err c g3 (L_strB _) h4]
        simp only [Option.bind_some]
        obtain ⟨z, hz⟩ := l9_bad c he t.2.2.1 zT.2.2.1 a0 a2 a3 a4 a5 a6 a7 b0 x acc hb
        refine ⟨fun r q' hp => (by cases hp), fun e' hp => ?_⟩
        cases hp
        exact ⟨z, hz⟩
      | ok p =>
        obtain ⟨t4, q4⟩ := p
        have g4 := sufk g3 (goes_need 2 [] q3) h4
        rw [need_ok c g3 (L_strB _) h4]
        simp only [Option.bind_some, andP_ok']
        exact l9_rd c g4 t.2.2.1 t4.2.2.1 a0 a2 a3 a4 a5 a6 a7 b0 x acc hb
  · rw [take_no c hr (L_strB _) (by simpa using h46), if_neg h46]
    simp only [Option.bind_some, andP_ok']
    rw [if_neg (by simp)]
    exact l9_rd c hr t.2.2.1 t.2.2.1 a0 a2 a3 a4 a5 a6 a7 b0 x acc hb

theorem l4_rd {l : List TToken} (c : Ctx l) (a0 : ByteArray) (a2 : Bool) (a3 a4 : Int) (a5 : ByteArray) (a6 : Bool) (a7 : List TAct) (b0 : ByteArray) (x : List TRule) : ∀ (k : Nat) (acc : List TRule) (q : List TToken), q <:+ l → q.length ≤ k → acc.length + k ≤ 2000000 →
    Out l (decl_reader_state_l4 (rd l q) a0 a2 a3 a4 a5 a6 a7 b0 false 0 0 (strB []) false [] x acc) (andP (pRules k acc q) (pTail b0))
  | 0, acc, q, h, hk, hb => by
    have : q = [] := List.length_eq_zero_iff.1 (by omega)
    subst this
    exact tail_rd c h rfl a0 a2 a3 a4 a5 a6 a7 b0 x acc
  | k + 1, acc, q, h, hk, hb => by
    unfold pRules
    by_cases hy : hdT 2 [] q = true
    · rw [if_pos hy]
      have hr := rule_rd c h hy a0 a2 a3 a4 a5 a6 a7 b0 x acc (by omega)
      cases hp : pRule q with
      | error e => exact hr.2 e hp
      | ok p =>
        obtain ⟨r, q'⟩ := p
        rw [hr.1 r q' hp]
        have hl := okLen (goes_rule q) hp
        exact l4_rd c a0 a2 a3 a4 a5 a6 a7 b0 x k (acc ++ [r]) q' (sufk h (goes_rule q) hp) (by omega) (by rw [List.length_append]; simp only [List.length_cons, List.length_nil]; omega)
    · rw [if_neg hy]
      exact tail_rd c h (by simpa using hy) a0 a2 a3 a4 a5 a6 a7 b0 x acc

theorem state_bad {l e : List TToken} (c : Ctx l) (h : e <:+ l) : ∃ z, decl_reader_state (bad l e) = some ((z, ()), (bad l e, ())) := by
  unfold decl_reader_state
  rw [need_bad c h]
  simp only [Option.bind_some]
  rw [need_bad c h]
  simp only [Option.bind_some]
  rw [l4_bad c h]
  exact ⟨_, rfl⟩

theorem state_rd {l q : List TToken} (c : Ctx l) (h : q <:+ l) : Out l (decl_reader_state (rd l q)) (pState q) := by
  unfold decl_reader_state pState
  cases h1 : pNeed 1 [] q with
  | error e =>
    have he := sufe h (goes_need 1 [] q) h1
    rw [need_err c h (L_strB _) h1]
    simp only [Option.bind_some]
    rw [need_bad c he]
    simp only [Option.bind_some]
    rw [l4_bad c he]
    exact ⟨_, rfl⟩
  | ok p =>
    obtain ⟨t1, q1⟩ := p
    have g1 := sufk h (goes_need 1 [] q) h1
    rw [need_ok c h (L_strB _) h1]
    simp only [Option.bind_some, andP_ok']
    cases h2 : pNeed 4 [123] q1 with
    | error e =>
      have he := sufe g1 (goes_need 4 [123] q1) h2
      rw [need_err c g1 (L_strB _) h2]
      simp only [Option.bind_some]
      rw [l4_bad c he]
      exact ⟨_, rfl⟩
    | ok p =>
      obtain ⟨t2, q2⟩ := p
      have g2 := sufk g1 (goes_need 4 [123] q1) h2
      rw [need_ok c g1 (L_strB _) h2]
      simp only [Option.bind_some, andP_ok']
      have := g2.length_le
      have := c.len
      exact l4_rd c _ _ _ _ _ _ _ t1.2.1 [] q2.length [] q2 g2 (Nat.le_refl _) (by simp only [List.length_nil]; omega)

/-! ### declarations -/
def OutD (l : List TToken) (o : Option ((TDecl × Int × Int × Unit) × Unit)) : Except (List TokT) DeclT → Prop
  | .ok d => o = some ((if checkV d = 0 then (d, 0, 0, ()) else ((strB [], 0, 0, []), 0, checkV d, ())), ())
  | .error e => o = some (((strB [], 0, 0, []), lineV l e, 4, ()), ())

theorem l19_bad {l e : List TToken} (c : Ctx l) (h : e <:+ l) (a0 : ByteArray) (a1 a2 : Int) (n : ByteArray) (i o : Int) (x acc : List TDeclState) :
    decl_Parse_l19 a0 a1 a2 (bad l e) n i o x acc = some (((strB [], 0, 0, []), lineV l e, 4, ()), ()) := by
  rw [decl_Parse_l19_eq]
  have c0 : (bad l e).2.2 > 0 := line_pos c h
  rw [if_pos (dT c0)]
  rfl

theorem l14_bad {l e : List TToken} (c : Ctx l) (h : e <:+ l) (a0 : ByteArray) (a1 a2 : Int) (n : ByteArray) (i o : Int) (x acc : List TDeclState) :
    decl_Parse_l14 a0 a1 a2 (bad l e) n i o x acc = some (((strB [], 0, 0, []), lineV l e, 4, ()), ()) := by
  rw [decl_Parse_l14_eq, take_bad c h]
  simp only [Option.bind_some]
  refine (if_pos (by simp)).trans ?_
  rw [need_bad c h]
  simp only [Option.bind_some]
  rw [fail_bad c h]
  simp only [Option.bind_some]
  split <;> exact l19_bad c h a0 a1 a2 n i o x acc

def endV (n : ByteArray) (i o : Int) (ss : List StateT) (q : List TokT) : Except (List TokT) DeclT := match pNeed 4 [125] q with
  | .error e => .error e
  | .ok (_, []) => .ok (n, i, o, ss)
  | .ok (_, t :: r) => .error (t :: r)

theorem end_d {l q : List TToken} (c : Ctx l) (h : q <:+ l) (hn : hdT 1 (L sState) q = false) (a0 : ByteArray) (a1 a2 : Int) (n : ByteArray) (i o : Int) (x acc : List TDeclState) (hd : okDecl (n, i, o, acc)) :
    OutD l (decl_Parse_l14 a0 a1 a2 (rd l q) n i o x acc) (endV n i o acc q) := by
  rw [decl_Parse_l14_eq, take_no c h (text := strB [115, 116, 97, 116, 101]) rfl hn]
  simp only [Option.bind_some]
  rw [if_pos (by simp)]
  unfold endV
  cases h1 : pNeed 4 [125] q with
  | error e =>
    have he := sufe h (goes_need 4 [125] q) h1
    rw [need_err c h (L_strB _) h1]
    simp only [Option.bind_some]
    rw [fail_bad c he]
    simp only [Option.bind_some]
    show _ = _
    split <;> exact l19_bad c he a0 a1 a2 n i o x acc
  | ok p =>
    obtain ⟨t, q1⟩ := p
    have g1 := sufk h (goes_need 4 [125] q) h1
    rw [need_ok c h (L_strB _) h1]
    simp only [Option.bind_some]
    cases q1 with
    | nil =>
      have c1 : ¬ (rd l []).2.1 < ((rd l []).1.length : Int) := by show ¬ ((l.length - 0 : Nat) : Int) < (l.length : Int); simp
      rw [if_neg (dF c1), decl_Parse_l19_eq]
      have c0 : ¬ (rd l []).2.2 > 0 := by show ¬ (0 : Int) > 0; omega
      rw [if_neg (dF c0), dcheck_eq _ hd]
      simp only [Option.bind_some]
      show _ = _
      by_cases hc : checkV (n, i, o, acc) = 0
      · rw [if_neg (nF hc), if_pos hc]
      · rw [if_pos (nT hc), if_neg hc]
    | cons t2 r2 =>
      obtain ⟨b1, _, _⟩ := at_cons g1
      have c1 : (rd l (t2 :: r2)).2.1 < ((rd l (t2 :: r2)).1.length : Int) := by show ((l.length - (t2 :: r2).length : Nat) : Int) < (l.length : Int); omega
      rw [if_pos (dT c1), fail_rd c g1]
      simp only [Option.bind_some]
      exact l19_bad c g1 a0 a1 a2 n i o x acc

def restV (n : ByteArray) (i o : Int) (x : PR (List StateT)) : Except (List TokT) DeclT := match x with
  | .error e => .error e
  | .ok (ss, q) => endV n i o ss q

theorem l14_rd {l : List TToken} (c : Ctx l) (a0 : ByteArray) (a1 a2 : Int) (n : ByteArray) (i o : Int) (x : List TDeclState) : ∀ (k : Nat) (acc : List TDeclState) (q : List TToken), q <:+ l → q.length ≤ k → acc.length + k ≤ 1048576 → (∀ s ∈ acc, SmallS 1048576 s) →
    OutD l (decl_Parse_l14 a0 a1 a2 (rd l q) n i o x acc) (restV n i o (pStates k acc q))
  | 0, acc, q, h, hk, hb, ha => by
    have : q = [] := List.length_eq_zero_iff.1 (by omega)
    subst this
    exact end_d c h rfl a0 a1 a2 n i o x acc ⟨by show acc.length ≤ _; omega, fun s hs => ⟨(ha s hs).1, (ha s hs).2.1, (ha s hs).2.2⟩⟩
  | k + 1, acc, q, h, hk, hb, ha => by
    unfold pStates
    by_cases hy : hdT 1 (L sState) q = true
    · obtain ⟨t, r, rfl, _⟩ := hdT_cons hy
      have hr : r <:+ l := (List.suffix_cons t r).trans h
      rw [if_pos hy, decl_Parse_l14_eq, take_yes c h (text := strB [115, 116, 97, 116, 101]) rfl hy]
      simp only [Option.bind_some, List.tail_cons]
      rw [if_neg (by simp)]
      have ho := state_rd c hr
      cases hp : pState r with
      | error e =>
        rw [hp] at ho
        obtain ⟨z, hz⟩ := ho
        rw [hz]
        simp only [Option.bind_some]
        rw [if_pos ⟨by omega, by decide⟩]
        exact l14_bad c (sufe hr (goes_state r) hp) a0 a1 a2 n i o x (acc ++ [z])
      | ok p =>
        obtain ⟨s, q'⟩ := p
        rw [hp] at ho
        rw [show decl_reader_state (rd l r) = some ((s, ()), (rd l q', ())) from ho]
        simp only [Option.bind_some]
        rw [if_pos ⟨by omega, by decide⟩]
        have hl := okLen (goes_state r) hp
        have hs : SmallS r.length s := state_len hp
        have hrl := hr.length_le
        have hcl := c.len
        simp only [List.length_cons] at hk
        exact l14_rd c a0 a1 a2 n i o x k (acc ++ [s]) q' (sufk hr (goes_state r) hp) (by omega) (by rw [List.length_append]; simp only [List.length_cons, List.length_nil]; omega) (fun y hm => by
          rcases List.mem_append.1 hm with hm | hm
          · exact ha y hm
          · simp only [List.mem_singleton] at hm
            subst hm
            exact ⟨by have := hs.1; omega, fun r hr => by have := hs.2.1 r hr; omega, by have := hs.2.2; omega⟩)
    · rw [if_neg hy]
      exact end_d c h (by simpa using hy) a0 a1 a2 n i o x acc ⟨by show acc.length ≤ _; omega, fun s hs => ⟨(ha s hs).1, (ha s hs).2.1, (ha s hs).2.2⟩⟩

theorem allV_eq (q : List TokT) : allV q = match pNeed 1 (L sDecoder) q with
    | .error e => .error e
    | .ok (_, q) => match pNeed 1 [] q with
      | .error e => .error e
      | .ok (n, q) => match pNeed 1 (L sInput) q with
        | .error e => .error e
        | .ok (_, q) => match pEither (L sBit) 2 (L sByte) 3 q with
          | .error e => .error e
          | .ok (i, q) => match pNeed 1 (L sOutput) q with
            | .error e => .error e
            | .ok (_, q) => match pEither (L sFrame) 5 (L sPacket) 6 q with
              | .error e => .error e
              | .ok (o, q) => match pNeed 4 [123] q with
                | .error e => .error e
                | .ok (_, q) => restV n.2.1 i o (pStates q.length [] q) := by
  unfold allV pDecl
  cases pNeed 1 (L sDecoder) q with
  | error e => rfl
  | ok p =>
    obtain ⟨t1, q1⟩ := p
    simp only [andP_ok']
    cases pNeed 1 [] q1 with
    | error e => rfl
    | ok p =>
      obtain ⟨t2, q2⟩ := p
      simp only [andP_ok']
      cases pNeed 1 (L sInput) q2 with
      | error e => rfl
      | ok p =>
        obtain ⟨t3, q3⟩ := p
        simp only [andP_ok']
        cases pEither (L sBit) 2 (L sByte) 3 q3 with
        | error e => rfl
        | ok p =>
          obtain ⟨i, q4⟩ := p
          simp only [andP_ok']
          cases pNeed 1 (L sOutput) q4 with
          | error e => rfl
          | ok p =>
            obtain ⟨t5, q5⟩ := p
            simp only [andP_ok']
            cases pEither (L sFrame) 5 (L sPacket) 6 q5 with
            | error e => rfl
            | ok p =>
              obtain ⟨o, q6⟩ := p
              simp only [andP_ok']
              cases pNeed 4 [123] q6 with
              | error e => rfl
              | ok p =>
                obtain ⟨t7, q7⟩ := p
                simp only [andP_ok']
                cases pStates q7.length [] q7 with
                | error e => rfl
                | ok p =>
                  obtain ⟨ss, q8⟩ := p
                  simp only [andP_ok', restV, endV]
                  cases pNeed 4 [125] q8 with
                  | error e => rfl
                  | ok p =>
                    obtain ⟨t9, q9⟩ := p
                    cases q9 <;> rfl

theorem parse_l {l : List TToken} (c : Ctx l) : OutD l ((decl_reader_need 1 (strB [100, 101, 99, 111, 100, 101, 114]) (l, 0, 0)).bind fun y2 =>
        (decl_reader_need 1 (strB []) y2.2.1).bind fun y3 =>
          (decl_reader_need 1 (strB [105, 110, 112, 117, 116]) y3.2.1).bind fun y4 =>
            (decl_reader_either (strB [98, 105, 116]) 2 (strB [98, 121, 116, 101]) 3 y4.2.1).bind fun y5 =>
              (decl_reader_need 1 (strB [111, 117, 116, 112, 117, 116]) y5.2.1).bind fun y6 =>
                (decl_reader_either (strB [102, 114, 97, 109, 101]) 5 (strB [112, 97, 99, 107, 101, 116]) 6 y6.2.1).bind fun y7 =>
                  (decl_reader_need 4 (strB [123]) y7.2.1).bind fun y8 =>
                    decl_Parse_l14 (strB []) 0 0 y8.2.1 y3.1.1.2.1 y5.1.1 y7.1.1 [] []) (allV l) := by
  have e0 : ((l, 0, 0) : Treader) = rd l l := by unfold rd; simp
  have h0 : l <:+ l := List.suffix_refl l
  have B : ∀ {e : List TToken}, e <:+ l → ∀ (k : Int) (x : ByteArray), decl_reader_need k x (bad l e) = some ((zT, ()), (bad l e, ())) := fun he k x => need_bad c he k x
  have E : ∀ {e : List TToken}, e <:+ l → ∀ (a : ByteArray) (na : Int) (b : ByteArray) (nb : Int), decl_reader_either a na b nb (bad l e) = some ((nb, ()), (bad l e, ())) := fun he a na b nb => either_bad c he a na b nb
  rw [e0, allV_eq]
  cases h1 : pNeed 1 (L sDecoder) l with
  | error e =>
    have he := sufe h0 (goes_need 1 (L sDecoder) l) h1
    rw [need_err c h0 (text := strB [100, 101, 99, 111, 100, 101, 114]) rfl h1]
    simp only [Option.bind_some, B he, E he]
    exact l14_bad c he _ _ _ _ _ _ _ _
  | ok p =>
    obtain ⟨t1, q1⟩ := p
    have g1 := sufk h0 (goes_need 1 (L sDecoder) l) h1
    rw [need_ok c h0 (text := strB [100, 101, 99, 111, 100, 101, 114]) rfl h1]
    simp only [Option.bind_some]
    cases h2 : pNeed 1 [] q1 with
    | error e =>
      have he := sufe g1 (goes_need 1 [] q1) h2
      rw [need_err c g1 (L_strB _) h2]
      simp only [Option.bind_some, B he, E he]
      exact l14_bad c he _ _ _ _ _ _ _ _
    | ok p =>
      obtain ⟨t2, q2⟩ := p
      have g2 := sufk g1 (goes_need 1 [] q1) h2
      rw [need_ok c g1 (L_strB _) h2]
      simp only [Option.bind_some]
      cases h3 : pNeed 1 (L sInput) q2 with
      | error e =>
        have he := sufe g2 (goes_need 1 (L sInput) q2) h3
        rw [need_err c g2 (text := strB [105, 110, 112, 117, 116]) rfl h3]
        simp only [Option.bind_some, B he, E he]
        exact l14_bad c he _ _ _ _ _ _ _ _
      | ok p =>
        obtain ⟨t3, q3⟩ := p
        have g3 := sufk g2 (goes_need 1 (L sInput) q2) h3
        rw [need_ok c g2 (text := strB [105, 110, 112, 117, 116]) rfl h3]
        simp only [Option.bind_some]
        have o4 := either_rd c g3 (strB [98, 105, 116]) 2 (strB [98, 121, 116, 101]) 3
        cases h4 : pEither (L sBit) 2 (L sByte) 3 q3 with
        | error e =>
          have he := sufe g3 (goes_either (L sBit) 2 (L sByte) 3 q3) h4
          rw [show pEither (L (strB [98, 105, 116])) 2 (L (strB [98, 121, 116, 101])) 3 q3 = .error e from h4] at o4
          obtain ⟨z, hz⟩ := o4
          rw [hz]
          simp only [Option.bind_some, B he, E he]
          exact l14_bad c he _ _ _ _ _ _ _ _
        | ok p =>
          obtain ⟨i, q4⟩ := p
          have g4 := sufk g3 (goes_either (L sBit) 2 (L sByte) 3 q3) h4
          rw [show pEither (L (strB [98, 105, 116])) 2 (L (strB [98, 121, 116, 101])) 3 q3 = .ok (i, q4) from h4] at o4
          rw [show _ = some ((i, ()), (rd l q4, ())) from o4]
          simp only [Option.bind_some]
          cases h5 : pNeed 1 (L sOutput) q4 with
          | error e =>
            have he := sufe g4 (goes_need 1 (L sOutput) q4) h5
            rw [need_err c g4 (text := strB [111, 117, 116, 112, 117, 116]) rfl h5]
            simp only [Option.bind_some, B he, E he]
            exact l14_bad c he _ _ _ _ _ _ _ _
          | ok p =>
            obtain ⟨t5, q5⟩ := p
            have g5 := sufk g4 (goes_need 1 (L sOutput) q4) h5
            rw [need_ok c g4 (text := strB [111, 117, 116, 112, 117, 116]) rfl h5]
            simp only [Option.bind_some]
            have o6 := either_rd c g5 (strB [102, 114, 97, 109, 101]) 5 (strB [112, 97, 99, 107, 101, 116]) 6
            cases h6 : pEither (L sFrame) 5 (L sPacket) 6 q5 with
            | error e =>
              have he := sufe g5 (goes_either (L sFrame) 5 (L sPacket) 6 q5) h6
              rw [show pEither (L (strB [102, 114, 97, 109, 101])) 5 (L (strB [112, 97, 99, 107, 101, 116])) 6 q5 = .error e from h6] at o6
              obtain ⟨z, hz⟩ := o6
              rw [hz]
              simp only [Option.bind_some, B he, E he]
              exact l14_bad c he _ _ _ _ _ _ _ _
            | ok p =>
              obtain ⟨o, q6⟩ := p
              have g6 := sufk g5 (goes_either (L sFrame) 5 (L sPacket) 6 q5) h6
              rw [show pEither (L (strB [102, 114, 97, 109, 101])) 5 (L (strB [112, 97, 99, 107, 101, 116])) 6 q5 = .ok (o, q6) from h6] at o6
              rw [show _ = some ((o, ()), (rd l q6, ())) from o6]
              simp only [Option.bind_some]
              cases h7 : pNeed 4 [123] q6 with
              | error e =>
                have he := sufe g6 (goes_need 4 [123] q6) h7
                rw [need_err c g6 (L_strB _) h7]
                simp only [Option.bind_some]
                exact l14_bad c he _ _ _ _ _ _ _ _
              | ok p =>
                obtain ⟨t7, q7⟩ := p
                have g7 := sufk g6 (goes_need 4 [123] q6) h7
                rw [need_ok c g6 (L_strB _) h7]
                simp only [Option.bind_some]
                have := g7.length_le
                have := c.len
                exact l14_rd c _ _ _ t2.2.1 i o [] q7.length [] q7 g7 (Nat.le_refl _) (by simp only [List.length_nil]; omega) (by simp)

theorem parse_b (s : ByteArray) : decl_Parse s = some (((parseV (L s)).1, (parseV (L s)).2.1, (parseV (L s)).2.2, ()), ()) := by
  unfold decl_Parse parseV
  have hlen := tokOut_length s
  rw [lex_Tokens_b]
  simp only [Option.bind_some]
  cases h : tokV (L s) with
  | error e =>
    simp only [tokOut]
    by_cases he : e.2 = 0
    · exact absurd he (tokV_err h)
    · refine (if_pos (nT he)).trans ?_
      rfl
  | ok l =>
    rw [h] at hlen
    simp only [tokOut, List.nil_append] at hlen ⊢
    refine (if_neg (nF rfl)).trans ?_
    have c : Ctx l := ⟨hlen, tokV_good h⟩
    have ho := parse_l c
    cases ha : allV l with
    | error e =>
      rw [ha] at ho
      exact ho
    | ok d =>
      rw [ha] at ho
      refine Eq.trans ho ?_
      simp only
      split <;> rfl

end Go.Proofs.YtjgjbdnjjepibaaGreatDoor
end

section
/-
YtjgjbdnjjepibaaGreatDoor: the bounds of the laws of declarations, equal declarations, the chapter's examples, as plain functions. No condition.
-/
set_option maxRecDepth 100000
set_option linter.unusedVariables false
open Go Go.AM
namespace Go.Proofs.YtjgjbdnjjepibaaGreatDoor

theorem short_ex (r : TRule) : ∃ b, law34_short r = some ((b, ()), ()) := by
  unfold law34_short law34_named
  simp only [Option.bind_some]
  split <;> exact ⟨_, rfl⟩

theorem small_rules (d : TDecl) (s : TDeclState) (hl : s.2.1.length ≤ 1048576) (n : Int) (k : Nat) (hk : k + 1 ≤ 1048577) (F : ∃ b, law34_small_l7 n ((k + 1 : Nat) : Int) d = some ((b, ()), ())) : ∀ (rs : List TRule) (i : Nat), s.2.1.drop i = rs → ∃ b, law34_small_l17 n k i d s = some ((b, ()), ())
  | [], i, h => by
    have h1 := drop_nil h
    rw [law34_small_l17_eq, if_neg (dF (by omega)), w64a k (by omega)]
    exact F
  | r :: rs, i, h => by
    have h1 := drop_lt h
    have hg : s.2.1.getD (i : Int).toNat dRule = r := getD_drop h
    obtain ⟨b, hb⟩ := short_ex r
    rw [law34_small_l17_eq, if_pos (dT (by omega)), if_pos ⟨by omega, by omega⟩, hg, hb, w64a i (by omega)]
    simp only [Option.bind_some]
    split
    · exact ⟨_, rfl⟩
    · exact small_rules d s hl n k hk F rs (i + 1) (dropS h)

theorem small_states (d : TDecl) (h : okDecl d) : ∀ (ss : List TDeclState) (k : Nat) (n : Int), d.2.2.2.drop k = ss → ∃ b, law34_small_l7 n k d = some ((b, ()), ())
  | [], k, n, hk => by
    have h1 := drop_nil hk
    rw [law34_small_l7_eq, if_neg (dF (by omega))]
    exact ⟨_, rfl⟩
  | s :: ss, k, n, hk => by
    have h1 := drop_lt hk
    have hg : d.2.2.2.getD (k : Int).toNat dDeclState = s := getD_drop hk
    have hs := h.2 s (mem_drop hk)
    have hlen := h.1
    obtain ⟨b, hb⟩ := short_ex s.2.2.2
    rw [law34_small_l7_eq, if_pos (dT (by omega)), if_pos ⟨by omega, by omega⟩, hg]
    split
    · exact ⟨_, rfl⟩
    · unfold law34_named
      simp only [Option.bind_some]
      split
      · exact ⟨_, rfl⟩
      · rw [hb]
        simp only [Option.bind_some]
        split
        · exact ⟨_, rfl⟩
        · exact small_rules d s hs.1 _ k (by omega) (small_states d h ss (k + 1) _ (dropS hk)) s.2.1 0 rfl

theorem small_ex (d : TDecl) (h : okDecl d) : ∃ b, law34_small d = some ((b, ()), ()) := by
  unfold law34_small law34_named
  simp only [Option.bind_some]
  split
  · exact ⟨_, rfl⟩
  · split
    · exact ⟨_, rfl⟩
    · exact small_states d h d.2.2.2 0 0 rfl

theorem sameR_loop (r : TRule) (hl : okRule r) : ∀ (c i : Nat), c = r.2.2.2.2.length - i → i ≤ r.2.2.2.2.length → ref34_SameRule_l6 i r r = some ((true, ()), ())
  | 0, i, hc, hi => by rw [ref34_SameRule_l6_eq, if_neg (dF (by omega))]
  | c + 1, i, hc, hi => by
    have : r.2.2.2.2.length ≤ 1048576 := hl
    rw [ref34_SameRule_l6_eq, if_pos (dT (by omega)), if_pos ⟨by omega, by omega⟩, if_pos ⟨by omega, by omega⟩, (eqU_iff uAct rfl _ _).2 rfl, if_neg (by simp), w64a i (by omega)]
    exact sameR_loop r hl c (i + 1) (by omega) (by omega)

theorem sameRule_refl (r : TRule) (hl : okRule r) : ref34_SameRule r r = some ((true, ()), ()) := by
  unfold ref34_SameRule
  rw [if_neg (nF rfl), if_neg (nF rfl), if_neg (by simp), if_neg (by simp), if_neg (nF rfl)]
  exact sameR_loop r hl r.2.2.2.2.length 0 (by omega) (by omega)

theorem same_rules (d : TDecl) (s : TDeclState) (hs : okState s) (k : Nat) (hk : k + 1 ≤ 1048577) (F : ref34_Same_l6 ((k + 1 : Nat) : Int) d d = some ((true, ()), ())) : ∀ (rs : List TRule) (i : Nat), s.2.1.drop i = rs → ref34_Same_l15 k i d d s s = some ((true, ()), ())
  | [], i, h => by
    have h1 := drop_nil h
    rw [ref34_Same_l15_eq, if_neg (dF (by omega)), w64a k (by omega)]
    exact F
  | r :: rs, i, h => by
    have h1 := drop_lt h
    have hl := hs.1
    have hg : s.2.1.getD (i : Int).toNat dRule = r := getD_drop h
    rw [ref34_Same_l15_eq, if_pos (dT (by omega)), if_pos ⟨by omega, by omega⟩, if_pos ⟨by omega, by omega⟩, hg, sameRule_refl r (hs.2.1 r (mem_drop h)), w64a i (by omega)]
    simp only [Option.bind_some]
    rw [if_neg (by simp)]
    exact same_rules d s hs k hk F rs (i + 1) (dropS h)

theorem same_states (d : TDecl) (h : okDecl d) : ∀ (ss : List TDeclState) (k : Nat), d.2.2.2.drop k = ss → ref34_Same_l6 k d d = some ((true, ()), ())
  | [], k, hk => by
    have h1 := drop_nil hk
    rw [ref34_Same_l6_eq, if_neg (dF (by omega))]
  | s :: ss, k, hk => by
    have h1 := drop_lt hk
    have hlen := h.1
    have hg : d.2.2.2.getD (k : Int).toNat dDeclState = s := getD_drop hk
    have hs := h.2 s (mem_drop hk)
    rw [ref34_Same_l6_eq, if_pos (dT (by omega)), if_pos ⟨by omega, by omega⟩, if_pos ⟨by omega, by omega⟩, hg, if_neg (by simp), if_neg (by simp), sameRule_refl _ hs.2.2]
    simp only [Option.bind_some]
    rw [if_neg (by simp), if_neg (nF rfl)]
    exact same_rules d s hs k (by omega) (same_states d h ss (k + 1) (dropS hk)) s.2.1 0 rfl

theorem sameD_refl (d : TDecl) (h : okDecl d) : ref34_Same d d = some ((true, ()), ()) := by
  unfold ref34_Same
  rw [if_neg (by simp), if_neg (nF rfl), if_neg (nF rfl), if_neg (nF rfl)]
  exact same_states d h d.2.2.2 0 rfl

def linesD : TDecl := ((strB [108, 105, 110, 101, 115]), 3, 6, [((strB [97]), [(10, 10, (strB [97]), false, [(5, 0)])], true, 0, 0, (strB [97]), false, [(2, 0)])])
theorem ok_lines : okDecl linesD := okDecl_bk linesD (by decide)
theorem check_lines : checkV linesD = 0 := by kernel_rfl
theorem itoa_10 : Lib.itoa 10 = [49, 48] := by kernel_rfl
theorem itoa_0 : Lib.itoa 0 = [48] := by kernel_rfl
def linesS : List UInt8 := [100, 101, 99, 111, 100, 101, 114, 32, 108, 105, 110, 101, 115, 32, 105, 110, 112, 117, 116, 32, 98, 121, 116, 101, 32, 111, 117, 116, 112, 117, 116, 32, 112, 97, 99, 107, 101, 116, 32, 123, 32, 115, 116, 97, 116, 101, 32, 97, 32, 123, 32, 49, 48, 32, 62, 32, 97, 32, 58, 32, 101, 109, 105, 116, 32, 48, 32, 59, 32, 42, 32, 62, 32, 97, 32, 58, 32, 112, 117, 115, 104, 32, 59, 32, 125, 32, 125]
theorem print_lines : printV linesD = (linesS, 0) := by kernel_rfl
theorem parse_x : parseV [100, 101, 99, 111, 100, 101, 114, 32, 120] = (noDecl, 1, 4) := by kernel_rfl

theorem awake34_b : law34_awake = some ((true, ()), ()) := by
  unfold law34_awake law34_lines
  simp only [Option.bind_some]
  have hp := parse_print check_lines
  rw [show ((strB [108, 105, 110, 101, 115]), 3, 6, [((strB [97]), [(10, 10, (strB [97]), false, [(5, 0)])], true, 0, 0, (strB [97]), false, [(2, 0)])]) = linesD from rfl, print_b linesD ok_lines]
  simp only [Option.bind_some]
  rw [parse_b, L_strB, hp.2, parse_b, L_strB, parse_x, match_eq linesD 0 10 ok_lines]
  simp only [Option.bind_some]
  rw [print_lines, dcheck_eq linesD ok_lines, check_lines, find_eq linesD _ ok_lines.1, sameD_refl linesD ok_lines]
  show _ = some ((true, ()), ())
  kernel_rfl

end Go.Proofs.YtjgjbdnjjepibaaGreatDoor
end

section
/-
YtjgjbdnjjepibaaGreatDoor: the laws of declarations, as plain functions, come to true. No condition.
-/
set_option maxRecDepth 100000
set_option linter.unusedVariables false
open Go Go.AM
namespace Go.Proofs.YtjgjbdnjjepibaaGreatDoor

theorem parseV_cases (l : List UInt8) : ((parseV l).2.2 ≠ 0 ∧ (parseV l).1 = noDecl) ∨ ((parseV l).2.2 = 0 ∧ checkV (parseV l).1 = 0 ∧ ∃ ts, tokV l = .ok ts ∧ pDecl ts = .ok ((parseV l).1, [])) := by
  unfold parseV
  cases h : tokV l with
  | error e => exact .inl ⟨tokV_err h, rfl⟩
  | ok ts =>
    simp only
    cases ha : allV ts with
    | error e => exact .inl ⟨(by simp), rfl⟩
    | ok d =>
      simp only
      by_cases hc : checkV d = 0
      · rw [if_pos hc]
        refine .inr ⟨rfl, hc, ts, rfl, ?_⟩
        unfold allV at ha
        split at ha
        · cases ha
        · rename_i d' hp
          cases ha
          exact hp
        · cases ha
      · rw [if_neg hc]
        exact .inl ⟨hc, rfl⟩

theorem parseV_ok (s : ByteArray) (h : (parseV (L s)).2.2 = 0) : checkV (parseV (L s)).1 = 0 ∧ okDecl (parseV (L s)).1 := by
  rcases parseV_cases (L s) with h1 | ⟨_, h2, ts, h3, h4⟩
  · exact absurd h h1.1
  · refine ⟨h2, decl_len h4 ?_⟩
    have := tokOut_length s
    rw [h3] at this
    simpa [tokOut] using this

theorem match_ok (d : TDecl) (h : okDecl d) (i x : Int) : okRule (matchV d.2.2.2 i x).1 := by
  have h0 : okRule noRule := by show ([] : List TAct).length ≤ _; simp
  unfold matchV
  split
  · exact h0
  · split
    · rename_i s hs
      have hso := h.2 s (List.mem_of_getElem? hs)
      unfold ruleR
      split
      · rename_i r hr
        exact hso.2.1 r (List.mem_of_find?_eq_some hr)
      · split
        · exact hso.2.2
        · exact h0
    · exact h0

end Go.Proofs.YtjgjbdnjjepibaaGreatDoor
end

section
/-
YtjgjbdnjjepibaaGreatDoor: the document's printer and reader of declarations, as plain functions, come to the same. No condition.
-/
set_option maxRecDepth 100000
set_option linter.unusedVariables false
open Go Go.AM
namespace Go.Proofs.YtjgjbdnjjepibaaGreatDoor

/-! ### printing -/
theorem digits_R : ∀ (k u : Nat), u < 10 ^ k → 0 < k → u ≤ 9007199254740992 → ref34_digits_R k (u : Int) = some ((strB (Lib.decDigits u), ()), ())
  | 0, u, _, h, _ => by omega
  | k + 1, u, h, _, hu => by
    have h10 : (((strB [48, 49, 50, 51, 52, 53, 54, 55, 56, 57]).size : Nat) : Int) = 10 := rfl
    unfold ref34_digits_R
    by_cases hs : u < 10
    · rw [if_pos (dT (by omega)), w64a u (by omega), if_pos ⟨by omega, by omega, by rw [h10]; omega⟩, Int.toNat_natCast, Int.toNat_natCast, digit_b u hs, dec_one hs]
    · have hm : u % 10 < 10 := Nat.mod_lt _ (by omega)
      have t1 : ((u : Nat) : Int).tmod 10 = ((u % 10 : Nat) : Int) := rfl
      have t2 : ((u : Nat) : Int).tdiv 10 = ((u / 10 : Nat) : Int) := rfl
      have hk : 0 < k := by
        rcases Nat.eq_zero_or_pos k with rfl | q
        · simp at h; omega
        · exact q
      have hd : u / 10 < 10 ^ k := by rw [Nat.div_lt_iff_lt_mul (by omega)]; rw [Nat.pow_succ] at h; exact h
      have hq : u / 10 ≤ u := Nat.div_le_self _ _
      rw [if_neg (dF (by omega)), t1, t2, w64 (by omega) (by omega), digits_R k (u / 10) hd hk (by omega), w64a _ (by omega)]
      simp only [Option.bind_some]
      have hl := decDigits_len 15 (u / 10) (by show _ < 10000000000000000; omega)
      rw [if_pos ⟨by omega, by omega, by rw [h10]; omega⟩, Int.toNat_natCast, Int.toNat_natCast, digit_b _ hm, if_pos (by rw [strB_size, strB_size]; simp only [List.length_cons, List.length_nil]; omega), strB_app, dec_cut hs]

theorem rnumber_b (n : Int) (h0 : 0 ≤ n) (h1 : n ≤ 255) : ref34_number n = some ((nTok n, ()), ()) := by
  have e := digits_R 20 n.toNat (by omega) (by omega) (by omega)
  rw [show ((n.toNat : Nat) : Int) = n by omega] at e
  unfold ref34_number ref34_digits
  rw [e]
  simp only [Option.bind_some]
  unfold nTok Lib.itoa
  rw [if_neg (by omega)]

theorem rmark_b (c : UInt8) : ref34_mark (strB [c]) = some ((mTok c, ()), ()) := rfl
theorem rword_b (b : ByteArray) : ref34_word b = some ((wTok b, ()), ()) := rfl

theorem ops_at (n : Int) (h : 1 ≤ n ∧ n ≤ 6) : ([strB [99, 108, 101, 97, 114], strB [112, 117, 115, 104], strB [120, 111, 114], strB [112, 117, 116], strB [101, 109, 105, 116], strB [102, 97, 105, 108]] : List ByteArray).getD (n - 1).toNat (strB []) = opW n := by
  have : n = 1 ∨ n = 2 ∨ n = 3 ∨ n = 4 ∨ n = 5 ∨ n = 6 := by omega
  rcases this with rfl | rfl | rfl | rfl | rfl | rfl <;> rfl

theorem rtacts (z : TRule) (ho : OkTarget z) : ∀ (r : List TAct) (n : Nat) (acc : List TToken), z.2.2.2.2.drop n = r → acc.length + 3 * r.length ≤ 900000 →
    ref34_target_l6 n z acc = some ((acc ++ (actsT n r ++ [mTok 59]), ()), ())
  | [], n, acc, h, ha => by
    have h1 := drop_nil h
    rw [ref34_target_l6_eq, if_neg (dF (by omega)), rmark_b]
    simp only [Option.bind_some]
    rw [if_pos ⟨by simp only [List.length_nil] at ha; omega, by decide⟩]
    rfl
  | a :: r, n, acc, h, ha => by
    have h1 := drop_lt h
    have hf := ho.few
    have hg : z.2.2.2.2.getD (n : Int).toNat dAct = a := getD_drop h
    have hoa := ho.acts a (mem_drop h)
    simp only [List.length_cons] at ha
    have c1 : 0 ≤ (n : Int) ∧ (n : Int) < (z.2.2.2.2.length : Int) := ⟨by omega, by omega⟩
    have rest : ∀ c : UInt8, ref34_target_l10 n z (acc ++ [mTok c]) = some ((acc ++ (mTok c :: wTok (opW a.1) :: (if a.1 > 2 then [nTok a.2] else [])) ++ (actsT (n + 1) r ++ [mTok 59]), ()), ()) := fun c => by
      have h16 : 1 ≤ a.1 ∧ a.1 ≤ 6 := ⟨hoa.1, hoa.2.1⟩
      rw [ref34_target_l10_eq]
      unfold ref34_ops
      simp only [Option.bind_some]
      rw [if_pos c1, hg, w64 (x := a.1 - 1) (by omega) (by omega), if_pos ⟨by omega, by show a.1 - 1 < 6; omega⟩, ops_at a.1 h16, rword_b]
      simp only [Option.bind_some]
      rw [if_pos ⟨by rw [List.length_append]; simp only [List.length_cons, List.length_nil]; omega, by decide⟩, if_pos c1, w64a n (by omega)]
      by_cases h2 : a.1 > 2
      · rw [if_pos (dT h2), if_pos c1, rnumber_b a.2 hoa.2.2.1 hoa.2.2.2.1]
        simp only [Option.bind_some]
        rw [if_pos ⟨by simp only [List.length_append, List.length_cons, List.length_nil]; omega, by decide⟩,
          rtacts z ho r (n + 1) _ (dropS h) (by simp only [List.length_append, List.length_cons, List.length_nil]; omega), if_pos h2]
        simp [List.append_assoc]
      · rw [if_neg (dF h2), rtacts z ho r (n + 1) _ (dropS h) (by simp only [List.length_append, List.length_cons, List.length_nil]; omega), if_neg h2]
        simp [List.append_assoc]
    rw [ref34_target_l6_eq, if_pos (dT (by omega))]
    by_cases hn : n = 0
    · subst hn
      rw [if_pos (by decide), rmark_b]
      simp only [Option.bind_some]
      rw [if_pos ⟨by omega, by decide⟩]
      refine (rest 58).trans ?_
      simp [actsT, actT, List.append_assoc]
    · rw [if_neg (eF (by omega)), rmark_b]
      simp only [Option.bind_some]
      rw [if_pos ⟨by omega, by decide⟩]
      refine (rest 44).trans ?_
      simp [actsT, actT, List.append_assoc, hn]

theorem rtarget_b (r : TRule) (h : OkTarget r) : ref34_target r = some ((targetT r, ()), ()) := by
  have hf := h.few
  unfold ref34_target
  rw [rmark_b, rword_b]
  simp only [Option.bind_some]
  by_cases hag : r.2.2.2.1 = true
  · rw [if_pos hag, rword_b]
    simp only [Option.bind_some]
    rw [ref34_target_l2_eq]
    refine (rtacts r h r.2.2.2.2 0 _ rfl (by simp only [List.length_cons, List.length_nil]; omega)).trans ?_
    unfold targetT
    rw [if_pos hag]
    rfl
  · rw [if_neg hag, ref34_target_l2_eq]
    refine (rtacts r h r.2.2.2.2 0 _ rfl (by simp only [List.length_cons, List.length_nil]; omega)).trans ?_
    unfold targetT
    rw [if_neg hag]
    rfl

theorem rrules (s : TDeclState) (hs : OkState s) : ∀ (r : List TRule) (n : Nat) (acc : List TToken), s.2.1.drop n = r → acc.length + 32 * r.length ≤ 700000 →
    ref34_state_l4 n s acc = some ((acc ++ (rulesT r ++ (elseT s ++ [mTok 125])), ()), ())
  | [], n, acc, h, ha => by
    have h1 := drop_nil h
    simp only [List.length_nil] at ha
    rw [ref34_state_l4_eq, if_neg (dF (by omega)), rulesT, List.nil_append]
    by_cases he : s.2.2.1 = true
    · have hl := (jl_target (hs.some he)).2
      rw [if_pos he, rmark_b]
      simp only [Option.bind_some]
      rw [if_pos ⟨by omega, by decide⟩, rtarget_b _ (hs.some he)]
      simp only [Option.bind_some]
      rw [if_pos ⟨by simp only [List.length_append, List.length_cons, List.length_nil]; omega, by decide⟩, rmark_b]
      simp only [Option.bind_some]
      rw [if_pos ⟨by simp only [List.length_append, List.length_cons, List.length_nil]; omega, by decide⟩]
      unfold elseT
      rw [if_pos he]
      simp [List.append_assoc]
    · rw [if_neg he, rmark_b]
      simp only [Option.bind_some]
      rw [if_pos ⟨by omega, by decide⟩]
      unfold elseT
      rw [if_neg he]
      rfl
  | r :: rs, n, acc, h, ha => by
    have h1 := drop_lt h
    have hg : s.2.1.getD (n : Int).toNat dRule = r := getD_drop h
    have hr := hs.rules r (mem_drop h)
    have hf := hs.few
    simp only [List.length_cons] at ha
    have hlen := (jl_rule hr.1 hr.2).2
    have htl := (jl_target hr.2).2
    have c1 : 0 ≤ (n : Int) ∧ (n : Int) < (s.2.1.length : Int) := ⟨by omega, by omega⟩
    have ih : ∀ q : List TToken, q ++ targetT r = acc ++ ruleT r → q.length ≤ 700000 → ref34_state_l9 n s q = some ((acc ++ (rulesT (r :: rs) ++ (elseT s ++ [mTok 125])), ()), ()) := fun q hq hql => by
      rw [ref34_state_l9_eq, if_pos c1, hg, rtarget_b r hr.2]
      simp only [Option.bind_some]
      rw [if_pos ⟨by omega, by decide⟩, w64a n (by omega), hq, rrules s hs rs (n + 1) _ (dropS h) (by rw [List.length_append]; omega), rulesT]
      simp [List.append_assoc]
    rw [ref34_state_l4_eq, if_pos (dT (by omega)), if_pos c1, hg, rnumber_b r.1 hr.1.lo (Int.le_trans hr.1.le hr.1.hi)]
    simp only [Option.bind_some]
    rw [if_pos ⟨by omega, by decide⟩, if_pos c1, if_pos c1]
    by_cases he : r.2.1 = r.1
    · rw [if_neg (nF he)]
      refine ih _ ?_ (by simp only [List.length_append, List.length_cons, List.length_nil]; omega)
      unfold ruleT
      rw [if_pos he]
      simp [List.append_assoc]
    · rw [if_pos (nT he), rmark_b]
      simp only [Option.bind_some]
      rw [if_pos c1, rnumber_b r.2.1 (Int.le_trans hr.1.lo hr.1.le) hr.1.hi]
      simp only [Option.bind_some]
      rw [if_pos ⟨by simp only [List.length_append, List.length_cons, List.length_nil]; omega, by decide⟩]
      refine ih _ ?_ (by simp only [List.length_append, List.length_cons, List.length_nil]; omega)
      unfold ruleT
      rw [if_neg he]
      simp [List.append_assoc]

theorem rstate_b (s : TDeclState) (hs : OkState s) : ref34_state s = some ((stateT s, ()), ()) := by
  have hf := hs.few
  unfold ref34_state
  rw [rword_b, rword_b, rmark_b]
  simp only [Option.bind_some]
  refine (rrules s hs s.2.1 0 _ rfl (by simp only [List.length_cons, List.length_nil]; omega)).trans ?_
  rfl

theorem rstates (d : TDecl) (ho : OkDecl d) : ∀ (r : List TDeclState) (n : Nat) (acc : List TToken), d.2.2.2.drop n = r → acc.length + 2090 * r.length ≤ 70000 →
    ref34_Tokens_l9 n d acc = some ((acc ++ (statesT r ++ [mTok 125]), ()), ())
  | [], n, acc, h, ha => by
    have h1 := drop_nil h
    simp only [List.length_nil] at ha
    rw [ref34_Tokens_l9_eq, if_neg (dF (by omega)), rmark_b]
    simp only [Option.bind_some]
    rw [if_pos ⟨by omega, by decide⟩]
    rfl
  | s :: r, n, acc, h, ha => by
    have h1 := drop_lt h
    have hf := ho.few
    have hg : d.2.2.2.getD (n : Int).toNat dDeclState = s := getD_drop h
    have hs := ho.states s (mem_drop h)
    have hl := (jl_state hs).2
    simp only [List.length_cons] at ha
    rw [ref34_Tokens_l9_eq, if_pos (dT (by omega)), if_pos ⟨by omega, by omega⟩, hg, rstate_b s hs]
    simp only [Option.bind_some]
    rw [if_pos ⟨by omega, by decide⟩, w64a n (by omega), rstates d ho r (n + 1) _ (dropS h) (by rw [List.length_append]; omega), statesT]
    simp [List.append_assoc]

theorem rtokens_b (d : TDecl) (ho : OkDecl d) : ref34_Tokens d = some ((declT d, ()), ()) := by
  have hf := ho.few
  have key : ∀ (i o : ByteArray), i = (if d.2.1 = 2 then sBit else sByte) → o = (if d.2.2.1 = 5 then sFrame else sPacket) → ref34_Tokens_l4 i o d = some ((declT d, ()), ()) := fun i o hi ho' => by
    rw [ref34_Tokens_l4_eq, rword_b, rword_b, rword_b, rword_b, rword_b, rword_b, rmark_b]
    simp only [Option.bind_some]
    refine (rstates d ho d.2.2.2 0 _ rfl (by simp only [List.length_cons, List.length_nil]; omega)).trans ?_
    unfold declT headT
    rw [hi, ho']
    rfl
  have key6 : ∀ i, i = (if d.2.1 = 2 then sBit else sByte) → ref34_Tokens_l2 i (strB [112, 97, 99, 107, 101, 116]) d = some ((declT d, ()), ()) := fun i hi => by
    rw [ref34_Tokens_l2_eq]
    by_cases h5 : d.2.2.1 = 5
    · rw [if_pos (eT h5), key i _ hi (by rw [if_pos h5]; rfl)]
    · rw [if_neg (eF h5), key i _ hi (by rw [if_neg h5]; rfl)]
  unfold ref34_Tokens
  by_cases h2 : d.2.1 = 2
  · rw [if_pos (eT h2), key6 _ (by rw [if_pos h2]; rfl)]
  · rw [if_neg (eF h2), key6 _ (by rw [if_neg h2]; rfl)]

theorem rprint_b (d : TDecl) (h : okDecl d) : ref34_Print d = some ((strB (printV d).1, (printV d).2, ()), ()) := by
  unfold ref34_Print
  rw [wcheck_eq d h]
  simp only [Option.bind_some]
  by_cases hc : checkV d = 0
  · rw [if_neg (nF hc)]
    have ho := ok_decl hc
    have hg := good_decl ho
    have hl := (jl_decl ho).2
    rw [rtokens_b d ho]
    simp only [Option.bind_some]
    rw [ref05_Text_b _ (by omega) (fun t ht => okTok_good (hg t ht))]
    unfold printV
    rw [if_pos hc]
    rfl
  · rw [if_pos (nT hc), print_no hc]

theorem DeclPrints_true (d : TDecl) (h : okDecl d) : law34_DeclPrints d = some ((true, ()), ()) := by
  obtain ⟨b, hb⟩ := small_ex d h
  unfold law34_DeclPrints
  rw [hb, awake34_b, print_b d h, rprint_b d h]
  cases b <;> simp

end Go.Proofs.YtjgjbdnjjepibaaGreatDoor
end

section
/-
YtjgjbdnjjepibaaGreatDoor: the document's reader of declarations, as plain functions, comes to the plain reader. No condition.
-/
set_option maxRecDepth 100000
set_option linter.unusedVariables false
open Go Go.AM
namespace Go.Proofs.YtjgjbdnjjepibaaGreatDoor

def ix (l q : List TToken) : Int := ((l.length - q.length : Nat) : Int)

theorem at_k {l q : List TToken} (h : q <:+ l) (k : Nat) : l[l.length - q.length + k]? = q[k]? := by
  have h1 := suf_drop h
  rw [← List.getElem?_drop, h1]

theorem ix_cons {l r : List TToken} {t : TToken} (c : Ctx l) (h : (t :: r) <:+ l) : IntKind.i64.wrap (ix l (t :: r) + 1) = ix l r := by
  obtain ⟨h1, h2, h3⟩ := at_cons h
  have := c.len
  unfold ix
  rw [w64a _ (by omega), h3]

theorem ix_add {l q : List TToken} (c : Ctx l) (k : Nat) (hk : k ≤ 10) : IntKind.i64.wrap (ix l q + (k : Int)) = ((l.length - q.length + k : Nat) : Int) := by
  have := c.len
  unfold ix
  rw [w64n _ k (by omega)]

theorem kind_n {l : List TToken} (c : Ctx l) (n : Nat) (k : Int) : ref34_kind l n k = some ((isO k [] l[n]?, ()), ()) := by
  unfold ref34_kind
  by_cases h : n < l.length
  · rw [if_pos (dT (by omega)), if_pos ⟨by omega, by omega⟩, Int.toNat_natCast, getD_in dToken h, List.getElem?_eq_getElem h, beq_dec]
    show _ = some ((decide _ && (true || _), ()), ())
    simp
  · rw [if_neg (dF (by omega)), List.getElem?_eq_none (by omega)]
    rfl

theorem is_n {l : List TToken} (c : Ctx l) (n : Nat) (s : ByteArray) : ref34_is l n s = some ((match l[n]? with | some t => (decide (t.1 = 1) || decide (t.1 = 4)) && (L t.2.1 == L s) | none => false, ()), ()) := by
  unfold ref34_is
  by_cases h : n < l.length
  · have c1 : 0 ≤ (n : Int) ∧ (n : Int) < (l.length : Int) := ⟨by omega, by omega⟩
    rw [if_pos (dT (by omega)), if_pos c1, Int.toNat_natCast, getD_in dToken h, List.getElem?_eq_getElem h]
    simp only
    by_cases h1 : l[n].1 = 1
    · rw [if_pos (eT h1), if_pos c1, toL, toL, decide_eq_true h1]
      simp
    · rw [if_neg (eF h1), if_pos c1, decide_eq_false h1]
      by_cases h4 : l[n].1 = 4
      · rw [if_pos (eT h4), if_pos c1, toL, toL, decide_eq_true h4]
        simp
      · rw [if_neg (eF h4), decide_eq_false h4]
        simp
  · rw [if_neg (dF (by omega)), List.getElem?_eq_none (by omega)]

theorem is_mark {l : List TToken} (c : Ctx l) (n : Nat) (x : UInt8) (hx : nameB [x] = false) : ref34_is l n (strB [x]) = some ((isO 4 [x] l[n]?, ()), ()) := by
  rw [is_n c]
  cases h : l[n]? with
  | none => rfl
  | some t =>
    have hg := c.good t (List.mem_of_getElem? h)
    simp only [L_strB]
    show _ = some ((decide (t.1 = 4) && (false || _), ()), ())
    by_cases h1 : t.1 = 1
    · have h2 := hg.2.2 h1
      have : ¬ L t.2.1 = [x] := fun q => by rw [q, hx] at h2; cases h2
      rw [decide_eq_true h1, decide_eq_false (show ¬ t.1 = 4 by omega)]
      simpa using this
    · rw [decide_eq_false h1]
      simp

theorem is_word {l : List TToken} (c : Ctx l) (n : Nat) (s : ByteArray) (hx : markL (L s) = false) (he : (L s).isEmpty = false) : ref34_is l n s = some ((isO 1 (L s) l[n]?, ()), ()) := by
  rw [is_n c]
  cases h : l[n]? with
  | none => rfl
  | some t =>
    have hg := c.good t (List.mem_of_getElem? h)
    simp only
    show _ = some ((decide (t.1 = 1) && (_ || _), ()), ())
    rw [he]
    by_cases h4 : t.1 = 4
    · have h2 := hg.2.1 h4
      have : ¬ L t.2.1 = L s := fun q => by rw [q, hx] at h2; cases h2
      rw [decide_eq_true h4, decide_eq_false (show ¬ t.1 = 1 by omega)]
      simpa using this
    · rw [decide_eq_false h4]
      simp

theorem kind_q {l q : List TToken} (c : Ctx l) (h : q <:+ l) (k : Int) : ref34_kind l (ix l q) k = some ((hdT k [] q, ()), ()) := by
  unfold ix
  rw [kind_n c, hd_isO]
  have := at_k h 0
  rw [Nat.add_zero] at this
  rw [this]
theorem mark_q {l q : List TToken} (c : Ctx l) (h : q <:+ l) (x : UInt8) (hx : nameB [x] = false) : ref34_is l (ix l q) (strB [x]) = some ((hdT 4 [x] q, ()), ()) := by
  unfold ix
  rw [is_mark c _ x hx, hd_isO]
  have := at_k h 0
  rw [Nat.add_zero] at this
  rw [this]
theorem word_q {l q : List TToken} (c : Ctx l) (h : q <:+ l) (s : ByteArray) (hx : markL (L s) = false) (he : (L s).isEmpty = false) : ref34_is l (ix l q) s = some ((hdT 1 (L s) q, ()), ()) := by
  unfold ix
  rw [is_word c _ s hx he, hd_isO]
  have := at_k h 0
  rw [Nat.add_zero] at this
  rw [this]

theorem getD_ix {l r : List TToken} {t : TToken} (h : (t :: r) <:+ l) : l.getD (ix l (t :: r)).toNat dToken = t := (at_cons h).2.1
theorem in_ix {l r : List TToken} {t : TToken} (h : (t :: r) <:+ l) : 0 ≤ ix l (t :: r) ∧ ix l (t :: r) < (l.length : Int) := by
  have := (at_cons h).1
  unfold ix
  omega

def OutR {α : Type} (l : List TToken) (o : Option ((α × Int × Bool × Unit) × Unit)) : PR α → Prop
  | .ok (a, q) => o = some ((a, ix l q, true, ()), ())
  | .error e => ∃ z, o = some ((z, ix l e, false, ()), ())

theorem outr_no {α : Type} {l e : List TToken} {z : α} {n : Int} (h : n = ix l e) : OutR l (some ((z, n, false, ()), ())) (.error e) := ⟨z, by rw [h]⟩

/-! ### actions -/
theorem ract_no {l q : List TToken} (c : Ctx l) (h : q <:+ l) (z : TAct) (i : Nat) (hi : i < 6) (hn : hdT 1 (L (opW ((i + 1 : Nat) : Int))) q = false) : ref34_takeAct_l3 l (ix l q) i z = ref34_takeAct_l3 l (ix l q) ((i + 1 : Nat) : Int) z := by
  rw [ref34_takeAct_l3_eq, if_pos (dT (by omega)), kind_q c h, w64a i (by omega)]
  simp only [Option.bind_some]
  cases q with
  | nil => exact if_neg (by simp [hdT])
  | cons t r =>
    by_cases ht : t.1 = 1
    · refine (if_pos (by simp [hdT, isT, ht])).trans ?_
      unfold ref34_ops
      simp only [Option.bind_some]
      rw [if_pos (in_ix h), if_pos ⟨by omega, by show (i : Int) < 6; omega⟩, getD_ix h]
      have e := ops_at ((i + 1 : Nat) : Int) ⟨by omega, by omega⟩
      rw [show ((((i + 1 : Nat) : Int) - 1).toNat) = (i : Int).toNat by omega] at e
      rw [e]
      have hne := opW_ne (n := i + 1) (by omega) (by omega)
      have : ¬ L t.2.1 = L (opW ((i + 1 : Nat) : Int)) := by
        intro q
        have : hdT 1 (L (opW ((i + 1 : Nat) : Int))) (t :: r) = true := by
          show (decide (t.1 = 1) && (_ || _)) = true
          rw [decide_eq_true ht, q]
          simp
        rw [hn] at this
        cases this
      rw [if_neg (by rw [toL, toL]; simpa using this)]
    · exact if_neg (by simp [hdT, isT, ht])

theorem ract_yes {l q : List TToken} (c : Ctx l) (h : q <:+ l) (z : TAct) (i : Nat) (hi : i < 6) (hy : hdT 1 (L (opW ((i + 1 : Nat) : Int))) q = true) : OutR l (ref34_takeAct_l3 l (ix l q) i z) (pArg (i + 1) q.tail) := by
  obtain ⟨t, r, rfl, hyt⟩ := hdT_cons hy
  have hne := opW_ne (n := i + 1) (by omega) (by omega)
  have h2 : t.1 = 1 ∧ L t.2.1 = L (opW ((i + 1 : Nat) : Int)) := by
    unfold isT at hyt
    rw [hne] at hyt
    simpa using hyt
  have hr : r <:+ l := (List.suffix_cons t r).trans h
  rw [ref34_takeAct_l3_eq, if_pos (dT (by omega)), kind_q c h, w64a i (by omega)]
  simp only [Option.bind_some]
  refine Eq.subst (motive := fun o => OutR l o (pArg (i + 1) (t :: r).tail)) (if_pos (by simp [hdT, isT, h2.1])).symm ?_
  unfold ref34_ops
  simp only [Option.bind_some]
  rw [if_pos (in_ix h), if_pos ⟨by omega, by show (i : Int) < 6; omega⟩, getD_ix h]
  have e := ops_at ((i + 1 : Nat) : Int) ⟨by omega, by omega⟩
  rw [show ((((i + 1 : Nat) : Int) - 1).toNat) = (i : Int).toNat by omega] at e
  rw [e, if_pos (by rw [toL, toL, h2.2]; simp), ix_cons c h]
  unfold pArg
  rw [List.tail_cons]
  by_cases h3 : i + 1 ≤ 2
  · rw [if_pos (dT (by omega)), if_pos h3]
    rfl
  · rw [if_neg (dF (by omega)), if_neg h3, kind_q c hr]
    simp only [Option.bind_some]
    by_cases hk : hdT 2 [] r = true
    · obtain ⟨t2, r2, rfl, hn⟩ := need_yes hk
      rw [hn, hk]
      refine Eq.subst (motive := fun o => OutR l o _) (if_neg (by simp)).symm ?_
      rw [if_pos (in_ix hr), getD_ix hr, andP_ok']
      have e2 : IntKind.i64.wrap (ix l (t :: t2 :: r2) + 2) = ix l r2 := by
        have h3 := (at_cons h).2.2
        have h4 := (at_cons hr).2.2
        have := ix_add (q := t :: t2 :: r2) c 2 (by omega)
        rw [show ((2 : Nat) : Int) = 2 from rfl] at this
        rw [this]
        unfold ix
        omega
      rw [e2]
      rfl
    · have hf : hdT 2 [] r = false := by simpa using hk
      rw [need_no hf, hf]
      exact ⟨_, if_pos (by simp)⟩

theorem ract_steps {l q : List TToken} (c : Ctx l) (h : q <:+ l) (z : TAct) : ∀ m : Nat, m ≤ 6 → (∀ j : Nat, 1 ≤ j → j ≤ m → hdT 1 (L (opW j)) q = false) → ref34_takeAct_l3 l (ix l q) 0 z = ref34_takeAct_l3 l (ix l q) (m : Int) z
  | 0, _, _ => rfl
  | m + 1, hm, hj => (ract_steps c h z m (by omega) (fun j a b => hj j a (by omega))).trans (ract_no c h z m (by omega) (hj (m + 1) (by omega) (by omega)))

theorem ract_b {l q : List TToken} (c : Ctx l) (h : q <:+ l) : OutR l (ref34_takeAct l (ix l q)) (pAct q) := by
  unfold ref34_takeAct
  rcases act_cases q with ⟨n, h1, h6, hno, hy, hp⟩ | ⟨hno, hp⟩
  · obtain ⟨i, rfl⟩ : ∃ i, n = i + 1 := ⟨n - 1, by omega⟩
    rw [ract_steps c h (0, 0) i (by omega) (fun j a b => hno j a (by omega)), hp]
    exact ract_yes c h (0, 0) i (by omega) hy
  · rw [ract_steps c h (0, 0) 6 (by omega) hno, hp, ref34_takeAct_l3_eq, if_neg (dF (by omega))]
    exact ⟨_, rfl⟩

/-! ### targets -/
def OutRT (l : List TToken) (o : Option ((TRule × Int × Bool × Unit) × (Unit × Unit))) : PR TRule → Prop
  | .ok (a, q) => o = some ((a, ix l q, true, ()), ((), ()))
  | .error e => ∃ z, o = some ((z, ix l e, false, ()), ((), ()))

theorem rend_b {l q : List TToken} (c : Ctx l) (h : q <:+ l) (lo hi : Int) (nx : ByteArray) (ag : Bool) (acc : List TAct) :
    OutRT l ((ref34_is l (ix l q) (strB [59])).bind fun y6 => if (!y6.1.1) = true then some (((lo, hi, nx, ag, acc), ix l q, false, ()), ((), ())) else some (((lo, hi, nx, ag, acc), IntKind.i64.wrap (ix l q + 1), true, ()), ((), ())))
      (andP (pNeed 4 [59] q) fun _ q => .ok ((lo, hi, nx, ag, acc), q)) := by
  rw [mark_q c h 59 (by decide)]
  simp only [Option.bind_some]
  by_cases hk : hdT 4 [59] q = true
  · obtain ⟨t, r, rfl, hn⟩ := need_yes hk
    rw [hn, andP_ok', hk, ix_cons c h]
    exact if_neg (by simp)
  · have hf : hdT 4 [59] q = false := by simpa using hk
    rw [need_no hf, hf]
    exact ⟨_, if_pos (by simp)⟩

theorem l13_step {l q : List TToken} (c : Ctx l) (h : q <:+ l) (a b : Int) (nx : ByteArray) (ag : Bool) (x0 x1 : Int) (x2 : ByteArray) (x3 : Bool) (acc acc' : List TAct) :
    ref34_takeTarget_l13 l (ix l q) a b nx ag x0 x1 x2 x3 acc acc' = if hdT 4 (sepB acc) q = true then
        (ref34_takeAct l (IntKind.i64.wrap (ix l q + 1))).bind fun y2 =>
          if (!y2.1.2.2.1) = true then some (((a, b, nx, ag, acc), y2.1.2.1, false, ()), ((), ()))
          else if (acc.length + 1) * 16 ≤ 140737488355328 ∧ 0 < 16 then ref34_takeTarget_l13 l y2.1.2.1 a b nx ag x0 x1 x2 x3 (acc ++ [y2.1.1]) acc' else none
      else (ref34_is l (ix l q) (strB [59])).bind fun y6 => if (!y6.1.1) = true then some (((a, b, nx, ag, acc), ix l q, false, ()), ((), ())) else some (((a, b, nx, ag, acc), IntKind.i64.wrap (ix l q + 1), true, ()), ((), ())) := by
  rw [ref34_takeTarget_l13_eq, mark_q c h 58 (by decide), mark_q c h 44 (by decide)]
  simp only [Option.bind_some]
  cases acc with
  | nil =>
    have hs : sepB [] = [58] := rfl
    rw [hs]
    by_cases h58 : hdT 4 [58] q = true
    · rw [h58]
      rfl
    · have hf : hdT 4 [58] q = false := by simpa using h58
      rw [hf]
      refine (if_neg (by simp)).trans ((ite_self _).trans ?_)
      · exact (if_neg (by simp)).symm
  | cons e es =>
    have hs : sepB (e :: es) = [44] := rfl
    rw [hs]
    have hl : ¬ (((e :: es).length : Int) == 0) = true := eF (by simp only [List.length_cons]; omega)
    have hp : decide (((e :: es).length : Int) > 0) = true := dT (by simp only [List.length_cons]; omega)
    rw [if_neg hl, if_pos hp]
    exact ite_self _

theorem l13_b {l : List TToken} (c : Ctx l) (lo hi : Int) (nx : ByteArray) (ag : Bool) (x0 x1 : Int) (x2 : ByteArray) (x3 : Bool) (acc' : List TAct) : ∀ (k : Nat) (acc : List TAct) (q : List TToken), q <:+ l → q.length ≤ k → acc.length + k ≤ 2000000 →
    OutRT l (ref34_takeTarget_l13 l (ix l q) lo hi nx ag x0 x1 x2 x3 acc acc') (andP (pActs k acc q) fun acts q => andP (pNeed 4 [59] q) fun _ q => .ok ((lo, hi, nx, ag, acts), q))
  | 0, acc, q, h, hk, hb => by
    have : q = [] := List.length_eq_zero_iff.1 (by omega)
    subst this
    rw [l13_step c h, if_neg (show ¬ hdT 4 (sepB acc) [] = true by simp [hdT])]
    exact rend_b c h lo hi nx ag acc
  | k + 1, acc, q, h, hk, hb => by
    rw [l13_step c h, acts_succ]
    by_cases hy : hdT 4 (sepB acc) q = true
    · rw [if_pos hy, if_pos hy]
      obtain ⟨t, r, rfl, _⟩ := hdT_cons hy
      have hr : r <:+ l := (List.suffix_cons t r).trans h
      rw [ix_cons c h, List.tail_cons]
      have ho := ract_b c hr
      cases hp : pAct r with
      | ok p =>
        obtain ⟨a, q'⟩ := p
        rw [hp] at ho
        rw [show ref34_takeAct l (ix l r) = some ((a, ix l q', true, ()), ()) from ho]
        simp only [Option.bind_some]
        have hl := okLen (goes_act r) hp
        simp only [List.length_cons] at hk
        refine Eq.subst (motive := fun o => OutRT l o _) (if_neg (by simp)).symm ?_
        rw [if_pos ⟨by omega, by decide⟩]
        exact l13_b c lo hi nx ag x0 x1 x2 x3 acc' k (acc ++ [a]) q' (sufk hr (goes_act r) hp) (by omega) (by rw [List.length_append]; simp only [List.length_cons, List.length_nil]; omega)
      | error e =>
        rw [hp] at ho
        obtain ⟨z, hz⟩ := ho
        rw [hz]
        simp only [Option.bind_some]
        exact ⟨_, if_pos (by simp)⟩
    · rw [if_neg hy, if_neg hy]
      exact rend_b c h lo hi nx ag acc

theorem rtarget_q {l q : List TToken} (c : Ctx l) (h : q <:+ l) (lo hi : Int) : OutRT l (ref34_takeTarget l (ix l q) lo hi (strB []) false []) (pTarget lo hi q) := by
  unfold ref34_takeTarget pTarget
  rw [mark_q c h 62 (by decide)]
  simp only [Option.bind_some]
  by_cases h1 : hdT 4 [62] q = true
  rotate_left
  · have hf : hdT 4 [62] q = false := by simpa using h1
    rw [need_no hf, hf]
    exact ⟨_, if_pos (by simp)⟩
  obtain ⟨t1, q1, rfl, n1⟩ := need_yes h1
  have g1 : q1 <:+ l := (List.suffix_cons t1 q1).trans h
  rw [n1, andP_ok', h1, ix_cons c h, kind_q c g1]
  refine Eq.subst (motive := fun o => OutRT l o _) (if_neg (by simp)).symm ?_
  simp only [Option.bind_some]
  by_cases h2 : hdT 1 [] q1 = true
  rotate_left
  · have hf : hdT 1 [] q1 = false := by simpa using h2
    rw [need_no hf, hf]
    exact ⟨_, if_pos (by simp)⟩
  obtain ⟨t2, q2, rfl, n2⟩ := need_yes h2
  have g2 : q2 <:+ l := (List.suffix_cons t2 q2).trans g1
  have e2 : IntKind.i64.wrap (ix l (t1 :: t2 :: q2) + 2) = ix l q2 := by
    have h3 := (at_cons h).2.2
    have h4 := (at_cons g1).2.2
    have := ix_add (q := t1 :: t2 :: q2) c 2 (by omega)
    rw [show ((2 : Nat) : Int) = 2 from rfl] at this
    rw [this]
    unfold ix
    omega
  rw [n2, andP_ok', h2]
  refine Eq.subst (motive := fun o => OutRT l o _) (if_neg (by simp)).symm ?_
  rw [if_pos (in_ix g1), getD_ix g1, e2, word_q c g2 _ (by decide) (by decide)]
  simp only [Option.bind_some]
  have hl := g2.length_le
  have hcl := c.len
  unfold pOpt
  have ha : L (strB [97, 103, 97, 105, 110]) = L sAgain := rfl
  rw [ha]
  by_cases h3 : hdT 1 (L sAgain) q2 = true
  · obtain ⟨t3, q3, rfl, _⟩ := need_yes h3
    have g3 : q3 <:+ l := (List.suffix_cons t3 q3).trans g2
    rw [if_pos h3, if_pos h3, ix_cons c g2, andP_ok', List.tail_cons, ref34_takeTarget_l9_eq]
    have := g3.length_le
    exact l13_b c lo hi t2.2.1 true 0 0 (strB []) false [] q3.length [] q3 g3 (Nat.le_refl _) (by simp only [List.length_nil]; omega)
  · rw [if_neg h3, if_neg h3, andP_ok', ref34_takeTarget_l9_eq]
    exact l13_b c lo hi t2.2.1 false 0 0 (strB []) false [] q2.length [] q2 g2 (Nat.le_refl _) (by simp only [List.length_nil]; omega)

theorem rrule_q {l q : List TToken} (c : Ctx l) (h : q <:+ l) (hy : hdT 2 [] q = true) : OutR l (ref34_takeRule l (ix l q)) (pRule q) := by
  obtain ⟨t, r, rfl, n1⟩ := need_yes hy
  have g1 : r <:+ l := (List.suffix_cons t r).trans h
  have last : ∀ (lo hi : Int) (q' : List TToken), q' <:+ l → OutR l (ref34_takeRule_l3 l (ix l q') 0 0 (strB []) false lo hi (strB []) false [] []) (pTarget lo hi q') := fun lo hi q' g => by
    rw [ref34_takeRule_l3_eq]
    have ho := rtarget_q c g lo hi
    cases hp : pTarget lo hi q' with
    | ok p =>
      rw [hp] at ho
      rw [show ref34_takeTarget l (ix l q') lo hi (strB []) false [] = some ((p.1, ix l p.2, true, ()), ((), ())) from ho]
      rfl
    | error e =>
      rw [hp] at ho
      obtain ⟨z, hz⟩ := ho
      rw [hz]
      exact ⟨_, rfl⟩
  unfold ref34_takeRule pRule
  rw [n1, andP_ok', if_pos (in_ix h), if_pos (in_ix h), getD_ix h, ix_cons c h, mark_q c g1 46 (by decide)]
  simp only [Option.bind_some]
  unfold pHi
  by_cases h46 : hdT 4 [46] r = true
  · obtain ⟨t2, r2, rfl, _⟩ := need_yes h46
    have g2 : r2 <:+ l := (List.suffix_cons t2 r2).trans g1
    rw [if_pos h46, if_pos h46, List.tail_cons, ix_cons c g1, mark_q c g2 46 (by decide)]
    simp only [Option.bind_some]
    by_cases h3 : hdT 4 [46] r2 = true
    rotate_left
    · have hf : hdT 4 [46] r2 = false := by simpa using h3
      rw [need_no hf, hf]
      exact ⟨_, if_pos (by simp)⟩
    obtain ⟨t3, r3, rfl, n3⟩ := need_yes h3
    have g3 : r3 <:+ l := (List.suffix_cons t3 r3).trans g2
    have e2 : IntKind.i64.wrap (ix l (t2 :: t3 :: r3) + 2) = ix l r3 := by
      have a1 := (at_cons g1).2.2
      have a2 := (at_cons g2).2.2
      have := ix_add (q := t2 :: t3 :: r3) c 2 (by omega)
      rw [show ((2 : Nat) : Int) = 2 from rfl] at this
      rw [this]
      unfold ix
      omega
    rw [n3, andP_ok', h3, e2, kind_q c g3]
    refine Eq.subst (motive := fun o => OutR l o _) (if_neg (by simp)).symm ?_
    simp only [Option.bind_some]
    by_cases h4 : hdT 2 [] r3 = true
    rotate_left
    · have hf : hdT 2 [] r3 = false := by simpa using h4
      rw [need_no hf, hf]
      exact ⟨_, if_pos (by simp)⟩
    obtain ⟨t4, r4, rfl, n4⟩ := need_yes h4
    have g4 : r4 <:+ l := (List.suffix_cons t4 r4).trans g3
    have e3 : IntKind.i64.wrap (ix l (t2 :: t3 :: t4 :: r4) + 3) = ix l r4 := by
      have a1 := (at_cons g1).2.2
      have a2 := (at_cons g2).2.2
      have a3 := (at_cons g3).2.2
      have := ix_add (q := t2 :: t3 :: t4 :: r4) c 3 (by omega)
      rw [show ((3 : Nat) : Int) = 3 from rfl] at this
      rw [this]
      unfold ix
      omega
    rw [n4, andP_ok', h4]
    refine Eq.subst (motive := fun o => OutR l o _) (if_neg (by simp)).symm ?_
    rw [if_pos (in_ix g3), getD_ix g3, e3, andP_ok']
    exact last t.2.2.1 t4.2.2.1 r4 g4
  · rw [if_neg h46, if_neg h46, andP_ok']
    exact last t.2.2.1 t.2.2.1 r g1

/-! ### states -/
theorem rtail_q {l q : List TToken} (c : Ctx l) (h : q <:+ l) (hn : hdT 2 [] q = false) (a0 : ByteArray) (a2 : Bool) (a3 a4 : Int) (a5 : ByteArray) (a6 : Bool) (a7 : List TAct) (b0 : ByteArray) (x acc : List TRule) :
    OutR l (ref34_takeState_l11 l (ix l q) a0 a2 a3 a4 a5 a6 a7 b0 false 0 0 (strB []) false [] x acc) (pTail b0 acc q) := by
  have last : ∀ (q' : List TToken) (hb : Bool) (r : TRule), q' <:+ l → OutR l (ref34_takeState_l19 l (ix l q') a0 a2 a3 a4 a5 a6 a7 b0 hb r.1 r.2.1 r.2.2.1 r.2.2.2.1 r.2.2.2.2 x acc) (andP (pNeed 4 [125] q') fun _ q => .ok ((b0, acc, hb, r), q)) := fun q' hb r g => by
    rw [ref34_takeState_l19_eq, mark_q c g 125 (by decide)]
    simp only [Option.bind_some]
    by_cases h1 : hdT 4 [125] q' = true
    · obtain ⟨t1, q1, rfl, n1⟩ := need_yes h1
      rw [n1, andP_ok', h1, ix_cons c g]
      exact if_neg (by simp)
    · have hf : hdT 4 [125] q' = false := by simpa using h1
      rw [need_no hf, hf]
      exact ⟨_, if_pos (by simp)⟩
  rw [ref34_takeState_l11_eq, kind_q c h, hn]
  simp only [Option.bind_some]
  refine Eq.subst (motive := fun o => OutR l o _) (if_neg (by simp)).symm ?_
  rw [mark_q c h 42 (by decide)]
  simp only [Option.bind_some]
  unfold pTail pElse
  by_cases hy : hdT 4 [42] q = true
  · obtain ⟨t, r, rfl, _⟩ := need_yes hy
    have hr : r <:+ l := (List.suffix_cons t r).trans h
    rw [if_pos hy, if_pos hy, List.tail_cons, ix_cons c h]
    have ho := rtarget_q c hr 0 0
    cases hp : pTarget 0 0 r with
    | ok p =>
      obtain ⟨r1, q1⟩ := p
      rw [hp] at ho
      rw [show ref34_takeTarget l (ix l r) 0 0 (strB []) false [] = some ((r1, ix l q1, true, ()), ((), ())) from ho]
      simp only [Option.bind_some, andP_ok']
      refine Eq.subst (motive := fun o => OutR l o _) (if_neg (by simp)).symm ?_
      exact last q1 true r1 (sufk hr (goes_target 0 0 r) hp)
    | error e =>
      rw [hp] at ho
      obtain ⟨z, hz⟩ := ho
      rw [hz]
      simp only [Option.bind_some]
      exact ⟨_, if_pos (by simp)⟩
  · rw [if_neg hy, if_neg hy, andP_ok']
    exact last q false noRule h

theorem l11_b {l : List TToken} (c : Ctx l) (a0 : ByteArray) (a2 : Bool) (a3 a4 : Int) (a5 : ByteArray) (a6 : Bool) (a7 : List TAct) (b0 : ByteArray) (x : List TRule) : ∀ (k : Nat) (acc : List TRule) (q : List TToken), q <:+ l → q.length ≤ k → acc.length + k ≤ 2000000 →
    OutR l (ref34_takeState_l11 l (ix l q) a0 a2 a3 a4 a5 a6 a7 b0 false 0 0 (strB []) false [] x acc) (andP (pRules k acc q) (pTail b0))
  | 0, acc, q, h, hk, hb => by
    have : q = [] := List.length_eq_zero_iff.1 (by omega)
    subst this
    exact rtail_q c h rfl a0 a2 a3 a4 a5 a6 a7 b0 x acc
  | k + 1, acc, q, h, hk, hb => by
    unfold pRules
    by_cases hy : hdT 2 [] q = true
    · rw [if_pos hy, ref34_takeState_l11_eq, kind_q c h, hy]
      simp only [Option.bind_some, if_true]
      have ho := rrule_q c h hy
      cases hp : pRule q with
      | error e =>
        rw [hp] at ho
        obtain ⟨z, hz⟩ := ho
        rw [hz]
        simp only [Option.bind_some]
        exact ⟨_, if_pos (by simp)⟩
      | ok p =>
        obtain ⟨r, q'⟩ := p
        rw [hp] at ho
        rw [show ref34_takeRule l (ix l q) = some ((r, ix l q', true, ()), ()) from ho]
        simp only [Option.bind_some]
        have hl := okLen (goes_rule q) hp
        refine Eq.subst (motive := fun o => OutR l o _) (if_neg (by simp)).symm ?_
        rw [if_pos ⟨by omega, by decide⟩]
        exact l11_b c a0 a2 a3 a4 a5 a6 a7 b0 x k (acc ++ [r]) q' (sufk h (goes_rule q) hp) (by omega) (by rw [List.length_append]; simp only [List.length_cons, List.length_nil]; omega)
    · rw [if_neg hy]
      exact rtail_q c h (by simpa using hy) a0 a2 a3 a4 a5 a6 a7 b0 x acc

theorem rstate_q {l q : List TToken} (c : Ctx l) (h : q <:+ l) : OutR l (ref34_takeState l (ix l q)) (pState q) := by
  unfold ref34_takeState pState
  rw [kind_q c h]
  simp only [Option.bind_some]
  by_cases h1 : hdT 1 [] q = true
  rotate_left
  · have hf : hdT 1 [] q = false := by simpa using h1
    rw [need_no hf, hf]
    exact ⟨_, if_pos (by simp)⟩
  obtain ⟨t1, q1, rfl, n1⟩ := need_yes h1
  have g1 : q1 <:+ l := (List.suffix_cons t1 q1).trans h
  rw [n1, andP_ok', h1, if_pos (in_ix h), getD_ix h, ix_cons c h, mark_q c g1 123 (by decide)]
  refine Eq.subst (motive := fun o => OutR l o _) (if_neg (by simp)).symm ?_
  simp only [Option.bind_some]
  by_cases h2 : hdT 4 [123] q1 = true
  rotate_left
  · have hf : hdT 4 [123] q1 = false := by simpa using h2
    rw [need_no hf, hf]
    exact ⟨_, if_pos (by simp)⟩
  obtain ⟨t2, q2, rfl, n2⟩ := need_yes h2
  have g2 : q2 <:+ l := (List.suffix_cons t2 q2).trans g1
  have e2 : IntKind.i64.wrap (ix l (t1 :: t2 :: q2) + 2) = ix l q2 := by
    have a1 := (at_cons h).2.2
    have a2 := (at_cons g1).2.2
    have := ix_add (q := t1 :: t2 :: q2) c 2 (by omega)
    rw [show ((2 : Nat) : Int) = 2 from rfl] at this
    rw [this]
    unfold ix
    omega
  rw [n2, andP_ok', h2, e2]
  refine Eq.subst (motive := fun o => OutR l o _) (if_neg (by simp)).symm ?_
  have := g2.length_le
  have := c.len
  exact l11_b c _ _ _ _ _ _ _ t1.2.1 [] q2.length [] q2 g2 (Nat.le_refl _) (by simp only [List.length_nil]; omega)

/-! ### declarations -/
theorem rl28 {l : List TToken} (c : Ctx l) (a0 : ByteArray) (a1 a2 : Int) (n : ByteArray) (i o : Int) (x : List TDeclState) : ∀ (k : Nat) (acc : List TDeclState) (q : List TToken), q <:+ l → q.length ≤ k → acc.length + k ≤ 2000000 →
    OutR l (ref34_TakeDecl_l28 l (ix l q) a0 a1 a2 n i o x acc) (andP (pStates k acc q) fun ss q => andP (pNeed 4 [125] q) fun _ q => .ok ((n, i, o, ss), q)) := by
  have last : ∀ (acc : List TDeclState) (q : List TToken), q <:+ l → hdT 1 (L sState) q = false → OutR l (ref34_TakeDecl_l28 l (ix l q) a0 a1 a2 n i o x acc) (andP (pNeed 4 [125] q) fun _ q => .ok ((n, i, o, acc), q)) := fun acc q h hn => by
    rw [ref34_TakeDecl_l28_eq, word_q c h _ (by decide) (by decide), show L (strB [115, 116, 97, 116, 101]) = L sState from rfl, hn]
    simp only [Option.bind_some]
    refine Eq.subst (motive := fun o => OutR l o _) (if_neg (by simp)).symm ?_
    rw [mark_q c h 125 (by decide)]
    simp only [Option.bind_some]
    by_cases h1 : hdT 4 [125] q = true
    · obtain ⟨t1, q1, rfl, n1⟩ := need_yes h1
      rw [n1, andP_ok', h1, ix_cons c h]
      exact if_neg (by simp)
    · have hf : hdT 4 [125] q = false := by simpa using h1
      rw [need_no hf, hf]
      exact ⟨_, if_pos (by simp)⟩
  intro k
  induction k with
  | zero =>
    intro acc q h hk hb
    have : q = [] := List.length_eq_zero_iff.1 (by omega)
    subst this
    exact last acc [] h rfl
  | succ k ih =>
    intro acc q h hk hb
    unfold pStates
    by_cases hy : hdT 1 (L sState) q = true
    · obtain ⟨t, r, rfl, _⟩ := need_yes hy
      have hr : r <:+ l := (List.suffix_cons t r).trans h
      rw [if_pos hy, ref34_TakeDecl_l28_eq, word_q c h _ (by decide) (by decide), show L (strB [115, 116, 97, 116, 101]) = L sState from rfl, hy]
      simp only [Option.bind_some, if_true, List.tail_cons]
      rw [ix_cons c h]
      have ho := rstate_q c hr
      cases hp : pState r with
      | error e =>
        rw [hp] at ho
        obtain ⟨z, hz⟩ := ho
        rw [hz]
        simp only [Option.bind_some]
        exact ⟨_, if_pos (by simp)⟩
      | ok p =>
        obtain ⟨s, q'⟩ := p
        rw [hp] at ho
        rw [show ref34_takeState l (ix l r) = some ((s, ix l q', true, ()), ()) from ho]
        simp only [Option.bind_some]
        have hl := okLen (goes_state r) hp
        simp only [List.length_cons] at hk
        refine Eq.subst (motive := fun o => OutR l o _) (if_neg (by simp)).symm ?_
        rw [if_pos ⟨by omega, by decide⟩]
        exact ih (acc ++ [s]) q' (sufk hr (goes_state r) hp) (by omega) (by rw [List.length_append]; simp only [List.length_cons, List.length_nil]; omega)
    · rw [if_neg hy]
      exact last acc q h (by simpa using hy)

theorem reither_n {l : List TToken} (c : Ctx l) (n : Nat) (a b : ByteArray) (ha : (L a).isEmpty = false) (hb : (L b).isEmpty = false) : ref34_either l n a b = some ((if isO 1 (L a) l[n]? = true then 0 else if isO 1 (L b) l[n]? = true then 1 else -1, ()), ()) := by
  unfold ref34_either
  rw [kind_n c]
  simp only [Option.bind_some]
  by_cases h : n < l.length
  · have c1 : 0 ≤ (n : Int) ∧ (n : Int) < (l.length : Int) := ⟨by omega, by omega⟩
    rw [List.getElem?_eq_getElem h, if_pos c1, if_pos c1, Int.toNat_natCast, getD_in dToken h, toL, toL, toL]
    simp only [isO, isT, ha, hb, Bool.false_or, List.isEmpty_nil, Bool.true_or, Bool.and_true]
    by_cases h1 : l[n].1 = 1
    · simp only [decide_eq_true h1, if_true, Bool.true_and]
      split
      · rfl
      · split <;> rfl
    · simp only [decide_eq_false h1, Bool.false_and]
      rfl
  · rw [List.getElem?_eq_none (by omega)]
    rfl

theorem isO_hd {k : Int} {x : List UInt8} (q : List TokT) : isO k x q[0]? = hdT k x q := (hd_isO k x q).symm

theorem either_val {q : List TokT} {a b : List UInt8} {na nb : Int} : pEither a na b nb q = if hdT 1 a q = true then .ok (na, q.tail) else if hdT 1 b q = true then .ok (nb, q.tail) else .error q := by
  unfold pEither
  by_cases h1 : hdT 1 a q = true
  · rw [if_pos h1, if_pos h1]
  · rw [if_neg h1, if_neg h1]
    by_cases h2 : hdT 1 b q = true
    · obtain ⟨t, r, rfl, hn⟩ := need_yes h2
      rw [if_pos h2, hn]
      rfl
    · rw [if_neg h2, need_no (by simpa using h2)]
      rfl

theorem rdecl_q {l : List TToken} (c : Ctx l) : OutR l (ref34_TakeDecl l 0) (pDecl l) := by
  have h0 : l <:+ l := List.suffix_refl l
  have hcl := c.len
  have z0 : (0 : Int) = ix l l := by unfold ix; simp
  have W : ∀ k : Nat, k ≤ 7 → IntKind.i64.wrap (0 + (k : Int)) = (k : Int) := fun k hk => by rw [Int.zero_add]; exact w64 (by omega) (by omega)
  have w1 := W 1 (by omega); have w2 := W 2 (by omega); have w3 := W 3 (by omega); have w4 := W 4 (by omega); have w5 := W 5 (by omega); have w6 := W 6 (by omega); have w7 := W 7 (by omega)
  unfold ref34_TakeDecl pDecl
  rw [show (0 : Int) + 1 = 0 + ((1 : Nat) : Int) from rfl, show (0 : Int) + 2 = 0 + ((2 : Nat) : Int) from rfl, show (0 : Int) + 3 = 0 + ((3 : Nat) : Int) from rfl, show (0 : Int) + 4 = 0 + ((4 : Nat) : Int) from rfl,
    show (0 : Int) + 5 = 0 + ((5 : Nat) : Int) from rfl, show (0 : Int) + 6 = 0 + ((6 : Nat) : Int) from rfl, show (0 : Int) + 7 = 0 + ((7 : Nat) : Int) from rfl, w1, w2, w3, w4, w5, w6, w7,
    show ref34_is l 0 (strB [100, 101, 99, 111, 100, 101, 114]) = ref34_is l ((0 : Nat) : Int) (strB [100, 101, 99, 111, 100, 101, 114]) from rfl,
    is_word c 0 _ (by decide) (by decide), kind_n c 1, is_word c 2 _ (by decide) (by decide), reither_n c 3 _ _ (by decide) (by decide), is_word c 4 _ (by decide) (by decide), reither_n c 5 _ _ (by decide) (by decide), is_mark c 6 123 (by decide)]
  simp only [Option.bind_some]
  rw [isO_hd, show L (strB [100, 101, 99, 111, 100, 101, 114]) = L sDecoder from rfl]
  by_cases h1 : hdT 1 (L sDecoder) l = true
  rotate_left
  · have hf : hdT 1 (L sDecoder) l = false := by simpa using h1
    rw [need_no hf, hf]
    refine Eq.subst (motive := fun o => OutR _ o _) (if_pos (by simp)).symm ?_
    exact outr_no z0
  obtain ⟨t1, l1, rfl, n1⟩ := need_yes h1
  have g1 : l1 <:+ (t1 :: l1) := List.suffix_cons t1 l1
  rw [n1, andP_ok', h1]
  refine Eq.subst (motive := fun o => OutR _ o _) (if_neg (by simp)).symm ?_
  rw [List.getElem?_cons_succ, isO_hd]
  have i1 : ((1 : Nat) : Int) = ix (t1 :: l1) l1 := by unfold ix; simp only [List.length_cons]; omega
  by_cases h2 : hdT 1 [] l1 = true
  rotate_left
  · have hf : hdT 1 [] l1 = false := by simpa using h2
    rw [need_no hf, hf]
    refine Eq.subst (motive := fun o => OutR _ o _) (if_pos (by simp)).symm ?_
    exact outr_no i1
  obtain ⟨t2, l2, rfl, n2⟩ := need_yes h2
  rw [n2, andP_ok', h2]
  refine Eq.subst (motive := fun o => OutR _ o _) (if_neg (by simp)).symm ?_
  have i2 : ((2 : Nat) : Int) = ix (t1 :: t2 :: l2) l2 := by unfold ix; simp only [List.length_cons]; omega
  have hin : 0 ≤ ((1 : Nat) : Int) ∧ ((1 : Nat) : Int) < ((t1 :: t2 :: l2).length : Int) := by simp only [List.length_cons]; omega
  rw [if_pos hin, show (t1 :: t2 :: l2)[2]? = l2[0]? from rfl, isO_hd, show L (strB [105, 110, 112, 117, 116]) = L sInput from rfl,
    show (t1 :: t2 :: l2).getD ((1 : Nat) : Int).toNat dToken = t2 from rfl]
  by_cases h3 : hdT 1 (L sInput) l2 = true
  rotate_left
  · have hf : hdT 1 (L sInput) l2 = false := by simpa using h3
    rw [need_no hf, hf]
    refine Eq.subst (motive := fun o => OutR _ o _) (if_pos (by simp)).symm ?_
    exact outr_no i2
  obtain ⟨t3, l3, rfl, n3⟩ := need_yes h3
  rw [n3, andP_ok', h3]
  refine Eq.subst (motive := fun o => OutR _ o _) (if_neg (by simp)).symm ?_
  have i3 : ((3 : Nat) : Int) = ix (t1 :: t2 :: t3 :: l3) l3 := by unfold ix; simp only [List.length_cons]; omega
  rw [show (t1 :: t2 :: t3 :: l3)[3]? = l3[0]? from rfl, isO_hd, isO_hd, show L (strB [98, 105, 116]) = L sBit from rfl, show L (strB [98, 121, 116, 101]) = L sByte from rfl, either_val]
  have fin : ∀ (i : Int) (v : Int), (v = 0 ∨ v = 1) → i = 2 + v → ∀ (t4 : TokT) (l4 : List TokT), l3 = t4 :: l4 → OutR (t1 :: t2 :: t3 :: l3)
      (if decide (v < 0) = true then some (((t2.2.1, 0, 0, []), ((3 : Nat) : Int), false, ()), ())
        else if (!isO 1 (L (strB [111, 117, 116, 112, 117, 116])) (t1 :: t2 :: t3 :: l3)[4]?) = true then some (((t2.2.1, 0, 0, []), ((4 : Nat) : Int), false, ()), ())
        else if decide ((if isO 1 (L (strB [102, 114, 97, 109, 101])) (t1 :: t2 :: t3 :: l3)[5]? = true then (0 : Int) else if isO 1 (L (strB [112, 97, 99, 107, 101, 116])) (t1 :: t2 :: t3 :: l3)[5]? = true then 1 else -1) < 0) = true then some (((t2.2.1, 0, 0, []), ((5 : Nat) : Int), false, ()), ())
        else if (!isO 4 [123] (t1 :: t2 :: t3 :: l3)[6]?) = true then some (((t2.2.1, IntKind.i64.wrap (2 + v), IntKind.i64.wrap (5 + (if isO 1 (L (strB [102, 114, 97, 109, 101])) (t1 :: t2 :: t3 :: l3)[5]? = true then (0 : Int) else if isO 1 (L (strB [112, 97, 99, 107, 101, 116])) (t1 :: t2 :: t3 :: l3)[5]? = true then 1 else -1)), []), ((6 : Nat) : Int), false, ()), ())
        else ref34_TakeDecl_l28 (t1 :: t2 :: t3 :: l3) ((7 : Nat) : Int) (strB []) 0 0 t2.2.1 (IntKind.i64.wrap (2 + v)) (IntKind.i64.wrap (5 + (if isO 1 (L (strB [102, 114, 97, 109, 101])) (t1 :: t2 :: t3 :: l3)[5]? = true then (0 : Int) else if isO 1 (L (strB [112, 97, 99, 107, 101, 116])) (t1 :: t2 :: t3 :: l3)[5]? = true then 1 else -1))) [] [])
      (andP (pNeed 1 (L sOutput) l4) fun _ q => andP (pEither (L sFrame) 5 (L sPacket) 6 q) fun o q => andP (pNeed 4 [123] q) fun _ q => andP (pStates q.length [] q) fun ss q => andP (pNeed 4 [125] q) fun _ q => .ok ((t2.2.1, i, o, ss), q)) := by
    intro i v hv hi t4 l4 e
    subst e
    have i4 : ((4 : Nat) : Int) = ix (t1 :: t2 :: t3 :: t4 :: l4) l4 := by unfold ix; simp only [List.length_cons]; omega
    rw [if_neg (dF (by omega)), show (t1 :: t2 :: t3 :: t4 :: l4)[4]? = l4[0]? from rfl, isO_hd, show L (strB [111, 117, 116, 112, 117, 116]) = L sOutput from rfl, w64 (x := 2 + v) (by omega) (by omega), ← hi]
    by_cases h5 : hdT 1 (L sOutput) l4 = true
    rotate_left
    · have hf : hdT 1 (L sOutput) l4 = false := by simpa using h5
      rw [need_no hf, hf]
      refine Eq.subst (motive := fun o => OutR _ o _) (if_pos (by simp)).symm ?_
      exact outr_no i4
    obtain ⟨t5, l5, rfl, n5⟩ := need_yes h5
    rw [n5, andP_ok', h5]
    refine Eq.subst (motive := fun o => OutR _ o _) (if_neg (by simp)).symm ?_
    have i5 : ((5 : Nat) : Int) = ix (t1 :: t2 :: t3 :: t4 :: t5 :: l5) l5 := by unfold ix; simp only [List.length_cons]; omega
    rw [show (t1 :: t2 :: t3 :: t4 :: t5 :: l5)[5]? = l5[0]? from rfl, isO_hd, isO_hd, show L (strB [102, 114, 97, 109, 101]) = L sFrame from rfl, show L (strB [112, 97, 99, 107, 101, 116]) = L sPacket from rfl, either_val]
    have fin2 : ∀ (o : Int) (u : Int), (u = 0 ∨ u = 1) → o = 5 + u → ∀ (t6 : TokT) (l6 : List TokT), l5 = t6 :: l6 → OutR (t1 :: t2 :: t3 :: t4 :: t5 :: l5)
        (if decide (u < 0) = true then some (((t2.2.1, 0, 0, []), ((5 : Nat) : Int), false, ()), ())
          else if (!isO 4 [123] (t1 :: t2 :: t3 :: t4 :: t5 :: l5)[6]?) = true then some (((t2.2.1, i, IntKind.i64.wrap (5 + u), []), ((6 : Nat) : Int), false, ()), ())
          else ref34_TakeDecl_l28 (t1 :: t2 :: t3 :: t4 :: t5 :: l5) ((7 : Nat) : Int) (strB []) 0 0 t2.2.1 i (IntKind.i64.wrap (5 + u)) [] [])
        (andP (pNeed 4 [123] l6) fun _ q => andP (pStates q.length [] q) fun ss q => andP (pNeed 4 [125] q) fun _ q => .ok ((t2.2.1, i, o, ss), q)) := by
      intro o u hu ho t6 l6 e
      subst e
      have i6 : ((6 : Nat) : Int) = ix (t1 :: t2 :: t3 :: t4 :: t5 :: t6 :: l6) l6 := by unfold ix; simp only [List.length_cons]; omega
      rw [if_neg (dF (by omega)), show (t1 :: t2 :: t3 :: t4 :: t5 :: t6 :: l6)[6]? = l6[0]? from rfl, isO_hd, w64 (x := 5 + u) (by omega) (by omega), ← ho]
      by_cases h7 : hdT 4 [123] l6 = true
      rotate_left
      · have hf : hdT 4 [123] l6 = false := by simpa using h7
        rw [need_no hf, hf]
        refine Eq.subst (motive := fun o => OutR _ o _) (if_pos (by simp)).symm ?_
        exact outr_no i6
      obtain ⟨t7, l7, rfl, n7⟩ := need_yes h7
      rw [n7, andP_ok', h7]
      refine Eq.subst (motive := fun o => OutR _ o _) (if_neg (by simp)).symm ?_
      have i7 : ((7 : Nat) : Int) = ix (t1 :: t2 :: t3 :: t4 :: t5 :: t6 :: t7 :: l7) l7 := by unfold ix; simp only [List.length_cons]; omega
      have g7 : l7 <:+ (t1 :: t2 :: t3 :: t4 :: t5 :: t6 :: t7 :: l7) := ⟨[t1, t2, t3, t4, t5, t6, t7], rfl⟩
      rw [i7]
      have := g7.length_le
      exact rl28 c _ _ _ t2.2.1 i o [] l7.length [] l7 g7 (Nat.le_refl _) (by simp only [List.length_nil]; omega)
    by_cases ha : hdT 1 (L sFrame) l5 = true
    · obtain ⟨t6, l6, rfl, _⟩ := hdT_cons ha
      rw [if_pos ha, if_pos ha, andP_ok', List.tail_cons]
      exact fin2 5 0 (.inl rfl) rfl t6 l6 rfl
    · rw [if_neg ha, if_neg ha]
      by_cases hb : hdT 1 (L sPacket) l5 = true
      · obtain ⟨t6, l6, rfl, _⟩ := hdT_cons hb
        rw [if_pos hb, if_pos hb, andP_ok', List.tail_cons]
        exact fin2 6 1 (.inr rfl) rfl t6 l6 rfl
      · rw [if_neg hb, if_neg hb, if_pos (dT (by omega))]
        exact outr_no i5
  by_cases ha : hdT 1 (L sBit) l3 = true
  · obtain ⟨t4, l4, e, _⟩ := hdT_cons ha
    rw [if_pos ha, if_pos ha, andP_ok', e, List.tail_cons, ← e]
    exact fin 2 0 (.inl rfl) rfl t4 l4 e
  · rw [if_neg ha, if_neg ha]
    by_cases hb : hdT 1 (L sByte) l3 = true
    · obtain ⟨t4, l4, e, _⟩ := hdT_cons hb
      rw [if_pos hb, if_pos hb, andP_ok', e, List.tail_cons, ← e]
      exact fin 3 1 (.inr rfl) rfl t4 l4 e
    · rw [if_neg hb, if_neg hb, if_pos (dT (by omega))]
      exact outr_no i3

theorem rline_b {l e : List TToken} (c : Ctx l) (h : e <:+ l) : ref34_Line l (ix l e) = some ((lineV l e, ()), ()) := by
  have hl := c.len
  unfold ref34_Line
  cases e with
  | nil =>
    have c1 : ¬ ix l [] < (l.length : Int) := by unfold ix; simp
    rw [if_neg (dF c1)]
    by_cases h0 : l.length = 0
    · have : l = [] := List.length_eq_zero_iff.1 h0
      subst this
      rfl
    · have e1 : IntKind.i64.wrap ((l.length : Int) - 1) = ((l.length - 1 : Nat) : Int) := by rw [w64 (by omega) (by omega)]; omega
      rw [if_pos (dT (show (l.length : Int) > 0 by omega)), e1, if_pos ⟨by omega, by omega⟩, Int.toNat_natCast, getD_in dToken (by omega)]
      unfold lineV
      have : l.getLast? = some l[l.length - 1] := by rw [List.getLast?_eq_getElem?, List.getElem?_eq_getElem (by omega)]
      rw [this]
  | cons t r =>
    rw [if_pos (dT (in_ix h).2), if_pos (in_ix h), getD_ix h]
    rfl

theorem rparse_b (s : ByteArray) : ref34_Parse s = some (((parseV (L s)).1, (parseV (L s)).2.1, (parseV (L s)).2.2, ()), ()) := by
  unfold ref34_Parse parseV
  have hlen := tokOut_length s
  rw [ref05_Tokens_b]
  simp only [Option.bind_some]
  cases h : tokV (L s) with
  | error e =>
    simp only [tokOut]
    refine (if_pos (nT (tokV_err h))).trans ?_
    rfl
  | ok l =>
    rw [h] at hlen
    simp only [tokOut, List.nil_append] at hlen ⊢
    refine (if_neg (nF rfl)).trans ?_
    have c : Ctx l := ⟨hlen, tokV_good h⟩
    have ho := rdecl_q c
    have g := goes_decl l
    unfold allV
    cases hp : pDecl l with
    | error e =>
      rw [hp] at ho g
      obtain ⟨z, hz⟩ := ho
      have hs : e <:+ l := g
      rw [hz]
      simp only [Option.bind_some]
      refine (if_pos (by simp)).trans ?_
      rw [rline_b c hs]
      rfl
    | ok p =>
      obtain ⟨d, q⟩ := p
      have hk := decl_len hp hlen
      rw [hp] at ho g
      have hs : q <:+ l := g.1
      rw [show ref34_TakeDecl l 0 = some ((d, ix l q, true, ()), ()) from ho]
      simp only [Option.bind_some]
      refine (if_neg (by simp)).trans ?_
      cases q with
      | nil =>
        have c1 : ¬ ix l [] < (l.length : Int) := by unfold ix; simp
        refine (if_neg (dF c1)).trans ?_
        rw [wcheck_eq d hk]
        simp only [Option.bind_some]
        by_cases hc : checkV d = 0
        · rw [if_neg (nF hc), if_pos hc]
        · rw [if_pos (nT hc), if_neg hc]
          rfl
      | cons t r =>
        refine (if_pos (dT (in_ix hs).2)).trans ?_
        rw [rline_b c hs]
        rfl

theorem DeclParses_true (s : ByteArray) : law34_DeclParses s = some ((true, ()), ()) := by
  unfold law34_DeclParses
  rw [awake34_b]
  simp only [Option.bind_some]
  split
  · rfl
  · rw [parse_b, rparse_b]
    simp only [Option.bind_some]
    have hd : okDecl (parseV (L s)).1 := by
      by_cases he : (parseV (L s)).2.2 = 0
      · exact (parseV_ok s he).2
      · have hn : (parseV (L s)).1 = noDecl := by
          rcases parseV_cases (L s) with h1 | h1
          · exact h1.2
          · exact absurd h1.1 he
        rw [hn]
        exact ⟨by decide, by simp [noDecl]⟩
    rw [sameD_refl _ hd]
    simp

end Go.Proofs.YtjgjbdnjjepibaaGreatDoor
end
