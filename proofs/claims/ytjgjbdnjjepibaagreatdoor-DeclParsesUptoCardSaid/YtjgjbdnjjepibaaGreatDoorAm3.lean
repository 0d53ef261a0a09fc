/-
An abstract machine over plain values, and that what it computes is what the translated program does; rows out of it. No condition.
-/
import Derived.Below
import Derived.Lib.UnsafeStr
import Derived.Lib.ItoaNum
import Derived.Test.YtjgjbdnjjepibaaGreatDoorAm1
import Derived.Test.YtjgjbdnjjepibaaGreatDoorAm2
set_option linter.unusedVariables false
set_option linter.unusedSimpArgs false
set_option linter.unusedSectionVars false

section
/-
AM: tables of decoders in plain Lean: the cell for a symbol, the size, the error of a table. No condition.
-/
namespace Go.AM
open Go

abbrev ActT : Type := Int × Int
abbrev CellT : Type := Int × Int × Int × List ActT
abbrev TableT : Type := ByteArray × Int × Int × List (List CellT)

def hitC (x : Int) (c : CellT) : Bool := decide (c.1 ≤ x) && decide (x ≤ c.2.1)

def cellAt (x : Int) (cs : List CellT) : Int × List ActT × Bool := match cs.find? (hitC x) with
  | some c => (c.2.2.1, c.2.2.2, true)
  | none => (0, [], false)

def nextV (rows : List (List CellT)) (i x : Int) : Int × List ActT × Bool := if i < 0 then (0, [], false) else match rows[i.toNat]? with
  | some cs => cellAt x cs
  | none => (0, [], false)

def okCell (c : CellT) : Prop := c.2.2.2.length ≤ 1048576
def okRow (cs : List CellT) : Prop := cs.length ≤ 1048576 ∧ ∀ c ∈ cs, okCell c
def okTable (t : TableT) : Prop := t.2.2.2.length ≤ 1048576 ∧ ∀ cs ∈ t.2.2.2, okRow cs

theorem hitC_iff {x : Int} {c : CellT} : hitC x c = true ↔ c.1 ≤ x ∧ x ≤ c.2.1 := by
  unfold hitC; simp

def sizeV (rows : List (List CellT)) : Nat := (rows.map List.length).sum

def topI (port : Int) : Nat := if port = 2 then 1 else 255

def cellE (top n first : Int) (c : CellT) : Int :=
  if 64 < c.2.2.2.length then 6
  else if c.1 = first ∧ c.1 ≤ c.2.1 ∧ c.2.1 ≤ top then
    if 0 ≤ c.2.2.1 ∧ c.2.2.1 < n then if c.2.2.2.all (fun a => decide (actV a = 0)) = true then 0 else 2 else 8
  else 7

def rowE (top n : Int) : Int → List CellT → Int
  | first, [] => if first = top + 1 then 0 else 14
  | first, c :: r => if cellE top n first c = 0 then rowE top n (c.2.1 + 1) r else cellE top n first c

def tableE (top n : Int) : List (List CellT) → Int
  | [] => 0
  | cs :: r => if rowE top n 0 cs = 0 then tableE top n r else rowE top n 0 cs

def checkT (t : TableT) : Int :=
  if nameB (L t.1) = true then
    if (t.2.1 = 2 ∨ t.2.1 = 3) ∧ (t.2.2.1 = 5 ∨ t.2.2.1 = 6) then
      if t.2.2.2.length = 0 ∨ 32 < t.2.2.2.length then 6 else tableE (topI t.2.1) t.2.2.2.length t.2.2.2
    else 1
  else 4

/-! ### compiled tables -/
/-- Where the rules lead: at most so many of them. -/
def followV (ss : List StateT) (x : Int) : Nat → Int → List ActT → Int × List ActT
  | 0, s, l => (s, l)
  | k + 1, s, l =>
    if (matchV ss s x).1.2.2.2.1 = true then followV ss x k (optI (findN ss (matchV ss s x).1.2.2.1)) (l ++ (matchV ss s x).1.2.2.2.2)
    else (optI (findN ss (matchV ss s x).1.2.2.1), l ++ (matchV ss s x).1.2.2.2.2)

def resF (ss : List StateT) (i x : Nat) : Int × List ActT := followV ss x (ss.length + 1) i []

/-- The next symbol's cell: the last one is widened, or a new one begins. -/
def addC (out : List CellT) (x : Nat) (r : Int × List ActT) : List CellT := match out.getLast? with
  | some c => if c.2.2 = r then out.dropLast ++ [(c.1, (x : Int), r)] else out ++ [((x : Int), (x : Int), r)]
  | none => out ++ [((x : Int), (x : Int), r)]

/-- The cells of a state from a symbol on; none if one has too many actions. -/
def rowF (f : Nat → Int × List ActT) : Nat → Nat → List CellT → Option (List CellT)
  | 0, _, out => some out
  | k + 1, x, out => if 64 < (f x).2.length then none else rowF f k (x + 1) (addC out x (f x))

def rowsF (ss : List StateT) (top : Nat) : Nat → Nat → List (List CellT) → Option (List (List CellT))
  | 0, _, out => some out
  | k + 1, i, out => match rowF (resF ss i) (top + 1) 0 [] with
    | some cs => rowsF ss top k (i + 1) (out ++ [cs])
    | none => none

noncomputable def compileV (d : DeclT) : TableT × Int :=
  if ccheckV d = 0 then match rowsF d.2.2.2 (topV d) d.2.2.2.length 0 [] with
    | some rows => ((d.1, d.2.1, d.2.2.1, rows), 0)
    | none => ((strB [], 0, 0, []), 6)
  else ((strB [], 0, 0, []), ccheckV d)

theorem last_set {α : Type} {l : List α} {c v : α} (h : l.getLast? = some c) : l.set (l.length - 1) v = l.dropLast ++ [v] ∧ l[l.length - 1]? = some c ∧ 0 < l.length := by
  rcases List.eq_nil_or_concat l with rfl | ⟨p, a, rfl⟩
  · simp at h
  · simp at h
    subst h
    simp

end Go.AM
end

section
/-
AM: a table of a small bulk is short in all its parts; so is a compiled one. No condition.
-/
namespace Go.AM
open Go

abbrev kCell : U := .cons (.int .i64) (.cons (.int .i64) (.cons (.int .i64) (.sl kAct)))
abbrev kTable : U := .cons .str (.cons (.int .i64) (.cons (.int .i64) (.sl (.sl kCell))))

theorem okCell_bk (c : CellT) (h : bk kCell c ≤ 1048576) : okCell c := by
  obtain ⟨a, b, n, l⟩ := c
  have h1 := len_le_bk (e := kAct) (fun x => by simp only [bk]; omega) l
  have e1 : bk kCell (a, b, n, l) = 1 + (1 + (1 + ((l.map (bk kAct)).sum + 1))) := rfl
  rw [e1] at h
  unfold okCell
  simp only
  omega

theorem okRow_bk (l : List CellT) (h : bk (.sl kCell) l ≤ 1048576) : okRow l := by
  have h1 := len_le_bk (e := kCell) (fun x => by simp only [bk]; omega) l
  have e1 : bk (.sl kCell) l = (l.map (bk kCell)).sum + 1 := rfl
  rw [e1] at h
  refine ⟨by omega, fun x hx => okCell_bk x ?_⟩
  have h2 := mem_le_bk (e := kCell) hx
  omega

theorem okTable_bk (t : TableT) (h : bk kTable t ≤ 1048576) : okTable t := by
  obtain ⟨a, i, o, l⟩ := t
  have h1 := len_le_bk (e := .sl kCell) (fun x => by simp only [bk]; omega) l
  have e1 : bk kTable (a, i, o, l) = a.size + 1 + (1 + (1 + ((l.map (bk (.sl kCell))).sum + 1))) := rfl
  rw [e1] at h
  refine ⟨by simp only; omega, fun x hx => okRow_bk x ?_⟩
  have h2 := mem_le_bk (e := .sl kCell) hx
  simp only at h2
  omega

theorem addC_mem {out : List CellT} {x : Nat} {r : Int × List ActT} {c : CellT} (h : c ∈ addC out x r) : c ∈ out ∨ c.2.2 = r := by
  unfold addC at h
  split at h
  · split at h
    · rcases List.mem_append.1 h with q | q
      · exact .inl ((List.dropLast_sublist out).subset q)
      · simp at q; subst q; exact .inr rfl
    · rcases List.mem_append.1 h with q | q
      · exact .inl q
      · simp at q; subst q; exact .inr rfl
  · rcases List.mem_append.1 h with q | q
    · exact .inl q
    · simp at q; subst q; exact .inr rfl

theorem addC_length (out : List CellT) (x : Nat) (r : Int × List ActT) : (addC out x r).length ≤ out.length + 1 := by
  unfold addC
  split
  · split
    · simp
    · simp
  · simp

theorem rowF_ok (f : Nat → Int × List ActT) : ∀ (c x : Nat) (out cs : List CellT), rowF f c x out = some cs → (∀ q ∈ out, q.2.2.2.length ≤ 64) → cs.length ≤ out.length + c ∧ ∀ q ∈ cs, q.2.2.2.length ≤ 64 := by
  intro c
  induction c with
  | zero => intro x out cs h ho; cases h; exact ⟨by omega, ho⟩
  | succ c ih =>
    intro x out cs h ho
    unfold rowF at h
    split at h
    · cases h
    · rename_i hb
      have hl := addC_length out x (f x)
      obtain ⟨h1, h2⟩ := ih (x + 1) _ cs h (fun q hq => by
        rcases addC_mem hq with e | e
        · exact ho q e
        · rw [e]; omega)
      exact ⟨by omega, h2⟩

theorem rowsF_ok (ss : List StateT) (top : Nat) (ht : top ≤ 255) : ∀ (c i : Nat) (out rows : List (List CellT)), rowsF ss top c i out = some rows → (∀ cs ∈ out, okRow cs) → rows.length = out.length + c ∧ ∀ cs ∈ rows, okRow cs := by
  intro c
  induction c with
  | zero => intro i out rows h ho; cases h; exact ⟨by omega, ho⟩
  | succ c ih =>
    intro i out rows h ho
    unfold rowsF at h
    split at h
    · rename_i cs hcs
      obtain ⟨h1, h2⟩ := rowF_ok _ _ _ _ _ hcs (fun q hq => by simp at hq)
      obtain ⟨h3, h4⟩ := ih (i + 1) _ rows h (fun q hq => by
        rcases List.mem_append.1 hq with e | e
        · exact ho q e
        · simp at e; subst e
          exact ⟨by simp at h1; omega, fun c hc => by have := h2 c hc; unfold okCell; omega⟩)
      exact ⟨by simp at h3; omega, h4⟩
    · cases h

theorem compileV_ok (d : DeclT) (h : okDecl d) (ht : topV d ≤ 255) : okTable (compileV d).1 := by
  unfold compileV
  split
  · split
    · rename_i rows hr
      obtain ⟨h1, h2⟩ := rowsF_ok _ _ ht _ _ _ _ hr (fun q hq => by simp at hq)
      have := h.1
      exact ⟨by simp at h1; show rows.length ≤ _; omega, h2⟩
    · exact ⟨by simp, fun q hq => by simp at hq⟩
  · exact ⟨by simp, fun q hq => by simp at hq⟩

end Go.AM
end

section
/-
AM: the cells of a compiled table: without a gap, each symbol in the cell of its result. No condition.
-/
namespace Go.AM
open Go

def SegC : Int → List CellT → Int → Prop
  | a, [], b => a = b
  | a, c :: r, b => c.1 = a ∧ c.1 ≤ c.2.1 ∧ SegC (c.2.1 + 1) r b

theorem SegC.app : ∀ {p q : List CellT} {a b : Int}, SegC a (p ++ q) b ↔ ∃ m, SegC a p m ∧ SegC m q b
  | [], q, a, b => by simp [SegC]
  | c :: p, q, a, b => by
    simp only [List.cons_append, SegC, SegC.app (p := p)]
    constructor
    · rintro ⟨h1, h2, m, h3, h4⟩; exact ⟨m, ⟨h1, h2, h3⟩, h4⟩
    · rintro ⟨m, ⟨h1, h2, h3⟩, h4⟩; exact ⟨h1, h2, m, h3, h4⟩

structure RowInv (f : Nat → Int × List ActT) (x : Nat) (out : List CellT) : Prop where
  seg : SegC 0 out x
  val : ∀ c ∈ out, ∀ y : Nat, hitC y c = true → c.2.2 = f y

theorem rowInv_add {f : Nat → Int × List ActT} {x : Nat} {out : List CellT} (h : RowInv f x out) : RowInv f (x + 1) (addC out x (f x)) := by
  have new : RowInv f (x + 1) (out ++ [((x : Int), (x : Int), f x)]) := by
    refine ⟨SegC.app.2 ⟨x, h.seg, rfl, Int.le_refl _, by show (x : Int) + 1 = ((x + 1 : Nat) : Int); omega⟩, fun c hc y hy => ?_⟩
    rcases List.mem_append.1 hc with q | q
    · exact h.val c q y hy
    · simp at q
      subst q
      have := hitC_iff.1 hy
      have e : y = x := by simp only at this; omega
      rw [e]
  rcases List.eq_nil_or_concat out with rfl | ⟨p, c, rfl⟩
  · unfold addC; simpa using new
  · rw [List.concat_eq_append] at h new ⊢
    have hl : (p ++ [c]).getLast? = some c := by simp
    unfold addC
    rw [hl]
    simp only
    by_cases e : c.2.2 = f x
    · rw [if_pos e]
      obtain ⟨m, s1, s2, s3, s4⟩ := SegC.app.1 h.seg
      have s4' : c.2.1 + 1 = (x : Int) := s4
      refine ⟨?_, fun c' hc y hy => ?_⟩
      · rw [List.dropLast_concat]
        exact SegC.app.2 ⟨m, s1, s2, by show c.1 ≤ (x : Int); omega, by show (x : Int) + 1 = ((x + 1 : Nat) : Int); omega⟩
      · rw [List.dropLast_concat] at hc
        rcases List.mem_append.1 hc with q | q
        · exact h.val c' (by simp [q]) y hy
        · simp at q
          subst q
          have hy' := hitC_iff.1 hy
          simp only at hy' ⊢
          by_cases ey : y = x
          · rw [ey]
          · rw [← e]
            exact h.val c (by simp) y (hitC_iff.2 ⟨hy'.1, by omega⟩)
    · rw [if_neg e]; exact new

theorem rowF_inv {f : Nat → Int × List ActT} : ∀ (c x : Nat) (out cs : List CellT), rowF f c x out = some cs → RowInv f x out → RowInv f (x + c) cs := by
  intro c
  induction c with
  | zero => intro x out cs h hi; cases h; exact hi
  | succ c ih =>
    intro x out cs h hi
    unfold rowF at h
    split at h
    · cases h
    · have := ih (x + 1) _ cs h (rowInv_add hi)
      rwa [show x + 1 + c = x + (c + 1) by omega] at this

theorem SegC.find : ∀ {cs : List CellT} {a b : Int}, SegC a cs b → ∀ y : Int, a ≤ y → y < b → ∃ c ∈ cs, hitC y c = true
  | [], a, b, h, y, h1, h2 => by have : a = b := h; omega
  | c :: r, a, b, ⟨h1, h2, h3⟩, y, h4, h5 => by
    by_cases q : y ≤ c.2.1
    · exact ⟨c, by simp, hitC_iff.2 ⟨by omega, q⟩⟩
    · obtain ⟨c', hc, hh⟩ := SegC.find h3 y (by omega) h5
      exact ⟨c', by simp [hc], hh⟩

theorem RowInv.cell {f : Nat → Int × List ActT} {x : Nat} {cs : List CellT} (h : RowInv f x cs) (y : Nat) (hy : y < x) : cellAt y cs = ((f y).1, (f y).2, true) := by
  obtain ⟨c, hc, hh⟩ := h.seg.find y (by omega) (by omega)
  unfold cellAt
  cases e : cs.find? (hitC (y : Int)) with
  | none =>
    rw [List.find?_eq_none] at e
    exact absurd hh (e c hc)
  | some c' =>
    have := h.val c' (List.mem_of_find?_eq_some e) y (List.find?_some e)
    simp only [this]

theorem rowsF_get (ss : List StateT) (top : Nat) : ∀ (c i : Nat) (out rows : List (List CellT)), rowsF ss top c i out = some rows → out.length = i →
    (∀ j, j < i → rows[j]? = out[j]?) ∧ ∀ j, i ≤ j → j < i + c → ∃ cs, rows[j]? = some cs ∧ rowF (resF ss j) (top + 1) 0 [] = some cs := by
  intro c
  induction c with
  | zero => intro i out rows h hl; cases h; exact ⟨fun _ _ => rfl, fun j h1 h2 => by omega⟩
  | succ c ih =>
    intro i out rows h hl
    unfold rowsF at h
    split at h
    · rename_i cs hcs
      obtain ⟨h1, h2⟩ := ih (i + 1) _ rows h (by simp [hl])
      refine ⟨fun j hj => ?_, fun j hj1 hj2 => ?_⟩
      · rw [h1 j (by omega), List.getElem?_append_left (by omega)]
      · by_cases e : j = i
        · subst e
          refine ⟨cs, ?_, hcs⟩
          rw [h1 j (by omega), List.getElem?_append_right (by omega), hl]
          simp
        · exact h2 j (by omega) (by omega)
    · cases h

/-- The table's cell for a symbol is where the rules lead. -/
theorem compiled_next {ss : List StateT} {top : Nat} {rows : List (List CellT)} (h : rowsF ss top ss.length 0 [] = some rows) (i y : Nat) (hi : i < ss.length) (hy : y ≤ top) : nextV rows i y = ((resF ss i y).1, (resF ss i y).2, true) := by
  obtain ⟨_, h2⟩ := rowsF_get ss top _ 0 [] rows h rfl
  obtain ⟨cs, h3, h4⟩ := h2 i (Nat.zero_le _) (by omega)
  have hv := rowF_inv _ _ _ _ h4 ⟨rfl, fun c hc => by simp at hc⟩
  unfold nextV
  rw [if_neg (by omega), show rows[(i : Int).toNat]? = some cs from h3]
  exact hv.cell y (by omega)

end Go.AM
end

section
/-
AM: compiled tables are valid, their adjacent cells differ. No condition.
-/
namespace Go.AM
open Go

def AdjN {α : Type} : List α → Prop
  | a :: b :: r => a ≠ b ∧ AdjN (b :: r)
  | _ => True

theorem AdjN.snoc {α : Type} : ∀ {l : List α} {r : α}, AdjN l → (∀ a, l.getLast? = some a → a ≠ r) → AdjN (l ++ [r])
  | [], _, _, _ => trivial
  | [a], r, _, h => ⟨h a rfl, trivial⟩
  | a :: b :: l, r, ⟨h1, h2⟩, h => ⟨h1, AdjN.snoc (l := b :: l) h2 (fun c hc => h c (by simpa using hc))⟩

theorem AdjN.get {α : Type} : ∀ {l : List α} {k : Nat} {a b : α}, AdjN l → l[k]? = some a → l[k + 1]? = some b → a ≠ b
  | x :: y :: l, 0, a, b, ⟨h1, _⟩, ha, hb => by simp at ha hb; subst ha; subst hb; exact h1
  | x :: y :: l, k + 1, a, b, ⟨_, h2⟩, ha, hb => AdjN.get (l := y :: l) (k := k) h2 (by simpa using ha) (by simpa using hb)
  | [x], k, a, b, _, _, hb => by simp at hb
  | [], k, a, b, _, ha, _ => by simp at ha

def valsC (out : List CellT) : List (Int × List ActT) := out.map (·.2.2)

theorem adj_add {out : List CellT} (x : Nat) (r : Int × List ActT) (h : AdjN (valsC out)) : AdjN (valsC (addC out x r)) := by
  rcases List.eq_nil_or_concat out with rfl | ⟨p, c, rfl⟩
  · unfold addC; simp [valsC, AdjN]
  · rw [List.concat_eq_append] at h ⊢
    have hl : (p ++ [c]).getLast? = some c := by simp
    unfold addC
    rw [hl]
    simp only
    by_cases e : c.2.2 = r
    · rw [if_pos e, List.dropLast_concat]
      have q : valsC (p ++ [(c.1, (x : Int), r)]) = valsC (p ++ [c]) := by simp [valsC, e]
      rw [q]; exact h
    · rw [if_neg e]
      have q : valsC (p ++ [c] ++ [((x : Int), (x : Int), r)]) = valsC (p ++ [c]) ++ [r] := by simp [valsC]
      rw [q]
      refine h.snoc (fun a ha => ?_)
      simp [valsC] at ha
      rw [← ha]; exact e

theorem rowF_adj {f : Nat → Int × List ActT} : ∀ (c x : Nat) (out cs : List CellT), rowF f c x out = some cs → AdjN (valsC out) → AdjN (valsC cs) := by
  intro c
  induction c with
  | zero => intro x out cs h hi; cases h; exact hi
  | succ c ih =>
    intro x out cs h hi
    unfold rowF at h
    split at h
    · cases h
    · exact ih (x + 1) _ cs h (adj_add x _ hi)

theorem SegC.le : ∀ {cs : List CellT} {a b : Int}, SegC a cs b → a ≤ b
  | [], a, b, h => by have : a = b := h; omega
  | c :: r, a, b, ⟨h1, h2, h3⟩ => by have := SegC.le h3; omega

theorem rowE_zero {top n : Int} : ∀ {cs : List CellT} {a : Int}, SegC a cs (top + 1) → (∀ c ∈ cs, c.2.2.2.length ≤ 64 ∧ (0 ≤ c.2.2.1 ∧ c.2.2.1 < n) ∧ ∀ q ∈ c.2.2.2, actV q = 0) → rowE top n a cs = 0
  | [], a, h, _ => by have : a = top + 1 := h; exact if_pos this
  | c :: r, a, ⟨h1, h2, h3⟩, h => by
    obtain ⟨k1, k2, k3⟩ := h c (by simp)
    have hle := SegC.le h3
    have e : cellE top n a c = 0 := by
      unfold cellE
      rw [if_neg (by omega), if_pos ⟨h1, h2, by omega⟩, if_pos k2, if_pos (List.all_eq_true.2 fun q hq => decide_eq_true (k3 q hq))]
    show (if cellE top n a c = 0 then rowE top n (c.2.1 + 1) r else _) = 0
    rw [if_pos e]
    exact rowE_zero h3 (fun c' hc => h c' (by simp [hc]))

theorem match_target {d : DeclT} (h : checkV d = 0) {i : Nat} {x : Int} (hm : (matchV d.2.2.2 i x).2 = true) : targetV d.2.2.2 (matchV d.2.2.2 i x).1 = 0 := by
  obtain ⟨_, _, _, hs⟩ := checkV_zero.1 h
  unfold matchV at hm ⊢
  rw [if_neg (by omega)] at hm ⊢
  cases e : d.2.2.2[(i : Int).toNat]? with
  | none => rw [e] at hm; simp at hm
  | some s =>
    rw [e] at hm
    simp only at hm ⊢
    have e' : d.2.2.2[i]? = some s := e
    obtain ⟨_, _, _, hr, he⟩ := stateE_zero.1 (hs i s e')
    unfold ruleR at hm ⊢
    cases f : s.2.1.find? (hitB x) with
    | some r => exact ruleE_target (hr r (List.mem_of_find?_eq_some f))
    | none =>
      rw [f] at hm
      simp only at hm ⊢
      by_cases q : s.2.2.1 = true
      · rw [if_pos q]; exact elseE_target he q
      · rw [if_neg q] at hm; simp at hm

theorem target_acts {ss : List StateT} {r : RuleT} (h : targetV ss r = 0) : ∀ a ∈ r.2.2.2.2, actV a = 0 := by
  unfold targetV at h
  split at h
  · cases h
  · split at h
    · cases h
    · rw [errL_zero] at h
      intro a ha
      exact h _ (List.mem_map_of_mem ha)

theorem follow_ok {d : DeclT} (g : GoodD d) {x : Nat} (hx : x ≤ topV d) : ∀ (c s : Nat) (l : List ActT), s < d.2.2.2.length → (∀ a ∈ l, actV a = 0) →
    (0 ≤ (followV d.2.2.2 x c s l).1 ∧ (followV d.2.2.2 x c s l).1 < (d.2.2.2.length : Int)) ∧ ∀ a ∈ (followV d.2.2.2 x c s l).2, actV a = 0 := by
  intro c
  induction c with
  | zero => intro s l hs hl; exact ⟨⟨by simp [followV], by simp [followV]; omega⟩, hl⟩
  | succ c ih =>
    intro s l hs hl
    have hok : (matchV d.2.2.2 s x).2 = true := by
      have := g.mis s x hs hx
      unfold misP at this
      simpa using this
    obtain ⟨j, hj⟩ := match_found g.check hok
    have ht := target_acts (match_target g.check hok)
    have hl' : ∀ a ∈ l ++ (matchV d.2.2.2 s x).1.2.2.2.2, actV a = 0 := fun a ha => by
      rcases List.mem_append.1 ha with q | q
      · exact hl a q
      · exact ht a q
    unfold followV
    rw [hj]
    split
    · exact ih j _ (findN_lt hj) hl'
    · have := findN_lt hj
      exact ⟨⟨by simp [optI], by simp [optI]; omega⟩, hl'⟩

end Go.AM
end

section
/-
AM: what a declared decoder does with events, in plain Lean: by its table, by its rules. No condition.
-/
namespace Go.AM
open Go

abbrev EvT : Type := Int × Int × Int × Int × Int × ByteArray × Int
/-- The collected bytes, and the From of the first of them. -/
abbrev Core : Type := ByteArray × Int

def emptyB (s : ByteArray) : Bool := s.toList == (strB []).toList

def xorI (x y : Int) : Int := IntKind.i64.wrap (BitVec.ofInt 64 x ^^^ BitVec.ofInt 64 y).toNat

def fromC (e : EvT) (c : Core) : Int := if emptyB c.1 = true then e.2.1 else c.2

def colC (e : EvT) (b : Int) (c : Core) : Core := if 4096 ≤ c.1.size then c else (c.1 ++ strOfBytes [IntKind.u8.wrap b], fromC e c)

def evC (o : Int) (e : EvT) (v f : Int) (c : Core) : EvT := (o, fromC e c, e.2.2.1, v, 0, c.1, f)

def core0 : Core := (strB [], 0)

def actC (o : Int) (e : EvT) (c : Core) (a : ActT) : Core × List EvT :=
  if a.1 = 1 then (core0, [])
  else if a.1 = 2 then (colC e e.2.2.2.1 c, [])
  else if a.1 = 3 then (colC e (xorI e.2.2.2.1 a.2) c, [])
  else if a.1 = 4 then (colC e a.2 c, [])
  else if a.1 = 5 then (core0, [evC o e a.2 0 c])
  else if a.1 = 6 then (core0, [evC o e 0 a.2 c])
  else (c, [])

def doC (o : Int) (e : EvT) : Core → List ActT → Core × List EvT
  | c, [] => (c, [])
  | c, a :: l => ((doC o e (actC o e c a).1 l).1, (actC o e c a).2 ++ (doC o e (actC o e c a).1 l).2)

theorem doC_append (o : Int) (e : EvT) : ∀ (l m : List ActT) (c : Core), doC o e c (l ++ m) = ((doC o e (doC o e c l).1 m).1, (doC o e c l).2 ++ (doC o e (doC o e c l).1 m).2)
  | [], m, c => by simp [doC]
  | a :: l, m, c => by simp [doC, doC_append o e l m, List.append_assoc]

theorem actC_len (o : Int) (e : EvT) (c : Core) (a : ActT) : (actC o e c a).2.length ≤ 1 := by
  unfold actC; repeat' split
  all_goals simp

theorem doC_len (o : Int) (e : EvT) : ∀ (l : List ActT) (c : Core), (doC o e c l).2.length ≤ l.length
  | [], c => by simp [doC]
  | a :: l, c => by
    have h1 := actC_len o e c a
    have h2 := doC_len o e l (actC o e c a).1
    simp only [doC, List.length_append, List.length_cons]; omega

theorem colC_size (e : EvT) (b : Int) (c : Core) (h : c.1.size ≤ 4096) : (colC e b c).1.size ≤ 4096 := by
  unfold colC
  split
  · exact h
  · have : (strOfBytes [IntKind.u8.wrap b]).size = 1 := rfl
    simp only [ByteArray.size_append]; omega

theorem actC_size (o : Int) (e : EvT) (c : Core) (a : ActT) (h : c.1.size ≤ 4096) : (actC o e c a).1.1.size ≤ 4096 := by
  have h0 : core0.1.size ≤ 4096 := by decide
  unfold actC; repeat' split
  all_goals first | exact h0 | exact colC_size _ _ _ h | exact h

theorem doC_size (o : Int) (e : EvT) : ∀ (l : List ActT) (c : Core), c.1.size ≤ 4096 → (doC o e c l).1.1.size ≤ 4096
  | [], c, h => h
  | a :: l, c, h => doC_size o e l _ (actC_size o e c a h)

/-- Two standings that differ in nothing that is read. -/
def CEq (c d : Core) : Prop := c.1 = d.1 ∧ (emptyB c.1 = false → c.2 = d.2)

theorem CEq.refl (c : Core) : CEq c c := ⟨rfl, fun _ => rfl⟩

theorem CEq.from {c d : Core} (h : CEq c d) (e : EvT) : fromC e c = fromC e d := by
  unfold fromC
  rw [← h.1]
  cases q : emptyB c.1 with
  | true => rfl
  | false => simpa using h.2 q

/-! ### events -/
def validV (e : EvT) : Bool :=
  if e.1 < 1 ∨ 8 < e.1 then false
  else if e.2.1 < 0 ∨ e.2.2.1 < e.2.1 ∨ 1099511627776 < e.2.2.1 then false
  else if e.2.2.2.1 < -9007199254740992 ∨ 9007199254740992 < e.2.2.2.1 ∨ e.2.2.2.2.1 < -9007199254740992 ∨ 9007199254740992 < e.2.2.2.2.1 then false
  else decide ((e.2.2.2.2.2.1.size : Int) ≤ 4096 ∧ 0 ≤ e.2.2.2.2.2.2 ∧ e.2.2.2.2.2.2 ≤ 12)

/-- A state: whether an event was accepted, the From and To of the last one, the current state, what is collected. -/
structure Sig where
  ph : Int
  prev : Int
  last : Int
  q : Int
  c : Core

def sig0 : Sig := ⟨0, 0, 0, 0, core0⟩

def accV (input : Int) (s : Sig) (e : EvT) : Bool :=
  validV e && decide (e.1 = input) && decide (0 ≤ e.2.2.2.1) && decide (e.2.2.2.1 ≤ (topI input : Int)) && (decide (s.ph = 0) || decide (s.prev ≤ e.2.1))

def abortC (o : Int) (c : Core) (t : Int) : List EvT := if emptyB c.1 = true then [] else [(o, c.2, (if c.2 < t then t else c.2), 0, 0, strB [], 7)]

/-- What reads a symbol: from a state, a core: the next state, the core, the events. -/
abbrev Rd : Type := EvT → Int → Core → Int × Core × List EvT

def stepR (input o : Int) (rd : Rd) (s : Sig) (e : EvT) : Sig × List EvT :=
  if accV input s e = true then
    if e.2.2.2.2.2.2 ≠ 0 then (⟨1, e.2.1, e.2.2.1, 0, core0⟩, abortC o s.c e.2.1)
    else (⟨1, e.2.1, e.2.2.1, (rd e s.q s.c).1, (rd e s.q s.c).2.1⟩, (rd e s.q s.c).2.2)
  else (s, [])

def runR (input o : Int) (rd : Rd) : Sig → List EvT → Sig × List EvT
  | s, [] => (s, [])
  | s, e :: l => ((runR input o rd (stepR input o rd s e).1 l).1, (stepR input o rd s e).2 ++ (runR input o rd (stepR input o rd s e).1 l).2)

def allR (input o : Int) (rd : Rd) (l : List EvT) : List EvT := (runR input o rd sig0 l).2 ++ abortC o (runR input o rd sig0 l).1.c (runR input o rd sig0 l).1.last

def rdT (o : Int) (rows : List (List CellT)) : Rd := fun e q c =>
  if (nextV rows q e.2.2.2.1).2.2 = true then ((nextV rows q e.2.2.2.1).1, doC o e c (nextV rows q e.2.2.2.1).2.1) else (q, c, [])

/-- By the rules: at most so many of them. -/
def rdRule (o : Int) (ss : List StateT) : Nat → Rd
  | 0 => fun _ q c => (q, c, [])
  | k + 1 => fun e q c =>
    if (matchV ss q e.2.2.2.1).2 = true then
      if (matchV ss q e.2.2.2.1).1.2.2.2.1 = true then
        ((rdRule o ss k e (optI (findN ss (matchV ss q e.2.2.2.1).1.2.2.1)) (doC o e c (matchV ss q e.2.2.2.1).1.2.2.2.2).1).1,
         (rdRule o ss k e (optI (findN ss (matchV ss q e.2.2.2.1).1.2.2.1)) (doC o e c (matchV ss q e.2.2.2.1).1.2.2.2.2).1).2.1,
         (doC o e c (matchV ss q e.2.2.2.1).1.2.2.2.2).2 ++ (rdRule o ss k e (optI (findN ss (matchV ss q e.2.2.2.1).1.2.2.1)) (doC o e c (matchV ss q e.2.2.2.1).1.2.2.2.2).1).2.2)
      else (optI (findN ss (matchV ss q e.2.2.2.1).1.2.2.1), doC o e c (matchV ss q e.2.2.2.1).1.2.2.2.2)
    else (q, c, [])

def decodeV (t : TableT) (l : List EvT) : List EvT := if checkT t = 0 then allR t.2.1 t.2.2.1 (rdT t.2.2.1 t.2.2.2) l else []

noncomputable def directV (d : DeclT) (l : List EvT) : List EvT × Int := if ccheckV d = 0 then (allR d.2.1 d.2.2.1 (rdRule d.2.2.1 d.2.2.2 d.2.2.2.length) l, 0) else ([], ccheckV d)

end Go.AM
end

section
/-
AM: decoding by the rules of a correct declaration, and by its compiled table: the same. No condition.
-/
namespace Go.AM
open Go

theorem runR_congr (input o : Int) (rd1 rd2 : Rd) (V : Int → Prop) (h0 : V 0)
    (h : ∀ (e : EvT) (q : Int) (c : Core), V q → 0 ≤ e.2.2.2.1 → e.2.2.2.1 ≤ (topI input : Int) → rd1 e q c = rd2 e q c ∧ V (rd2 e q c).1) :
    ∀ (l : List EvT) (s : Sig), V s.q → runR input o rd1 s l = runR input o rd2 s l
  | [], s, hs => rfl
  | e :: l, s, hs => by
    have key : stepR input o rd1 s e = stepR input o rd2 s e ∧ V (stepR input o rd2 s e).1.q := by
      unfold stepR
      cases ha : accV input s e with
      | false => exact ⟨rfl, hs⟩
      | true =>
        have hb := ha
        unfold accV at hb
        simp only [Bool.and_eq_true, decide_eq_true_eq] at hb
        obtain ⟨⟨⟨⟨_, _⟩, h2⟩, h3⟩, _⟩ := hb
        obtain ⟨h4, h5⟩ := h e s.q s.c hs h2 h3
        rw [if_pos rfl, if_pos rfl, h4]
        split
        · exact ⟨rfl, h0⟩
        · exact ⟨rfl, h5⟩
    unfold runR
    rw [key.1, runR_congr input o rd1 rd2 V h0 h l _ key.2]

theorem allR_congr (input o : Int) (rd1 rd2 : Rd) (V : Int → Prop) (h0 : V 0)
    (h : ∀ (e : EvT) (q : Int) (c : Core), V q → 0 ≤ e.2.2.2.1 → e.2.2.2.1 ≤ (topI input : Int) → rd1 e q c = rd2 e q c ∧ V (rd2 e q c).1) (l : List EvT) :
    allR input o rd1 l = allR input o rd2 l := by
  unfold allR
  rw [runR_congr input o rd1 rd2 V h0 h l sig0 h0]

theorem rdRule_succ (o : Int) (ss : List StateT) (k : Nat) (e : EvT) (q : Int) (c : Core) : rdRule o ss (k + 1) e q c =
    if (matchV ss q e.2.2.2.1).2 = true then
      if (matchV ss q e.2.2.2.1).1.2.2.2.1 = true then
        ((rdRule o ss k e (optI (findN ss (matchV ss q e.2.2.2.1).1.2.2.1)) (doC o e c (matchV ss q e.2.2.2.1).1.2.2.2.2).1).1,
         (rdRule o ss k e (optI (findN ss (matchV ss q e.2.2.2.1).1.2.2.1)) (doC o e c (matchV ss q e.2.2.2.1).1.2.2.2.2).1).2.1,
         (doC o e c (matchV ss q e.2.2.2.1).1.2.2.2.2).2 ++ (rdRule o ss k e (optI (findN ss (matchV ss q e.2.2.2.1).1.2.2.1)) (doC o e c (matchV ss q e.2.2.2.1).1.2.2.2.2).1).2.2)
      else (optI (findN ss (matchV ss q e.2.2.2.1).1.2.2.1), doC o e c (matchV ss q e.2.2.2.1).1.2.2.2.2)
    else (q, c, []) := rfl

theorem rdRule_bad (o : Int) (ss : List StateT) (e : EvT) (q : Int) (c : Core) (h : (matchV ss q e.2.2.2.1).2 = false) : ∀ m, rdRule o ss m e q c = (q, c, [])
  | 0 => rfl
  | m + 1 => by
    unfold rdRule
    rw [if_neg (by rw [h]; simp)]

theorem matchV_out {ss : List StateT} {q : Int} (h : q < 0 ∨ (ss.length : Int) ≤ q) (x : Int) : (matchV ss q x).2 = false := by
  unfold matchV
  by_cases hq : q < 0
  · rw [if_pos hq]
  · rw [if_neg hq, List.getElem?_eq_none (by omega)]

theorem rdRule_stable (o : Int) (ss : List StateT) (e : EvT) : ∀ (m i : Nat) (c : Core), (iter (stepV ss e.2.2.2.1) m i).isSome = false → rdRule o ss (m + 1) e i c = rdRule o ss m e i c := by
  intro m
  induction m with
  | zero => intro i c h; simp [iter] at h
  | succ m ih =>
    intro i c h
    rw [rdRule_succ o ss (m + 1)]
    conv => rhs; rw [rdRule_succ]
    by_cases hm : (matchV ss i e.2.2.2.1).2 = true
    · rw [if_pos hm, if_pos hm]
      by_cases ha : (matchV ss i e.2.2.2.1).1.2.2.2.1 = true
      · rw [if_pos ha, if_pos ha]
        cases hf : findN ss (matchV ss i e.2.2.2.1).1.2.2.1 with
        | none =>
          have hb := matchV_out (ss := ss) (q := optI none) (.inl (by decide)) e.2.2.2.1
          rw [rdRule_bad o ss e _ _ hb, rdRule_bad o ss e _ _ hb]
        | some j =>
          have hst : stepV ss e.2.2.2.1 i = some j := by unfold stepV; rw [if_pos hm, if_pos ha]; exact hf
          have hj : (iter (stepV ss e.2.2.2.1) m j).isSome = false := by simpa [iter, hst] using h
          rw [show optI (some j) = (j : Int) from rfl, ih j _ hj]
      · rw [if_neg ha, if_neg ha]
    · rw [if_neg hm, if_neg hm]

theorem topV_topI (d : DeclT) : topV d = topI d.2.1 := rfl

theorem rdRule_more (o : Int) (d : DeclT) (g : GoodD d) (e : EvT) (q : Int) (c : Core) (h0 : 0 ≤ e.2.2.2.1) (h1 : e.2.2.2.1 ≤ (topI d.2.1 : Int)) : rdRule o d.2.2.2 (d.2.2.2.length + 1) e q c = rdRule o d.2.2.2 d.2.2.2.length e q c := by
  by_cases hq : q < 0 ∨ (d.2.2.2.length : Int) ≤ q
  · rw [rdRule_bad _ _ _ _ _ (matchV_out hq _), rdRule_bad _ _ _ _ _ (matchV_out hq _)]
  · obtain ⟨i, rfl⟩ : ∃ i : Nat, q = i := ⟨q.toNat, by omega⟩
    obtain ⟨y, hy⟩ : ∃ y : Nat, e.2.2.2.1 = y := ⟨e.2.2.2.1.toNat, by omega⟩
    refine rdRule_stable o d.2.2.2 e _ i c ?_
    rw [hy]
    exact walk_ends (by omega) (g.cyc i y (by omega) (by rw [topV_topI]; omega))

/-- The rules followed and their actions joined; one after the other. -/
theorem follow_rd (o : Int) (d : DeclT) (g : GoodD d) (e : EvT) (y : Nat) (hy : e.2.2.2.1 = y) (hy2 : y ≤ topV d) : ∀ (m i : Nat) (c : Core) (l : List ActT), i < d.2.2.2.length → (iter (stepV d.2.2.2 y) m i).isSome = false →
    ∃ l' j, (rdRule o d.2.2.2 m e i c).1 = (j : Nat) ∧ j < d.2.2.2.length ∧ followV d.2.2.2 y (m + 1) i l = ((j : Int), l ++ l') ∧ (rdRule o d.2.2.2 m e i c).2 = doC o e c l' := by
  intro m
  induction m with
  | zero => intro i c l hi h; simp [iter] at h
  | succ m ih =>
    intro i c l hi h
    have hm : (matchV d.2.2.2 i y).2 = true := by
      have := g.mis i y hi hy2
      unfold misP at this
      simpa using this
    obtain ⟨j, hj⟩ := match_found g.check hm
    rw [rdRule_succ, followV, hy, if_pos hm]
    by_cases ha : (matchV d.2.2.2 i y).1.2.2.2.1 = true
    · have hst : stepV d.2.2.2 y i = some j := by unfold stepV; rw [if_pos hm, if_pos ha]; exact hj
      rw [if_pos ha, if_pos ha, hj]
      obtain ⟨l', j', h1, h2, h3, h4⟩ := ih j (doC o e c (matchV d.2.2.2 i y).1.2.2.2.2).1 (l ++ (matchV d.2.2.2 i y).1.2.2.2.2) (findN_lt hj) (by simpa [iter, hst] using h)
      refine ⟨(matchV d.2.2.2 i y).1.2.2.2.2 ++ l', j', h1, h2, ?_, ?_⟩
      · show followV d.2.2.2 y (m + 1) (j : Int) _ = _
        rw [h3, List.append_assoc]
      · have h4' : (rdRule o d.2.2.2 m e (optI (some j)) (doC o e c (matchV d.2.2.2 i y).1.2.2.2.2).1).2 = doC o e (doC o e c (matchV d.2.2.2 i y).1.2.2.2.2).1 l' := h4
        rw [doC_append, ← h4']
    · rw [if_neg ha, if_neg ha, hj]
      exact ⟨(matchV d.2.2.2 i y).1.2.2.2.2, j, rfl, findN_lt hj, rfl, rfl⟩

/-- A compiled table decodes as its rules do. -/
theorem compiled_same (d : DeclT) (g : GoodD d) {rows : List (List CellT)} (hr : rowsF d.2.2.2 (topV d) d.2.2.2.length 0 [] = some rows) (h1 : 0 < d.2.2.2.length) (o : Int) (l : List EvT) :
    allR d.2.1 o (rdT o rows) l = allR d.2.1 o (rdRule o d.2.2.2 d.2.2.2.length) l := by
  refine allR_congr _ _ _ _ (fun q => ∃ i : Nat, q = i ∧ i < d.2.2.2.length) ⟨0, rfl, h1⟩ (fun e q c hq h2 h3 => ?_) l
  obtain ⟨i, rfl, hi⟩ := hq
  obtain ⟨y, hy⟩ : ∃ y : Nat, e.2.2.2.1 = y := ⟨e.2.2.2.1.toNat, by omega⟩
  have hy2 : y ≤ topV d := by rw [topV_topI]; omega
  obtain ⟨l', j, h4, h5, h6, h7⟩ := follow_rd o d g e y hy hy2 d.2.2.2.length i c [] hi (walk_ends hi (g.cyc i y hi hy2))
  have hn := compiled_next hr i y hi hy2
  refine ⟨?_, j, h4, h5⟩
  have h6' : resF d.2.2.2 i y = ((j : Int), l') := by unfold resF; rw [h6]; rfl
  unfold rdT
  rw [hy, hn, h6', if_pos rfl]
  exact Prod.ext h4.symm h7.symm

end Go.AM
end

section
/-
AM: what decoding emits; events that are not accepted make no difference. No condition.
-/
namespace Go.AM
open Go

theorem ignore_one {input o : Int} {rd : Rd} {x : EvT} (h : ∀ s, accV input s x = false) (s : Sig) : stepR input o rd s x = (s, []) := by
  unfold stepR
  rw [if_neg (by rw [h s]; simp)]

def inter (x : EvT) (l : List EvT) : List EvT := l.flatMap fun e => [x, e]

theorem runR_inter {input o : Int} {rd : Rd} {x : EvT} (h : ∀ s, accV input s x = false) : ∀ (l : List EvT) (s : Sig), runR input o rd s (inter x l ++ [x]) = runR input o rd s l
  | [], s => by simp [inter, runR, ignore_one h]
  | e :: l, s => by
    show runR input o rd s (x :: e :: (inter x l ++ [x])) = _
    simp only [runR, ignore_one h, runR_inter h l, List.nil_append]

theorem allR_inter {input o : Int} {rd : Rd} {x : EvT} (h : ∀ s, accV input s x = false) (l : List EvT) : allR input o rd (inter x l ++ [x]) = allR input o rd l := by
  unfold allR
  rw [runR_inter h]

theorem inter_snoc (x : EvT) (l : List EvT) (e : EvT) : inter x (l ++ [e]) = inter x l ++ [x, e] := by simp [inter]

theorem inter_len (x : EvT) (l : List EvT) : (inter x l).length = l.length * 2 := by
  induction l with
  | nil => rfl
  | cons e l ih => simp only [inter, List.flatMap_cons, List.length_append, List.length_cons, List.length_nil] at ih ⊢; omega

/-! ### what is emitted -/
structure EmitOk (o : Int) (x : EvT) : Prop where
  kind : x.1 = o
  size : x.2.2.2.2.2.1.size ≤ 4096
  le : x.2.1 ≤ x.2.2.1

section
variable {o : Int} {e : EvT} (he : e.2.1 ≤ e.2.2.1)
include he

theorem fromC_le {c : Core} (hc : emptyB c.1 = false → c.2 ≤ e.2.2.1) : fromC e c ≤ e.2.2.1 := by
  unfold fromC
  split
  · exact he
  · rename_i h; exact hc (by simpa using h)

theorem evC_ok {c : Core} (hs : c.1.size ≤ 4096) (hc : emptyB c.1 = false → c.2 ≤ e.2.2.1) (v f : Int) : EmitOk o (evC o e v f c) ∧ (evC o e v f c).2.2.1 = e.2.2.1 :=
  ⟨⟨rfl, hs, fromC_le he hc⟩, rfl⟩

theorem colC_le {c : Core} (hc : emptyB c.1 = false → c.2 ≤ e.2.2.1) (b : Int) : emptyB (colC e b c).1 = false → (colC e b c).2 ≤ e.2.2.1 := by
  unfold colC
  split
  · exact hc
  · intro _; exact fromC_le he hc

theorem actC_emit {c : Core} (hs : c.1.size ≤ 4096) (hc : emptyB c.1 = false → c.2 ≤ e.2.2.1) (a : ActT) :
    (∀ x ∈ (actC o e c a).2, EmitOk o x ∧ x.2.2.1 = e.2.2.1) ∧ (emptyB (actC o e c a).1.1 = false → (actC o e c a).1.2 ≤ e.2.2.1) := by
  have hz : emptyB core0.1 = false → core0.2 ≤ e.2.2.1 := fun h => Bool.noConfusion (h.symm.trans (show emptyB core0.1 = true by kernel_rfl))
  unfold actC
  repeat' split
  · exact ⟨fun x hx => by simp at hx, hz⟩
  · exact ⟨fun x hx => by simp at hx, colC_le he hc _⟩
  · exact ⟨fun x hx => by simp at hx, colC_le he hc _⟩
  · exact ⟨fun x hx => by simp at hx, colC_le he hc _⟩
  · exact ⟨fun x hx => by simp at hx; subst hx; exact evC_ok he hs hc _ _, hz⟩
  · exact ⟨fun x hx => by simp at hx; subst hx; exact evC_ok he hs hc _ _, hz⟩
  · exact ⟨fun x hx => by simp at hx, hc⟩

theorem doC_emit : ∀ (l : List ActT) (c : Core), c.1.size ≤ 4096 → (emptyB c.1 = false → c.2 ≤ e.2.2.1) →
    (∀ x ∈ (doC o e c l).2, EmitOk o x ∧ x.2.2.1 = e.2.2.1) ∧ (emptyB (doC o e c l).1.1 = false → (doC o e c l).1.2 ≤ e.2.2.1)
  | [], c, _, hc => ⟨fun x hx => by simp [doC] at hx, hc⟩
  | a :: l, c, hs, hc => by
    obtain ⟨h1, h2⟩ := actC_emit (o := o) he hs hc a
    obtain ⟨h3, h4⟩ := doC_emit l (actC o e c a).1 (actC_size o e c a hs) h2
    refine ⟨fun x hx => ?_, h4⟩
    simp only [doC, List.mem_append] at hx
    rcases hx with q | q
    · exact h1 x q
    · exact h3 x q

theorem rdRule_emit (ss : List StateT) : ∀ (m : Nat) (q : Int) (c : Core), c.1.size ≤ 4096 → (emptyB c.1 = false → c.2 ≤ e.2.2.1) →
    (∀ x ∈ (rdRule o ss m e q c).2.2, EmitOk o x ∧ x.2.2.1 = e.2.2.1) ∧ (emptyB (rdRule o ss m e q c).2.1.1 = false → (rdRule o ss m e q c).2.1.2 ≤ e.2.2.1) ∧ (rdRule o ss m e q c).2.1.1.size ≤ 4096
  | 0, q, c, hs, hc => ⟨fun x hx => by simp [rdRule] at hx, hc, hs⟩
  | m + 1, q, c, hs, hc => by
    rw [rdRule_succ]
    obtain ⟨h1, h2⟩ := doC_emit (o := o) he (matchV ss q e.2.2.2.1).1.2.2.2.2 c hs hc
    have h0 := doC_size o e (matchV ss q e.2.2.2.1).1.2.2.2.2 c hs
    split
    · split
      · obtain ⟨h3, h4, h5⟩ := rdRule_emit ss m (optI (findN ss (matchV ss q e.2.2.2.1).1.2.2.1)) (doC o e c (matchV ss q e.2.2.2.1).1.2.2.2.2).1 h0 h2
        refine ⟨fun x hx => ?_, h4, h5⟩
        rcases List.mem_append.1 hx with q | q
        · exact h1 x q
        · exact h3 x q
      · exact ⟨h1, h2, h0⟩
    · exact ⟨fun x hx => by simp at hx, hc, hs⟩
end

def Srt : Int → List EvT → Prop
  | _, [] => True
  | b, e :: l => b ≤ e.2.1 ∧ e.2.1 ≤ e.2.2.1 ∧ Srt e.2.2.1 l

structure EmInv (o : Int) (s : Sig) (b : Int) (O : List EvT) : Prop where
  ok : ∀ x ∈ O, EmitOk o x
  mon : O.Pairwise fun a b => a.2.2.1 ≤ b.2.2.1
  top : ∀ x ∈ O, x.2.2.1 ≤ s.last
  core : emptyB s.c.1 = false → s.c.2 ≤ s.last
  size : s.c.1.size ≤ 4096
  bound : s.ph ≠ 0 → s.last ≤ b
  fresh : s.ph = 0 → O = [] ∧ emptyB s.c.1 = true

theorem pw_all {t : Int} : ∀ {l : List EvT}, (∀ x ∈ l, x.2.2.1 = t) → l.Pairwise fun a b => a.2.2.1 ≤ b.2.2.1
  | [], _ => List.Pairwise.nil
  | x :: l, h => List.Pairwise.cons (fun y hy => by rw [h x (by simp), h y (by simp [hy])]; exact Int.le_refl _) (pw_all fun y hy => h y (by simp [hy]))

theorem EmInv.grow {o t : Int} {O l : List EvT} (h1 : ∀ x ∈ O, EmitOk o x) (h2 : O.Pairwise fun a b => a.2.2.1 ≤ b.2.2.1) (h3 : ∀ x ∈ O, x.2.2.1 ≤ t) (h4 : ∀ x ∈ l, EmitOk o x ∧ x.2.2.1 = t) :
    (∀ x ∈ O ++ l, EmitOk o x) ∧ ((O ++ l).Pairwise fun a b => a.2.2.1 ≤ b.2.2.1) ∧ ∀ x ∈ O ++ l, x.2.2.1 ≤ t := by
  refine ⟨fun x hx => ?_, List.pairwise_append.2 ⟨h2, pw_all fun x hx => (h4 x hx).2, fun a ha b hb => by rw [(h4 b hb).2]; exact h3 a ha⟩, fun x hx => ?_⟩
  · rcases List.mem_append.1 hx with q | q
    · exact h1 x q
    · exact (h4 x q).1
  · rcases List.mem_append.1 hx with q | q
    · exact h3 x q
    · rw [(h4 x q).2]; exact Int.le_refl _

theorem abort_emit {o : Int} {c : Core} {t : Int} (hc : emptyB c.1 = false → c.2 ≤ t) : ∀ x ∈ abortC o c t, EmitOk o x ∧ x.2.2.1 = t := by
  intro x hx
  unfold abortC at hx
  split at hx
  · simp at hx
  · rename_i h
    have hc' := hc (by simpa using h)
    simp at hx
    subst hx
    have e : (if c.2 < t then t else c.2) = t := by split <;> omega
    exact ⟨⟨rfl, by show (strB []).size ≤ 4096; decide, by show c.2 ≤ (if c.2 < t then t else c.2); rw [e]; exact hc'⟩, e⟩

theorem EmInv.step {input o : Int} {ss : List StateT} {n : Nat} {s : Sig} {b : Int} {O : List EvT} (h : EmInv o s b O) (e : EvT) (h1 : b ≤ e.2.1) (h2 : e.2.1 ≤ e.2.2.1) :
    EmInv o (stepR input o (rdRule o ss n) s e).1 e.2.2.1 (O ++ (stepR input o (rdRule o ss n) s e).2) := by
  unfold stepR
  cases ha : accV input s e with
  | false =>
    rw [if_neg (by simp)]
    refine ⟨by simpa using h.ok, by simpa using h.mon, by simpa using h.top, h.core, h.size, fun q => ?_, fun q => by simpa using h.fresh q⟩
    have := h.bound q
    show s.last ≤ _
    omega
  | true =>
    rw [if_pos rfl]
    have htop : ∀ x ∈ O, x.2.2.1 ≤ e.2.1 := by
      intro x hx
      by_cases q : s.ph = 0
      · rw [(h.fresh q).1] at hx; simp at hx
      · have := h.bound q; have := h.top x hx; omega
    have hcore : emptyB s.c.1 = false → s.c.2 ≤ e.2.1 := by
      intro hq
      by_cases q : s.ph = 0
      · rw [(h.fresh q).2] at hq; cases hq
      · have := h.bound q; have := h.core hq; omega
    by_cases hf : e.2.2.2.2.2.2 ≠ 0
    · rw [if_pos hf]
      obtain ⟨g1, g2, g3⟩ := EmInv.grow h.ok h.mon htop (abort_emit (o := o) hcore)
      refine ⟨g1, g2, fun x hx => ?_, fun q => Bool.noConfusion (q.symm.trans (show emptyB core0.1 = true by kernel_rfl)), (show core0.1.size ≤ 4096 by decide), fun _ => Int.le_refl _, fun q => absurd q (by show ¬ (1 : Int) = 0; decide)⟩
      have := g3 x hx
      show x.2.2.1 ≤ e.2.2.1
      omega
    · rw [if_neg hf]
      obtain ⟨k1, k2, k3⟩ := rdRule_emit (o := o) h2 ss n s.q s.c h.size (fun q => by have := hcore q; omega)
      obtain ⟨g1, g2, g3⟩ := EmInv.grow (t := e.2.2.1) h.ok h.mon (fun x hx => by have := htop x hx; omega) k1
      exact ⟨g1, g2, g3, k2, k3, fun _ => Int.le_refl _, fun q => absurd q (by show ¬ (1 : Int) = 0; decide)⟩

theorem EmInv.run {input o : Int} {ss : List StateT} {n : Nat} : ∀ (l : List EvT) (s : Sig) (b : Int) (O : List EvT), EmInv o s b O → Srt b l → ∃ b', EmInv o (runR input o (rdRule o ss n) s l).1 b' (O ++ (runR input o (rdRule o ss n) s l).2)
  | [], s, b, O, h, _ => ⟨b, by simpa [runR] using h⟩
  | e :: l, s, b, O, h, hs => by
    have h1 := h.step (input := input) (ss := ss) (n := n) e hs.1 hs.2.1
    obtain ⟨b', h2⟩ := EmInv.run l _ _ _ h1 hs.2.2
    refine ⟨b', ?_⟩
    simpa [runR, List.append_assoc] using h2

theorem emits_all {input o : Int} {ss : List StateT} {n : Nat} (l : List EvT) (b : Int) (hs : Srt b l) :
    (∀ x ∈ allR input o (rdRule o ss n) l, EmitOk o x) ∧ (allR input o (rdRule o ss n) l).Pairwise fun a b => a.2.2.1 ≤ b.2.2.1 := by
  obtain ⟨b', h⟩ := EmInv.run (input := input) (o := o) (ss := ss) (n := n) l sig0 b [] ⟨by simp, List.Pairwise.nil, by simp, fun q => Bool.noConfusion (q.symm.trans (show emptyB core0.1 = true by kernel_rfl)), by decide, fun q => absurd rfl q, fun _ => ⟨rfl, by kernel_rfl⟩⟩ hs
  rw [List.nil_append] at h
  obtain ⟨g1, g2, _⟩ := EmInv.grow h.ok h.mon h.top (abort_emit (o := o) h.core)
  exact ⟨g1, g2⟩

end Go.AM
end

section
/-
AM: more on quoted strings and numbers, over lists of bytes. No condition.
-/
namespace Go.AM
open Go

theorem scanQ_lt : ∀ (k : Nat) (r : List UInt8), r.length ≤ k → ∀ m, scanQ r = some m → m < r.length ∧ r[m]? = some 34 := by
  intro k
  induction k using Nat.strongRecOn with
  | _ k ih =>
    intro r hl m h
    cases r with
    | nil => cases h
    | cons c r =>
      simp only [List.length_cons] at hl
      rw [scanQ_cons] at h
      split at h
      · rename_i e
        cases h
        simp [e]
      · split at h
        · cases r with
          | nil => cases h
          | cons d r =>
            simp only [List.length_cons] at hl
            simp only at h
            cases hs : scanQ r with
            | none => rw [hs] at h; cases h
            | some j =>
              rw [hs] at h
              cases h
              have := ih (k - 1) (by omega) r (by omega) j hs
              simp only [List.length_cons]
              exact ⟨by omega, this.2⟩
        · cases hs : scanQ r with
          | none => rw [hs] at h; cases h
          | some j =>
            rw [hs] at h
            cases h
            have := ih (k - 1) (by omega) r (by omega) j hs
            simp only [List.length_cons]
            exact ⟨by omega, this.2⟩

theorem unqI_scan (t : List UInt8) : ∀ (k : Nat) (l o : List UInt8), l.length ≤ k → unqI k l = some o → scanQ (l ++ 34 :: t) = some l.length := by
  intro k
  induction k using Nat.strongRecOn with
  | _ k ih =>
    intro l o hl h
    cases l with
    | nil => simp [scanQ_cons]
    | cons c r =>
      simp only [List.length_cons] at hl
      obtain ⟨k, rfl⟩ : ∃ j, k = j + 1 := ⟨k - 1, by omega⟩
      simp only [unqI] at h
      rw [List.cons_append]
      split at h
      · rename_i hp
        have hp := plainB_iff.1 hp
        rw [scanQ_plain hp.2.2.1 hp.2.2.2]
        cases hu : unqI k r with
        | none => rw [hu] at h; cases h
        | some o' => rw [ih k (by omega) r o' (by omega) hu]; rfl
      · split at h
        · rename_i hc
          subst hc
          cases r with
          | nil => simp [escV] at h
          | cons e r =>
            simp only [List.length_cons] at hl
            have es : ∀ r', scanQ (92 :: e :: r') = (scanQ r').map (· + 2) := fun r' => by simp [scanQ_cons]
            rw [List.cons_append, es]
            split at h
            · rename_i b n he
              cases hu : unqI k ((e :: r).drop (n - 1)) with
              | none => rw [hu] at h; cases h
              | some o' =>
                have two : n = 2 → (scanQ (r ++ 34 :: t)).map (· + 2) = some (r.length + 1 + 1) := by
                  intro hn
                  subst hn
                  rw [ih k (by omega) r o' (by omega) (by simpa using hu)]
                  rfl
                simp only [escV] at he
                split at he
                · cases he; exact two rfl
                · split at he
                  · cases he; exact two rfl
                  · split at he
                    · split at he
                      · rename_i a b' r'
                        split at he
                        · rename_i x y hx hy
                          cases he
                          simp only [List.length_cons] at hl
                          rw [List.cons_append, List.cons_append, scanQ_plain (hexv_ne hx).1 (hexv_ne hx).2, scanQ_plain (hexv_ne hy).1 (hexv_ne hy).2, ih k (by omega) r' o' (by omega) (by simpa using hu)]
                          rfl
                        · cases he
                      · cases he
                    · cases he
            · cases h
        · cases h

/-- A quoted string is the whole of what is scanned. -/
theorem unqV_eq (r : List UInt8) : unqV (34 :: r) = match unqL r.length r with
    | some (o, []) => some o
    | _ => none := by
  unfold unqV
  simp only
  rw [unqL_scan r.length r (Nat.le_refl _)]
  by_cases hg : r.getLast? = some 34
  · rw [if_pos hg]
    obtain ⟨i, hi⟩ : ∃ i, r = i ++ [34] := by
      rw [List.getLast?_eq_some_iff] at hg
      exact hg
    subst hi
    rw [List.dropLast_concat]
    cases hu : unqI (i ++ [34]).length i with
    | some o =>
      rw [unqI_scan [] _ i o (by simp) hu]
      simp only [List.take_left]
      rw [hu]
      simp
    | none =>
      cases hs : scanQ (i ++ [34]) with
      | none => rfl
      | some m =>
        simp only
        have := scanQ_lt _ _ (Nat.le_refl _) m hs
        cases hm : unqI (i ++ [34]).length ((i ++ [34]).take m) with
        | none => rfl
        | some o =>
          simp only [Option.map_some]
          have hlt : m < i.length := by
            rcases Nat.lt_or_ge m i.length with q | q
            · exact q
            · have : m = i.length := by simp at this; omega
              subst this
              rw [List.take_left, hu] at hm
              cases hm
          split
          · rename_i e
            simp only [Option.some.injEq, Prod.mk.injEq] at e
            have := congrArg List.length e.2
            simp at this
            omega
          · rfl
  · rw [if_neg hg]
    cases hs : scanQ r with
    | none => rfl
    | some m =>
      simp only
      have h1 := scanQ_lt _ _ (Nat.le_refl _) m hs
      cases unqI r.length (r.take m) with
      | none => rfl
      | some o =>
        simp only [Option.map_some]
        split
        · rename_i e
          simp only [Option.some.injEq, Prod.mk.injEq] at e
          have h2 := congrArg List.length e.2
          simp at h2
          have h3 : m = r.length - 1 := by omega
          rw [List.getLast?_eq_getElem?, ← h3] at hg
          exact absurd h1.2 hg
        · rfl

theorem digs_pos {base : Nat} (hb : 0 < base) : ∀ (l : List UInt8) (n m : Nat), digs base l n = some m → 0 < n → 0 < m
  | [], n, m, h, hn => by cases h; exact hn
  | c :: r, n, m, h, hn => by
    unfold digs at h
    split at h
    · split at h
      · have : 0 < base * n := Nat.mul_pos hb hn
        exact digs_pos hb r _ m h (by omega)
      · cases h
    · cases h

theorem hexv_zero {c : UInt8} (h : hexv c = some 0) : c = 48 := by
  unfold hexv at h
  split at h
  · cases h' : c.toNat - 48 with
    | zero =>
      have : c.toNat = (48 : UInt8).toNat := by show c.toNat = 48; omega
      exact UInt8.toNat_inj.1 this
    | succ n => rw [h'] at h; cases h
  · split at h
    · simp at h; omega
    · cases h

/-- The first digit is not 0: the number is not 0. -/
theorem digs_first {base : Nat} (hb : 0 < base) {c : UInt8} {r : List UInt8} {m : Nat} (h : digs base (c :: r) 0 = some m) (hc : c ≠ 48) : 0 < m := by
  unfold digs at h
  split at h
  · rename_i d hd
    split at h
    · have : d ≠ 0 := fun e => hc (hexv_zero (by rw [hd, e]))
      exact digs_pos hb r _ m h (by omega)
    · cases h
  · cases h

end Go.AM
end

section
/-
AM: comments and line feeds behind a text change nothing of its tokens. No condition.
-/
namespace Go.AM
open Go

theorem unqL_append (t : List UInt8) : ∀ (k : Nat) (r : List UInt8) (K : Nat), r.length ≤ k → r.length + 1 + t.length ≤ K → unqL K (r ++ 10 :: t) = (unqL k r).map fun p => (p.1, p.2 ++ 10 :: t) := by
  intro k
  induction k using Nat.strongRecOn with
  | _ k ih =>
    intro r K hk hK
    obtain ⟨K, rfl⟩ : ∃ j, K = j + 1 := ⟨K - 1, by omega⟩
    cases r with
    | nil =>
      have : unqL k [] = none := by cases k <;> rfl
      rw [this]
      rfl
    | cons c r =>
      simp only [List.length_cons] at hk hK
      obtain ⟨k, rfl⟩ : ∃ j, k = j + 1 := ⟨k - 1, by omega⟩
      rw [List.cons_append, unqL, unqL]
      split
      · rfl
      · split
        · rfl
        · split
          · rw [ih k (by omega) r K (by omega) (by omega)]
            cases unqL k r <;> rfl
          · -- a sequence
            cases r with
            | nil => rfl
            | cons e r =>
              simp only [List.length_cons] at hk hK
              have two : ∀ b, (unqL K (r ++ 10 :: t)).map (fun p => (b :: p.1, p.2)) = ((unqL k r).map fun p => (b :: p.1, p.2)).map fun p => (p.1, p.2 ++ 10 :: t) := by
                intro b
                rw [ih k (by omega) r K (by omega) (by omega)]
                cases unqL k r <;> rfl
              simp only [List.cons_append, escV]
              by_cases h3 : e = 34 ∨ e = 92
              · rw [if_pos h3, if_pos h3]
                exact two e
              · rw [if_neg h3, if_neg h3]
                by_cases h4 : e = 110
                · rw [if_pos h4, if_pos h4]
                  exact two 10
                · rw [if_neg h4, if_neg h4]
                  by_cases h5 : e = 120
                  · rw [if_pos h5, if_pos h5]
                    match r, hk, hK with
                    | [], _, _ =>
                      have : hexv 10 = none := by decide
                      cases t with
                      | nil => rfl
                      | cons u t => simp [this]
                    | [a], _, _ =>
                      have : hexv 10 = none := by decide
                      cases ha : hexv a <;> simp [this, ha]
                    | a :: b :: r, hk, hK =>
                      simp only [List.length_cons] at hk hK
                      simp only [List.cons_append]
                      cases ha : hexv a with
                      | none => simp
                      | some x =>
                        cases hb : hexv b with
                        | none => simp
                        | some y =>
                          simp only [Nat.add_one_sub_one, List.drop_succ_cons, List.drop_zero]
                          rw [ih k (by omega) r K (by omega) (by omega)]
                          cases unqL k r <;> rfl
                  · rw [if_neg h5, if_neg h5]
                    rfl

theorem unqL_fuel (r : List UInt8) (k : Nat) (hk : r.length ≤ k) : unqL k r = unqL r.length r := by
  rw [unqL_scan k r hk, unqL_scan r.length r (Nat.le_refl _)]
  cases scanQ r with
  | none => rfl
  | some m => simp only; rw [unqI_fuel k _ (by rw [List.length_take]; omega), unqI_fuel r.length _ (by rw [List.length_take]; omega)]

theorem unqL_rest {k : Nat} {r o rest : List UInt8} (hk : r.length ≤ k) (h : unqL k r = some (o, rest)) : rest.length < r.length := by
  rw [unqL_scan k r hk] at h
  cases hs : scanQ r with
  | none => rw [hs] at h; cases h
  | some m =>
    rw [hs] at h
    simp only at h
    have := scanQ_lt _ _ (Nat.le_refl _) m hs
    cases hu : unqI k (r.take m) with
    | none => rw [hu] at h; cases h
    | some o' =>
      rw [hu] at h
      cases h
      rw [List.length_drop]; omega

theorem takeWhile_nl (t : List UInt8) : ∀ r : List UInt8, (r ++ 10 :: t).takeWhile wordB = r.takeWhile wordB
  | [] => by
    have : wordB 10 = false := by decide
    simp [this]
  | c :: r => by
    simp only [List.cons_append, List.takeWhile_cons, takeWhile_nl t r]

theorem takeWhile_len_le (p : UInt8 → Bool) (l : List UInt8) : (l.takeWhile p).length ≤ l.length := (List.takeWhile_sublist p).length_le

theorem takeV_nl (c : UInt8) (r t : List UInt8) : takeV (c :: r ++ 10 :: t) = takeV (c :: r) := by
  simp only [List.cons_append, takeV]
  rw [takeWhile_nl]
  have e0 : (c :: (r ++ 10 :: t)).takeWhile wordB = (c :: r).takeWhile wordB := takeWhile_nl t (c :: r)
  rw [e0]
  have e1 : ∀ n, n ≤ r.length + 1 → (c :: (r ++ 10 :: t)).take n = (c :: r).take n := by
    intro n hn
    rw [← List.cons_append, List.take_append_of_le_length (by simpa using hn)]
  rw [e1 _ (takeWhile_len_le wordB (c :: r)), e1 _ (by have := takeWhile_len_le wordB r; omega)]
  have e2 : unqL (r ++ 10 :: t).length (r ++ 10 :: t) = (unqL r.length r).map fun p => (p.1, p.2 ++ 10 :: t) := unqL_append t r.length r _ (Nat.le_refl _) (by simp; omega)
  rw [e2]
  cases hu : unqL r.length r with
  | none => rfl
  | some p =>
    have := unqL_rest (Nat.le_refl _) (show unqL r.length r = some (p.1, p.2) from hu)
    simp only [Option.map_some, List.length_cons, List.length_append]
    rw [show r.length + (t.length + 1) + 1 - (p.2.length + (t.length + 1)) = r.length + 1 - p.2.length by omega]

theorem takeV_pos {c : UInt8} {r : List UInt8} {t : Int × List UInt8 × Int} {n : Nat} (h : takeV (c :: r) = .ok (t, n)) : 1 ≤ n ∧ n ≤ r.length + 1 := by
  simp only [takeV] at h
  split at h
  · rename_i hc
    split at h
    · cases h
      have hw : wordB c = true := by simp [wordB, hc]
      rw [List.takeWhile_cons, if_pos hw]
      have := takeWhile_len_le wordB r
      simp only [List.length_cons]
      omega
    · cases h
  · split at h
    · split at h
      · cases h
        have := takeWhile_len_le wordB r
        omega
      · cases h
    · split at h
      · split at h
        · rename_i o rest hu
          have := unqL_rest (Nat.le_refl _) hu
          cases h
          simp only [List.length_cons]
          omega
        · cases h
      · split at h
        · cases h; omega
        · cases h

theorem dropWhile_nl (t : List UInt8) : ∀ r : List UInt8, (r ++ 10 :: t).dropWhile (· ≠ 10) = r.dropWhile (· ≠ 10) ++ 10 :: t
  | [] => by simp
  | c :: r => by
    by_cases h : c = 10
    · subst h; simp
    · have := dropWhile_nl t r
      simp only [List.cons_append, List.dropWhile_cons, ne_eq, h, not_false_eq_true, decide_true, if_true]
      exact this

theorem dropWhile_len_le (p : UInt8 → Bool) (l : List UInt8) : (l.dropWhile p).length ≤ l.length := (List.dropWhile_sublist p).length_le

/-- A line feed, a blank and a comment behind a text. -/
theorem tokF_tail (x : List UInt8) (hx : ∀ b ∈ x, b ≠ 10) : ∀ (k : Nat) (l : List UInt8) (line : Int) (K : Nat), l.length ≤ k → l.length + 3 + x.length ≤ K → tokF K line (l ++ 10 :: 32 :: 35 :: x) = tokF k line l := by
  intro k
  induction k using Nat.strongRecOn with
  | _ k ih =>
    intro l line K hk hK
    cases l with
    | nil =>
      obtain ⟨K, rfl⟩ : ∃ j, K = j + 3 := ⟨K - 3, by simp only [List.length_nil] at hK; omega⟩
      have e : x.dropWhile (· ≠ 10) = [] := by
        clear hK ih
        induction x with
        | nil => rfl
        | cons b x ihx =>
          have hb := hx b (by simp)
          simp only [List.dropWhile_cons, ne_eq, hb, not_false_eq_true, decide_true, if_true]
          exact ihx (fun b hb => hx b (by simp [hb]))
      have e1 : tokF (K + 3) line ([] ++ 10 :: 32 :: 35 :: x) = tokF K (line + 1) (x.dropWhile (· ≠ 10)) := by rfl
      rw [e1, e]
      cases k <;> cases K <;> rfl
    | cons c r =>
      simp only [List.length_cons] at hk hK
      obtain ⟨k, rfl⟩ : ∃ j, k = j + 1 := ⟨k - 1, by omega⟩
      obtain ⟨K, rfl⟩ : ∃ j, K = j + 1 := ⟨K - 1, by omega⟩
      have ht := takeV_nl c r (32 :: 35 :: x)
      rw [List.cons_append] at ht ⊢
      rw [tokF, tokF]
      split
      · exact ih k (by omega) r _ K (by omega) (by omega)
      · split
        · exact ih k (by omega) r _ K (by omega) (by omega)
        · split
          · rw [dropWhile_nl]
            have := dropWhile_len_le (· ≠ 10) r
            exact ih k (by omega) _ _ K (by omega) (by omega)
          · rw [ht]
            cases hv : takeV (c :: r) with
            | error e => rfl
            | ok p =>
              obtain ⟨t, n⟩ := p
              have hn := takeV_pos hv
              simp only
              have e2 : (c :: (r ++ 10 :: 32 :: 35 :: x)).drop n = (c :: r).drop n ++ 10 :: 32 :: 35 :: x := by
                rw [← List.cons_append, List.drop_append_of_le_length (by simp; omega)]
              rw [e2, ih k (by omega) _ line K (by rw [List.length_drop, List.length_cons]; omega) (by rw [List.length_drop, List.length_cons]; omega)]

def up1 (t : Int × ByteArray × Int × Int) : Int × ByteArray × Int × Int := (t.1, t.2.1, t.2.2.1, t.2.2.2 + 1)

theorem tokF_up : ∀ (k : Nat) (l : List UInt8) (line : Int), tokF k (line + 1) l = match tokF k line l with
    | .ok ts => .ok (ts.map up1)
    | .error e => .error (e.1 + 1, e.2) := by
  intro k
  induction k with
  | zero => intro l line; cases l <;> rfl
  | succ k ih =>
    intro l line
    cases l with
    | nil => rfl
    | cons c r =>
      rw [tokF, tokF]
      split
      · exact ih _ _
      · split
        · exact ih _ _
        · split
          · exact ih _ _
          · cases takeV (c :: r) with
            | error e => rfl
            | ok p =>
              obtain ⟨t, n⟩ := p
              simp only
              rw [ih]
              cases tokF k line ((c :: r).drop n) <;> rfl

theorem tokF_lines : ∀ (k : Nat) (l : List UInt8) (line : Int) (ts : List (Int × ByteArray × Int × Int)), tokF k line l = .ok ts → ∀ t ∈ ts, line ≤ t.2.2.2 ∧ t.2.2.2 ≤ line + l.length := by
  intro k
  induction k with
  | zero => intro l line ts h t ht; cases l <;> cases h <;> cases ht
  | succ k ih =>
    intro l line ts h t ht
    cases l with
    | nil => cases h; cases ht
    | cons c r =>
      rw [tokF] at h
      simp only [List.length_cons]
      split at h
      · have := ih _ _ _ h t ht; omega
      · split at h
        · have := ih _ _ _ h t ht; omega
        · split at h
          · have := ih _ _ _ h t ht
            have := dropWhile_len_le (· ≠ 10) r
            omega
          · split at h
            · cases h
            · rename_i t' n hv
              split at h
              · rename_i ts' hts
                cases h
                rcases List.mem_cons.1 ht with rfl | ht
                · simp only; omega
                · have := ih _ _ _ hts t ht
                  rw [List.length_drop, List.length_cons] at this
                  omega
              · cases h

end Go.AM
end

section
/-
AM: quoted strings in plain Lean: what is quoted is read back. No condition.
-/
namespace Go.AM
open Go

def hexD (n : Nat) : UInt8 := if n < 10 then UInt8.ofNat (48 + n) else UInt8.ofNat (87 + n)
def quoteC (c : UInt8) : List UInt8 := if plainB c = true then [c] else if c = 34 ∨ c = 92 then [92, c] else if c = 10 then [92, 110] else [92, 120, hexD (c.toNat / 16), hexD (c.toNat % 16)]
def quoteL (l : List UInt8) : List UInt8 := l.flatMap quoteC
def quoteV (l : List UInt8) : List UInt8 := 34 :: (quoteL l ++ [34])

theorem quoteL_cons (c : UInt8) (l : List UInt8) : quoteL (c :: l) = quoteC c ++ quoteL l := rfl

theorem quoteC_len (c : UInt8) : 1 ≤ (quoteC c).length ∧ (quoteC c).length ≤ 4 := by
  unfold quoteC
  repeat' split
  all_goals simp

theorem quoteL_len : ∀ l : List UInt8, (quoteL l).length ≤ 4 * l.length
  | [] => by simp [quoteL]
  | c :: l => by
    have h1 := quoteC_len c
    have h2 := quoteL_len l
    rw [quoteL_cons, List.length_append, List.length_cons]; omega

theorem hexv_hexD : ∀ n : Nat, n < 16 → hexv (hexD n) = some n := by decide +kernel

theorem hexD_back (c : UInt8) : UInt8.ofNat (16 * (c.toNat / 16) + c.toNat % 16) = c := by
  rw [show 16 * (c.toNat / 16) + c.toNat % 16 = c.toNat by omega]
  simp

theorem plain_not92 : plainB 92 = false := by decide

theorem unqI_quote : ∀ (l : List UInt8) (k : Nat), (quoteL l).length ≤ k → unqI k (quoteL l) = some l
  | [], k, _ => by
    have e : quoteL [] = [] := rfl
    rw [e]
    cases k <;> rfl
  | c :: l, k, h => by
    rw [quoteL_cons, List.length_append] at h
    have h1 := quoteC_len c
    obtain ⟨k, rfl⟩ : ∃ j, k = j + 1 := ⟨k - 1, by omega⟩
    have ih := unqI_quote l k (by omega)
    rw [quoteL_cons]
    unfold quoteC
    by_cases hp : plainB c = true
    · rw [if_pos hp]
      show unqI (k + 1) (c :: quoteL l) = _
      unfold unqI
      rw [if_pos hp, ih]
      rfl
    · rw [if_neg hp]
      have esc : ∀ (x : List UInt8) (n : Nat), escV x = some (c, n) → x.drop (n - 1) = quoteL l → unqI (k + 1) (92 :: x) = some (c :: l) := by
        intro x n h2 h3
        unfold unqI
        rw [if_neg (by rw [plain_not92]; simp), if_pos rfl, h2]
        simp only
        rw [h3, ih]
        rfl
      by_cases h2 : c = 34 ∨ c = 92
      · rw [if_pos h2]
        exact esc (c :: quoteL l) 2 (if_pos h2) rfl
      · rw [if_neg h2]
        by_cases h3 : c = 10
        · subst h3
          rw [if_pos rfl]
          exact esc (110 :: quoteL l) 2 rfl rfl
        · rw [if_neg h3]
          refine esc (120 :: hexD (c.toNat / 16) :: hexD (c.toNat % 16) :: quoteL l) 4 ?_ rfl
          have hc := c.toNat_lt
          show (match hexv (hexD (c.toNat / 16)), hexv (hexD (c.toNat % 16)) with
            | some x, some y => some (UInt8.ofNat (16 * x + y), 4)
            | _, _ => none) = some (c, 4)
          rw [hexv_hexD _ (by omega), hexv_hexD _ (by omega)]
          simp only
          rw [hexD_back]

theorem unqV_quote (l : List UInt8) : unqV (quoteV l) = some l := by
  have h : (quoteL l ++ [34]).getLast? = some 34 := by simp
  have e : (quoteL l ++ [34]).dropLast = quoteL l := by simp
  show (if (quoteL l ++ [34]).getLast? = some 34 then unqI (quoteL l ++ [34]).length (quoteL l ++ [34]).dropLast else none) = _
  rw [if_pos h, e]
  exact unqI_quote l _ (by simp)

/-! ### digits -/
def digsB : ByteArray := strB [48, 49, 50, 51, 52, 53, 54, 55, 56, 57, 97, 98, 99, 100, 101, 102]

theorem dig_hi : ∀ n : Nat, n < 256 → 0 ≤ (n : Int).fdiv 16 ∧ (n : Int).fdiv 16 < 16 ∧ bt digsB ((n : Int).fdiv 16) = ((hexD (n / 16)).toNat : Int) := by decide +kernel
theorem dig_lo : ∀ n : Nat, n < 256 → 0 ≤ IntKind.u8.wrap (BitVec.ofInt 8 (n : Int) &&& BitVec.ofInt 8 15).toNat ∧ IntKind.u8.wrap (BitVec.ofInt 8 (n : Int) &&& BitVec.ofInt 8 15).toNat < 16 ∧
    bt digsB (IntKind.u8.wrap (BitVec.ofInt 8 (n : Int) &&& BitVec.ofInt 8 15).toNat) = ((hexD (n % 16)).toNat : Int) := by decide +kernel
theorem dig_hi2 : ∀ n : Nat, n < 256 → 0 ≤ IntKind.u8.wrap ((n : Int).tdiv 16) ∧ IntKind.u8.wrap ((n : Int).tdiv 16) < 16 ∧ bt digsB (IntKind.u8.wrap ((n : Int).tdiv 16)) = ((hexD (n / 16)).toNat : Int) := by decide +kernel
theorem dig_lo2 : ∀ n : Nat, n < 256 → 0 ≤ (n : Int).tmod 16 ∧ (n : Int).tmod 16 < 16 ∧ bt digsB ((n : Int).tmod 16) = ((hexD (n % 16)).toNat : Int) := by decide +kernel

end Go.AM
end

section
/-
AM: contracts by hand, of callees that leave memory alone. No condition.
-/
namespace Go.AM
open Go
variable [Inhabited ZMem]

theorem Contract.still {P : Program} {f : FuncId} {fn : Func} {c : Code} (hf : P.funcs[f]? = some fn) (hb : fn.body = some c) (hn : (fn.name == "runtime.NumGoroutine") = false) {sa sr : List SSh} {g : TyS sa → Option (TyS sr)}
    (h : ∀ (w : World) (M : Mem) (G : Gh) (x : TyS sa) (y : TyS sr) (vals : Array Value), Inv w M G [] → SVRs M G vals.toList (encSs id sa x) → g x = some y → Calls P f vals w fun e w' => ∃ v, e = .returned v ∧ w' = w ∧ AVR M G v (retAV (encSs id sr y))) :
    Contract P f ⟨⟨sa, []⟩, ⟨sr, []⟩, fun x => (g x.1).bind fun y => some (y, ())⟩ := by
  refine ⟨Nat.le_refl _, fun w M G x vals hI hv h1 h0 y hy => ?_⟩
  have hrun : (callFunc f vals).run P w = .ok (.enter f vals) w := by
    simp only [beq_eq_false_iff_ne, ne_eq] at hn
    simp [callFunc, hf, hb, hn]
  refine .inr ⟨hrun, ?_⟩
  have hy' : ((g x.1).bind fun y => some (y, ())) = some y := hy
  cases hg : g x.1 with
  | none => rw [hg] at hy'; cases hy'
  | some z =>
    rw [hg] at hy'
    cases hy'
    refine (h w M G x.1 z vals hI hv hg).mono fun e w' he => ?_
    obtain ⟨v, rfl, rfl, ha⟩ := he
    exact ⟨M, G, ha, hI, Step.refl _ _ _ _, fun j hj => h1 j hj⟩

theorem Contract.below {P : Program} {f : FuncId} {fn : Func} {c : Code} (hf : P.funcs[f]? = some fn) (hb : fn.body = some c) (hn : (fn.name == "runtime.NumGoroutine") = false) {sa sr : List SSh} {g : TyS sa → Option (TyS sr)}
    (h : ∀ (w : World) (M : Mem) (G : Gh) (x : TyS sa) (y : TyS sr) (vals : Array Value), Inv w M G [] → SVRs M G vals.toList (encSs id sa x) → g x = some y →
      Calls P f vals w fun e w' => ∃ v, e = .returned v ∧ RowKit.Below w.heap.size w w' ∧ AVR M G v (retAV (encSs id sr y))) :
    Contract P f ⟨⟨sa, []⟩, ⟨sr, []⟩, fun x => (g x.1).bind fun y => some (y, ())⟩ := by
  refine ⟨Nat.le_refl _, fun w M G x vals hI hv h1 h0 y hy => ?_⟩
  have hrun : (callFunc f vals).run P w = .ok (.enter f vals) w := by
    simp only [beq_eq_false_iff_ne, ne_eq] at hn
    simp [callFunc, hf, hb, hn]
  refine .inr ⟨hrun, ?_⟩
  have hy' : ((g x.1).bind fun y => some (y, ())) = some y := hy
  cases hg : g x.1 with
  | none => rw [hg] at hy'; cases hy'
  | some z =>
    rw [hg] at hy'
    cases hy'
    refine (h w M G x.1 z vals hI hv hg).mono fun e w' he => ?_
    obtain ⟨v, rfl, hbl, ha⟩ := he
    refine ⟨M, G, ha, ⟨fun a q hq => ?_, (fun k c hk => by simp [encHs, hget] at hk), (fun k k' c c' b hk => by simp [encHs, hget] at hk), (fun b o h => by
      have h1 := hI.zone b o h
      exact h1.same (hbl.block b h1.lt)), (fun k c b hk => by simp [encHs, hget] at hk)⟩, ⟨hbl.os, hbl.tape, hbl.output, hbl.size, MLe.refl _, GLe.refl _, fun b hb _ => hbl.block b hb, fun _ _ h => .inl h, fun k c b hk _ _ => ?_⟩, fun j hj => h1 j hj⟩
    · have hc := hI.sub a q hq
      have hlt : a.block < w.heap.size := by
        rcases Nat.lt_or_ge a.block w.heap.size with h | h
        · exact h
        · unfold World.cell? at hc
          rw [Array.getElem?_eq_none h] at hc
          cases hc
      rw [← hc]
      exact hbl.cell hlt
    · simp [encHs, hget] at hk

end Go.AM
end

section
/-
AM: the contracts of strings.Builder's copyCheck and String, out of what walks say of worlds. No condition.
-/
namespace Go.AM
open Go
variable [Inhabited ZMem]

theorem liesAt_bytes_at {P : Program} {e : TypeId} (hc : P.cellsOf e = 1) (count p n : Nat) (hn : p + n ≤ count) (hp : n = 0 ∨ p < count) : liesAt P P.depth e count p e n = true := by
  have hd : P.depth = (2 * (P.types.size + Made.depth) + 1) + 1 := rfl
  rw [hd]
  simp only [liesAt, Bool.or_eq_true]
  left
  rw [hd]
  simp [rowAt, hc, sameLayout]
  omega

/-- unsafe.String over a stretch of a row of bytes. -/
theorem run_unsafeString_at {P : Program} (w : World) (pt it ty e : TypeId) (hp : P.underlying pt = some (.pointer e)) (hc : P.cellsOf e = 1) (g p cells : Nat) (hsh : w.shape? g = some (e, cells)) (l : List UInt8) (h0 : l ≠ []) (hn : p + l.length ≤ cells) (h63 : l.length ≤ 9223372036854775807)
    (hcell : ∀ j x, l[j]? = some x → w.cell? ((⟨g, p, none⟩ : Addr).add j) = some (.int .u8 x.toNat)) :
    (Builtin.unsafeString_ #[pt, it] ty #[.pointer (some ⟨g, p, none⟩), .int .i64 l.length]).run P w = .ok (.string ⟨l.toArray⟩) (w.freeze ⟨g, p, none⟩ l.length) := by
  have hl : l.length ≠ 0 := by simpa using h0
  have hlb := Lib.run_loadBytes (P := P) w l ⟨g, p, none⟩ .empty hcell
  have hlies := liesAt_bytes_at (P := P) hc (cells / P.cellsOf e) p l.length (by rw [hc]; simpa using hn) (.inr (by rw [hc]; simp; omega))
  have h63' : ¬ (9223372036854775807 : Int) < (l.length : Int) := by omega
  have hdef : Builtin.unsafeString_ #[pt, it] ty #[.pointer (some ⟨g, p, none⟩), .int .i64 l.length] =
      (do
        let n ← asInt (.int .i64 l.length)
        if n < 0 then runtimePanic (.error "unsafe.String: len out of range")
        if n > IntKind.i64.max then unsupported (.unsafePointer "String: a length above the largest int")
        if n = 0 then pure (.string .empty)
        else if ← variablesAt ⟨g, p, none⟩ (← elemOf pt) n.toNat then do
          let s ← loadBytes ⟨g, p, none⟩ .empty n.toNat
          freeze ⟨g, p, none⟩ n.toNat
          pure (.string s)
        else unsupported (.unsafePointer "String: not so many bytes at ptr")) := rfl
  rw [hdef]
  have hmax : IntKind.i64.max = 9223372036854775807 := rfl
  have hneg : ¬ (l.length : Int) < 0 := by omega
  simp [asInt, asIntOf, hmax, h63', hneg, hl, variablesAt, hsh, elemOf, run_underlying hp, hlies, hlb]

/-- A builder: its variable, and the row that it has for itself. -/
def bShape (TB TU : TypeId) : List HSh := [.box TB [.oself 0, .own 1], .arr TU (.int .u8) true]

theorem Step.congr {w w' : World} {M M' : Mem} {G G' : Gh} {H H1 H' : HL} (s : Step w M G H w' M' G' H1) (h : ∀ k, hget H' k = hget H1 k) : Step w M G H w' M' G' H' :=
  ⟨s.os, s.tape, s.output, s.size, s.mle, s.gle, s.keep, s.mnew, fun k c b hk hl hb => s.bl k c b (by rw [← h]; exact hk) hl hb⟩

theorem one_val {M : Mem} {G : Gh} {vals : Array Value} {s : SV} (h : SVRs M G vals.toList [s]) : ∃ v, vals = #[v] ∧ SVR M G v s := by
  obtain ⟨l⟩ := vals
  match l, h with
  | [v], h => exact ⟨v, rfl, h.1⟩
  | [], h => exact h.elim
  | _ :: _ :: _, h => exact h.2.elim

theorem enters {P : Program} {f : FuncId} {fn : Func} {c : Code} (hf : P.funcs[f]? = some fn) (hb : fn.body = some c) (hn : (fn.name == "runtime.NumGoroutine") = false) (vals : Array Value) (w : World) :
    (callFunc f vals).run P w = .ok (.enter f vals) w := by
  simp only [beq_eq_false_iff_ne, ne_eq] at hn
  simp [callFunc, hf, hb, hn]

section
variable {w : World} {M : Mem} {G : Gh} {TB TU : TypeId} {l : List Int}

abbrev bHeap (TB TU : TypeId) (l : List Int) : HL := [(0, .box TB [.oself 0, .own 1]), (1, .arr TU (.int .u8) l true)]

theorem builder_open (hI : Inv w M G (bHeap TB TU l)) : ∃ (b : Nat) (a0 v1 : Value), G 0 = some (.pointer (some ⟨b, 0, none⟩)) ∧ w.heap[b]? = some (.cells #[a0, v1] TB (0, 0)) ∧ (a0 = .pointer none ∨ a0 = .pointer (some ⟨b, 0, none⟩)) ∧ G 1 = some v1 ∧ (∃ a n c, v1 = .slice a n c) ∧ ∀ a : Addr, a.block = b → M a = none := by
  obtain ⟨b, vs, hg, hheap, hc, hm⟩ := hI.cells 0 _ rfl
  obtain ⟨vl⟩ := vs
  match vl, hc with
  | [a0, v1], ⟨⟨b', hg', ha⟩, ⟨hg1, hs⟩, _⟩ =>
    rw [hg] at hg'
    cases hg'
    exact ⟨b, a0, v1, hg, hheap, ha, hg1, hs, hm⟩
  | [], hc => exact hc.elim
  | [_], hc => exact hc.2.elim
  | _ :: _ :: _ :: _, hc => exact hc.2.2.elim

theorem cell_of {b j : Nat} {cs : Array Value} {t : TypeId} {fr : Nat × Nat} (h : w.heap[b]? = some (.cells cs t fr)) : w.cell? ⟨b, j, none⟩ = cs[j]? := by simp [World.cell?, h]

end

theorem Contract.copyCheck {P : Program} {f : FuncId} {fn : Func} {c : Code} (hf : P.funcs[f]? = some fn) (hb : fn.body = some c) (hn : (fn.name == "runtime.NumGoroutine") = false) {TB TU : TypeId}
    (used : ∀ (b : Nat) (w : World), w.cell? ⟨b, 0, none⟩ = some (.pointer (some ⟨b, 0, none⟩)) → Calls P f #[.pointer (some ⟨b, 0, none⟩)] w fun e w' => e = .returned (.tuple #[]) ∧ w' = w)
    (fresh : ∀ (b : Nat) (w : World), w.cell? ⟨b, 0, none⟩ = some (.pointer none) → w.shape? b = some (TB, 2) → w.frozen? ⟨b, 0, none⟩ = false →
      Calls P f #[.pointer (some ⟨b, 0, none⟩)] w fun e w' => e = .returned (.tuple #[]) ∧ w' = w.setCell ⟨b, 0, none⟩ (.pointer (some ⟨b, 0, none⟩))) :
    Contract P f ⟨⟨[.one (.ptr 0 0)], bShape TB TU⟩, ⟨[], bShape TB TU⟩, fun x => some ((), x.2)⟩ := by
  refine ⟨Nat.le_refl _, fun w M G x vals hI hv h1 h0 y hy => ?_⟩
  have hrun := enters hf hb hn vals w
  obtain ⟨v, rfl, hvv⟩ := one_val hv
  obtain ⟨_, ⟨_, _, _⟩, l, _⟩ := x
  have hI' : Inv w M G (bHeap TB TU l) := hI
  obtain ⟨b, a0, v1, hg, hheap, ha, hg1, hs1, hm⟩ := builder_open hI'
  obtain ⟨b', hg', rfl⟩ := hvv
  have hg0 : G 0 = some (.pointer (some ⟨b', 0, none⟩)) := hg'
  rw [hg] at hg0
  cases hg0
  cases hy
  refine .inr ⟨hrun, ?_⟩
  have c0 : w.cell? ⟨b, 0, none⟩ = some a0 := by rw [cell_of hheap]; rfl
  rcases ha with rfl | rfl
  · refine (fresh b w c0 (by simp [World.shape?, hheap]) (by simp [World.frozen?, hheap])).mono fun e w' he => ?_
    obtain ⟨rfl, rfl⟩ := he
    have hgr : w.grownBy (w.setCell ⟨b, 0, none⟩ (.pointer (some ⟨b, 0, none⟩))) (some b) := ⟨rfl, rfl, rfl, by simp [World.setCell], fun k _ hk => RowKit.Below.heap_setCell _ _ _ _ (fun e => hk (by simp [e]))⟩
    have hsub : ∀ (a : Addr) (q : Value), M a = some q → (w.setCell ⟨b, 0, none⟩ (.pointer (some ⟨b, 0, none⟩))).cell? a = some q := by
      intro a q h
      have hne : a.block ≠ b := fun e => by rw [hm a e] at h; cases h
      have h2 := hI'.sub a q h
      unfold World.cell? at h2 ⊢
      rw [RowKit.Below.heap_setCell _ _ _ _ hne]
      exact h2
    have hheap' : (w.setCell ⟨b, 0, none⟩ (.pointer (some ⟨b, 0, none⟩))).heap[b]? = some (.cells #[.pointer (some ⟨b, 0, none⟩), v1] TB (0, 0)) := by
      simp [World.setCell, Array.getElem?_modify, hheap]
    have hk : HCR (w.setCell ⟨b, 0, none⟩ (.pointer (some ⟨b, 0, none⟩))) M G 0 (.box TB [.oself 0, .own 1]) :=
      ⟨b, _, hg, hheap', ⟨⟨b, hg, .inr rfl⟩, ⟨hg1, hs1⟩, trivial⟩, hm⟩
    have hbb : ∀ b', (HC.box TB [.oself 0, .own 1]).live → blk G 0 = some b' → w.heap.size ≤ b' ∨ some b = some b' := by
      intro b' _ h
      rw [blk_of hg] at h
      exact .inr h
    have i1 := hI'.put 0 _ hgr (MLe.refl _) (GLe.refl _) (fun _ _ h => .inl h) hsub (fun k' c' b1 hne hk' hl' e => by
      cases e
      exact hI'.sep 0 k' _ c' b rfl hk' trivial hl' (fun q => hne q.symm) (by rw [blk_of hg]; rfl)) hk hbb (fun b1 e => by cases e; exact hI'.zsep 0 _ b rfl trivial (by rw [blk_of hg]; rfl))
    have s1 := Step.put (k := 0) (c := .box TB [.oself 0, .own 1]) hI' hgr (MLe.refl _) (GLe.refl _) (fun _ _ h => .inl h) (fun b1 h => by cases h; exact ⟨0, _, rfl, trivial, by rw [blk_of hg]; rfl⟩) hbb
    have hcg : ∀ k, hget (bHeap TB TU l) k = hget ((0, .box TB [.oself 0, .own 1]) :: bHeap TB TU l) k := fun k => by
      by_cases e : 0 = k
      · subst e; rfl
      · simp [bHeap, hget, e]
    exact ⟨M, G, ⟨#[], rfl, trivial⟩, i1.congr hcg, s1.congr hcg, fun j hj => h1 j hj⟩
  · refine (used b w c0).mono fun e w' he => ?_
    obtain ⟨rfl, rfl⟩ := he
    exact ⟨M, G, ⟨#[], rfl, trivial⟩, hI', Step.refl _ _ _ _, fun j hj => h1 j hj⟩

theorem heap_freeze_other (w : World) (p : Addr) (n k : Nat) (h : k ≠ p.block) : (w.freeze p n).heap[k]? = w.heap[k]? := by
  unfold World.freeze
  split
  · rfl
  · simp only [Array.getElem?_modify]
    rw [if_neg (fun e => h e.symm)]

theorem cell_freeze (w : World) (p : Addr) (n : Nat) (a : Addr) : (w.freeze p n).cell? a = w.cell? a := by
  by_cases h : a.block = p.block
  · unfold World.freeze
    split
    · rfl
    · unfold World.cell?
      simp only [Array.getElem?_modify, h, if_pos]
      cases e : w.heap[p.block]? with
      | none => simp
      | some o =>
        simp only [Option.map_some]
        cases o with
        | cells c t fr => obtain ⟨lo, hi⟩ := fr; rfl
        | _ => rfl
  · unfold World.cell?
    rw [heap_freeze_other w p n _ h]

def byteL (l : List Int) : Bool := l.all fun n => decide (0 ≤ n ∧ n ≤ 255)

theorem byte_back (m : Int) (h1 : 0 ≤ m) (h2 : m ≤ 255) : (((UInt8.ofNat m.toNat).toNat : Nat) : Int) = m := by
  rw [UInt8.toNat_ofNat_of_lt' (by show m.toNat < 256; omega)]
  omega

theorem Contract.bString {P : Program} {f : FuncId} {fn : Func} {c : Code} (hf : P.funcs[f]? = some fn) (hb : fn.body = some c) (hn : (fn.name == "runtime.NumGoroutine") = false) {TB TU : TypeId}
    (nilw : ∀ (b : Nat) (w : World) (cs : Array Value), w.heap[b]? = some (.cells cs TB (0, 0)) → cs[1]? = some (.slice none 0 0) → Calls P f #[.pointer (some ⟨b, 0, none⟩)] w fun e w' => e = .returned (.string .empty) ∧ w' = w.drew)
    (room : ∀ (b g p cap : Nat), cap ≠ 0 → ∀ (w : World) (cs : Array Value), w.heap[b]? = some (.cells cs TB (0, 0)) → cs[1]? = some (.slice (some ⟨g, p, none⟩) 0 cap) → Calls P f #[.pointer (some ⟨b, 0, none⟩)] w fun e w' => e = .returned (.string .empty) ∧ w' = w.drew)
    (noroom : ∀ (b g p : Nat) (w : World) (cs cur : Array Value), w.heap[b]? = some (.cells cs TB (0, 0)) → cs[1]? = some (.slice (some ⟨g, p, none⟩) 0 0) → w.heap[g]? = some (.cells cur TU (0, 0)) →
      Calls P f #[.pointer (some ⟨b, 0, none⟩)] w fun e w' => e = .returned (.string .empty) ∧ w' = w.drew.alloc (.view ⟨g, p, none⟩ TU))
    (row : ∀ (b g p cap : Nat) (w : World) (cs cur : Array Value) (l : List UInt8), l ≠ [] → w.heap[b]? = some (.cells cs TB (0, 0)) → cs[1]? = some (.slice (some ⟨g, p, none⟩) l.length cap) → w.heap[g]? = some (.cells cur TU (0, 0)) →
      l.length ≤ cap → p + cap ≤ cur.size → cap ≤ maxLen → (∀ j x, l[j]? = some x → w.cell? ((⟨g, p, none⟩ : Addr).add j) = some (.int .u8 x.toNat)) →
      Calls P f #[.pointer (some ⟨b, 0, none⟩)] w fun e w' => e = .returned (.string ⟨l.toArray⟩) ∧ w' = w.drew.freeze ⟨g, p, none⟩ l.length) :
    Contract P f ⟨⟨[.one (.ptr 0 0)], bShape TB TU⟩, ⟨[.one .str], [.dead, .dead]⟩, fun x => if byteL x.2.2.1 = true then some ((strOfBytes x.2.2.1, ()), ((), (), ())) else none⟩ := by
  refine ⟨Nat.le_refl _, fun w M G x vals hI hv h1 h0 y hy => ?_⟩
  have hrun := enters hf hb hn vals w
  obtain ⟨v, rfl, hvv⟩ := one_val hv
  obtain ⟨_, ⟨_, _, _⟩, l, _⟩ := x
  have hI' : Inv w M G (bHeap TB TU l) := hI
  obtain ⟨b, a0, v1, hg, hheap, ha, hg1, hs1, hm⟩ := builder_open hI'
  obtain ⟨b', hg', rfl⟩ := hvv
  have hg0 : G 0 = some (.pointer (some ⟨b', 0, none⟩)) := hg'
  rw [hg] at hg0
  cases hg0
  have hy' : (if byteL l = true then some ((strOfBytes l, ()), ((), (), ())) else none) = some y := hy
  have hbl : byteL l = true := by
    by_cases q : byteL l = true
    · exact q
    · rw [if_neg q] at hy'; cases hy'
  rw [if_pos hbl] at hy'
  cases hy'
  obtain ⟨v1', xs, hg1', hown, hrow, hmm⟩ := hI'.cells 1 _ rfl
  rw [hg1] at hg1'
  cases hg1'
  refine .inr ⟨hrun, ?_⟩
  have hc1 : (#[a0, v1] : Array Value)[1]? = some v1 := rfl
  -- what is left where no cell turns, and no block but the row's
  have fin : ∀ (w' : World), w'.os = w.os → w'.tape = w.tape → w'.output = w.output → w.heap.size ≤ w'.heap.size → (∀ a q, w.cell? a = some q → w'.cell? a = some q) →
      (∀ k, k < w.heap.size → some k ≠ blkV v1 → w'.heap[k]? = w.heap[k]?) → Ret w M G (bHeap TB TU l) ⟨[.one .str], [.dead, .dead]⟩ ((strOfBytes l, ()), ((), (), ())) (.string (strOfBytes l)) w' := by
    intro w' q1 q2 q3 q4 q5 q6
    have dead : ∀ k c, hget [(0, HC.dead), (1, HC.dead)] k = some c → ¬ c.live := by
      intro k c hk
      simp only [hget] at hk
      split at hk
      · cases hk; exact id
      · split at hk
        · cases hk; exact id
        · cases hk
    refine ⟨M, G, ⟨rfl, rfl⟩, ⟨fun a q h => q5 a q (hI'.sub a q h), fun k c hk => ?_, fun k k' c c' b1 hk _ hl _ => absurd hl (dead k c hk), fun bz o hz => ?_, fun k c b1 hk hl => absurd hl (dead k c hk)⟩, ⟨q1, q2, q3, q4, MLe.refl _, GLe.refl _, fun k hk hne => q6 k hk (fun e => ?_), fun _ _ h => .inl h, fun k c b1 hk hl => absurd hl (dead k c hk)⟩, fun j hj => h1 j hj⟩
    · have := dead k c hk
      cases c with
      | dead => trivial
      | box _ _ => exact absurd trivial this
      | arr _ _ _ _ => exact absurd trivial this
    · have hz1 := hI'.zone bz o hz
      exact hz1.same (q6 bz hz1.lt (fun e => by rw [hI'.zsep 1 _ bz rfl trivial (by rw [blk_of hg1]; exact e.symm)] at hz; cases hz))
    · exact hne 1 _ rfl trivial (by rw [blk_of hg1]; exact e.symm)
  rcases hown.2 with ⟨rfl, hz⟩ | ⟨g, p, cap, cur, rfl, hgg, hnc, hcm, hcs, htake⟩
  · have hl : l = [] := List.eq_nil_of_length_eq_zero hz
    subst hl
    refine (nilw b w _ hheap hc1).mono fun e w' he => ?_
    obtain ⟨rfl, rfl⟩ := he
    exact fin w.drew rfl rfl rfl (Nat.le_refl _) (fun _ _ h => h) (fun _ _ _ => rfl)
  · simp only [U.size, Nat.mul_one] at hcs htake
    cases l with
    | nil =>
      by_cases hc : cap = 0
      · subst hc
        refine (noroom b g p w _ cur hheap hc1 hgg).mono fun e w' he => ?_
        obtain ⟨rfl, rfl⟩ := he
        refine fin _ rfl rfl rfl (by show w.heap.size ≤ (w.heap.push _).size; simp) (fun a q h => ?_) (fun k hk _ => ?_)
        · show (w.drew.alloc _).cell? a = some q
          rw [World.cell?_alloc_lt]
          · exact h
          · exact World.block_lt_of_cell? w a h
        · show (w.heap.push _)[k]? = _
          rw [Array.getElem?_push, if_neg (by omega)]
      · refine (room b g p cap hc w _ hheap hc1).mono fun e w' he => ?_
        obtain ⟨rfl, rfl⟩ := he
        exact fin w.drew rfl rfl rfl (Nat.le_refl _) (fun _ _ h => h) (fun _ _ _ => rfl)
    | cons n0 l0 =>
      have hlen : ((n0 :: l0).map fun n => UInt8.ofNat n.toNat).length = (n0 :: l0).length := by simp
      have hcell : ∀ j x, ((n0 :: l0).map fun n => UInt8.ofNat n.toNat)[j]? = some x → w.cell? ((⟨g, p, none⟩ : Addr).add j) = some (.int .u8 x.toNat) := by
        intro j x hx
        have hj : j < (n0 :: l0).length := by have := (List.getElem?_eq_some_iff.1 hx).1; simpa using this
        have hx' : UInt8.ofNat ((n0 :: l0)[j]).toNat = x := by
          rw [List.getElem?_map, List.getElem?_eq_getElem hj] at hx
          simpa using hx
        have hd := hrow.2 j hj
        have hxs : xs[j]? = some (.int .u8 (n0 :: l0)[j]) := by
          have h2 : (xs.drop (j * 1)).take 1 = [.int .u8 (n0 :: l0)[j]] := hd
          rw [Nat.mul_one] at h2
          have h3 : xs.length = (n0 :: l0).length := by have := hrow.1; simpa [U.size] using this
          rw [List.drop_eq_getElem_cons (by omega)] at h2
          simp only [List.take_succ_cons, List.take_zero, List.cons.injEq, and_true] at h2
          rw [List.getElem?_eq_getElem (by omega), h2]
        have hc := hown.cells (g := g) rfl j _ hxs
        have hr := List.all_eq_true.1 hbl _ (List.getElem_mem hj)
        have hr2 := of_decide_eq_true hr
        have e1 : ((x.toNat : Nat) : Int) = (n0 :: l0)[j] := by
          rw [← hx']
          exact byte_back _ hr2.1 hr2.2
        rw [e1]
        exact hc
      have hr := row b g p cap w _ cur ((n0 :: l0).map fun n => UInt8.ofNat n.toNat) (by simp) hheap (by rw [hlen]; exact hc1) hgg (by rw [hlen]; exact hnc) hcs hcm hcell
      refine hr.mono fun e w' he => ?_
      obtain ⟨rfl, rfl⟩ := he
      refine fin _ ?_ ?_ ?_ ?_ (fun a q h => ?_) (fun k hk hne => ?_)
      · unfold World.freeze; split <;> rfl
      · unfold World.freeze; split <;> rfl
      · unfold World.freeze; split <;> rfl
      · unfold World.freeze; split
        · exact Nat.le_refl _
        · simp
      · rw [cell_freeze]; exact h
      · rw [heap_freeze_other _ _ _ _ (fun e => hne (by rw [e]; rfl))]
        rfl

end Go.AM
end

section
/-
AM: the text of tokens in plain Lean. No condition.
-/
namespace Go.AM
open Go

abbrev TokT : Type := Int × ByteArray × Int × Int

def markL : List UInt8 → Bool
  | [c] => markB c
  | _ => false

/-- How a token is written, apart from whether it is valid. -/
def formB (t : TokT) : List UInt8 := if t.1 = 2 then Lib.itoa t.2.2.1 else if t.1 = 3 then quoteV (L t.2.1) else L t.2.1

def formOk (t : TokT) : Bool :=
  if t.1 = 1 then nameB (L t.2.1) && decide (t.2.2.1 = 0)
  else if t.1 = 2 then decide ((numV (L t.2.1)).2 = 0) && decide ((numV (L t.2.1)).1 = t.2.2.1)
  else if t.1 = 3 then decide (t.2.2.1 = 0)
  else if t.1 = 4 then markL (L t.2.1) && decide (t.2.2.1 = 0)
  else false

/-- Tokens with a blank ahead of each but the first. -/
def joinB : Bool → List TokT → List UInt8
  | _, [] => []
  | true, t :: r => formB t ++ joinB false r
  | false, t :: r => 32 :: (formB t ++ joinB false r)

def textV (l : List TokT) : List UInt8 × Int := if l.all formOk = true then (if 1048576 < (joinB true l).length then ([], 6) else (joinB true l, 0)) else ([], 1)

def wt (t : TokT) : Nat := 4 * t.2.1.size + 64

theorem numN_ok {neg : Bool} {o : Option Nat} (h : (numN neg o).2 = 0) : -9007199254740992 ≤ (numN neg o).1 ∧ (numN neg o).1 ≤ 9007199254740992 := by
  unfold numN at h ⊢
  split
  · simp at h
  · split
    · simp
    · split
      · rename_i h1 h2; simp only at h; rw [if_neg h1, if_pos h2] at h; simp at h
      · simp only
        split <;> omega

theorem numV_ok {l : List UInt8} (h : (numV l).2 = 0) : -9007199254740992 ≤ (numV l).1 ∧ (numV l).1 ≤ 9007199254740992 := by
  unfold numV at h ⊢
  split
  · exact numN_ok h
  · rename_i hn
    split at h
    · rename_i r; exact absurd rfl (hn r)
    · exact numN_ok h

theorem decDigits_len : ∀ (k u : Nat), u < 10 ^ (k + 1) → (Lib.decDigits u).length ≤ k + 1
  | 0, u, h => by
    rw [Lib.decDigits, dif_pos (by simpa using h)]
    simp
  | k + 1, u, h => by
    rw [Lib.decDigits]
    split
    · simp
    · have := decDigits_len k (u / 10) (by rw [Nat.div_lt_iff_lt_mul (by omega)]; rw [Nat.pow_succ] at h; exact h)
      simp only [List.length_append, List.length_cons, List.length_nil]
      omega

theorem itoa_len {v : Int} (h1 : -9007199254740992 ≤ v) (h2 : v ≤ 9007199254740992) : (Lib.itoa v).length ≤ 17 := by
  unfold Lib.itoa
  split
  · have := decDigits_len 15 v.natAbs (by show _ < 10000000000000000; omega)
    simp only [List.length_cons]
    omega
  · have := decDigits_len 15 v.toNat (by show _ < 10000000000000000; omega)
    omega

theorem formB_len {t : TokT} (h : formOk t = true) : (formB t).length + 1 ≤ wt t := by
  unfold formOk at h
  unfold formB wt
  by_cases h2 : t.1 = 2
  · rw [if_neg (by omega), if_pos h2] at h
    simp only [Bool.and_eq_true, decide_eq_true_eq] at h
    have hr := numV_ok h.1
    rw [h.2] at hr
    have := itoa_len hr.1 hr.2
    rw [if_pos h2]
    omega
  · rw [if_neg h2]
    split
    · have := quoteL_len (L t.2.1)
      rw [L_len] at this
      unfold quoteV
      simp only [List.length_cons, List.length_append, List.length_nil]
      omega
    · rw [L_len]; omega

theorem joinB_len : ∀ (l : List TokT) (b : Bool), l.all formOk = true → (joinB b l).length ≤ (l.map wt).sum
  | [], b, _ => by cases b <;> simp [joinB]
  | t :: r, b, h => by
    simp only [List.all_cons, Bool.and_eq_true] at h
    have h1 := formB_len h.1
    have h2 := joinB_len r false h.2
    cases b <;> simp only [joinB, List.length_append, List.length_cons, List.map_cons, List.sum_cons] <;> omega

end Go.AM
end

section
/-
AM: the tokens of the text of tokens are these tokens. No condition.
-/
namespace Go.AM
open Go

/-! ### numbers -/
theorem digs_app (base : Nat) : ∀ (a b : List UInt8) (n : Nat), digs base (a ++ b) n = (digs base a n).bind (digs base b)
  | [], b, n => rfl
  | c :: a, b, n => by
    simp only [List.cons_append, digs]
    cases hexv c with
    | none => rfl
    | some d =>
      simp only
      split
      · exact digs_app base a b _
      · rfl

theorem hexv_dig : ∀ u : Nat, u < 10 → hexv (UInt8.ofNat (48 + u)) = some u := by decide +kernel
theorem dig_ne : ∀ u : Nat, u < 10 → 0 < u → UInt8.ofNat (48 + u) ≠ 48 := by decide +kernel
theorem dig_digit : ∀ u : Nat, u < 10 → digitB (UInt8.ofNat (48 + u)) = true := by decide +kernel

theorem dec_cut {u : Nat} (h : ¬ u < 10) : Lib.decDigits u = Lib.decDigits (u / 10) ++ [UInt8.ofNat (48 + u % 10)] := by rw [Lib.decDigits, dif_neg h]
theorem dec_one {u : Nat} (h : u < 10) : Lib.decDigits u = [UInt8.ofNat (48 + u)] := by rw [Lib.decDigits, dif_pos h]

theorem digs_dec : ∀ (k u : Nat), u ≤ k → u ≤ 9007199254740992 → digs 10 (Lib.decDigits u) 0 = some u := by
  intro k
  induction k with
  | zero =>
    intro u hk hu
    have : u = 0 := by omega
    subst this
    rw [dec_one (by omega)]
    decide
  | succ k ih =>
    intro u hk hu
    by_cases h : u < 10
    · rw [dec_one h]
      simp only [digs, hexv_dig u h, if_pos h]
      congr 1
      omega
    · rw [dec_cut h, digs_app, ih (u / 10) (by omega) (by omega)]
      have hm : u % 10 < 10 := Nat.mod_lt _ (by omega)
      simp only [Option.bind_some, digs, hexv_dig _ hm, if_pos hm]
      congr 1
      omega

theorem dec_head : ∀ (k u : Nat), u ≤ k → 0 < u → ∃ c r, Lib.decDigits u = c :: r ∧ c ≠ 48 := by
  intro k
  induction k with
  | zero => intro u hk h0; omega
  | succ k ih =>
    intro u hk h0
    by_cases h : u < 10
    · exact ⟨_, [], dec_one h, dig_ne u h h0⟩
    · obtain ⟨c, r, e, hc⟩ := ih (u / 10) (by omega) (by omega)
      exact ⟨c, r ++ [UInt8.ofNat (48 + u % 10)], by rw [dec_cut h, e]; rfl, hc⟩

theorem dec_digits : ∀ (k u : Nat), u ≤ k → ∀ c ∈ Lib.decDigits u, digitB c = true := by
  intro k
  induction k with
  | zero =>
    intro u hk c hc
    rw [dec_one (by omega)] at hc
    simp only [List.mem_singleton] at hc
    subst hc
    exact dig_digit u (by omega)
  | succ k ih =>
    intro u hk c hc
    by_cases h : u < 10
    · rw [dec_one h] at hc
      simp only [List.mem_singleton] at hc
      subst hc
      exact dig_digit u h
    · rw [dec_cut h] at hc
      rcases List.mem_append.1 hc with q | q
      · exact ih (u / 10) (by omega) c q
      · simp only [List.mem_singleton] at q
        subst q
        exact dig_digit _ (Nat.mod_lt _ (by omega))

theorem dec_cons (u : Nat) : ∃ c r, Lib.decDigits u = c :: r ∧ (c ≠ 48 ∨ r = []) := by
  by_cases h : u = 0
  · subst h
    exact ⟨_, [], dec_one (by omega), .inr rfl⟩
  · obtain ⟨c, r, e, hc⟩ := dec_head u u (Nat.le_refl _) (by omega)
    exact ⟨c, r, e, .inl hc⟩

theorem body_dec {u : Nat} (hu : u ≤ 9007199254740992) : bodyV (Lib.decDigits u) = some u := by
  have hd := dec_digits u u (Nat.le_refl _)
  have hn : natV (Lib.decDigits u) 10 = some u := by
    obtain ⟨c, r, e, hc⟩ := dec_cons u
    have hg := digs_dec u u (Nat.le_refl _) hu
    rw [e] at hg ⊢
    unfold natV
    simp only
    rw [if_neg (fun q => by rcases hc with h | h; exact h q.1; exact q.2 h)]
    exact hg
  unfold bodyV
  split
  · rename_i c r e
    have := hd 120 (by rw [e]; simp)
    exact absurd this (by decide)
  · exact hn

theorem numV_itoa {v : Int} (h1 : -9007199254740992 ≤ v) (h2 : v ≤ 9007199254740992) : numV (Lib.itoa v) = (v, 0) := by
  unfold Lib.itoa
  by_cases hn : v < 0
  · rw [if_pos hn, numV_minus, body_dec (by omega)]
    unfold numN
    simp only
    rw [if_neg (by omega), if_neg (by omega), if_pos trivial]
    congr 1
    omega
  · rw [if_neg hn]
    obtain ⟨c, r, e, _⟩ := dec_cons v.toNat
    have hc : c ≠ 45 := by
      intro q
      have := dec_digits v.toNat v.toNat (Nat.le_refl _) c (by rw [e]; simp)
      rw [q] at this
      exact absurd this (by decide)
    have hb := body_dec (u := v.toNat) (by omega)
    rw [e] at hb ⊢
    rw [numV_other hc, hb]
    unfold numN
    simp only
    rw [if_neg (by simp), if_neg (by omega), if_neg (by simp)]
    congr 1
    omega

theorem digit_word {c : UInt8} (h : digitB c = true) : wordB c = true := by
  unfold wordB
  rw [h]
  simp

theorem itoa_cons (v : Int) : ∃ c r, Lib.itoa v = c :: r ∧ (digitB c = true ∨ c = 45) ∧ ∀ x ∈ r, wordB x = true := by
  unfold Lib.itoa
  split
  · exact ⟨45, _, rfl, .inr rfl, fun x hx => digit_word (dec_digits _ _ (Nat.le_refl _) x hx)⟩
  · obtain ⟨c, r, e, _⟩ := dec_cons v.toNat
    have hd := dec_digits v.toNat v.toNat (Nat.le_refl _)
    rw [e] at hd ⊢
    exact ⟨c, r, rfl, .inl (hd c (by simp)), fun x hx => digit_word (hd x (by simp [hx]))⟩

/-! ### quoted strings -/
theorem unqL_quote (rest : List UInt8) : ∀ (l : List UInt8) (k : Nat), (quoteL l).length + 1 ≤ k → unqL k (quoteL l ++ 34 :: rest) = some (l, rest)
  | [], k, h => by
    obtain ⟨k, rfl⟩ : ∃ j, k = j + 1 := ⟨k - 1, by omega⟩
    show unqL (k + 1) (34 :: rest) = _
    rw [unqL, if_pos rfl]
  | c :: l, k, h => by
    rw [quoteL_cons, List.length_append] at h
    have h1 := quoteC_len c
    obtain ⟨k, rfl⟩ : ∃ j, k = j + 1 := ⟨k - 1, by omega⟩
    have ih := unqL_quote rest l k (by omega)
    rw [quoteL_cons]
    unfold quoteC
    by_cases hp : plainB c = true
    · rw [if_pos hp]
      have hq := plainB_iff.1 hp
      show unqL (k + 1) (c :: (quoteL l ++ 34 :: rest)) = _
      rw [unqL, if_neg hq.2.2.1, if_neg (by omega), if_pos hq.2.2.2, ih]
      rfl
    · rw [if_neg hp]
      have esc : ∀ (x : List UInt8) (n : Nat), escV x = some (c, n) → x.drop (n - 1) = quoteL l ++ 34 :: rest → unqL (k + 1) (92 :: x) = some (c :: l, rest) := by
        intro x n h2 h3
        rw [unqL, if_neg (by decide), if_neg (by decide), if_neg (by simp), h2]
        simp only
        rw [h3, ih]
        rfl
      by_cases h2 : c = 34 ∨ c = 92
      · rw [if_pos h2]
        exact esc (c :: (quoteL l ++ 34 :: rest)) 2 (if_pos h2) rfl
      · rw [if_neg h2]
        by_cases h3 : c = 10
        · subst h3
          rw [if_pos rfl]
          exact esc (110 :: (quoteL l ++ 34 :: rest)) 2 rfl rfl
        · rw [if_neg h3]
          refine esc (120 :: hexD (c.toNat / 16) :: hexD (c.toNat % 16) :: (quoteL l ++ 34 :: rest)) 4 ?_ rfl
          have hc := c.toNat_lt
          show (match hexv (hexD (c.toNat / 16)), hexv (hexD (c.toNat % 16)) with
            | some x, some y => some (UInt8.ofNat (16 * x + y), 4)
            | _, _ => none) = some (c, 4)
          rw [hexv_hexD _ (by omega), hexv_hexD _ (by omega)]
          simp only
          rw [hexD_back]

/-! ### one token -/
def Stop (rest : List UInt8) : Prop := rest = [] ∨ ∃ r, rest = 32 :: r

theorem take_stop {p : UInt8 → Bool} (h32 : p 32 = false) : ∀ {a rest : List UInt8}, (∀ x ∈ a, p x = true) → Stop rest → (a ++ rest).takeWhile p = a
  | [], rest, _, h => by
    rcases h with rfl | ⟨r, rfl⟩
    · rfl
    · simp [h32]
  | x :: a, rest, ha, h => by
    rw [List.cons_append, List.takeWhile_cons, ha x (by simp), take_stop h32 (fun y hy => ha y (by simp [hy])) h]
    rfl

def txtB (t : TokT) : List UInt8 := if t.1 = 2 then Lib.itoa t.2.2.1 else L t.2.1
def tokOf (t : TokT) : TokT := (t.1, strB (txtB t), t.2.2.1, 1)

theorem letter_facts : ∀ c : UInt8, letterB c = true → c ≠ 10 ∧ c ≠ 32 ∧ c ≠ 9 ∧ c ≠ 35 := by
  intro c h
  refine ⟨?_, ?_, ?_, ?_⟩ <;> (rintro rfl; exact absurd h (by decide))
theorem digit_facts : ∀ c : UInt8, (digitB c = true ∨ c = 45) → letterB c = false ∧ c ≠ 10 ∧ c ≠ 32 ∧ c ≠ 9 ∧ c ≠ 35 := by
  intro c h
  rcases h with h | rfl
  · refine ⟨?_, ?_, ?_, ?_, ?_⟩
    · unfold digitB at h
      simp only [Bool.and_eq_true, decide_eq_true_eq] at h
      unfold letterB
      rw [decide_eq_false (show ¬ 97 ≤ c.toNat by omega)]
      rfl
    all_goals (rintro rfl; exact absurd h (by decide))
  · decide
theorem mark_facts : ∀ c : UInt8, markB c = true → letterB c = false ∧ ¬ (digitB c = true ∨ c = 45) ∧ c ≠ 34 ∧ c ≠ 10 ∧ c ≠ 32 ∧ c ≠ 9 ∧ c ≠ 35 := by
  have key : ∀ c ∈ marks, letterB c = false ∧ ¬ (digitB c = true ∨ c = 45) ∧ c ≠ 34 ∧ c ≠ 10 ∧ c ≠ 32 ∧ c ≠ 9 ∧ c ≠ 35 := by decide +kernel
  intro c h
  exact key c (by unfold markB at h; simpa using h)

theorem tok_one {t : TokT} (h : formOk t = true) {rest : List UInt8} (hr : Stop rest) :
    takeV (formB t ++ rest) = .ok ((t.1, txtB t, t.2.2.1), (formB t).length) ∧ ∃ c r, formB t = c :: r ∧ c ≠ 10 ∧ c ≠ 32 ∧ c ≠ 9 ∧ c ≠ 35 := by
  have w32 : wordB 32 = false := by decide
  unfold formOk at h
  unfold formB txtB
  by_cases h1 : t.1 = 1
  · rw [if_pos h1] at h
    simp only [Bool.and_eq_true, decide_eq_true_eq] at h
    rw [if_neg (by omega), if_neg (by omega), if_neg (by omega)]
    cases hL : L t.2.1 with
    | nil => rw [hL] at h; cases h.1
    | cons c r =>
      rw [hL] at h
      have hn := h.1
      have hn2 := h.1
      rw [nameB_cons] at hn2
      simp only [Bool.and_eq_true] at hn2
      have hall := List.all_eq_true.1 hn2.2
      refine ⟨?_, c, r, rfl, letter_facts c hn2.1.2⟩
      have e := take_stop w32 hall hr
      rw [List.cons_append] at e
      unfold takeV
      rw [List.cons_append]
      simp only
      rw [if_pos hn2.1.2, e, show ((c :: (r ++ rest)).take (c :: r).length) = c :: r by simp, if_pos hn, h1, h.2]
  rw [if_neg h1] at h
  by_cases h2 : t.1 = 2
  · rw [if_pos h2] at h
    simp only [Bool.and_eq_true, decide_eq_true_eq] at h
    have hv := numV_ok h.1
    rw [h.2] at hv
    rw [if_pos h2, if_pos h2]
    obtain ⟨c, r, e, hc, hw⟩ := itoa_cons t.2.2.1
    have hnum := numV_itoa hv.1 hv.2
    rw [e] at hnum ⊢
    have hf := digit_facts c hc
    refine ⟨?_, c, r, rfl, hf.2⟩
    unfold takeV
    rw [List.cons_append]
    simp only
    rw [if_neg (by rw [hf.1]; simp), if_pos hc, take_stop w32 hw hr, show (c :: (r ++ rest)).take (1 + r.length) = c :: r by rw [Nat.add_comm]; simp, hnum, if_pos rfl, h2]
    rw [List.length_cons, Nat.add_comm]
  rw [if_neg h2] at h
  rw [if_neg h2, if_neg h2]
  by_cases h3 : t.1 = 3
  · rw [if_pos h3] at h
    simp only [decide_eq_true_eq] at h
    rw [if_pos h3]
    refine ⟨?_, 34, quoteL (L t.2.1) ++ [34], rfl, by decide⟩
    have e : quoteV (L t.2.1) ++ rest = 34 :: (quoteL (L t.2.1) ++ 34 :: rest) := by simp [quoteV]
    rw [e]
    unfold takeV
    simp only
    rw [if_neg (by decide), if_neg (by decide), if_pos trivial, unqL_quote rest (L t.2.1) _ (by simp)]
    simp only
    rw [h3, h]
    congr 2
    simp [quoteV]
    omega
  rw [if_neg h3] at h
  rw [if_neg h3]
  by_cases h4 : t.1 = 4
  · rw [if_pos h4] at h
    simp only [Bool.and_eq_true, decide_eq_true_eq] at h
    obtain ⟨c, hc⟩ : ∃ c, L t.2.1 = [c] := by
      have := h.1
      unfold markL at this
      split at this
      · rename_i c e; exact ⟨c, e⟩
      · cases this
    rw [hc] at h ⊢
    have hm : markB c = true := h.1
    have hf := mark_facts c hm
    refine ⟨?_, c, [], rfl, hf.2.2.2⟩
    unfold takeV
    rw [List.cons_append]
    simp only
    rw [if_neg (by rw [hf.1]; simp), if_neg hf.2.1, if_neg hf.2.2.1, if_pos hm, h4, h.2]
    rfl
  · rw [if_neg h4] at h; cases h

theorem join_stop (l : List TokT) : Stop (joinB false l) := by
  cases l with
  | nil => exact .inl rfl
  | cons t r => exact .inr ⟨_, rfl⟩

theorem tokF_join : ∀ (l : List TokT) (k : Nat), l.all formOk = true → (joinB true l).length ≤ k → tokF k 1 (joinB true l) = .ok (l.map tokOf)
  | [], k, _, _ => by cases k <;> rfl
  | t :: r, k, h, hk => by
    simp only [List.all_cons, Bool.and_eq_true] at h
    obtain ⟨h1, c, q, h2, h3, h4, h5, h6⟩ := tok_one h.1 (join_stop r)
    have hj : joinB true (t :: r) = formB t ++ joinB false r := rfl
    rw [hj] at hk ⊢
    rw [h2] at h1 hk ⊢
    simp only [List.cons_append, List.length_cons, List.length_append] at h1 hk ⊢
    obtain ⟨k, rfl⟩ : ∃ j, k = j + 1 := ⟨k - 1, by omega⟩
    have hd : (c :: (q ++ joinB false r)).drop (q.length + 1) = joinB false r := by simp
    have hrest : tokF k 1 (joinB false r) = .ok (r.map tokOf) := by
      cases r with
      | nil => cases k <;> rfl
      | cons t2 r2 =>
        have e : joinB false (t2 :: r2) = 32 :: joinB true (t2 :: r2) := rfl
        rw [e] at hk ⊢
        simp only [List.length_cons] at hk
        obtain ⟨k, rfl⟩ : ∃ j, k = j + 1 := ⟨k - 1, by omega⟩
        rw [tokF, if_neg (by decide), if_pos (.inl rfl)]
        exact tokF_join (t2 :: r2) k h.2 (by omega)
    rw [tokF, if_neg h3, if_neg (by simp [h4, h5]), if_neg h6, h1]
    simp only
    rw [hd, hrest]
    rfl

theorem tokV_join {l : List TokT} (h : l.all formOk = true) (hl : (joinB true l).length ≤ 1048576) : tokV (joinB true l) = .ok (l.map tokOf) := by
  unfold tokV
  rw [if_neg (by omega)]
  exact tokF_join l _ h (Nat.le_refl _)

theorem formB_tokOf {t : TokT} (h : formOk t = true) : formOk (tokOf t) = true ∧ formB (tokOf t) = formB t := by
  unfold formOk at h
  unfold tokOf formOk formB txtB
  simp only [L_strB]
  by_cases h1 : t.1 = 1
  · simp only [h1, if_true] at h ⊢
    exact ⟨by simpa using h, by simp⟩
  by_cases h2 : t.1 = 2
  · rw [if_neg h1, if_pos h2] at h
    simp only [Bool.and_eq_true, decide_eq_true_eq] at h
    have hv := numV_ok h.1
    rw [h.2] at hv
    simp only [h2, if_true]
    rw [numV_itoa hv.1 hv.2]
    simp
  simp only [if_neg h2, if_neg h1] at h ⊢
  exact ⟨h, trivial⟩

theorem join_tokOf : ∀ (l : List TokT) (b : Bool), l.all formOk = true → joinB b (l.map tokOf) = joinB b l ∧ (l.map tokOf).all formOk = true
  | [], b, _ => by cases b <;> exact ⟨rfl, rfl⟩
  | t :: r, b, h => by
    simp only [List.all_cons, Bool.and_eq_true] at h
    obtain ⟨h1, h2⟩ := formB_tokOf h.1
    obtain ⟨h3, h4⟩ := join_tokOf r false h.2
    refine ⟨?_, by simp only [List.map_cons, List.all_cons, Bool.and_eq_true]; exact ⟨h1, h4⟩⟩
    cases b <;> simp only [List.map_cons, joinB, h2, h3]

theorem textV_tokOf {l : List TokT} (h : l.all formOk = true) : textV (l.map tokOf) = textV l := by
  obtain ⟨h1, h2⟩ := join_tokOf l true h
  unfold textV
  rw [if_pos h2, if_pos h, h1]

end Go.AM
end

section
/-
AM: the tokens of a declaration, its text, and that the text of a correct one is short. No condition.
-/
namespace Go.AM
open Go

def opTab : List ByteArray := [strB [], strB [99, 108, 101, 97, 114], strB [112, 117, 115, 104], strB [120, 111, 114], strB [112, 117, 116], strB [101, 109, 105, 116], strB [102, 97, 105, 108]]
def opW (n : Int) : ByteArray := opTab.getD n.toNat (strB [])

def wTok (b : ByteArray) : TokT := (1, b, 0, 0)
def mTok (c : UInt8) : TokT := (4, strB [c], 0, 0)
def nTok (n : Int) : TokT := (2, strB (Lib.itoa n), n, 0)

def actT (i : Nat) (a : Int × Int) : List TokT := mTok (if i = 0 then 58 else 44) :: wTok (opW a.1) :: (if a.1 > 2 then [nTok a.2] else [])
def actsT : Nat → List (Int × Int) → List TokT
  | _, [] => []
  | i, a :: r => actT i a ++ actsT (i + 1) r
def sAgain : ByteArray := strB [97, 103, 97, 105, 110]
def targetT (r : RuleT) : List TokT := mTok 62 :: wTok r.2.2.1 :: ((if r.2.2.2.1 = true then [wTok sAgain] else []) ++ (actsT 0 r.2.2.2.2 ++ [mTok 59]))
def ruleT (r : RuleT) : List TokT := nTok r.1 :: ((if r.2.1 = r.1 then [] else [mTok 46, mTok 46, nTok r.2.1]) ++ targetT r)
def rulesT : List RuleT → List TokT
  | [] => []
  | r :: l => ruleT r ++ rulesT l
def elseT (s : StateT) : List TokT := if s.2.2.1 = true then mTok 42 :: targetT s.2.2.2 else []
def sState : ByteArray := strB [115, 116, 97, 116, 101]
def stateT (s : StateT) : List TokT := wTok sState :: wTok s.1 :: mTok 123 :: (rulesT s.2.1 ++ (elseT s ++ [mTok 125]))
def statesT : List StateT → List TokT
  | [] => []
  | s :: l => stateT s ++ statesT l
def sDecoder : ByteArray := strB [100, 101, 99, 111, 100, 101, 114]
def sInput : ByteArray := strB [105, 110, 112, 117, 116]
def sOutput : ByteArray := strB [111, 117, 116, 112, 117, 116]
def sBit : ByteArray := strB [98, 105, 116]
def sByte : ByteArray := strB [98, 121, 116, 101]
def sFrame : ByteArray := strB [102, 114, 97, 109, 101]
def sPacket : ByteArray := strB [112, 97, 99, 107, 101, 116]
def headT (d : DeclT) : List TokT := [wTok sDecoder, wTok d.1, wTok sInput, wTok (if d.2.1 = 2 then sBit else sByte), wTok sOutput, wTok (if d.2.2.1 = 5 then sFrame else sPacket), mTok 123]
def declT (d : DeclT) : List TokT := headT d ++ (statesT d.2.2.2 ++ [mTok 125])

def printV (d : DeclT) : List UInt8 × Int := if checkV d = 0 then textV (declT d) else ([], checkV d)

/-! ### correct declarations -/
def OkAct (a : Int × Int) : Prop := 1 ≤ a.1 ∧ a.1 ≤ 6 ∧ 0 ≤ a.2 ∧ a.2 ≤ 255 ∧ (a.1 ≤ 2 → a.2 = 0)
structure OkTarget (r : RuleT) : Prop where
  next : nameB (L r.2.2.1) = true
  few : r.2.2.2.2.length ≤ 8
  acts : ∀ a ∈ r.2.2.2.2, OkAct a
structure OkRange (r : RuleT) : Prop where
  lo : 0 ≤ r.1
  le : r.1 ≤ r.2.1
  hi : r.2.1 ≤ 255
structure OkState (s : StateT) : Prop where
  name : nameB (L s.1) = true
  few : s.2.1.length ≤ 64
  rules : ∀ r ∈ s.2.1, OkRange r ∧ OkTarget r
  els : s.2.2.2.1 = 0 ∧ s.2.2.2.2.1 = 0
  some : s.2.2.1 = true → OkTarget s.2.2.2
  none : s.2.2.1 = false → s.2.2.2 = noRule
structure OkDecl (d : DeclT) : Prop where
  name : nameB (L d.1) = true
  input : d.2.1 = 2 ∨ d.2.1 = 3
  output : d.2.2.1 = 5 ∨ d.2.2.1 = 6
  few : d.2.2.2.length ≤ 32
  states : ∀ s ∈ d.2.2.2, OkState s

theorem actV_zero {a : Int × Int} (h : actV a = 0) : OkAct a := by
  unfold actV at h
  unfold OkAct
  split at h
  · split at h
    · omega
    · omega
  · split at h
    · split at h
      · omega
      · omega
    · split at h
      · split at h
        · omega
        · omega
      · omega

theorem findN_name {ss : List StateT} {b : ByteArray} {j : Nat} (h : findN ss b = some j) (hn : ∀ s ∈ ss, nameB (L s.1) = true) : nameB (L b) = true := by
  obtain ⟨hj, hp⟩ := List.findIdx?_eq_some_iff_getElem.1 h
  have h1 := hp.1
  simp only [beq_iff_eq] at h1
  rw [← h1]
  exact hn _ (List.getElem_mem hj)

theorem targetV_zero {ss : List StateT} {r : RuleT} (h : targetV ss r = 0) (hn : ∀ s ∈ ss, nameB (L s.1) = true) : OkTarget r := by
  unfold targetV at h
  split at h
  · omega
  · rename_i j hj
    split at h
    · omega
    · refine ⟨findN_name hj hn, by omega, fun a ha => actV_zero (errL_zero.1 h _ (List.mem_map_of_mem ha))⟩

theorem ok_decl {d : DeclT} (h : checkV d = 0) : OkDecl d := by
  obtain ⟨h1, h2, h3, hs⟩ := checkV_zero.1 h
  have hs' : ∀ s ∈ d.2.2.2, ∃ j, stateE d.2.2.2 (topV d) j s = 0 := fun s hm => by
    obtain ⟨j, hj, e⟩ := List.mem_iff_getElem.1 hm
    exact ⟨j, hs j s (by rw [List.getElem?_eq_getElem hj, e])⟩
  have hn : ∀ s ∈ d.2.2.2, nameB (L s.1) = true := fun s hm => by
    obtain ⟨j, hj⟩ := hs' s hm
    exact (stateE_zero.1 hj).1
  refine ⟨h1, h2.1, h2.2.1, h3, fun s hm => ?_⟩
  obtain ⟨j, hj⟩ := hs' s hm
  obtain ⟨a1, _, a3, a4, a5⟩ := stateE_zero.1 hj
  have ht : (topV d : Int) ≤ 255 := by unfold topV; split <;> decide
  unfold elseE at a5
  split at a5
  · rename_i a6
    refine ⟨a1, a3, fun r hr => ?_, a6, fun he => ?_, fun he => ?_⟩
    · have := a4 r hr
      unfold ruleE at this
      split at this
      · rename_i a7
        exact ⟨⟨a7.1, a7.2.1, by omega⟩, targetV_zero this hn⟩
      · omega
    · rw [if_pos he] at a5
      exact targetV_zero a5 hn
    · rw [if_neg (by rw [he]; simp)] at a5
      split at a5
      · rename_i a8
        obtain ⟨n, rs, hb, lo, hi, nx, ag, ac⟩ := s
        simp only at a6 a8 ⊢
        obtain ⟨rfl, rfl⟩ := a6
        obtain ⟨b1, rfl, b3⟩ := a8
        have : ac = [] := List.length_eq_zero_iff.1 b3
        subst this
        have : nx = strB [] := L_inj b1
        subst this
        rfl
      · omega
  · omega

/-! ### how long the text is -/
def jl (l : List TokT) : Nat := (l.map fun t => (formB t).length + 1).sum
theorem jl_nil : jl [] = 0 := rfl
theorem jl_cons (t : TokT) (l : List TokT) : jl (t :: l) = (formB t).length + 1 + jl l := rfl
theorem jl_app (a b : List TokT) : jl (a ++ b) = jl a + jl b := by simp [jl]

theorem join_jl : ∀ (l : List TokT) (b : Bool), (joinB b l).length ≤ jl l
  | [], b => by cases b <;> simp [joinB, jl]
  | t :: r, b => by
    have h2 := join_jl r false
    rw [jl_cons]
    cases b <;> simp only [joinB, List.length_append, List.length_cons] <;> omega

theorem nameB_len {l : List UInt8} (h : nameB l = true) : l.length ≤ 16 := by
  cases l with
  | nil => simp
  | cons c r => rw [nameB_cons] at h; simp only [Bool.and_eq_true, decide_eq_true_eq] at h; simp only [List.length_cons]; omega

theorem small_itoa {v : Int} (h0 : 0 ≤ v) (h1 : v ≤ 255) : (Lib.itoa v).length ≤ 3 := by
  unfold Lib.itoa
  rw [if_neg (by omega)]
  exact decDigits_len 2 v.toNat (by show _ < 1000; omega)

theorem form_w (b : ByteArray) : formB (wTok b) = L b := rfl
theorem form_m (c : UInt8) : formB (mTok c) = [c] := by show L (strB [c]) = _; exact L_strB _
theorem form_n (n : Int) : formB (nTok n) = Lib.itoa n := rfl

theorem jl_w {b : ByteArray} (h : nameB (L b) = true) : (formB (wTok b)).length ≤ 16 := nameB_len h
theorem opW_len {n : Int} (h : 1 ≤ n ∧ n ≤ 6) : (L (opW n)).length ≤ 5 ∧ nameB (L (opW n)) = true := by
  have : n = 1 ∨ n = 2 ∨ n = 3 ∨ n = 4 ∨ n = 5 ∨ n = 6 := by omega
  rcases this with rfl | rfl | rfl | rfl | rfl | rfl <;> exact ⟨by decide, by decide⟩

theorem jl_act {i : Nat} {a : Int × Int} (h : OkAct a) : jl (actT i a) ≤ 12 ∧ (actT i a).length ≤ 3 := by
  have h1 := (opW_len ⟨h.1, h.2.1⟩).1
  have h2 := small_itoa h.2.2.1 h.2.2.2.1
  unfold actT
  rw [jl_cons, jl_cons, form_m, form_w]
  by_cases h3 : a.1 > 2
  · rw [if_pos h3, jl_cons, jl_nil, form_n]
    simp only [List.length_cons, List.length_nil]
    omega
  · rw [if_neg h3, jl_nil]
    simp only [List.length_cons, List.length_nil]
    omega

theorem jl_acts : ∀ (l : List (Int × Int)) (i : Nat), (∀ a ∈ l, OkAct a) → jl (actsT i l) ≤ 12 * l.length ∧ (actsT i l).length ≤ 3 * l.length
  | [], i, _ => by simp [actsT, jl]
  | a :: r, i, h => by
    have h1 := jl_act (i := i) (h a (by simp))
    have h2 := jl_acts r (i + 1) (fun b hb => h b (by simp [hb]))
    unfold actsT
    rw [jl_app, List.length_append, List.length_cons]
    omega

theorem jl_target {r : RuleT} (h : OkTarget r) : jl (targetT r) ≤ 124 ∧ (targetT r).length ≤ 28 := by
  have h1 := jl_acts r.2.2.2.2 0 h.acts
  have h2 := h.few
  have h3 := nameB_len h.next
  unfold targetT
  rw [jl_cons, jl_cons, jl_app, jl_app, jl_cons, jl_nil, form_m, form_m, form_w]
  simp only [List.length_cons, List.length_append, List.length_nil]
  split
  · rw [jl_cons, jl_nil, form_w, show (L sAgain).length = 5 by rfl]
    simp only [List.length_cons, List.length_nil]
    omega
  · rw [jl_nil]
    simp only [List.length_nil]
    omega

theorem jl_rule {r : RuleT} (h : OkRange r) (ht : OkTarget r) : jl (ruleT r) ≤ 136 ∧ (ruleT r).length ≤ 32 := by
  have h1 := jl_target ht
  have h2 := small_itoa h.lo (Int.le_trans h.le h.hi)
  have h3 := small_itoa (Int.le_trans h.lo h.le) h.hi
  unfold ruleT
  rw [jl_cons, jl_app, form_n]
  simp only [List.length_cons, List.length_append]
  split
  · rw [jl_nil]
    simp only [List.length_nil]
    omega
  · rw [jl_cons, jl_cons, jl_cons, jl_nil, form_m, form_n]
    simp only [List.length_cons, List.length_nil]
    omega

theorem jl_rules : ∀ (l : List RuleT), (∀ r ∈ l, OkRange r ∧ OkTarget r) → jl (rulesT l) ≤ 136 * l.length ∧ (rulesT l).length ≤ 32 * l.length
  | [], _ => by simp [rulesT, jl]
  | r :: l, h => by
    have h1 := jl_rule (h r (by simp)).1 (h r (by simp)).2
    have h2 := jl_rules l (fun b hb => h b (by simp [hb]))
    unfold rulesT
    rw [jl_app, List.length_append, List.length_cons]
    omega

theorem jl_else {s : StateT} (h : OkState s) : jl (elseT s) ≤ 126 ∧ (elseT s).length ≤ 29 := by
  unfold elseT
  split
  · rename_i he
    have h1 := jl_target (h.some he)
    rw [jl_cons, form_m]
    simp only [List.length_cons, List.length_nil]
    omega
  · simp [jl]

theorem jl_state {s : StateT} (h : OkState s) : jl (stateT s) ≤ 8900 ∧ (stateT s).length ≤ 2090 := by
  have h1 := jl_rules s.2.1 h.rules
  have h2 := jl_else h
  have h3 := h.few
  have h4 := nameB_len h.name
  unfold stateT
  rw [jl_cons, jl_cons, jl_cons, jl_app, jl_app, jl_cons, jl_nil, form_m, form_m, form_w, form_w, show (L sState).length = 5 by rfl]
  simp only [List.length_cons, List.length_append, List.length_nil]
  omega

theorem jl_states : ∀ (l : List StateT), (∀ s ∈ l, OkState s) → jl (statesT l) ≤ 8900 * l.length ∧ (statesT l).length ≤ 2090 * l.length
  | [], _ => by simp [statesT, jl]
  | s :: l, h => by
    have h1 := jl_state (h s (by simp))
    have h2 := jl_states l (fun b hb => h b (by simp [hb]))
    unfold statesT
    rw [jl_app, List.length_append, List.length_cons]
    omega

theorem jl_decl {d : DeclT} (h : OkDecl d) : jl (declT d) ≤ 300000 ∧ (declT d).length ≤ 70000 := by
  have h1 := jl_states d.2.2.2 h.states
  have h2 := h.few
  have h3 := nameB_len h.name
  have e1 : (L (if d.2.1 = 2 then sBit else sByte)).length ≤ 4 := by split <;> decide
  have e2 : (L (if d.2.2.1 = 5 then sFrame else sPacket)).length ≤ 6 := by split <;> decide
  unfold declT headT
  rw [jl_app, jl_app, jl_cons, jl_cons, jl_cons, jl_cons, jl_cons, jl_cons, jl_cons, jl_nil, jl_cons, jl_nil, form_m, form_m, form_w, form_w, form_w, form_w, form_w, form_w,
    show (L sDecoder).length = 7 by rfl, show (L sInput).length = 5 by rfl, show (L sOutput).length = 6 by rfl]
  simp only [List.length_cons, List.length_append, List.length_nil]
  omega

/-! ### these tokens have a text -/
def goodT (t : TokT) : Prop := formOk t = true ∧ t.2.1.size ≤ 16 ∧ 0 ≤ t.2.2.1 ∧ t.2.2.1 ≤ 255

theorem good_w {b : ByteArray} (h : nameB (L b) = true) : goodT (wTok b) := by
  refine ⟨?_, ?_, Int.le_refl 0, (by decide : (0 : Int) ≤ 255)⟩
  · show (nameB (L b) && decide ((0 : Int) = 0)) = true
    rw [h]; rfl
  · have := nameB_len h
    rw [L_len] at this
    exact this

theorem good_m {c : UInt8} (h : markB c = true) : goodT (mTok c) := by
  refine ⟨?_, (by show (strB [c]).size ≤ 16; rw [strB_size]; exact (by decide : 1 ≤ 16)), Int.le_refl 0, (by decide : (0 : Int) ≤ 255)⟩
  show (markL (L (strB [c])) && decide ((0 : Int) = 0)) = true
  rw [L_strB]
  show (markB c && _) = true
  rw [h]; rfl

theorem good_n {n : Int} (h0 : 0 ≤ n) (h1 : n ≤ 255) : goodT (nTok n) := by
  have := small_itoa h0 h1
  refine ⟨?_, ?_, h0, h1⟩
  · show (decide ((numV (L (strB (Lib.itoa n)))).2 = 0) && decide ((numV (L (strB (Lib.itoa n)))).1 = n)) = true
    rw [L_strB, numV_itoa (by omega) (by omega)]
    simp
  · show (strB (Lib.itoa n)).size ≤ 16
    rw [strB_size]; omega

theorem good_act {i : Nat} {a : Int × Int} (h : OkAct a) : ∀ t ∈ actT i a, goodT t := by
  unfold actT
  intro t ht
  simp only [List.mem_cons] at ht
  rcases ht with rfl | rfl | ht
  · split <;> exact good_m (by decide)
  · exact good_w (opW_len ⟨h.1, h.2.1⟩).2
  · split at ht
    · simp only [List.mem_singleton] at ht
      subst ht
      exact good_n h.2.2.1 h.2.2.2.1
    · simp at ht

theorem good_acts : ∀ (l : List (Int × Int)) (i : Nat), (∀ a ∈ l, OkAct a) → ∀ t ∈ actsT i l, goodT t
  | [], i, _, t, ht => by simp [actsT] at ht
  | a :: r, i, h, t, ht => by
    unfold actsT at ht
    rcases List.mem_append.1 ht with q | q
    · exact good_act (h a (by simp)) t q
    · exact good_acts r (i + 1) (fun b hb => h b (by simp [hb])) t q

theorem good_target {r : RuleT} (h : OkTarget r) : ∀ t ∈ targetT r, goodT t := by
  unfold targetT
  intro t ht
  simp only [List.mem_cons, List.mem_append, List.not_mem_nil, or_false] at ht
  rcases ht with rfl | rfl | ht | ht | rfl
  · exact good_m (by decide)
  · exact good_w h.next
  · split at ht
    · simp only [List.mem_singleton] at ht
      subst ht
      exact good_w (by decide)
    · simp at ht
  · exact good_acts _ 0 h.acts t ht
  · exact good_m (by decide)

theorem good_rule {r : RuleT} (h : OkRange r) (ht : OkTarget r) : ∀ t ∈ ruleT r, goodT t := by
  unfold ruleT
  intro t hm
  simp only [List.mem_cons, List.mem_append] at hm
  rcases hm with rfl | hm | hm
  · exact good_n h.lo (Int.le_trans h.le h.hi)
  · split at hm
    · simp at hm
    · simp only [List.mem_cons, List.not_mem_nil, or_false] at hm
      rcases hm with rfl | rfl | rfl
      · exact good_m (by decide)
      · exact good_m (by decide)
      · exact good_n (Int.le_trans h.lo h.le) h.hi
  · exact good_target ht t hm

theorem good_rules : ∀ (l : List RuleT), (∀ r ∈ l, OkRange r ∧ OkTarget r) → ∀ t ∈ rulesT l, goodT t
  | [], _, t, ht => by simp [rulesT] at ht
  | r :: l, h, t, ht => by
    unfold rulesT at ht
    rcases List.mem_append.1 ht with q | q
    · exact good_rule (h r (by simp)).1 (h r (by simp)).2 t q
    · exact good_rules l (fun b hb => h b (by simp [hb])) t q

theorem good_state {s : StateT} (h : OkState s) : ∀ t ∈ stateT s, goodT t := by
  unfold stateT elseT
  intro t ht
  simp only [List.mem_cons, List.mem_append, List.not_mem_nil, or_false] at ht
  rcases ht with rfl | rfl | rfl | ht | ht | rfl
  · exact good_w (by decide)
  · exact good_w h.name
  · exact good_m (by decide)
  · exact good_rules _ h.rules t ht
  · split at ht
    · rename_i he
      rcases List.mem_cons.1 ht with rfl | ht
      · exact good_m (by decide)
      · exact good_target (h.some he) t ht
    · simp at ht
  · exact good_m (by decide)

theorem good_states : ∀ (l : List StateT), (∀ s ∈ l, OkState s) → ∀ t ∈ statesT l, goodT t
  | [], _, t, ht => by simp [statesT] at ht
  | s :: l, h, t, ht => by
    unfold statesT at ht
    rcases List.mem_append.1 ht with q | q
    · exact good_state (h s (by simp)) t q
    · exact good_states l (fun b hb => h b (by simp [hb])) t q

theorem good_decl {d : DeclT} (h : OkDecl d) : ∀ t ∈ declT d, goodT t := by
  unfold declT headT
  intro t ht
  simp only [List.mem_cons, List.mem_append, List.not_mem_nil, or_false] at ht
  rcases ht with (rfl | rfl | rfl | rfl | rfl | rfl | rfl) | ht | rfl
  · exact good_w (by decide)
  · exact good_w h.name
  · exact good_w (by decide)
  · exact good_w (by split <;> decide)
  · exact good_w (by decide)
  · exact good_w (by split <;> decide)
  · exact good_m (by decide)
  · exact good_states _ h.states t ht
  · exact good_m (by decide)

theorem wt_sum : ∀ (l : List TokT), (∀ t ∈ l, goodT t) → (l.map wt).sum ≤ 128 * l.length
  | [], _ => by simp
  | t :: r, h => by
    have h1 := (h t (by simp)).2.1
    have h2 := wt_sum r (fun b hb => h b (by simp [hb]))
    simp only [List.map_cons, List.sum_cons, List.length_cons]
    unfold wt at *
    omega

theorem decl_text {d : DeclT} (h : OkDecl d) : textV (declT d) = (joinB true (declT d), 0) ∧ (declT d).all formOk = true ∧ (joinB true (declT d)).length ≤ 300000 := by
  have h1 : (declT d).all formOk = true := List.all_eq_true.2 fun t ht => (good_decl h t ht).1
  have h2 := join_jl (declT d) true
  have h3 := (jl_decl h).1
  refine ⟨?_, h1, by omega⟩
  unfold textV
  rw [if_pos h1, if_neg (by omega)]

end Go.AM
end

section
/-
AM: how the tokens of a declaration are read, in plain Lean; the tokens of a declaration are read as this declaration. No condition.
-/
namespace Go.AM
open Go

abbrev PR (α : Type) := Except (List TokT) (α × List TokT)

def andP {α β : Type} (x : PR α) (f : α → List TokT → PR β) : PR β := match x with
  | .error e => .error e
  | .ok (a, q) => f a q

/-- A token of a kind, with a text, or with any one. -/
def isT (k : Int) (x : List UInt8) (t : TokT) : Bool := decide (t.1 = k) && (x.isEmpty || L t.2.1 == x)
def hdT (k : Int) (x : List UInt8) : List TokT → Bool
  | [] => false
  | t :: _ => isT k x t

def pNeed (k : Int) (x : List UInt8) : List TokT → PR TokT
  | [] => .error []
  | t :: r => if isT k x t = true then .ok (t, r) else .error (t :: r)

def opNo (b : List UInt8) : Nat := if b = L (opW 1) then 1 else if b = L (opW 2) then 2 else if b = L (opW 3) then 3 else if b = L (opW 4) then 4 else if b = L (opW 5) then 5 else if b = L (opW 6) then 6 else 0

def pArg (o : Nat) (q : List TokT) : PR (Int × Int) := if o ≤ 2 then .ok (((o : Int), 0), q) else andP (pNeed 2 [] q) fun n q => .ok (((o : Int), n.2.2.1), q)
def pAct : List TokT → PR (Int × Int)
  | [] => .error []
  | t :: r => if t.1 = 1 ∧ opNo (L t.2.1) ≠ 0 then pArg (opNo (L t.2.1)) r else .error (t :: r)

def sepB (acc : List (Int × Int)) : List UInt8 := if acc = [] then [58] else [44]
def pActs : Nat → List (Int × Int) → List TokT → PR (List (Int × Int))
  | 0, acc, q => .ok (acc, q)
  | k + 1, acc, q => if hdT 4 (sepB acc) q = true then andP (pAct q.tail) fun a q => pActs k (acc ++ [a]) q else .ok (acc, q)

def pOpt (k : Int) (x : List UInt8) (q : List TokT) : PR Bool := if hdT k x q = true then .ok (true, q.tail) else .ok (false, q)

def pTarget (lo hi : Int) (q : List TokT) : PR RuleT :=
  andP (pNeed 4 [62] q) fun _ q => andP (pNeed 1 [] q) fun t q => andP (pOpt 1 (L sAgain) q) fun ag q => andP (pActs q.length [] q) fun acts q =>
    andP (pNeed 4 [59] q) fun _ q => .ok ((lo, hi, t.2.1, ag, acts), q)

def pHi (lo : Int) (q : List TokT) : PR Int := if hdT 4 [46] q = true then andP (pNeed 4 [46] q.tail) fun _ q => andP (pNeed 2 [] q) fun h q => .ok (h.2.2.1, q) else .ok (lo, q)
def pRule (q : List TokT) : PR RuleT := andP (pNeed 2 [] q) fun n q => andP (pHi n.2.2.1 q) fun hi q => pTarget n.2.2.1 hi q
def pRules : Nat → List RuleT → List TokT → PR (List RuleT)
  | 0, acc, q => .ok (acc, q)
  | k + 1, acc, q => if hdT 2 [] q = true then andP (pRule q) fun r q => pRules k (acc ++ [r]) q else .ok (acc, q)
def pElse (q : List TokT) : PR (Bool × RuleT) := if hdT 4 [42] q = true then andP (pTarget 0 0 q.tail) fun r q => .ok ((true, r), q) else .ok ((false, noRule), q)
def pState (q : List TokT) : PR StateT :=
  andP (pNeed 1 [] q) fun n q => andP (pNeed 4 [123] q) fun _ q => andP (pRules q.length [] q) fun rs q => andP (pElse q) fun e q => andP (pNeed 4 [125] q) fun _ q => .ok ((n.2.1, rs, e.1, e.2), q)
def pStates : Nat → List StateT → List TokT → PR (List StateT)
  | 0, acc, q => .ok (acc, q)
  | k + 1, acc, q => if hdT 1 (L sState) q = true then andP (pState q.tail) fun s q => pStates k (acc ++ [s]) q else .ok (acc, q)
def pEither (a : List UInt8) (na : Int) (b : List UInt8) (nb : Int) (q : List TokT) : PR Int := if hdT 1 a q = true then .ok (na, q.tail) else andP (pNeed 1 b q) fun _ q => .ok (nb, q)
def pDecl (q : List TokT) : PR DeclT :=
  andP (pNeed 1 (L sDecoder) q) fun _ q => andP (pNeed 1 [] q) fun n q => andP (pNeed 1 (L sInput) q) fun _ q => andP (pEither (L sBit) 2 (L sByte) 3 q) fun i q =>
    andP (pNeed 1 (L sOutput) q) fun _ q => andP (pEither (L sFrame) 5 (L sPacket) 6 q) fun o q => andP (pNeed 4 [123] q) fun _ q => andP (pStates q.length [] q) fun ss q =>
      andP (pNeed 4 [125] q) fun _ q => .ok ((n.2.1, i, o, ss), q)

/-- The declaration that these tokens are, or the rest where they are wrong. -/
def allV (q : List TokT) : Except (List TokT) DeclT := match pDecl q with
  | .error e => .error e
  | .ok (d, []) => .ok d
  | .ok (_, t :: r) => .error (t :: r)

def lineV (l e : List TokT) : Int := match e with
  | t :: _ => t.2.2.2
  | [] => match l.getLast? with
    | some t => t.2.2.2
    | none => 1

def noDecl : DeclT := (strB [], 0, 0, [])

def parseV (s : List UInt8) : DeclT × Int × Int := match tokV s with
  | .error e => (noDecl, e.1, e.2)
  | .ok l => match allV l with
    | .error e => (noDecl, lineV l e, 4)
    | .ok d => if checkV d = 0 then (d, 0, 0) else (noDecl, 0, checkV d)

/-! ### what is left -/
/-- What is left is an end of it; at least n tokens are taken. -/
def Goes {α : Type} (n : Nat) (q : List TokT) : PR α → Prop
  | .ok (_, q') => q' <:+ q ∧ q'.length + n ≤ q.length
  | .error e => e <:+ q

theorem Goes.le {α : Type} {n m : Nat} {q : List TokT} {x : PR α} (h : Goes n q x) (hm : m ≤ n) : Goes m q x := by
  cases x with
  | error e => exact h
  | ok p => exact ⟨h.1, by have := h.2; omega⟩

theorem Goes.and {α β : Type} {n m : Nat} {q : List TokT} {x : PR α} {f : α → List TokT → PR β} (h : Goes n q x) (hf : ∀ a q', q' <:+ q → Goes m q' (f a q')) : Goes (n + m) q (andP x f) := by
  cases x with
  | error e => exact h
  | ok p =>
    obtain ⟨a, q'⟩ := p
    have h1 : q' <:+ q ∧ q'.length + n ≤ q.length := h
    have h2 := hf a q' h1.1
    show Goes (n + m) q (f a q')
    cases hx : f a q' with
    | error e => rw [hx] at h2; exact h2.trans h1.1
    | ok p2 =>
      rw [hx] at h2
      have h3 : p2.2 <:+ q' ∧ p2.2.length + m ≤ q'.length := h2
      exact ⟨h3.1.trans h1.1, by have := h3.2; have := h1.2; omega⟩

theorem Goes.and0 {α β : Type} {n : Nat} {q : List TokT} {x : PR α} {f : α → List TokT → PR β} (h : Goes n q x) (hf : ∀ a q', q' <:+ q → Goes 0 q' (f a q')) : Goes n q (andP x f) := h.and hf

theorem goes_ok {α : Type} (a : α) (q : List TokT) : Goes 0 q (.ok (a, q) : PR α) := ⟨List.suffix_refl q, by simp⟩

theorem goes_need (k : Int) (x : List UInt8) (q : List TokT) : Goes 1 q (pNeed k x q) := by
  cases q with
  | nil => exact List.suffix_refl _
  | cons t r =>
    show Goes 1 (t :: r) (if isT k x t = true then .ok (t, r) else .error (t :: r))
    by_cases h : isT k x t = true
    · rw [if_pos h]
      exact ⟨List.suffix_cons t r, by simp⟩
    · rw [if_neg h]
      exact List.suffix_refl _

theorem hdT_cons {k : Int} {x : List UInt8} {q : List TokT} (h : hdT k x q = true) : ∃ t r, q = t :: r ∧ isT k x t = true := by
  cases q with
  | nil => cases h
  | cons t r => exact ⟨t, r, rfl, h⟩

theorem goes_tail {α : Type} {k : Int} {x : List UInt8} {q : List TokT} (h : hdT k x q = true) {n : Nat} {p : PR α} (hp : Goes n q.tail p) : Goes (n + 1) q p := by
  obtain ⟨t, r, rfl, _⟩ := hdT_cons h
  cases p with
  | error e => exact List.IsSuffix.trans hp (List.suffix_cons t r)
  | ok p =>
    have hp' : p.2 <:+ r ∧ p.2.length + n ≤ r.length := hp
    exact ⟨hp'.1.trans (List.suffix_cons t r), by have := hp'.2; simp only [List.length_cons]; omega⟩

theorem goes_arg (o : Nat) (q : List TokT) : Goes 0 q (pArg o q) := by
  unfold pArg
  split
  · exact goes_ok _ _
  · exact ((goes_need 2 [] q).le (by omega)).and0 fun a q' _ => goes_ok _ _

theorem goes_act (q : List TokT) : Goes 1 q (pAct q) := by
  cases q with
  | nil => exact List.suffix_refl _
  | cons t r =>
    show Goes 1 (t :: r) (if t.1 = 1 ∧ opNo (L t.2.1) ≠ 0 then pArg (opNo (L t.2.1)) r else .error (t :: r))
    by_cases hc : t.1 = 1 ∧ opNo (L t.2.1) ≠ 0
    · rw [if_pos hc]
      have := goes_arg (opNo (L t.2.1)) r
      cases h : pArg (opNo (L t.2.1)) r with
      | error e =>
        rw [h] at this
        have h2 : e <:+ r := this
        exact List.IsSuffix.trans h2 (List.suffix_cons t r)
      | ok p =>
        rw [h] at this
        have h2 : p.2 <:+ r ∧ p.2.length + 0 ≤ r.length := this
        exact ⟨h2.1.trans (List.suffix_cons t r), by have := h2.2; simp only [List.length_cons]; omega⟩
    · rw [if_neg hc]
      exact List.suffix_refl _

theorem goes_acts : ∀ (k : Nat) (acc : List (Int × Int)) (q : List TokT), Goes 0 q (pActs k acc q)
  | 0, acc, q => goes_ok _ _
  | k + 1, acc, q => by
    unfold pActs
    split
    · rename_i h
      exact (goes_tail (n := 0) h (((goes_act q.tail).le (by omega)).and0 fun a q' _ => goes_acts k _ q')).le (by omega)
    · exact goes_ok _ _

theorem goes_opt (k : Int) (x : List UInt8) (q : List TokT) : Goes 0 q (pOpt k x q) := by
  unfold pOpt
  split
  · rename_i h
    exact (goes_tail (n := 0) h (goes_ok true q.tail)).le (by omega)
  · exact goes_ok _ _

theorem goes_target (lo hi : Int) (q : List TokT) : Goes 1 q (pTarget lo hi q) :=
  (goes_need 4 [62] q).and0 fun _ q _ => ((goes_need 1 [] q).le (by omega)).and0 fun _ q _ => (goes_opt 1 (L sAgain) q).and0 fun _ q _ => (goes_acts q.length [] q).and0 fun _ q _ =>
    ((goes_need 4 [59] q).le (by omega)).and0 fun _ q _ => goes_ok _ _

theorem goes_hi (lo : Int) (q : List TokT) : Goes 0 q (pHi lo q) := by
  unfold pHi
  split
  · rename_i h
    exact (goes_tail (n := 0) h (((goes_need 4 [46] q.tail).le (by omega)).and0 fun _ q _ => ((goes_need 2 [] q).le (by omega)).and0 fun _ q _ => goes_ok _ _)).le (by omega)
  · exact goes_ok _ _

theorem goes_rule (q : List TokT) : Goes 1 q (pRule q) := (goes_need 2 [] q).and0 fun _ q _ => (goes_hi _ q).and0 fun _ q _ => (goes_target _ _ q).le (by omega)

theorem goes_rules : ∀ (k : Nat) (acc : List RuleT) (q : List TokT), Goes 0 q (pRules k acc q)
  | 0, acc, q => goes_ok _ _
  | k + 1, acc, q => by
    unfold pRules
    split
    · exact ((goes_rule q).le (by omega)).and0 fun a q' _ => goes_rules k _ q'
    · exact goes_ok _ _

theorem goes_else (q : List TokT) : Goes 0 q (pElse q) := by
  unfold pElse
  split
  · rename_i h
    exact (goes_tail (n := 0) h (((goes_target 0 0 q.tail).le (by omega)).and0 fun _ q _ => goes_ok _ _)).le (by omega)
  · exact goes_ok _ _

theorem goes_state (q : List TokT) : Goes 1 q (pState q) :=
  (goes_need 1 [] q).and0 fun _ q _ => ((goes_need 4 [123] q).le (by omega)).and0 fun _ q _ => (goes_rules q.length [] q).and0 fun _ q _ => (goes_else q).and0 fun _ q _ =>
    ((goes_need 4 [125] q).le (by omega)).and0 fun _ q _ => goes_ok _ _

theorem goes_states : ∀ (k : Nat) (acc : List StateT) (q : List TokT), Goes 0 q (pStates k acc q)
  | 0, acc, q => goes_ok _ _
  | k + 1, acc, q => by
    unfold pStates
    split
    · rename_i h
      exact (goes_tail (n := 0) h (((goes_state q.tail).le (by omega)).and0 fun a q' _ => goes_states k _ q')).le (by omega)
    · exact goes_ok _ _

theorem goes_either (a : List UInt8) (na : Int) (b : List UInt8) (nb : Int) (q : List TokT) : Goes 0 q (pEither a na b nb q) := by
  unfold pEither
  split
  · rename_i h
    exact (goes_tail (n := 0) h (goes_ok na q.tail)).le (by omega)
  · exact ((goes_need 1 b q).le (by omega)).and0 fun _ q _ => goes_ok _ _

theorem goes_decl (q : List TokT) : Goes 0 q (pDecl q) :=
  ((goes_need 1 (L sDecoder) q).le (by omega)).and0 fun _ q _ => ((goes_need 1 [] q).le (by omega)).and0 fun _ q _ => ((goes_need 1 (L sInput) q).le (by omega)).and0 fun _ q _ => (goes_either _ _ _ _ q).and0 fun _ q _ =>
    ((goes_need 1 (L sOutput) q).le (by omega)).and0 fun _ q _ => (goes_either _ _ _ _ q).and0 fun _ q _ => ((goes_need 4 [123] q).le (by omega)).and0 fun _ q _ => (goes_states q.length [] q).and0 fun _ q _ =>
      ((goes_need 4 [125] q).le (by omega)).and0 fun _ q _ => goes_ok _ _

/-! ### no list that is read is longer than the tokens -/
theorem andP_ok {α β : Type} {x : PR α} {f : α → List TokT → PR β} {p : β × List TokT} (h : andP x f = .ok p) : ∃ a q, x = .ok (a, q) ∧ f a q = .ok p := by
  cases x with
  | error e => cases h
  | ok y => exact ⟨y.1, y.2, rfl, h⟩

theorem acts_len : ∀ (k : Nat) (acc : List (Int × Int)) (q : List TokT) (p : List (Int × Int) × List TokT), pActs k acc q = .ok p → p.1.length ≤ acc.length + k
  | 0, acc, q, p, h => by cases h; simp
  | k + 1, acc, q, p, h => by
    unfold pActs at h
    split at h
    · obtain ⟨a, q', _, h2⟩ := andP_ok h
      have := acts_len k _ _ _ h2
      simp only [List.length_append, List.length_cons, List.length_nil] at this
      omega
    · cases h; simp

theorem target_len {lo hi : Int} {q : List TokT} {p : RuleT × List TokT} (h : pTarget lo hi q = .ok p) : p.1.2.2.2.2.length ≤ q.length := by
  unfold pTarget at h
  obtain ⟨a1, q1, h1, h⟩ := andP_ok h
  obtain ⟨a2, q2, h2, h⟩ := andP_ok h
  obtain ⟨a3, q3, h3, h⟩ := andP_ok h
  obtain ⟨a4, q4, h4, h⟩ := andP_ok h
  obtain ⟨a5, q5, h5, h⟩ := andP_ok h
  cases h
  have g1 := goes_need 4 [62] q
  have g2 := goes_need 1 [] q1
  have g3 := goes_opt 1 (L sAgain) q2
  rw [h1] at g1; rw [h2] at g2; rw [h3] at g3
  have := acts_len _ _ _ _ h4
  have e1 := g1.2; have e2 := g2.2; have e3 := g3.2
  simp only [List.length_nil] at this
  show a4.length ≤ _
  skip
  omega

theorem rule_len {q : List TokT} {p : RuleT × List TokT} (h : pRule q = .ok p) : p.1.2.2.2.2.length ≤ q.length := by
  unfold pRule at h
  obtain ⟨a1, q1, h1, h⟩ := andP_ok h
  obtain ⟨a2, q2, h2, h⟩ := andP_ok h
  have g1 := goes_need 2 [] q
  have g2 := goes_hi a1.2.2.1 q1
  rw [h1] at g1; rw [h2] at g2
  have e1 := g1.2; have e2 := g2.2
  have := target_len h
  skip
  omega

theorem rules_len : ∀ (k : Nat) (acc : List RuleT) (q : List TokT) (N : Nat) (p : List RuleT × List TokT), pRules k acc q = .ok p → q.length ≤ N → (∀ r ∈ acc, r.2.2.2.2.length ≤ N) → p.1.length ≤ acc.length + k ∧ ∀ r ∈ p.1, r.2.2.2.2.length ≤ N
  | 0, acc, q, N, p, h, hq, ha => by cases h; exact ⟨by simp, ha⟩
  | k + 1, acc, q, N, p, h, hq, ha => by
    unfold pRules at h
    split at h
    · obtain ⟨a, q', h1, h2⟩ := andP_ok h
      have g := goes_rule q
      rw [h1] at g
      have e := g.2
      have hl := rule_len h1
      have := rules_len k _ _ N _ h2 (by omega) (fun r hr => by
        rcases List.mem_append.1 hr with hr | hr
        · exact ha r hr
        · simp only [List.mem_singleton] at hr
          subst hr
          simp only at hl
          omega)
      simp only [List.length_append, List.length_cons, List.length_nil] at this
      exact ⟨by omega, this.2⟩
    · cases h; exact ⟨by simp, ha⟩

def SmallS (N : Nat) (s : StateT) : Prop := s.2.1.length ≤ N ∧ (∀ r ∈ s.2.1, r.2.2.2.2.length ≤ N) ∧ s.2.2.2.2.2.2.2.length ≤ N

theorem else_len {q : List TokT} {p : (Bool × RuleT) × List TokT} (h : pElse q = .ok p) : p.1.2.2.2.2.2.length ≤ q.length := by
  unfold pElse at h
  split at h
  · obtain ⟨a1, q1, h1, h⟩ := andP_ok h
    cases h
    have := target_len h1
    rw [List.length_tail] at this
    show a1.2.2.2.2.length ≤ _
    simp only at this
    omega
  · cases h; simp [noRule]

theorem state_len {q : List TokT} {p : StateT × List TokT} (h : pState q = .ok p) : SmallS q.length p.1 := by
  unfold pState at h
  obtain ⟨a1, q1, h1, h⟩ := andP_ok h
  obtain ⟨a2, q2, h2, h⟩ := andP_ok h
  obtain ⟨a3, q3, h3, h⟩ := andP_ok h
  obtain ⟨a4, q4, h4, h⟩ := andP_ok h
  obtain ⟨a5, q5, h5, h⟩ := andP_ok h
  cases h
  have g1 := goes_need 1 [] q
  have g2 := goes_need 4 [123] q1
  have g3 := goes_rules q2.length [] q2
  rw [h1] at g1; rw [h2] at g2; rw [h3] at g3
  have e1 := g1.2; have e2 := g2.2; have e3 := g3.2
  skip
  have r1 := rules_len _ _ _ q.length _ h3 (by omega) (by simp)
  have r2 := else_len h4
  simp only [List.length_nil] at r1 r2
  exact ⟨by show a3.length ≤ _; omega, r1.2, by show a4.2.2.2.2.2.length ≤ _; omega⟩

theorem states_len : ∀ (k : Nat) (acc : List StateT) (q : List TokT) (N : Nat) (p : List StateT × List TokT), pStates k acc q = .ok p → q.length ≤ N → (∀ s ∈ acc, SmallS N s) → p.1.length ≤ acc.length + k ∧ ∀ s ∈ p.1, SmallS N s
  | 0, acc, q, N, p, h, hq, ha => by cases h; exact ⟨by simp, ha⟩
  | k + 1, acc, q, N, p, h, hq, ha => by
    unfold pStates at h
    split at h
    · obtain ⟨a, q', h1, h2⟩ := andP_ok h
      have g := goes_state q.tail
      rw [h1] at g
      have e := g.2
      have hl : SmallS q.tail.length a := state_len h1
      rw [List.length_tail] at e hl
      have := states_len k _ _ N _ h2 (by omega) (fun r hr => by
        rcases List.mem_append.1 hr with hr | hr
        · exact ha r hr
        · simp only [List.mem_singleton] at hr
          subst hr
          exact ⟨by have := hl.1; omega, fun r hr => by have := hl.2.1 r hr; omega, by have := hl.2.2; omega⟩)
      simp only [List.length_append, List.length_cons, List.length_nil] at this
      exact ⟨by omega, this.2⟩
    · cases h; exact ⟨by simp, ha⟩

theorem decl_len {q : List TokT} {p : DeclT × List TokT} (h : pDecl q = .ok p) (hq : q.length ≤ 1048576) : okDecl p.1 := by
  unfold pDecl at h
  obtain ⟨a1, q1, h1, h⟩ := andP_ok h
  obtain ⟨a2, q2, h2, h⟩ := andP_ok h
  obtain ⟨a3, q3, h3, h⟩ := andP_ok h
  obtain ⟨a4, q4, h4, h⟩ := andP_ok h
  obtain ⟨a5, q5, h5, h⟩ := andP_ok h
  obtain ⟨a6, q6, h6, h⟩ := andP_ok h
  obtain ⟨a7, q7, h7, h⟩ := andP_ok h
  obtain ⟨a8, q8, h8, h⟩ := andP_ok h
  obtain ⟨a9, q9, h9, h⟩ := andP_ok h
  cases h
  have g1 := goes_need 1 (L sDecoder) q
  have g2 := goes_need 1 [] q1
  have g3 := goes_need 1 (L sInput) q2
  have g4 := goes_either (L sBit) 2 (L sByte) 3 q3
  have g5 := goes_need 1 (L sOutput) q4
  have g6 := goes_either (L sFrame) 5 (L sPacket) 6 q5
  have g7 := goes_need 4 [123] q6
  rw [h1] at g1; rw [h2] at g2; rw [h3] at g3; rw [h4] at g4; rw [h5] at g5; rw [h6] at g6; rw [h7] at g7
  have e1 := g1.2; have e2 := g2.2; have e3 := g3.2; have e4 := g4.2; have e5 := g5.2; have e6 := g6.2; have e7 := g7.2
  skip
  have := states_len _ _ _ 1048576 _ h8 (by omega) (by simp)
  simp only [List.length_nil] at this
  exact ⟨by show a8.length ≤ _; omega, fun s hs => ⟨(this.2 s hs).1, (this.2 s hs).2.1, (this.2 s hs).2.2⟩⟩

end Go.AM
end

section
/-
AM: the tokens of a correct declaration are read as this declaration; what kinds of tokens a text has. No condition.
-/
namespace Go.AM
open Go

/-! ### tokens of a text -/
def tokGood (t : TokT) : Prop := 1 ≤ t.2.2.2 ∧ (t.1 = 4 → markL (L t.2.1) = true) ∧ (t.1 = 1 → nameB (L t.2.1) = true)

theorem takeV_good {l : List UInt8} {t : Int × List UInt8 × Int} {n : Nat} (h : takeV l = .ok (t, n)) : (t.1 = 4 → markL t.2.1 = true) ∧ (t.1 = 1 → nameB t.2.1 = true) := by
  unfold takeV at h
  split at h
  · cases h
  · rename_i c r
    split at h
    · simp only at h
      split at h
      · rename_i hn
        cases h
        exact ⟨fun q => by simp at q, fun _ => hn⟩
      · cases h
    · split at h
      · simp only at h
        split at h
        · cases h
          exact ⟨fun q => by simp at q, fun q => by simp at q⟩
        · cases h
      · split at h
        · split at h
          · cases h
            exact ⟨fun q => by simp at q, fun q => by simp at q⟩
          · cases h
        · split at h
          · rename_i hm
            cases h
            exact ⟨fun _ => hm, fun q => by simp at q⟩
          · cases h

theorem tokF_good : ∀ (k : Nat) (line : Int) (l : List UInt8) (ts : List TokT), 1 ≤ line → tokF k line l = .ok ts → ∀ t ∈ ts, tokGood t := by
  intro k
  induction k with
  | zero => intro line l ts _ h; cases l <;> cases h <;> simp
  | succ k ih =>
    intro line l ts hl h
    cases l with
    | nil => cases h; simp
    | cons c r =>
      rw [tokF] at h
      split at h
      · exact ih _ _ _ (by omega) h
      · split at h
        · exact ih _ _ _ hl h
        · split at h
          · exact ih _ _ _ hl h
          · split at h
            · cases h
            · rename_i t n hv
              split at h
              · rename_i ts' ht
                cases h
                intro x hx
                rcases List.mem_cons.1 hx with rfl | hx
                · have := takeV_good hv
                  exact ⟨hl, fun q => by rw [L_strB]; exact this.1 q, fun q => by rw [L_strB]; exact this.2 q⟩
                · exact ih _ _ _ hl ht x hx
              · cases h

theorem tokV_good {l : List UInt8} {ts : List TokT} (h : tokV l = .ok ts) : ∀ t ∈ ts, tokGood t := by
  unfold tokV at h
  split at h
  · cases h
  · exact tokF_good _ _ _ _ (by omega) h

theorem takeV_err {l : List UInt8} {e : Int} (h : takeV l = .error e) : e ≠ 0 := by
  unfold takeV at h
  split at h
  · cases h; decide
  · split at h
    · simp only at h
      split at h
      · cases h
      · cases h; decide
    · split at h
      · simp only at h
        split at h
        · cases h
        · rename_i hn
          cases h
          exact hn
      · split at h
        · split at h
          · cases h
          · cases h; decide
        · split at h
          · cases h
          · cases h; decide

theorem tokF_err : ∀ (k : Nat) (line : Int) (l : List UInt8) (e : Int × Int), tokF k line l = .error e → e.2 ≠ 0 := by
  intro k
  induction k with
  | zero => intro line l e h; cases l <;> cases h
  | succ k ih =>
    intro line l e h
    cases l with
    | nil => cases h
    | cons c r =>
      rw [tokF] at h
      split at h
      · exact ih _ _ _ h
      · split at h
        · exact ih _ _ _ h
        · split at h
          · exact ih _ _ _ h
          · split at h
            · rename_i e' hv
              cases h
              exact takeV_err hv
            · rename_i t n hv
              split at h
              · cases h
              · rename_i e' ht
                cases h
                exact ih _ _ _ ht

theorem tokV_err {l : List UInt8} {e : Int × Int} (h : tokV l = .error e) : e.2 ≠ 0 := by
  unfold tokV at h
  split at h
  · cases h; decide
  · exact tokF_err _ _ _ _ h

/-! ### the way back -/
theorem of_w (b : ByteArray) : tokOf (wTok b) = (1, b, 0, 1) := by
  show (1, strB (L b), 0, 1) = _
  rw [show strB (L b) = b from L_inj (L_strB _)]
theorem of_m (c : UInt8) : tokOf (mTok c) = (4, strB [c], 0, 1) := by
  show (4, strB (L (strB [c])), 0, 1) = _
  rw [L_strB]
theorem of_n (n : Int) : tokOf (nTok n) = (2, strB (Lib.itoa n), n, 1) := rfl

theorem hd_w (x : List UInt8) (b : ByteArray) (q : List TokT) : hdT 1 x (tokOf (wTok b) :: q) = (x.isEmpty || L b == x) := by rw [of_w]; rfl
theorem hd_w4 (x : List UInt8) (b : ByteArray) (q : List TokT) : hdT 4 x (tokOf (wTok b) :: q) = false := by rw [of_w]; rfl
theorem hd_w2 (x : List UInt8) (b : ByteArray) (q : List TokT) : hdT 2 x (tokOf (wTok b) :: q) = false := by rw [of_w]; rfl
theorem hd_m (x : List UInt8) (c : UInt8) (q : List TokT) : hdT 4 x (tokOf (mTok c) :: q) = (x.isEmpty || [c] == x) := by rw [of_m]; show (true && (_ || L (strB [c]) == x)) = _; rw [L_strB]; rfl
theorem hd_m1 (x : List UInt8) (c : UInt8) (q : List TokT) : hdT 1 x (tokOf (mTok c) :: q) = false := by rw [of_m]; rfl
theorem hd_m2 (x : List UInt8) (c : UInt8) (q : List TokT) : hdT 2 x (tokOf (mTok c) :: q) = false := by rw [of_m]; rfl
theorem hd_n (n : Int) (q : List TokT) : hdT 2 [] (tokOf (nTok n) :: q) = true := rfl

theorem need_of {k : Int} {x : List UInt8} {t : TokT} {q : List TokT} (h : hdT k x (t :: q) = true) : pNeed k x (t :: q) = .ok (t, q) := if_pos h
theorem need_w {b : ByteArray} {q : List TokT} : pNeed 1 (L b) (tokOf (wTok b) :: q) = .ok (tokOf (wTok b), q) := need_of (by rw [hd_w]; simp)
theorem need_name {b : ByteArray} {q : List TokT} : pNeed 1 [] (tokOf (wTok b) :: q) = .ok (tokOf (wTok b), q) := need_of (by rw [hd_w]; rfl)
theorem need_m {c : UInt8} {q : List TokT} : pNeed 4 [c] (tokOf (mTok c) :: q) = .ok (tokOf (mTok c), q) := need_of (by rw [hd_m]; simp)
theorem need_n {n : Int} {q : List TokT} : pNeed 2 [] (tokOf (nTok n) :: q) = .ok (tokOf (nTok n), q) := need_of (hd_n n q)

theorem need_cons (k : Int) (x : List UInt8) (t : TokT) (r : List TokT) : pNeed k x (t :: r) = if isT k x t = true then .ok (t, r) else .error (t :: r) := rfl
theorem acts_succ (k : Nat) (acc : List (Int × Int)) (q : List TokT) : pActs (k + 1) acc q = if hdT 4 (sepB acc) q = true then andP (pAct q.tail) fun a q => pActs k (acc ++ [a]) q else .ok (acc, q) := rfl

theorem andP_ok' {α β : Type} {a : α} {q : List TokT} {f : α → List TokT → PR β} : andP (.ok (a, q)) f = f a q := rfl

theorem opNo_op : ∀ n : Int, 1 ≤ n ∧ n ≤ 6 → opNo (L (opW n)) = n.toNat := by
  intro n h
  have : n = 1 ∨ n = 2 ∨ n = 3 ∨ n = 4 ∨ n = 5 ∨ n = 6 := by omega
  rcases this with rfl | rfl | rfl | rfl | rfl | rfl <;> decide

theorem rt_act {a : Int × Int} (h : OkAct a) (q : List TokT) : pAct ((wTok (opW a.1) :: (if a.1 > 2 then [nTok a.2] else [])).map tokOf ++ q) = .ok (a, q) := by
  have ho := opNo_op a.1 ⟨h.1, h.2.1⟩
  rw [List.map_cons, List.cons_append, of_w]
  show (if (1 : Int) = 1 ∧ opNo (L (opW a.1)) ≠ 0 then pArg (opNo (L (opW a.1))) _ else _) = _
  have h1 := h.1
  rw [ho, if_pos ⟨rfl, by omega⟩]
  unfold pArg
  have he : ((a.1.toNat : Nat) : Int) = a.1 := by omega
  by_cases h2 : a.1 > 2
  · rw [if_neg (by omega), if_pos h2, List.map_cons, List.map_nil, List.cons_append, List.nil_append, need_n, andP_ok', he]
    rfl
  · rw [if_pos (by omega), if_neg h2, he, List.map_nil, List.nil_append]
    have : a.2 = 0 := h.2.2.2.2 (by omega)
    rw [← this]

theorem rt_acts : ∀ (l : List (Int × Int)) (acc : List (Int × Int)) (k : Nat) (q : List TokT), l.length ≤ k → (∀ a ∈ l, OkAct a) → (∀ acc, hdT 4 (sepB acc) q = false) →
    pActs k acc ((actsT acc.length l).map tokOf ++ q) = .ok (acc ++ l, q)
  | [], acc, k, q, _, _, hq => by
    rw [actsT, List.map_nil, List.nil_append, List.append_nil]
    cases k with
    | zero => rfl
    | succ k => unfold pActs; rw [if_neg (by rw [hq]; simp)]
  | a :: l, acc, k, q, hk, h, hq => by
    obtain ⟨k, rfl⟩ : ∃ j, k = j + 1 := ⟨k - 1, by simp only [List.length_cons] at hk; omega⟩
    simp only [List.length_cons] at hk
    have ih := rt_acts l (acc ++ [a]) k q (by omega) (fun b hb => h b (by simp [hb])) hq
    rw [List.length_append, List.length_cons, List.length_nil] at ih
    rw [actsT, actT, List.map_append, List.append_assoc, List.map_cons, List.cons_append]
    unfold pActs
    have hs : sepB acc = [if acc.length = 0 then 58 else 44] := by
      unfold sepB
      cases acc <;> simp
    rw [if_pos (by rw [hd_m, hs]; simp), List.tail_cons, rt_act (h a (by simp)), andP_ok', ih]
    simp

theorem rt_opt_no {k : Int} {x : List UInt8} {q : List TokT} (h : hdT k x q = false) : pOpt k x q = .ok (false, q) := by unfold pOpt; rw [if_neg (by rw [h]; simp)]

theorem rt_target {r : RuleT} (h : OkTarget r) (q : List TokT) : pTarget r.1 r.2.1 ((targetT r).map tokOf ++ q) = .ok (r, q) := by
  obtain ⟨lo, hi, nx, ag, ac⟩ := r
  have key : ∀ k, ac.length ≤ k → pActs k [] ((actsT 0 ac ++ [mTok 59]).map tokOf ++ q) = .ok (ac, tokOf (mTok 59) :: q) := fun k hk => by
    rw [List.map_append, List.append_assoc]
    exact rt_acts ac [] k _ hk h.acts (fun acc => by rw [List.map_cons, List.cons_append, hd_m]; unfold sepB; split <;> rfl)
  have hlen : ac.length ≤ ((actsT 0 ac ++ [mTok 59]).map tokOf ++ q).length := by
    have : ∀ (l : List (Int × Int)) (i : Nat), l.length ≤ (actsT i l).length := by
      intro l
      induction l with
      | nil => intro i; simp
      | cons a l ih => intro i; have := ih (i + 1); simp only [actsT, actT, List.length_append, List.length_cons] at this ⊢; omega
    have := this ac 0
    simp only [List.length_append, List.length_map]
    omega
  have rest : ∀ b, (pActs ((actsT 0 ac ++ [mTok 59]).map tokOf ++ q).length [] ((actsT 0 ac ++ [mTok 59]).map tokOf ++ q) : PR (List (Int × Int))) = .ok (ac, tokOf (mTok 59) :: q) → andP (pActs ((actsT 0 ac ++ [mTok 59]).map tokOf ++ q).length [] ((actsT 0 ac ++ [mTok 59]).map tokOf ++ q)) (fun acts q => andP (pNeed 4 [59] q) fun _ q => (.ok ((lo, hi, nx, b, acts), q) : PR RuleT)) = .ok ((lo, hi, nx, b, ac), q) := fun b hb => by
    rw [hb, andP_ok', need_m]
    rfl
  unfold pTarget targetT
  rw [List.map_cons, List.map_cons, List.cons_append, List.cons_append, need_m, andP_ok', need_name, andP_ok']
  cases ag with
  | true =>
    have e : pOpt 1 (L sAgain) (((if (lo, hi, nx, true, ac).2.2.2.1 = true then [wTok sAgain] else []) ++ (actsT 0 (lo, hi, nx, true, ac).2.2.2.2 ++ [mTok 59])).map tokOf ++ q) = .ok (true, (actsT 0 ac ++ [mTok 59]).map tokOf ++ q) := by
      show pOpt 1 (L sAgain) (tokOf (wTok sAgain) :: ((actsT 0 ac ++ [mTok 59]).map tokOf ++ q)) = _
      unfold pOpt
      rw [if_pos (by rw [hd_w]; simp)]
      rfl
    rw [e, andP_ok']
    have hw : (tokOf (wTok nx)).2.1 = nx := by rw [of_w]
    rw [hw]
    exact rest true (key _ hlen)
  | false =>
    have e : pOpt 1 (L sAgain) (((if (lo, hi, nx, false, ac).2.2.2.1 = true then [wTok sAgain] else []) ++ (actsT 0 (lo, hi, nx, false, ac).2.2.2.2 ++ [mTok 59])).map tokOf ++ q) = .ok (false, (actsT 0 ac ++ [mTok 59]).map tokOf ++ q) := by
      show pOpt 1 (L sAgain) ((actsT 0 ac ++ [mTok 59]).map tokOf ++ q) = _
      refine rt_opt_no ?_
      cases ac with
      | nil => exact hd_m1 _ _ _
      | cons a l => exact hd_m1 _ _ _
    rw [e, andP_ok']
    have hw : (tokOf (wTok nx)).2.1 = nx := by rw [of_w]
    rw [hw]
    exact rest false (key _ hlen)

theorem target_head (r : RuleT) (q : List TokT) : ∃ q', (targetT r).map tokOf ++ q = tokOf (mTok 62) :: q' := ⟨_, rfl⟩

theorem rt_rule {r : RuleT} (h : OkTarget r) (q : List TokT) : pRule ((ruleT r).map tokOf ++ q) = .ok (r, q) := by
  unfold pRule ruleT
  rw [List.map_cons, List.cons_append, need_n, andP_ok', List.map_append, List.append_assoc]
  have hv : (tokOf (nTok r.1)).2.2.1 = r.1 := rfl
  rw [hv]
  by_cases he : r.2.1 = r.1
  · rw [if_pos he, List.map_nil, List.nil_append]
    have e : pHi r.1 ((targetT r).map tokOf ++ q) = .ok (r.1, (targetT r).map tokOf ++ q) := by
      obtain ⟨q', hq⟩ := target_head r q
      unfold pHi
      rw [hq, if_neg (by rw [hd_m]; decide)]
    have ht := rt_target h q
    rw [e, andP_ok']
    rw [he] at ht
    exact ht
  · rw [if_neg he]
    simp only [List.map_cons, List.map_nil, List.cons_append, List.nil_append]
    have e : pHi r.1 (tokOf (mTok 46) :: tokOf (mTok 46) :: tokOf (nTok r.2.1) :: ((targetT r).map tokOf ++ q)) = .ok (r.2.1, (targetT r).map tokOf ++ q) := by
      unfold pHi
      rw [if_pos (by rw [hd_m]; rfl), List.tail_cons, need_m, andP_ok', need_n, andP_ok']
      rfl
    rw [e, andP_ok']
    exact rt_target h q

theorem rt_rules : ∀ (l acc : List RuleT) (k : Nat) (q : List TokT), l.length ≤ k → (∀ r ∈ l, OkTarget r) → hdT 2 [] q = false → pRules k acc ((rulesT l).map tokOf ++ q) = .ok (acc ++ l, q)
  | [], acc, k, q, _, _, hq => by
    rw [rulesT, List.map_nil, List.nil_append, List.append_nil]
    cases k with
    | zero => rfl
    | succ k => unfold pRules; rw [if_neg (by rw [hq]; simp)]
  | r :: l, acc, k, q, hk, h, hq => by
    obtain ⟨k, rfl⟩ : ∃ j, k = j + 1 := ⟨k - 1, by simp only [List.length_cons] at hk; omega⟩
    simp only [List.length_cons] at hk
    have ih := rt_rules l (acc ++ [r]) k q (by omega) (fun b hb => h b (by simp [hb])) hq
    rw [rulesT, List.map_append, List.append_assoc]
    unfold pRules
    rw [if_pos (by exact hd_n _ _), rt_rule (h r (by simp)), andP_ok', ih]
    simp

theorem rt_else {s : StateT} (h : OkState s) {q : List TokT} (hq : hdT 4 [42] q = false) : pElse ((elseT s).map tokOf ++ q) = .ok ((s.2.2.1, s.2.2.2), q) := by
  unfold pElse elseT
  by_cases he : s.2.2.1 = true
  · rw [if_pos he, List.map_cons, List.cons_append, if_pos (by rw [hd_m]; rfl), List.tail_cons]
    have ht := rt_target (h.some he) q
    rw [h.els.1, h.els.2] at ht
    rw [ht, andP_ok', he]
  · have hf : s.2.2.1 = false := by simpa using he
    rw [if_neg he, List.map_nil, List.nil_append, if_neg (by rw [hq]; simp), h.none hf, hf]

theorem len_rules : ∀ l : List RuleT, l.length ≤ (rulesT l).length
  | [] => by simp
  | r :: l => by
    have := len_rules l
    simp only [rulesT, ruleT, List.length_append, List.length_cons]
    omega

theorem rt_state {s : StateT} (h : OkState s) (q : List TokT) : pState ((stateT s).tail.map tokOf ++ q) = .ok (s, q) := by
  unfold pState stateT
  rw [List.tail_cons, List.map_cons, List.map_cons, List.cons_append, List.cons_append, need_name, andP_ok', need_m, andP_ok', List.map_append, List.append_assoc]
  have hE : ∀ q', hdT 2 [] ((elseT s ++ [mTok 125]).map tokOf ++ q') = false := fun q' => by
    unfold elseT
    split <;> exact hd_m2 _ _ _
  rw [rt_rules s.2.1 [] _ _ (by have := len_rules s.2.1; simp only [List.length_append, List.length_map]; omega) (fun r hr => (h.rules r hr).2) (hE q), andP_ok', List.map_append, List.append_assoc,
    rt_else h (by exact (hd_m [42] 125 q).trans (by decide)), andP_ok']
  show andP (pNeed 4 [125] (tokOf (mTok 125) :: q)) _ = _
  rw [need_m, andP_ok', of_w]
  rfl

theorem len_states : ∀ l : List StateT, l.length ≤ (statesT l).length
  | [] => by simp
  | s :: l => by
    have := len_states l
    simp only [statesT, stateT, List.length_append, List.length_cons]
    omega

theorem rt_states : ∀ (l acc : List StateT) (k : Nat) (q : List TokT), l.length ≤ k → (∀ s ∈ l, OkState s) → hdT 1 (L sState) q = false → pStates k acc ((statesT l).map tokOf ++ q) = .ok (acc ++ l, q)
  | [], acc, k, q, _, _, hq => by
    rw [statesT, List.map_nil, List.nil_append, List.append_nil]
    cases k with
    | zero => rfl
    | succ k => unfold pStates; rw [if_neg (by rw [hq]; simp)]
  | s :: l, acc, k, q, hk, h, hq => by
    obtain ⟨k, rfl⟩ : ∃ j, k = j + 1 := ⟨k - 1, by simp only [List.length_cons] at hk; omega⟩
    simp only [List.length_cons] at hk
    have ih := rt_states l (acc ++ [s]) k q (by omega) (fun b hb => h b (by simp [hb])) hq
    have e : stateT s = wTok sState :: (stateT s).tail := rfl
    rw [statesT, List.map_append, List.append_assoc, e, List.map_cons, List.cons_append]
    unfold pStates
    rw [if_pos (by rw [hd_w]; simp), List.tail_cons, rt_state (h s (by simp)), andP_ok', ih]
    simp

theorem rt_decl {d : DeclT} (h : OkDecl d) : pDecl ((declT d).map tokOf) = .ok (d, []) := by
  unfold pDecl declT headT
  simp only [List.map_append, List.map_cons, List.map_nil, List.cons_append, List.nil_append]
  rw [need_w, andP_ok', need_name, andP_ok', need_w, andP_ok']
  have e1 : ∀ q, pEither (L sBit) 2 (L sByte) 3 (tokOf (wTok (if d.2.1 = 2 then sBit else sByte)) :: q) = .ok (d.2.1, q) := fun q => by
    unfold pEither
    by_cases hi : d.2.1 = 2
    · rw [if_pos hi, if_pos (by rw [hd_w]; simp), hi]
      rfl
    · have h3 : d.2.1 = 3 := by have := h.input; omega
      rw [if_neg hi, if_neg (by rw [hd_w]; decide), need_w, andP_ok', h3]
  have e2 : ∀ q, pEither (L sFrame) 5 (L sPacket) 6 (tokOf (wTok (if d.2.2.1 = 5 then sFrame else sPacket)) :: q) = .ok (d.2.2.1, q) := fun q => by
    unfold pEither
    by_cases hi : d.2.2.1 = 5
    · rw [if_pos hi, if_pos (by rw [hd_w]; simp), hi]
      rfl
    · have h3 : d.2.2.1 = 6 := by have := h.output; omega
      rw [if_neg hi, if_neg (by rw [hd_w]; decide), need_w, andP_ok', h3]
  rw [e1, andP_ok', need_w, andP_ok', e2, andP_ok', need_m, andP_ok',
    rt_states d.2.2.2 [] _ _ (by have := len_states d.2.2.2; simp only [List.length_append, List.length_map]; omega) h.states (by rw [hd_m1]), andP_ok', need_m, andP_ok', of_w]
  rfl

theorem rt_all {d : DeclT} (h : OkDecl d) : allV ((declT d).map tokOf) = .ok d := by
  unfold allV
  rw [rt_decl h]

theorem parse_print {d : DeclT} (h : checkV d = 0) : (printV d).2 = 0 ∧ parseV (printV d).1 = (d, 0, 0) := by
  have ho := ok_decl h
  obtain ⟨h1, h2, h3⟩ := decl_text ho
  have e : printV d = (joinB true (declT d), 0) := by unfold printV; rw [if_pos h, h1]
  rw [e]
  refine ⟨rfl, ?_⟩
  unfold parseV
  simp only
  rw [tokV_join h2 (by omega)]
  simp only
  rw [rt_all ho]
  simp only
  rw [if_pos h]

theorem print_no {d : DeclT} (h : checkV d ≠ 0) : printV d = ([], checkV d) := by unfold printV; rw [if_neg h]
theorem print_err (d : DeclT) : (printV d).2 = checkV d := by
  by_cases h : checkV d = 0
  · rw [h]; exact (parse_print h).1
  · rw [print_no h]

end Go.AM
end

section
/-
AM: the reader of declarations by index: what a place of the tokens holds; which action is read. No condition.
-/
namespace Go.AM
open Go

def isO (k : Int) (x : List UInt8) : Option TokT → Bool
  | some t => isT k x t
  | none => false

theorem hd_isO (k : Int) (x : List UInt8) (q : List TokT) : hdT k x q = isO k x q[0]? := by cases q <;> rfl

theorem need_ok_inv {k : Int} {x : List UInt8} {q r : List TokT} {t : TokT} (h : pNeed k x q = .ok (t, r)) : q = t :: r ∧ hdT k x q = true := by
  cases q with
  | nil => cases h
  | cons t' r' =>
    rw [need_cons] at h
    split at h
    · rename_i hy
      cases h
      exact ⟨rfl, hy⟩
    · cases h

theorem need_err_inv {k : Int} {x : List UInt8} {q e : List TokT} (h : pNeed k x q = .error e) : e = q ∧ hdT k x q = false := by
  cases q with
  | nil => cases h; exact ⟨rfl, rfl⟩
  | cons t r =>
    rw [need_cons] at h
    split at h
    · cases h
    · rename_i hy
      cases h
      exact ⟨rfl, by simpa [hdT] using hy⟩

theorem need_yes {k : Int} {x : List UInt8} {q : List TokT} (h : hdT k x q = true) : ∃ t r, q = t :: r ∧ pNeed k x q = .ok (t, r) := by
  obtain ⟨t, r, rfl, _⟩ := hdT_cons h
  exact ⟨t, r, rfl, need_of h⟩

theorem need_no {k : Int} {x : List UInt8} {q : List TokT} (h : hdT k x q = false) : pNeed k x q = .error q := by
  cases q with
  | nil => rfl
  | cons t r => rw [need_cons, if_neg (by rw [show isT k x t = false from h]; simp)]

theorem opW_ne {n : Nat} (h1 : 1 ≤ n) (h6 : n ≤ 6) : (L (opW n)).isEmpty = false := by
  have : n = 1 ∨ n = 2 ∨ n = 3 ∨ n = 4 ∨ n = 5 ∨ n = 6 := by omega
  rcases this with rfl | rfl | rfl | rfl | rfl | rfl <;> rfl

/-- Which action the first token begins, if any. -/
theorem act_cases (q : List TokT) : (∃ n : Nat, 1 ≤ n ∧ n ≤ 6 ∧ (∀ m : Nat, 1 ≤ m → m < n → hdT 1 (L (opW m)) q = false) ∧ hdT 1 (L (opW n)) q = true ∧ pAct q = pArg n q.tail) ∨
    ((∀ m : Nat, 1 ≤ m → m ≤ 6 → hdT 1 (L (opW m)) q = false) ∧ pAct q = .error q) := by
  cases q with
  | nil => exact .inr ⟨fun _ _ _ => rfl, rfl⟩
  | cons t r =>
    have hp : pAct (t :: r) = if t.1 = 1 ∧ opNo (L t.2.1) ≠ 0 then pArg (opNo (L t.2.1)) r else .error (t :: r) := rfl
    by_cases ht : t.1 = 1
    · have hv : ∀ n : Nat, 1 ≤ n → n ≤ 6 → hdT 1 (L (opW n)) (t :: r) = (L t.2.1 == L (opW n)) := fun n h1 h6 => by
        show (decide (t.1 = 1) && (_ || _)) = _
        rw [decide_eq_true ht, opW_ne h1 h6]
        rfl
      have inj : ∀ m n : Nat, 1 ≤ m → m ≤ 6 → 1 ≤ n → n ≤ 6 → L (opW m) = L (opW n) → m = n := fun m n a b c d e => by
        have h1 := opNo_op m ⟨by omega, by omega⟩
        have h2 := opNo_op n ⟨by omega, by omega⟩
        rw [e, h2] at h1
        omega
      have yes : ∀ n : Nat, 1 ≤ n → n ≤ 6 → L t.2.1 = L (opW n) → (∃ n : Nat, 1 ≤ n ∧ n ≤ 6 ∧ (∀ m : Nat, 1 ≤ m → m < n → hdT 1 (L (opW m)) (t :: r) = false) ∧ hdT 1 (L (opW n)) (t :: r) = true ∧ pAct (t :: r) = pArg n (t :: r).tail) := fun n h1 h6 he => by
        refine ⟨n, h1, h6, fun m m1 m2 => ?_, ?_, ?_⟩
        · rw [hv m m1 (by omega), he]
          have : ¬ L (opW n) = L (opW m) := fun e => by have := inj n m h1 h6 m1 (by omega) e; omega
          simpa using this
        · rw [hv n h1 h6, he]; simp
        · have ho : opNo (L t.2.1) = n := by rw [he]; exact opNo_op n ⟨by omega, by omega⟩
          rw [hp, ho, if_pos ⟨ht, by omega⟩]
          rfl
      by_cases e1 : L t.2.1 = L (opW (1 : Nat))
      · exact .inl (yes 1 (by omega) (by omega) e1)
      by_cases e2 : L t.2.1 = L (opW (2 : Nat))
      · exact .inl (yes 2 (by omega) (by omega) e2)
      by_cases e3 : L t.2.1 = L (opW (3 : Nat))
      · exact .inl (yes 3 (by omega) (by omega) e3)
      by_cases e4 : L t.2.1 = L (opW (4 : Nat))
      · exact .inl (yes 4 (by omega) (by omega) e4)
      by_cases e5 : L t.2.1 = L (opW (5 : Nat))
      · exact .inl (yes 5 (by omega) (by omega) e5)
      by_cases e6 : L t.2.1 = L (opW (6 : Nat))
      · exact .inl (yes 6 (by omega) (by omega) e6)
      refine .inr ⟨fun m h1 h6 => ?_, ?_⟩
      · rw [hv m h1 h6]
        have : m = 1 ∨ m = 2 ∨ m = 3 ∨ m = 4 ∨ m = 5 ∨ m = 6 := by omega
        rcases this with rfl | rfl | rfl | rfl | rfl | rfl
        · simpa using e1
        · simpa using e2
        · simpa using e3
        · simpa using e4
        · simpa using e5
        · simpa using e6
      · rw [hp, if_neg]
        unfold opNo
        rw [if_neg (show ¬ L t.2.1 = L (opW 1) from e1), if_neg (show ¬ L t.2.1 = L (opW 2) from e2), if_neg (show ¬ L t.2.1 = L (opW 3) from e3), if_neg (show ¬ L t.2.1 = L (opW 4) from e4), if_neg (show ¬ L t.2.1 = L (opW 5) from e5), if_neg (show ¬ L t.2.1 = L (opW 6) from e6)]
        simp
    · refine .inr ⟨fun m _ _ => ?_, ?_⟩
      · show (decide (t.1 = 1) && _) = _
        rw [decide_eq_false ht]
        rfl
      · rw [hp, if_neg (fun q => ht q.1)]

end Go.AM
end
