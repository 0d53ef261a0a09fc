/-
An abstract machine over plain values, and that what it computes is what the translated program does; rows out of it. No condition.
-/
import Derived.Below
import Derived.Lib.UnsafeStr
import Derived.Lib.ItoaNum
import Derived.Test.YtcflnhimlidbcaaDoorAm1
import Derived.Test.YtcflnhimlidbcaaDoorAm2
set_option linter.unusedVariables false
set_option linter.unusedSimpArgs false
set_option linter.unusedSectionVars false

section
/-
AM: what decoding emits; events that are not accepted make no difference. No condition.
-/
namespace Go.AM
open Go

theorem ignore_one {input o : Int} {rd : Rd} {x : EvT} (h : ∀ s, accV input s x = false) (s : Sig) : stepR input o rd s x = (s, []) := by
  unfold stepR
  rw [if_neg (by rw [h s]; simp)]

def inter (x : EvT) (l : List EvT) : List EvT := l.flatMap fun e => [x, e]

theorem runR_inter {input o : Int} {rd : Rd} {x : EvT} (h : ∀ s, accV input s x = false) : ∀ (l : List EvT) (s : Sig), runR input o rd s (inter x l ++ [x]) = runR input o rd s l
  | [], s => by simp [inter, runR, ignore_one h]
  | e :: l, s => by
    show runR input o rd s (x :: e :: (inter x l ++ [x])) = _
    simp only [runR, ignore_one h, runR_inter h l, List.nil_append]

theorem allR_inter {input o : Int} {rd : Rd} {x : EvT} (h : ∀ s, accV input s x = false) (l : List EvT) : allR input o rd (inter x l ++ [x]) = allR input o rd l := by
  unfold allR
  rw [runR_inter h]

theorem inter_snoc (x : EvT) (l : List EvT) (e : EvT) : inter x (l ++ [e]) = inter x l ++ [x, e] := by simp [inter]

theorem inter_len (x : EvT) (l : List EvT) : (inter x l).length = l.length * 2 := by
  induction l with
  | nil => rfl
  | cons e l ih => simp only [inter, List.flatMap_cons, List.length_append, List.length_cons, List.length_nil] at ih ⊢; omega

/-! ### what is emitted -/
structure EmitOk (o : Int) (x : EvT) : Prop where
  kind : x.1 = o
  size : x.2.2.2.2.2.1.size ≤ 4096
  le : x.2.1 ≤ x.2.2.1

section
variable {o : Int} {e : EvT} (he : e.2.1 ≤ e.2.2.1)
include he

theorem fromC_le {c : Core} (hc : emptyB c.1 = false → c.2 ≤ e.2.2.1) : fromC e c ≤ e.2.2.1 := by
  unfold fromC
  split
  · exact he
  · rename_i h; exact hc (by simpa using h)

theorem evC_ok {c : Core} (hs : c.1.size ≤ 4096) (hc : emptyB c.1 = false → c.2 ≤ e.2.2.1) (v f : Int) : EmitOk o (evC o e v f c) ∧ (evC o e v f c).2.2.1 = e.2.2.1 :=
  ⟨⟨rfl, hs, fromC_le he hc⟩, rfl⟩

theorem colC_le {c : Core} (hc : emptyB c.1 = false → c.2 ≤ e.2.2.1) (b : Int) : emptyB (colC e b c).1 = false → (colC e b c).2 ≤ e.2.2.1 := by
  unfold colC
  split
  · exact hc
  · intro _; exact fromC_le he hc

theorem actC_emit {c : Core} (hs : c.1.size ≤ 4096) (hc : emptyB c.1 = false → c.2 ≤ e.2.2.1) (a : ActT) :
    (∀ x ∈ (actC o e c a).2, EmitOk o x ∧ x.2.2.1 = e.2.2.1) ∧ (emptyB (actC o e c a).1.1 = false → (actC o e c a).1.2 ≤ e.2.2.1) := by
  have hz : emptyB core0.1 = false → core0.2 ≤ e.2.2.1 := fun h => Bool.noConfusion (h.symm.trans (show emptyB core0.1 = true by kernel_rfl))
  unfold actC
  repeat' split
  · exact ⟨fun x hx => by simp at hx, hz⟩
  · exact ⟨fun x hx => by simp at hx, colC_le he hc _⟩
  · exact ⟨fun x hx => by simp at hx, colC_le he hc _⟩
  · exact ⟨fun x hx => by simp at hx, colC_le he hc _⟩
  · exact ⟨fun x hx => by simp at hx; subst hx; exact evC_ok he hs hc _ _, hz⟩
  · exact ⟨fun x hx => by simp at hx; subst hx; exact evC_ok he hs hc _ _, hz⟩
  · exact ⟨fun x hx => by simp at hx, hc⟩

theorem doC_emit : ∀ (l : List ActT) (c : Core), c.1.size ≤ 4096 → (emptyB c.1 = false → c.2 ≤ e.2.2.1) →
    (∀ x ∈ (doC o e c l).2, EmitOk o x ∧ x.2.2.1 = e.2.2.1) ∧ (emptyB (doC o e c l).1.1 = false → (doC o e c l).1.2 ≤ e.2.2.1)
  | [], c, _, hc => ⟨fun x hx => by simp [doC] at hx, hc⟩
  | a :: l, c, hs, hc => by
    obtain ⟨h1, h2⟩ := actC_emit (o := o) he hs hc a
    obtain ⟨h3, h4⟩ := doC_emit l (actC o e c a).1 (actC_size o e c a hs) h2
    refine ⟨fun x hx => ?_, h4⟩
    simp only [doC, List.mem_append] at hx
    rcases hx with q | q
    · exact h1 x q
    · exact h3 x q

theorem rdRule_emit (ss : List StateT) : ∀ (m : Nat) (q : Int) (c : Core), c.1.size ≤ 4096 → (emptyB c.1 = false → c.2 ≤ e.2.2.1) →
    (∀ x ∈ (rdRule o ss m e q c).2.2, EmitOk o x ∧ x.2.2.1 = e.2.2.1) ∧ (emptyB (rdRule o ss m e q c).2.1.1 = false → (rdRule o ss m e q c).2.1.2 ≤ e.2.2.1) ∧ (rdRule o ss m e q c).2.1.1.size ≤ 4096
  | 0, q, c, hs, hc => ⟨fun x hx => by simp [rdRule] at hx, hc, hs⟩
  | m + 1, q, c, hs, hc => by
    rw [rdRule_succ]
    obtain ⟨h1, h2⟩ := doC_emit (o := o) he (matchV ss q e.2.2.2.1).1.2.2.2.2 c hs hc
    have h0 := doC_size o e (matchV ss q e.2.2.2.1).1.2.2.2.2 c hs
    split
    · split
      · obtain ⟨h3, h4, h5⟩ := rdRule_emit ss m (optI (findN ss (matchV ss q e.2.2.2.1).1.2.2.1)) (doC o e c (matchV ss q e.2.2.2.1).1.2.2.2.2).1 h0 h2
        refine ⟨fun x hx => ?_, h4, h5⟩
        rcases List.mem_append.1 hx with q | q
        · exact h1 x q
        · exact h3 x q
      · exact ⟨h1, h2, h0⟩
    · exact ⟨fun x hx => by simp at hx, hc, hs⟩
end

def Srt : Int → List EvT → Prop
  | _, [] => True
  | b, e :: l => b ≤ e.2.1 ∧ e.2.1 ≤ e.2.2.1 ∧ Srt e.2.2.1 l

structure EmInv (o : Int) (s : Sig) (b : Int) (O : List EvT) : Prop where
  ok : ∀ x ∈ O, EmitOk o x
  mon : O.Pairwise fun a b => a.2.2.1 ≤ b.2.2.1
  top : ∀ x ∈ O, x.2.2.1 ≤ s.last
  core : emptyB s.c.1 = false → s.c.2 ≤ s.last
  size : s.c.1.size ≤ 4096
  bound : s.ph ≠ 0 → s.last ≤ b
  fresh : s.ph = 0 → O = [] ∧ emptyB s.c.1 = true

theorem pw_all {t : Int} : ∀ {l : List EvT}, (∀ x ∈ l, x.2.2.1 = t) → l.Pairwise fun a b => a.2.2.1 ≤ b.2.2.1
  | [], _ => List.Pairwise.nil
  | x :: l, h => List.Pairwise.cons (fun y hy => by rw [h x (by simp), h y (by simp [hy])]; exact Int.le_refl _) (pw_all fun y hy => h y (by simp [hy]))

theorem EmInv.grow {o t : Int} {O l : List EvT} (h1 : ∀ x ∈ O, EmitOk o x) (h2 : O.Pairwise fun a b => a.2.2.1 ≤ b.2.2.1) (h3 : ∀ x ∈ O, x.2.2.1 ≤ t) (h4 : ∀ x ∈ l, EmitOk o x ∧ x.2.2.1 = t) :
    (∀ x ∈ O ++ l, EmitOk o x) ∧ ((O ++ l).Pairwise fun a b => a.2.2.1 ≤ b.2.2.1) ∧ ∀ x ∈ O ++ l, x.2.2.1 ≤ t := by
  refine ⟨fun x hx => ?_, List.pairwise_append.2 ⟨h2, pw_all fun x hx => (h4 x hx).2, fun a ha b hb => by rw [(h4 b hb).2]; exact h3 a ha⟩, fun x hx => ?_⟩
  · rcases List.mem_append.1 hx with q | q
    · exact h1 x q
    · exact (h4 x q).1
  · rcases List.mem_append.1 hx with q | q
    · exact h3 x q
    · rw [(h4 x q).2]; exact Int.le_refl _

theorem abort_emit {o : Int} {c : Core} {t : Int} (hc : emptyB c.1 = false → c.2 ≤ t) : ∀ x ∈ abortC o c t, EmitOk o x ∧ x.2.2.1 = t := by
  intro x hx
  unfold abortC at hx
  split at hx
  · simp at hx
  · rename_i h
    have hc' := hc (by simpa using h)
    simp at hx
    subst hx
    have e : (if c.2 < t then t else c.2) = t := by split <;> omega
    exact ⟨⟨rfl, by show (strB []).size ≤ 4096; decide, by show c.2 ≤ (if c.2 < t then t else c.2); rw [e]; exact hc'⟩, e⟩

theorem EmInv.step {input o : Int} {ss : List StateT} {n : Nat} {s : Sig} {b : Int} {O : List EvT} (h : EmInv o s b O) (e : EvT) (h1 : b ≤ e.2.1) (h2 : e.2.1 ≤ e.2.2.1) :
    EmInv o (stepR input o (rdRule o ss n) s e).1 e.2.2.1 (O ++ (stepR input o (rdRule o ss n) s e).2) := by
  unfold stepR
  cases ha : accV input s e with
  | false =>
    rw [if_neg (by simp)]
    refine ⟨by simpa using h.ok, by simpa using h.mon, by simpa using h.top, h.core, h.size, fun q => ?_, fun q => by simpa using h.fresh q⟩
    have := h.bound q
    show s.last ≤ _
    omega
  | true =>
    rw [if_pos rfl]
    have htop : ∀ x ∈ O, x.2.2.1 ≤ e.2.1 := by
      intro x hx
      by_cases q : s.ph = 0
      · rw [(h.fresh q).1] at hx; simp at hx
      · have := h.bound q; have := h.top x hx; omega
    have hcore : emptyB s.c.1 = false → s.c.2 ≤ e.2.1 := by
      intro hq
      by_cases q : s.ph = 0
      · rw [(h.fresh q).2] at hq; cases hq
      · have := h.bound q; have := h.core hq; omega
    by_cases hf : e.2.2.2.2.2.2 ≠ 0
    · rw [if_pos hf]
      obtain ⟨g1, g2, g3⟩ := EmInv.grow h.ok h.mon htop (abort_emit (o := o) hcore)
      refine ⟨g1, g2, fun x hx => ?_, fun q => Bool.noConfusion (q.symm.trans (show emptyB core0.1 = true by kernel_rfl)), (show core0.1.size ≤ 4096 by decide), fun _ => Int.le_refl _, fun q => absurd q (by show ¬ (1 : Int) = 0; decide)⟩
      have := g3 x hx
      show x.2.2.1 ≤ e.2.2.1
      omega
    · rw [if_neg hf]
      obtain ⟨k1, k2, k3⟩ := rdRule_emit (o := o) h2 ss n s.q s.c h.size (fun q => by have := hcore q; omega)
      obtain ⟨g1, g2, g3⟩ := EmInv.grow (t := e.2.2.1) h.ok h.mon (fun x hx => by have := htop x hx; omega) k1
      exact ⟨g1, g2, g3, k2, k3, fun _ => Int.le_refl _, fun q => absurd q (by show ¬ (1 : Int) = 0; decide)⟩

theorem EmInv.run {input o : Int} {ss : List StateT} {n : Nat} : ∀ (l : List EvT) (s : Sig) (b : Int) (O : List EvT), EmInv o s b O → Srt b l → ∃ b', EmInv o (runR input o (rdRule o ss n) s l).1 b' (O ++ (runR input o (rdRule o ss n) s l).2)
  | [], s, b, O, h, _ => ⟨b, by simpa [runR] using h⟩
  | e :: l, s, b, O, h, hs => by
    have h1 := h.step (input := input) (ss := ss) (n := n) e hs.1 hs.2.1
    obtain ⟨b', h2⟩ := EmInv.run l _ _ _ h1 hs.2.2
    refine ⟨b', ?_⟩
    simpa [runR, List.append_assoc] using h2

theorem emits_all {input o : Int} {ss : List StateT} {n : Nat} (l : List EvT) (b : Int) (hs : Srt b l) :
    (∀ x ∈ allR input o (rdRule o ss n) l, EmitOk o x) ∧ (allR input o (rdRule o ss n) l).Pairwise fun a b => a.2.2.1 ≤ b.2.2.1 := by
  obtain ⟨b', h⟩ := EmInv.run (input := input) (o := o) (ss := ss) (n := n) l sig0 b [] ⟨by simp, List.Pairwise.nil, by simp, fun q => Bool.noConfusion (q.symm.trans (show emptyB core0.1 = true by kernel_rfl)), by decide, fun q => absurd rfl q, fun _ => ⟨rfl, by kernel_rfl⟩⟩ hs
  rw [List.nil_append] at h
  obtain ⟨g1, g2, _⟩ := EmInv.grow h.ok h.mon h.top (abort_emit (o := o) h.core)
  exact ⟨g1, g2⟩

end Go.AM
end

section
/-
AM: more on quoted strings and numbers, over lists of bytes. No condition.
-/
namespace Go.AM
open Go

theorem scanQ_lt : ∀ (k : Nat) (r : List UInt8), r.length ≤ k → ∀ m, scanQ r = some m → m < r.length ∧ r[m]? = some 34 := by
  intro k
  induction k using Nat.strongRecOn with
  | _ k ih =>
    intro r hl m h
    cases r with
    | nil => cases h
    | cons c r =>
      simp only [List.length_cons] at hl
      rw [scanQ_cons] at h
      split at h
      · rename_i e
        cases h
        simp [e]
      · split at h
        · cases r with
          | nil => cases h
          | cons d r =>
            simp only [List.length_cons] at hl
            simp only at h
            cases hs : scanQ r with
            | none => rw [hs] at h; cases h
            | some j =>
              rw [hs] at h
              cases h
              have := ih (k - 1) (by omega) r (by omega) j hs
              simp only [List.length_cons]
              exact ⟨by omega, this.2⟩
        · cases hs : scanQ r with
          | none => rw [hs] at h; cases h
          | some j =>
            rw [hs] at h
            cases h
            have := ih (k - 1) (by omega) r (by omega) j hs
            simp only [List.length_cons]
            exact ⟨by omega, this.2⟩

theorem unqI_scan (t : List UInt8) : ∀ (k : Nat) (l o : List UInt8), l.length ≤ k → unqI k l = some o → scanQ (l ++ 34 :: t) = some l.length := by
  intro k
  induction k using Nat.strongRecOn with
  | _ k ih =>
    intro l o hl h
    cases l with
    | nil => simp [scanQ_cons]
    | cons c r =>
      simp only [List.length_cons] at hl
      obtain ⟨k, rfl⟩ : ∃ j, k = j + 1 := ⟨k - 1, by omega⟩
      simp only [unqI] at h
      rw [List.cons_append]
      split at h
      · rename_i hp
        have hp := plainB_iff.1 hp
        rw [scanQ_plain hp.2.2.1 hp.2.2.2]
        cases hu : unqI k r with
        | none => rw [hu] at h; cases h
        | some o' => rw [ih k (by omega) r o' (by omega) hu]; rfl
      · split at h
        · rename_i hc
          subst hc
          cases r with
          | nil => simp [escV] at h
          | cons e r =>
            simp only [List.length_cons] at hl
            have es : ∀ r', scanQ (92 :: e :: r') = (scanQ r').map (· + 2) := fun r' => by simp [scanQ_cons]
            rw [List.cons_append, es]
            split at h
            · rename_i b n he
              cases hu : unqI k ((e :: r).drop (n - 1)) with
              | none => rw [hu] at h; cases h
              | some o' =>
                have two : n = 2 → (scanQ (r ++ 34 :: t)).map (· + 2) = some (r.length + 1 + 1) := by
                  intro hn
                  subst hn
                  rw [ih k (by omega) r o' (by omega) (by simpa using hu)]
                  rfl
                simp only [escV] at he
                split at he
                · cases he; exact two rfl
                · split at he
                  · cases he; exact two rfl
                  · split at he
                    · split at he
                      · rename_i a b' r'
                        split at he
                        · rename_i x y hx hy
                          cases he
                          simp only [List.length_cons] at hl
                          rw [List.cons_append, List.cons_append, scanQ_plain (hexv_ne hx).1 (hexv_ne hx).2, scanQ_plain (hexv_ne hy).1 (hexv_ne hy).2, ih k (by omega) r' o' (by omega) (by simpa using hu)]
                          rfl
                        · cases he
                      · cases he
                    · cases he
            · cases h
        · cases h

/-- A quoted string is the whole of what is scanned. -/
theorem unqV_eq (r : List UInt8) : unqV (34 :: r) = match unqL r.length r with
    | some (o, []) => some o
    | _ => none := by
  unfold unqV
  simp only
  rw [unqL_scan r.length r (Nat.le_refl _)]
  by_cases hg : r.getLast? = some 34
  · rw [if_pos hg]
    obtain ⟨i, hi⟩ : ∃ i, r = i ++ [34] := by
      rw [List.getLast?_eq_some_iff] at hg
      exact hg
    subst hi
    rw [List.dropLast_concat]
    cases hu : unqI (i ++ [34]).length i with
    | some o =>
      rw [unqI_scan [] _ i o (by simp) hu]
      simp only [List.take_left]
      rw [hu]
      simp
    | none =>
      cases hs : scanQ (i ++ [34]) with
      | none => rfl
      | some m =>
        simp only
        have := scanQ_lt _ _ (Nat.le_refl _) m hs
        cases hm : unqI (i ++ [34]).length ((i ++ [34]).take m) with
        | none => rfl
        | some o =>
          simp only [Option.map_some]
          have hlt : m < i.length := by
            rcases Nat.lt_or_ge m i.length with q | q
            · exact q
            · have : m = i.length := by simp at this; omega
              subst this
              rw [List.take_left, hu] at hm
              cases hm
          split
          · rename_i e
            simp only [Option.some.injEq, Prod.mk.injEq] at e
            have := congrArg List.length e.2
            simp at this
            omega
          · rfl
  · rw [if_neg hg]
    cases hs : scanQ r with
    | none => rfl
    | some m =>
      simp only
      have h1 := scanQ_lt _ _ (Nat.le_refl _) m hs
      cases unqI r.length (r.take m) with
      | none => rfl
      | some o =>
        simp only [Option.map_some]
        split
        · rename_i e
          simp only [Option.some.injEq, Prod.mk.injEq] at e
          have h2 := congrArg List.length e.2
          simp at h2
          have h3 : m = r.length - 1 := by omega
          rw [List.getLast?_eq_getElem?, ← h3] at hg
          exact absurd h1.2 hg
        · rfl

theorem digs_pos {base : Nat} (hb : 0 < base) : ∀ (l : List UInt8) (n m : Nat), digs base l n = some m → 0 < n → 0 < m
  | [], n, m, h, hn => by cases h; exact hn
  | c :: r, n, m, h, hn => by
    unfold digs at h
    split at h
    · split at h
      · have : 0 < base * n := Nat.mul_pos hb hn
        exact digs_pos hb r _ m h (by omega)
      · cases h
    · cases h

theorem hexv_zero {c : UInt8} (h : hexv c = some 0) : c = 48 := by
  unfold hexv at h
  split at h
  · cases h' : c.toNat - 48 with
    | zero =>
      have : c.toNat = (48 : UInt8).toNat := by show c.toNat = 48; omega
      exact UInt8.toNat_inj.1 this
    | succ n => rw [h'] at h; cases h
  · split at h
    · simp at h; omega
    · cases h

/-- The first digit is not 0: the number is not 0. -/
theorem digs_first {base : Nat} (hb : 0 < base) {c : UInt8} {r : List UInt8} {m : Nat} (h : digs base (c :: r) 0 = some m) (hc : c ≠ 48) : 0 < m := by
  unfold digs at h
  split at h
  · rename_i d hd
    split at h
    · have : d ≠ 0 := fun e => hc (hexv_zero (by rw [hd, e]))
      exact digs_pos hb r _ m h (by omega)
    · cases h
  · cases h

end Go.AM
end

section
/-
AM: comments and line feeds behind a text change nothing of its tokens. No condition.
-/
namespace Go.AM
open Go

theorem unqL_append (t : List UInt8) : ∀ (k : Nat) (r : List UInt8) (K : Nat), r.length ≤ k → r.length + 1 + t.length ≤ K → unqL K (r ++ 10 :: t) = (unqL k r).map fun p => (p.1, p.2 ++ 10 :: t) := by
  intro k
  induction k using Nat.strongRecOn with
  | _ k ih =>
    intro r K hk hK
    obtain ⟨K, rfl⟩ : ∃ j, K = j + 1 := ⟨K - 1, by omega⟩
    cases r with
    | nil =>
      have : unqL k [] = none := by cases k <;> rfl
      rw [this]
      rfl
    | cons c r =>
      simp only [List.length_cons] at hk hK
      obtain ⟨k, rfl⟩ : ∃ j, k = j + 1 := ⟨k - 1, by omega⟩
      rw [List.cons_append, unqL, unqL]
      split
      · rfl
      · split
        · rfl
        · split
          · rw [ih k (by omega) r K (by omega) (by omega)]
            cases unqL k r <;> rfl
          · -- a sequence
            cases r with
            | nil => rfl
            | cons e r =>
              simp only [List.length_cons] at hk hK
              have two : ∀ b, (unqL K (r ++ 10 :: t)).map (fun p => (b :: p.1, p.2)) = ((unqL k r).map fun p => (b :: p.1, p.2)).map fun p => (p.1, p.2 ++ 10 :: t) := by
                intro b
                rw [ih k (by omega) r K (by omega) (by omega)]
                cases unqL k r <;> rfl
              simp only [List.cons_append, escV]
              by_cases h3 : e = 34 ∨ e = 92
              · rw [if_pos h3, if_pos h3]
                exact two e
              · rw [if_neg h3, if_neg h3]
                by_cases h4 : e = 110
                · rw [if_pos h4, if_pos h4]
                  exact two 10
                · rw [if_neg h4, if_neg h4]
                  by_cases h5 : e = 120
                  · rw [if_pos h5, if_pos h5]
                    match r, hk, hK with
                    | [], _, _ =>
                      have : hexv 10 = none := by decide
                      cases t with
                      | nil => rfl
                      | cons u t => simp [this]
                    | [a], _, _ =>
                      have : hexv 10 = none := by decide
                      cases ha : hexv a <;> simp [this, ha]
                    | a :: b :: r, hk, hK =>
                      simp only [List.length_cons] at hk hK
                      simp only [List.cons_append]
                      cases ha : hexv a with
                      | none => simp
                      | some x =>
                        cases hb : hexv b with
                        | none => simp
                        | some y =>
                          simp only [Nat.add_one_sub_one, List.drop_succ_cons, List.drop_zero]
                          rw [ih k (by omega) r K (by omega) (by omega)]
                          cases unqL k r <;> rfl
                  · rw [if_neg h5, if_neg h5]
                    rfl

theorem unqL_fuel (r : List UInt8) (k : Nat) (hk : r.length ≤ k) : unqL k r = unqL r.length r := by
  rw [unqL_scan k r hk, unqL_scan r.length r (Nat.le_refl _)]
  cases scanQ r with
  | none => rfl
  | some m => simp only; rw [unqI_fuel k _ (by rw [List.length_take]; omega), unqI_fuel r.length _ (by rw [List.length_take]; omega)]

theorem unqL_rest {k : Nat} {r o rest : List UInt8} (hk : r.length ≤ k) (h : unqL k r = some (o, rest)) : rest.length < r.length := by
  rw [unqL_scan k r hk] at h
  cases hs : scanQ r with
  | none => rw [hs] at h; cases h
  | some m =>
    rw [hs] at h
    simp only at h
    have := scanQ_lt _ _ (Nat.le_refl _) m hs
    cases hu : unqI k (r.take m) with
    | none => rw [hu] at h; cases h
    | some o' =>
      rw [hu] at h
      cases h
      rw [List.length_drop]; omega

theorem takeWhile_nl (t : List UInt8) : ∀ r : List UInt8, (r ++ 10 :: t).takeWhile wordB = r.takeWhile wordB
  | [] => by
    have : wordB 10 = false := by decide
    simp [this]
  | c :: r => by
    simp only [List.cons_append, List.takeWhile_cons, takeWhile_nl t r]

theorem takeWhile_len_le (p : UInt8 → Bool) (l : List UInt8) : (l.takeWhile p).length ≤ l.length := (List.takeWhile_sublist p).length_le

theorem takeV_nl (c : UInt8) (r t : List UInt8) : takeV (c :: r ++ 10 :: t) = takeV (c :: r) := by
  simp only [List.cons_append, takeV]
  rw [takeWhile_nl]
  have e0 : (c :: (r ++ 10 :: t)).takeWhile wordB = (c :: r).takeWhile wordB := takeWhile_nl t (c :: r)
  rw [e0]
  have e1 : ∀ n, n ≤ r.length + 1 → (c :: (r ++ 10 :: t)).take n = (c :: r).take n := by
    intro n hn
    rw [← List.cons_append, List.take_append_of_le_length (by simpa using hn)]
  rw [e1 _ (takeWhile_len_le wordB (c :: r)), e1 _ (by have := takeWhile_len_le wordB r; omega)]
  have e2 : unqL (r ++ 10 :: t).length (r ++ 10 :: t) = (unqL r.length r).map fun p => (p.1, p.2 ++ 10 :: t) := unqL_append t r.length r _ (Nat.le_refl _) (by simp; omega)
  rw [e2]
  cases hu : unqL r.length r with
  | none => rfl
  | some p =>
    have := unqL_rest (Nat.le_refl _) (show unqL r.length r = some (p.1, p.2) from hu)
    simp only [Option.map_some, List.length_cons, List.length_append]
    rw [show r.length + (t.length + 1) + 1 - (p.2.length + (t.length + 1)) = r.length + 1 - p.2.length by omega]

theorem takeV_pos {c : UInt8} {r : List UInt8} {t : Int × List UInt8 × Int} {n : Nat} (h : takeV (c :: r) = .ok (t, n)) : 1 ≤ n ∧ n ≤ r.length + 1 := by
  simp only [takeV] at h
  split at h
  · rename_i hc
    split at h
    · cases h
      have hw : wordB c = true := by simp [wordB, hc]
      rw [List.takeWhile_cons, if_pos hw]
      have := takeWhile_len_le wordB r
      simp only [List.length_cons]
      omega
    · cases h
  · split at h
    · split at h
      · cases h
        have := takeWhile_len_le wordB r
        omega
      · cases h
    · split at h
      · split at h
        · rename_i o rest hu
          have := unqL_rest (Nat.le_refl _) hu
          cases h
          simp only [List.length_cons]
          omega
        · cases h
      · split at h
        · cases h; omega
        · cases h

theorem dropWhile_nl (t : List UInt8) : ∀ r : List UInt8, (r ++ 10 :: t).dropWhile (· ≠ 10) = r.dropWhile (· ≠ 10) ++ 10 :: t
  | [] => by simp
  | c :: r => by
    by_cases h : c = 10
    · subst h; simp
    · have := dropWhile_nl t r
      simp only [List.cons_append, List.dropWhile_cons, ne_eq, h, not_false_eq_true, decide_true, if_true]
      exact this

theorem dropWhile_len_le (p : UInt8 → Bool) (l : List UInt8) : (l.dropWhile p).length ≤ l.length := (List.dropWhile_sublist p).length_le

/-- A line feed, a blank and a comment behind a text. -/
theorem tokF_tail (x : List UInt8) (hx : ∀ b ∈ x, b ≠ 10) : ∀ (k : Nat) (l : List UInt8) (line : Int) (K : Nat), l.length ≤ k → l.length + 3 + x.length ≤ K → tokF K line (l ++ 10 :: 32 :: 35 :: x) = tokF k line l := by
  intro k
  induction k using Nat.strongRecOn with
  | _ k ih =>
    intro l line K hk hK
    cases l with
    | nil =>
      obtain ⟨K, rfl⟩ : ∃ j, K = j + 3 := ⟨K - 3, by simp only [List.length_nil] at hK; omega⟩
      have e : x.dropWhile (· ≠ 10) = [] := by
        clear hK ih
        induction x with
        | nil => rfl
        | cons b x ihx =>
          have hb := hx b (by simp)
          simp only [List.dropWhile_cons, ne_eq, hb, not_false_eq_true, decide_true, if_true]
          exact ihx (fun b hb => hx b (by simp [hb]))
      have e1 : tokF (K + 3) line ([] ++ 10 :: 32 :: 35 :: x) = tokF K (line + 1) (x.dropWhile (· ≠ 10)) := by rfl
      rw [e1, e]
      cases k <;> cases K <;> rfl
    | cons c r =>
      simp only [List.length_cons] at hk hK
      obtain ⟨k, rfl⟩ : ∃ j, k = j + 1 := ⟨k - 1, by omega⟩
      obtain ⟨K, rfl⟩ : ∃ j, K = j + 1 := ⟨K - 1, by omega⟩
      have ht := takeV_nl c r (32 :: 35 :: x)
      rw [List.cons_append] at ht ⊢
      rw [tokF, tokF]
      split
      · exact ih k (by omega) r _ K (by omega) (by omega)
      · split
        · exact ih k (by omega) r _ K (by omega) (by omega)
        · split
          · rw [dropWhile_nl]
            have := dropWhile_len_le (· ≠ 10) r
            exact ih k (by omega) _ _ K (by omega) (by omega)
          · rw [ht]
            cases hv : takeV (c :: r) with
            | error e => rfl
            | ok p =>
              obtain ⟨t, n⟩ := p
              have hn := takeV_pos hv
              simp only
              have e2 : (c :: (r ++ 10 :: 32 :: 35 :: x)).drop n = (c :: r).drop n ++ 10 :: 32 :: 35 :: x := by
                rw [← List.cons_append, List.drop_append_of_le_length (by simp; omega)]
              rw [e2, ih k (by omega) _ line K (by rw [List.length_drop, List.length_cons]; omega) (by rw [List.length_drop, List.length_cons]; omega)]

def up1 (t : Int × ByteArray × Int × Int) : Int × ByteArray × Int × Int := (t.1, t.2.1, t.2.2.1, t.2.2.2 + 1)

theorem tokF_up : ∀ (k : Nat) (l : List UInt8) (line : Int), tokF k (line + 1) l = match tokF k line l with
    | .ok ts => .ok (ts.map up1)
    | .error e => .error (e.1 + 1, e.2) := by
  intro k
  induction k with
  | zero => intro l line; cases l <;> rfl
  | succ k ih =>
    intro l line
    cases l with
    | nil => rfl
    | cons c r =>
      rw [tokF, tokF]
      split
      · exact ih _ _
      · split
        · exact ih _ _
        · split
          · exact ih _ _
          · cases takeV (c :: r) with
            | error e => rfl
            | ok p =>
              obtain ⟨t, n⟩ := p
              simp only
              rw [ih]
              cases tokF k line ((c :: r).drop n) <;> rfl

theorem tokF_lines : ∀ (k : Nat) (l : List UInt8) (line : Int) (ts : List (Int × ByteArray × Int × Int)), tokF k line l = .ok ts → ∀ t ∈ ts, line ≤ t.2.2.2 ∧ t.2.2.2 ≤ line + l.length := by
  intro k
  induction k with
  | zero => intro l line ts h t ht; cases l <;> cases h <;> cases ht
  | succ k ih =>
    intro l line ts h t ht
    cases l with
    | nil => cases h; cases ht
    | cons c r =>
      rw [tokF] at h
      simp only [List.length_cons]
      split at h
      · have := ih _ _ _ h t ht; omega
      · split at h
        · have := ih _ _ _ h t ht; omega
        · split at h
          · have := ih _ _ _ h t ht
            have := dropWhile_len_le (· ≠ 10) r
            omega
          · split at h
            · cases h
            · rename_i t' n hv
              split at h
              · rename_i ts' hts
                cases h
                rcases List.mem_cons.1 ht with rfl | ht
                · simp only; omega
                · have := ih _ _ _ hts t ht
                  rw [List.length_drop, List.length_cons] at this
                  omega
              · cases h

end Go.AM
end

section
/-
AM: quoted strings in plain Lean: what is quoted is read back. No condition.
-/
namespace Go.AM
open Go

def hexD (n : Nat) : UInt8 := if n < 10 then UInt8.ofNat (48 + n) else UInt8.ofNat (87 + n)
def quoteC (c : UInt8) : List UInt8 := if plainB c = true then [c] else if c = 34 ∨ c = 92 then [92, c] else if c = 10 then [92, 110] else [92, 120, hexD (c.toNat / 16), hexD (c.toNat % 16)]
def quoteL (l : List UInt8) : List UInt8 := l.flatMap quoteC
def quoteV (l : List UInt8) : List UInt8 := 34 :: (quoteL l ++ [34])

theorem quoteL_cons (c : UInt8) (l : List UInt8) : quoteL (c :: l) = quoteC c ++ quoteL l := rfl

theorem quoteC_len (c : UInt8) : 1 ≤ (quoteC c).length ∧ (quoteC c).length ≤ 4 := by
  unfold quoteC
  repeat' split
  all_goals simp

theorem quoteL_len : ∀ l : List UInt8, (quoteL l).length ≤ 4 * l.length
  | [] => by simp [quoteL]
  | c :: l => by
    have h1 := quoteC_len c
    have h2 := quoteL_len l
    rw [quoteL_cons, List.length_append, List.length_cons]; omega

theorem hexv_hexD : ∀ n : Nat, n < 16 → hexv (hexD n) = some n := by decide +kernel

theorem hexD_back (c : UInt8) : UInt8.ofNat (16 * (c.toNat / 16) + c.toNat % 16) = c := by
  rw [show 16 * (c.toNat / 16) + c.toNat % 16 = c.toNat by omega]
  simp

theorem plain_not92 : plainB 92 = false := by decide

theorem unqI_quote : ∀ (l : List UInt8) (k : Nat), (quoteL l).length ≤ k → unqI k (quoteL l) = some l
  | [], k, _ => by
    have e : quoteL [] = [] := rfl
    rw [e]
    cases k <;> rfl
  | c :: l, k, h => by
    rw [quoteL_cons, List.length_append] at h
    have h1 := quoteC_len c
    obtain ⟨k, rfl⟩ : ∃ j, k = j + 1 := ⟨k - 1, by omega⟩
    have ih := unqI_quote l k (by omega)
    rw [quoteL_cons]
    unfold quoteC
    by_cases hp : plainB c = true
    · rw [if_pos hp]
      show unqI (k + 1) (c :: quoteL l) = _
      unfold unqI
      rw [if_pos hp, ih]
      rfl
    · rw [if_neg hp]
      have esc : ∀ (x : List UInt8) (n : Nat), escV x = some (c, n) → x.drop (n - 1) = quoteL l → unqI (k + 1) (92 :: x) = some (c :: l) := by
        intro x n h2 h3
        unfold unqI
        rw [if_neg (by rw [plain_not92]; simp), if_pos rfl, h2]
        simp only
        rw [h3, ih]
        rfl
      by_cases h2 : c = 34 ∨ c = 92
      · rw [if_pos h2]
        exact esc (c :: quoteL l) 2 (if_pos h2) rfl
      · rw [if_neg h2]
        by_cases h3 : c = 10
        · subst h3
          rw [if_pos rfl]
          exact esc (110 :: quoteL l) 2 rfl rfl
        · rw [if_neg h3]
          refine esc (120 :: hexD (c.toNat / 16) :: hexD (c.toNat % 16) :: quoteL l) 4 ?_ rfl
          have hc := c.toNat_lt
          show (match hexv (hexD (c.toNat / 16)), hexv (hexD (c.toNat % 16)) with
            | some x, some y => some (UInt8.ofNat (16 * x + y), 4)
            | _, _ => none) = some (c, 4)
          rw [hexv_hexD _ (by omega), hexv_hexD _ (by omega)]
          simp only
          rw [hexD_back]

theorem unqV_quote (l : List UInt8) : unqV (quoteV l) = some l := by
  have h : (quoteL l ++ [34]).getLast? = some 34 := by simp
  have e : (quoteL l ++ [34]).dropLast = quoteL l := by simp
  show (if (quoteL l ++ [34]).getLast? = some 34 then unqI (quoteL l ++ [34]).length (quoteL l ++ [34]).dropLast else none) = _
  rw [if_pos h, e]
  exact unqI_quote l _ (by simp)

/-! ### digits -/
def digsB : ByteArray := strB [48, 49, 50, 51, 52, 53, 54, 55, 56, 57, 97, 98, 99, 100, 101, 102]

theorem dig_hi : ∀ n : Nat, n < 256 → 0 ≤ (n : Int).fdiv 16 ∧ (n : Int).fdiv 16 < 16 ∧ bt digsB ((n : Int).fdiv 16) = ((hexD (n / 16)).toNat : Int) := by decide +kernel
theorem dig_lo : ∀ n : Nat, n < 256 → 0 ≤ IntKind.u8.wrap (BitVec.ofInt 8 (n : Int) &&& BitVec.ofInt 8 15).toNat ∧ IntKind.u8.wrap (BitVec.ofInt 8 (n : Int) &&& BitVec.ofInt 8 15).toNat < 16 ∧
    bt digsB (IntKind.u8.wrap (BitVec.ofInt 8 (n : Int) &&& BitVec.ofInt 8 15).toNat) = ((hexD (n % 16)).toNat : Int) := by decide +kernel
theorem dig_hi2 : ∀ n : Nat, n < 256 → 0 ≤ IntKind.u8.wrap ((n : Int).tdiv 16) ∧ IntKind.u8.wrap ((n : Int).tdiv 16) < 16 ∧ bt digsB (IntKind.u8.wrap ((n : Int).tdiv 16)) = ((hexD (n / 16)).toNat : Int) := by decide +kernel
theorem dig_lo2 : ∀ n : Nat, n < 256 → 0 ≤ (n : Int).tmod 16 ∧ (n : Int).tmod 16 < 16 ∧ bt digsB ((n : Int).tmod 16) = ((hexD (n % 16)).toNat : Int) := by decide +kernel

end Go.AM
end

section
/-
AM: contracts by hand, of callees that leave memory alone. No condition.
-/
namespace Go.AM
open Go
variable [Inhabited ZMem]

theorem Contract.still {P : Program} {f : FuncId} {fn : Func} {c : Code} (hf : P.funcs[f]? = some fn) (hb : fn.body = some c) (hn : (fn.name == "runtime.NumGoroutine") = false) {sa sr : List SSh} {g : TyS sa → Option (TyS sr)}
    (h : ∀ (w : World) (M : Mem) (G : Gh) (x : TyS sa) (y : TyS sr) (vals : Array Value), Inv w M G [] → SVRs M G vals.toList (encSs id sa x) → g x = some y → Calls P f vals w fun e w' => ∃ v, e = .returned v ∧ w' = w ∧ AVR M G v (retAV (encSs id sr y))) :
    Contract P f ⟨⟨sa, []⟩, ⟨sr, []⟩, fun x => (g x.1).bind fun y => some (y, ())⟩ := by
  refine ⟨Nat.le_refl _, fun w M G x vals hI hv h1 h0 y hy => ?_⟩
  have hrun : (callFunc f vals).run P w = .ok (.enter f vals) w := by
    simp only [beq_eq_false_iff_ne, ne_eq] at hn
    simp [callFunc, hf, hb, hn]
  refine .inr ⟨hrun, ?_⟩
  have hy' : ((g x.1).bind fun y => some (y, ())) = some y := hy
  cases hg : g x.1 with
  | none => rw [hg] at hy'; cases hy'
  | some z =>
    rw [hg] at hy'
    cases hy'
    refine (h w M G x.1 z vals hI hv hg).mono fun e w' he => ?_
    obtain ⟨v, rfl, rfl, ha⟩ := he
    exact ⟨M, G, ha, hI, Step.refl _ _ _ _, fun j hj => h1 j hj⟩

theorem Contract.below {P : Program} {f : FuncId} {fn : Func} {c : Code} (hf : P.funcs[f]? = some fn) (hb : fn.body = some c) (hn : (fn.name == "runtime.NumGoroutine") = false) {sa sr : List SSh} {g : TyS sa → Option (TyS sr)}
    (h : ∀ (w : World) (M : Mem) (G : Gh) (x : TyS sa) (y : TyS sr) (vals : Array Value), Inv w M G [] → SVRs M G vals.toList (encSs id sa x) → g x = some y →
      Calls P f vals w fun e w' => ∃ v, e = .returned v ∧ RowKit.Below w.heap.size w w' ∧ AVR M G v (retAV (encSs id sr y))) :
    Contract P f ⟨⟨sa, []⟩, ⟨sr, []⟩, fun x => (g x.1).bind fun y => some (y, ())⟩ := by
  refine ⟨Nat.le_refl _, fun w M G x vals hI hv h1 h0 y hy => ?_⟩
  have hrun : (callFunc f vals).run P w = .ok (.enter f vals) w := by
    simp only [beq_eq_false_iff_ne, ne_eq] at hn
    simp [callFunc, hf, hb, hn]
  refine .inr ⟨hrun, ?_⟩
  have hy' : ((g x.1).bind fun y => some (y, ())) = some y := hy
  cases hg : g x.1 with
  | none => rw [hg] at hy'; cases hy'
  | some z =>
    rw [hg] at hy'
    cases hy'
    refine (h w M G x.1 z vals hI hv hg).mono fun e w' he => ?_
    obtain ⟨v, rfl, hbl, ha⟩ := he
    refine ⟨M, G, ha, ⟨fun a q hq => ?_, (fun k c hk => by simp [encHs, hget] at hk), (fun k k' c c' b hk => by simp [encHs, hget] at hk), (fun b o h => by
      have h1 := hI.zone b o h
      exact h1.same (hbl.block b h1.lt)), (fun k c b hk => by simp [encHs, hget] at hk)⟩, ⟨hbl.os, hbl.tape, hbl.output, hbl.size, MLe.refl _, GLe.refl _, fun b hb _ => hbl.block b hb, fun _ _ h => .inl h, fun k c b hk _ _ => ?_⟩, fun j hj => h1 j hj⟩
    · have hc := hI.sub a q hq
      have hlt : a.block < w.heap.size := by
        rcases Nat.lt_or_ge a.block w.heap.size with h | h
        · exact h
        · unfold World.cell? at hc
          rw [Array.getElem?_eq_none h] at hc
          cases hc
      rw [← hc]
      exact hbl.cell hlt
    · simp [encHs, hget] at hk

end Go.AM
end

section
/-
AM: the contracts of strings.Builder's copyCheck and String, out of what walks say of worlds. No condition.
-/
namespace Go.AM
open Go
variable [Inhabited ZMem]

theorem liesAt_bytes_at {P : Program} {e : TypeId} (hc : P.cellsOf e = 1) (count p n : Nat) (hn : p + n ≤ count) (hp : n = 0 ∨ p < count) : liesAt P P.depth e count p e n = true := by
  have hd : P.depth = (2 * (P.types.size + Made.depth) + 1) + 1 := rfl
  rw [hd]
  simp only [liesAt, Bool.or_eq_true]
  left
  rw [hd]
  simp [rowAt, hc, sameLayout]
  omega

/-- unsafe.String over a stretch of a row of bytes. -/
theorem run_unsafeString_at {P : Program} (w : World) (pt it ty e : TypeId) (hp : P.underlying pt = some (.pointer e)) (hc : P.cellsOf e = 1) (g p cells : Nat) (hsh : w.shape? g = some (e, cells)) (l : List UInt8) (h0 : l ≠ []) (hn : p + l.length ≤ cells) (h63 : l.length ≤ 9223372036854775807)
    (hcell : ∀ j x, l[j]? = some x → w.cell? ((⟨g, p, none⟩ : Addr).add j) = some (.int .u8 x.toNat)) :
    (Builtin.unsafeString_ #[pt, it] ty #[.pointer (some ⟨g, p, none⟩), .int .i64 l.length]).run P w = .ok (.string ⟨l.toArray⟩) (w.freeze ⟨g, p, none⟩ l.length) := by
  have hl : l.length ≠ 0 := by simpa using h0
  have hlb := Lib.run_loadBytes (P := P) w l ⟨g, p, none⟩ .empty hcell
  have hlies := liesAt_bytes_at (P := P) hc (cells / P.cellsOf e) p l.length (by rw [hc]; simpa using hn) (.inr (by rw [hc]; simp; omega))
  have h63' : ¬ (9223372036854775807 : Int) < (l.length : Int) := by omega
  have hdef : Builtin.unsafeString_ #[pt, it] ty #[.pointer (some ⟨g, p, none⟩), .int .i64 l.length] =
      (do
        let n ← asInt (.int .i64 l.length)
        if n < 0 then runtimePanic (.error "unsafe.String: len out of range")
        if n > IntKind.i64.max then unsupported (.unsafePointer "String: a length above the largest int")
        if n = 0 then pure (.string .empty)
        else if ← variablesAt ⟨g, p, none⟩ (← elemOf pt) n.toNat then do
          let s ← loadBytes ⟨g, p, none⟩ .empty n.toNat
          freeze ⟨g, p, none⟩ n.toNat
          pure (.string s)
        else unsupported (.unsafePointer "String: not so many bytes at ptr")) := rfl
  rw [hdef]
  have hmax : IntKind.i64.max = 9223372036854775807 := rfl
  have hneg : ¬ (l.length : Int) < 0 := by omega
  simp [asInt, asIntOf, hmax, h63', hneg, hl, variablesAt, hsh, elemOf, run_underlying hp, hlies, hlb]

/-- A builder: its variable, and the row that it has for itself. -/
def bShape (TB TU : TypeId) : List HSh := [.box TB [.oself 0, .own 1], .arr TU (.int .u8) true]

theorem Step.congr {w w' : World} {M M' : Mem} {G G' : Gh} {H H1 H' : HL} (s : Step w M G H w' M' G' H1) (h : ∀ k, hget H' k = hget H1 k) : Step w M G H w' M' G' H' :=
  ⟨s.os, s.tape, s.output, s.size, s.mle, s.gle, s.keep, s.mnew, fun k c b hk hl hb => s.bl k c b (by rw [← h]; exact hk) hl hb⟩

theorem one_val {M : Mem} {G : Gh} {vals : Array Value} {s : SV} (h : SVRs M G vals.toList [s]) : ∃ v, vals = #[v] ∧ SVR M G v s := by
  obtain ⟨l⟩ := vals
  match l, h with
  | [v], h => exact ⟨v, rfl, h.1⟩
  | [], h => exact h.elim
  | _ :: _ :: _, h => exact h.2.elim

theorem enters {P : Program} {f : FuncId} {fn : Func} {c : Code} (hf : P.funcs[f]? = some fn) (hb : fn.body = some c) (hn : (fn.name == "runtime.NumGoroutine") = false) (vals : Array Value) (w : World) :
    (callFunc f vals).run P w = .ok (.enter f vals) w := by
  simp only [beq_eq_false_iff_ne, ne_eq] at hn
  simp [callFunc, hf, hb, hn]

section
variable {w : World} {M : Mem} {G : Gh} {TB TU : TypeId} {l : List Int}

abbrev bHeap (TB TU : TypeId) (l : List Int) : HL := [(0, .box TB [.oself 0, .own 1]), (1, .arr TU (.int .u8) l true)]

theorem builder_open (hI : Inv w M G (bHeap TB TU l)) : ∃ (b : Nat) (a0 v1 : Value), G 0 = some (.pointer (some ⟨b, 0, none⟩)) ∧ w.heap[b]? = some (.cells #[a0, v1] TB (0, 0)) ∧ (a0 = .pointer none ∨ a0 = .pointer (some ⟨b, 0, none⟩)) ∧ G 1 = some v1 ∧ (∃ a n c, v1 = .slice a n c) ∧ ∀ a : Addr, a.block = b → M a = none := by
  obtain ⟨b, vs, hg, hheap, hc, hm⟩ := hI.cells 0 _ rfl
  obtain ⟨vl⟩ := vs
  match vl, hc with
  | [a0, v1], ⟨⟨b', hg', ha⟩, ⟨hg1, hs⟩, _⟩ =>
    rw [hg] at hg'
    cases hg'
    exact ⟨b, a0, v1, hg, hheap, ha, hg1, hs, hm⟩
  | [], hc => exact hc.elim
  | [_], hc => exact hc.2.elim
  | _ :: _ :: _ :: _, hc => exact hc.2.2.elim

theorem cell_of {b j : Nat} {cs : Array Value} {t : TypeId} {fr : Nat × Nat} (h : w.heap[b]? = some (.cells cs t fr)) : w.cell? ⟨b, j, none⟩ = cs[j]? := by simp [World.cell?, h]

end

theorem Contract.copyCheck {P : Program} {f : FuncId} {fn : Func} {c : Code} (hf : P.funcs[f]? = some fn) (hb : fn.body = some c) (hn : (fn.name == "runtime.NumGoroutine") = false) {TB TU : TypeId}
    (used : ∀ (b : Nat) (w : World), w.cell? ⟨b, 0, none⟩ = some (.pointer (some ⟨b, 0, none⟩)) → Calls P f #[.pointer (some ⟨b, 0, none⟩)] w fun e w' => e = .returned (.tuple #[]) ∧ w' = w)
    (fresh : ∀ (b : Nat) (w : World), w.cell? ⟨b, 0, none⟩ = some (.pointer none) → w.shape? b = some (TB, 2) → w.frozen? ⟨b, 0, none⟩ = false →
      Calls P f #[.pointer (some ⟨b, 0, none⟩)] w fun e w' => e = .returned (.tuple #[]) ∧ w' = w.setCell ⟨b, 0, none⟩ (.pointer (some ⟨b, 0, none⟩))) :
    Contract P f ⟨⟨[.one (.ptr 0 0)], bShape TB TU⟩, ⟨[], bShape TB TU⟩, fun x => some ((), x.2)⟩ := by
  refine ⟨Nat.le_refl _, fun w M G x vals hI hv h1 h0 y hy => ?_⟩
  have hrun := enters hf hb hn vals w
  obtain ⟨v, rfl, hvv⟩ := one_val hv
  obtain ⟨_, ⟨_, _, _⟩, l, _⟩ := x
  have hI' : Inv w M G (bHeap TB TU l) := hI
  obtain ⟨b, a0, v1, hg, hheap, ha, hg1, hs1, hm⟩ := builder_open hI'
  obtain ⟨b', hg', rfl⟩ := hvv
  have hg0 : G 0 = some (.pointer (some ⟨b', 0, none⟩)) := hg'
  rw [hg] at hg0
  cases hg0
  cases hy
  refine .inr ⟨hrun, ?_⟩
  have c0 : w.cell? ⟨b, 0, none⟩ = some a0 := by rw [cell_of hheap]; rfl
  rcases ha with rfl | rfl
  · refine (fresh b w c0 (by simp [World.shape?, hheap]) (by simp [World.frozen?, hheap])).mono fun e w' he => ?_
    obtain ⟨rfl, rfl⟩ := he
    have hgr : w.grownBy (w.setCell ⟨b, 0, none⟩ (.pointer (some ⟨b, 0, none⟩))) (some b) := ⟨rfl, rfl, rfl, by simp [World.setCell], fun k _ hk => RowKit.Below.heap_setCell _ _ _ _ (fun e => hk (by simp [e]))⟩
    have hsub : ∀ (a : Addr) (q : Value), M a = some q → (w.setCell ⟨b, 0, none⟩ (.pointer (some ⟨b, 0, none⟩))).cell? a = some q := by
      intro a q h
      have hne : a.block ≠ b := fun e => by rw [hm a e] at h; cases h
      have h2 := hI'.sub a q h
      unfold World.cell? at h2 ⊢
      rw [RowKit.Below.heap_setCell _ _ _ _ hne]
      exact h2
    have hheap' : (w.setCell ⟨b, 0, none⟩ (.pointer (some ⟨b, 0, none⟩))).heap[b]? = some (.cells #[.pointer (some ⟨b, 0, none⟩), v1] TB (0, 0)) := by
      simp [World.setCell, Array.getElem?_modify, hheap]
    have hk : HCR (w.setCell ⟨b, 0, none⟩ (.pointer (some ⟨b, 0, none⟩))) M G 0 (.box TB [.oself 0, .own 1]) :=
      ⟨b, _, hg, hheap', ⟨⟨b, hg, .inr rfl⟩, ⟨hg1, hs1⟩, trivial⟩, hm⟩
    have hbb : ∀ b', (HC.box TB [.oself 0, .own 1]).live → blk G 0 = some b' → w.heap.size ≤ b' ∨ some b = some b' := by
      intro b' _ h
      rw [blk_of hg] at h
      exact .inr h
    have i1 := hI'.put 0 _ hgr (MLe.refl _) (GLe.refl _) (fun _ _ h => .inl h) hsub (fun k' c' b1 hne hk' hl' e => by
      cases e
      exact hI'.sep 0 k' _ c' b rfl hk' trivial hl' (fun q => hne q.symm) (by rw [blk_of hg]; rfl)) hk hbb (fun b1 e => by cases e; exact hI'.zsep 0 _ b rfl trivial (by rw [blk_of hg]; rfl))
    have s1 := Step.put (k := 0) (c := .box TB [.oself 0, .own 1]) hI' hgr (MLe.refl _) (GLe.refl _) (fun _ _ h => .inl h) (fun b1 h => by cases h; exact ⟨0, _, rfl, trivial, by rw [blk_of hg]; rfl⟩) hbb
    have hcg : ∀ k, hget (bHeap TB TU l) k = hget ((0, .box TB [.oself 0, .own 1]) :: bHeap TB TU l) k := fun k => by
      by_cases e : 0 = k
      · subst e; rfl
      · simp [bHeap, hget, e]
    exact ⟨M, G, ⟨#[], rfl, trivial⟩, i1.congr hcg, s1.congr hcg, fun j hj => h1 j hj⟩
  · refine (used b w c0).mono fun e w' he => ?_
    obtain ⟨rfl, rfl⟩ := he
    exact ⟨M, G, ⟨#[], rfl, trivial⟩, hI', Step.refl _ _ _ _, fun j hj => h1 j hj⟩

theorem heap_freeze_other (w : World) (p : Addr) (n k : Nat) (h : k ≠ p.block) : (w.freeze p n).heap[k]? = w.heap[k]? := by
  unfold World.freeze
  split
  · rfl
  · simp only [Array.getElem?_modify]
    rw [if_neg (fun e => h e.symm)]

theorem cell_freeze (w : World) (p : Addr) (n : Nat) (a : Addr) : (w.freeze p n).cell? a = w.cell? a := by
  by_cases h : a.block = p.block
  · unfold World.freeze
    split
    · rfl
    · unfold World.cell?
      simp only [Array.getElem?_modify, h, if_pos]
      cases e : w.heap[p.block]? with
      | none => simp
      | some o =>
        simp only [Option.map_some]
        cases o with
        | cells c t fr => obtain ⟨lo, hi⟩ := fr; rfl
        | _ => rfl
  · unfold World.cell?
    rw [heap_freeze_other w p n _ h]

def byteL (l : List Int) : Bool := l.all fun n => decide (0 ≤ n ∧ n ≤ 255)

theorem byte_back (m : Int) (h1 : 0 ≤ m) (h2 : m ≤ 255) : (((UInt8.ofNat m.toNat).toNat : Nat) : Int) = m := by
  rw [UInt8.toNat_ofNat_of_lt' (by show m.toNat < 256; omega)]
  omega

theorem Contract.bString {P : Program} {f : FuncId} {fn : Func} {c : Code} (hf : P.funcs[f]? = some fn) (hb : fn.body = some c) (hn : (fn.name == "runtime.NumGoroutine") = false) {TB TU : TypeId}
    (nilw : ∀ (b : Nat) (w : World) (cs : Array Value), w.heap[b]? = some (.cells cs TB (0, 0)) → cs[1]? = some (.slice none 0 0) → Calls P f #[.pointer (some ⟨b, 0, none⟩)] w fun e w' => e = .returned (.string .empty) ∧ w' = w.drew)
    (room : ∀ (b g p cap : Nat), cap ≠ 0 → ∀ (w : World) (cs : Array Value), w.heap[b]? = some (.cells cs TB (0, 0)) → cs[1]? = some (.slice (some ⟨g, p, none⟩) 0 cap) → Calls P f #[.pointer (some ⟨b, 0, none⟩)] w fun e w' => e = .returned (.string .empty) ∧ w' = w.drew)
    (noroom : ∀ (b g p : Nat) (w : World) (cs cur : Array Value), w.heap[b]? = some (.cells cs TB (0, 0)) → cs[1]? = some (.slice (some ⟨g, p, none⟩) 0 0) → w.heap[g]? = some (.cells cur TU (0, 0)) →
      Calls P f #[.pointer (some ⟨b, 0, none⟩)] w fun e w' => e = .returned (.string .empty) ∧ w' = w.drew.alloc (.view ⟨g, p, none⟩ TU))
    (row : ∀ (b g p cap : Nat) (w : World) (cs cur : Array Value) (l : List UInt8), l ≠ [] → w.heap[b]? = some (.cells cs TB (0, 0)) → cs[1]? = some (.slice (some ⟨g, p, none⟩) l.length cap) → w.heap[g]? = some (.cells cur TU (0, 0)) →
      l.length ≤ cap → p + cap ≤ cur.size → cap ≤ maxLen → (∀ j x, l[j]? = some x → w.cell? ((⟨g, p, none⟩ : Addr).add j) = some (.int .u8 x.toNat)) →
      Calls P f #[.pointer (some ⟨b, 0, none⟩)] w fun e w' => e = .returned (.string ⟨l.toArray⟩) ∧ w' = w.drew.freeze ⟨g, p, none⟩ l.length) :
    Contract P f ⟨⟨[.one (.ptr 0 0)], bShape TB TU⟩, ⟨[.one .str], [.dead, .dead]⟩, fun x => if byteL x.2.2.1 = true then some ((strOfBytes x.2.2.1, ()), ((), (), ())) else none⟩ := by
  refine ⟨Nat.le_refl _, fun w M G x vals hI hv h1 h0 y hy => ?_⟩
  have hrun := enters hf hb hn vals w
  obtain ⟨v, rfl, hvv⟩ := one_val hv
  obtain ⟨_, ⟨_, _, _⟩, l, _⟩ := x
  have hI' : Inv w M G (bHeap TB TU l) := hI
  obtain ⟨b, a0, v1, hg, hheap, ha, hg1, hs1, hm⟩ := builder_open hI'
  obtain ⟨b', hg', rfl⟩ := hvv
  have hg0 : G 0 = some (.pointer (some ⟨b', 0, none⟩)) := hg'
  rw [hg] at hg0
  cases hg0
  have hy' : (if byteL l = true then some ((strOfBytes l, ()), ((), (), ())) else none) = some y := hy
  have hbl : byteL l = true := by
    by_cases q : byteL l = true
    · exact q
    · rw [if_neg q] at hy'; cases hy'
  rw [if_pos hbl] at hy'
  cases hy'
  obtain ⟨v1', xs, hg1', hown, hrow, hmm⟩ := hI'.cells 1 _ rfl
  rw [hg1] at hg1'
  cases hg1'
  refine .inr ⟨hrun, ?_⟩
  have hc1 : (#[a0, v1] : Array Value)[1]? = some v1 := rfl
  -- what is left where no cell turns, and no block but the row's
  have fin : ∀ (w' : World), w'.os = w.os → w'.tape = w.tape → w'.output = w.output → w.heap.size ≤ w'.heap.size → (∀ a q, w.cell? a = some q → w'.cell? a = some q) →
      (∀ k, k < w.heap.size → some k ≠ blkV v1 → w'.heap[k]? = w.heap[k]?) → Ret w M G (bHeap TB TU l) ⟨[.one .str], [.dead, .dead]⟩ ((strOfBytes l, ()), ((), (), ())) (.string (strOfBytes l)) w' := by
    intro w' q1 q2 q3 q4 q5 q6
    have dead : ∀ k c, hget [(0, HC.dead), (1, HC.dead)] k = some c → ¬ c.live := by
      intro k c hk
      simp only [hget] at hk
      split at hk
      · cases hk; exact id
      · split at hk
        · cases hk; exact id
        · cases hk
    refine ⟨M, G, ⟨rfl, rfl⟩, ⟨fun a q h => q5 a q (hI'.sub a q h), fun k c hk => ?_, fun k k' c c' b1 hk _ hl _ => absurd hl (dead k c hk), fun bz o hz => ?_, fun k c b1 hk hl => absurd hl (dead k c hk)⟩, ⟨q1, q2, q3, q4, MLe.refl _, GLe.refl _, fun k hk hne => q6 k hk (fun e => ?_), fun _ _ h => .inl h, fun k c b1 hk hl => absurd hl (dead k c hk)⟩, fun j hj => h1 j hj⟩
    · have := dead k c hk
      cases c with
      | dead => trivial
      | box _ _ => exact absurd trivial this
      | arr _ _ _ _ => exact absurd trivial this
    · have hz1 := hI'.zone bz o hz
      exact hz1.same (q6 bz hz1.lt (fun e => by rw [hI'.zsep 1 _ bz rfl trivial (by rw [blk_of hg1]; exact e.symm)] at hz; cases hz))
    · exact hne 1 _ rfl trivial (by rw [blk_of hg1]; exact e.symm)
  rcases hown.2 with ⟨rfl, hz⟩ | ⟨g, p, cap, cur, rfl, hgg, hnc, hcm, hcs, htake⟩
  · have hl : l = [] := List.eq_nil_of_length_eq_zero hz
    subst hl
    refine (nilw b w _ hheap hc1).mono fun e w' he => ?_
    obtain ⟨rfl, rfl⟩ := he
    exact fin w.drew rfl rfl rfl (Nat.le_refl _) (fun _ _ h => h) (fun _ _ _ => rfl)
  · simp only [U.size, Nat.mul_one] at hcs htake
    cases l with
    | nil =>
      by_cases hc : cap = 0
      · subst hc
        refine (noroom b g p w _ cur hheap hc1 hgg).mono fun e w' he => ?_
        obtain ⟨rfl, rfl⟩ := he
        refine fin _ rfl rfl rfl (by show w.heap.size ≤ (w.heap.push _).size; simp) (fun a q h => ?_) (fun k hk _ => ?_)
        · show (w.drew.alloc _).cell? a = some q
          rw [World.cell?_alloc_lt]
          · exact h
          · exact World.block_lt_of_cell? w a h
        · show (w.heap.push _)[k]? = _
          rw [Array.getElem?_push, if_neg (by omega)]
      · refine (room b g p cap hc w _ hheap hc1).mono fun e w' he => ?_
        obtain ⟨rfl, rfl⟩ := he
        exact fin w.drew rfl rfl rfl (Nat.le_refl _) (fun _ _ h => h) (fun _ _ _ => rfl)
    | cons n0 l0 =>
      have hlen : ((n0 :: l0).map fun n => UInt8.ofNat n.toNat).length = (n0 :: l0).length := by simp
      have hcell : ∀ j x, ((n0 :: l0).map fun n => UInt8.ofNat n.toNat)[j]? = some x → w.cell? ((⟨g, p, none⟩ : Addr).add j) = some (.int .u8 x.toNat) := by
        intro j x hx
        have hj : j < (n0 :: l0).length := by have := (List.getElem?_eq_some_iff.1 hx).1; simpa using this
        have hx' : UInt8.ofNat ((n0 :: l0)[j]).toNat = x := by
          rw [List.getElem?_map, List.getElem?_eq_getElem hj] at hx
          simpa using hx
        have hd := hrow.2 j hj
        have hxs : xs[j]? = some (.int .u8 (n0 :: l0)[j]) := by
          have h2 : (xs.drop (j * 1)).take 1 = [.int .u8 (n0 :: l0)[j]] := hd
          rw [Nat.mul_one] at h2
          have h3 : xs.length = (n0 :: l0).length := by have := hrow.1; simpa [U.size] using this
          rw [List.drop_eq_getElem_cons (by omega)] at h2
          simp only [List.take_succ_cons, List.take_zero, List.cons.injEq, and_true] at h2
          rw [List.getElem?_eq_getElem (by omega), h2]
        have hc := hown.cells (g := g) rfl j _ hxs
        have hr := List.all_eq_true.1 hbl _ (List.getElem_mem hj)
        have hr2 := of_decide_eq_true hr
        have e1 : ((x.toNat : Nat) : Int) = (n0 :: l0)[j] := by
          rw [← hx']
          exact byte_back _ hr2.1 hr2.2
        rw [e1]
        exact hc
      have hr := row b g p cap w _ cur ((n0 :: l0).map fun n => UInt8.ofNat n.toNat) (by simp) hheap (by rw [hlen]; exact hc1) hgg (by rw [hlen]; exact hnc) hcs hcm hcell
      refine hr.mono fun e w' he => ?_
      obtain ⟨rfl, rfl⟩ := he
      refine fin _ ?_ ?_ ?_ ?_ (fun a q h => ?_) (fun k hk hne => ?_)
      · unfold World.freeze; split <;> rfl
      · unfold World.freeze; split <;> rfl
      · unfold World.freeze; split <;> rfl
      · unfold World.freeze; split
        · exact Nat.le_refl _
        · simp
      · rw [cell_freeze]; exact h
      · rw [heap_freeze_other _ _ _ _ (fun e => hne (by rw [e]; rfl))]
        rfl

end Go.AM
end

section
/-
AM: the text of tokens in plain Lean. No condition.
-/
namespace Go.AM
open Go

abbrev TokT : Type := Int × ByteArray × Int × Int

def markL : List UInt8 → Bool
  | [c] => markB c
  | _ => false

/-- How a token is written, apart from whether it is valid. -/
def formB (t : TokT) : List UInt8 := if t.1 = 2 then Lib.itoa t.2.2.1 else if t.1 = 3 then quoteV (L t.2.1) else L t.2.1

def formOk (t : TokT) : Bool :=
  if t.1 = 1 then nameB (L t.2.1) && decide (t.2.2.1 = 0)
  else if t.1 = 2 then decide ((numV (L t.2.1)).2 = 0) && decide ((numV (L t.2.1)).1 = t.2.2.1)
  else if t.1 = 3 then decide (t.2.2.1 = 0)
  else if t.1 = 4 then markL (L t.2.1) && decide (t.2.2.1 = 0)
  else false

/-- Tokens with a blank ahead of each but the first. -/
def joinB : Bool → List TokT → List UInt8
  | _, [] => []
  | true, t :: r => formB t ++ joinB false r
  | false, t :: r => 32 :: (formB t ++ joinB false r)

def textV (l : List TokT) : List UInt8 × Int := if l.all formOk = true then (if 1048576 < (joinB true l).length then ([], 6) else (joinB true l, 0)) else ([], 1)

def wt (t : TokT) : Nat := 4 * t.2.1.size + 64

theorem numN_ok {neg : Bool} {o : Option Nat} (h : (numN neg o).2 = 0) : -9007199254740992 ≤ (numN neg o).1 ∧ (numN neg o).1 ≤ 9007199254740992 := by
  unfold numN at h ⊢
  split
  · simp at h
  · split
    · simp
    · split
      · rename_i h1 h2; simp only at h; rw [if_neg h1, if_pos h2] at h; simp at h
      · simp only
        split <;> omega

theorem numV_ok {l : List UInt8} (h : (numV l).2 = 0) : -9007199254740992 ≤ (numV l).1 ∧ (numV l).1 ≤ 9007199254740992 := by
  unfold numV at h ⊢
  split
  · exact numN_ok h
  · rename_i hn
    split at h
    · rename_i r; exact absurd rfl (hn r)
    · exact numN_ok h

theorem decDigits_len : ∀ (k u : Nat), u < 10 ^ (k + 1) → (Lib.decDigits u).length ≤ k + 1
  | 0, u, h => by
    rw [Lib.decDigits, dif_pos (by simpa using h)]
    simp
  | k + 1, u, h => by
    rw [Lib.decDigits]
    split
    · simp
    · have := decDigits_len k (u / 10) (by rw [Nat.div_lt_iff_lt_mul (by omega)]; rw [Nat.pow_succ] at h; exact h)
      simp only [List.length_append, List.length_cons, List.length_nil]
      omega

theorem itoa_len {v : Int} (h1 : -9007199254740992 ≤ v) (h2 : v ≤ 9007199254740992) : (Lib.itoa v).length ≤ 17 := by
  unfold Lib.itoa
  split
  · have := decDigits_len 15 v.natAbs (by show _ < 10000000000000000; omega)
    simp only [List.length_cons]
    omega
  · have := decDigits_len 15 v.toNat (by show _ < 10000000000000000; omega)
    omega

theorem formB_len {t : TokT} (h : formOk t = true) : (formB t).length + 1 ≤ wt t := by
  unfold formOk at h
  unfold formB wt
  by_cases h2 : t.1 = 2
  · rw [if_neg (by omega), if_pos h2] at h
    simp only [Bool.and_eq_true, decide_eq_true_eq] at h
    have hr := numV_ok h.1
    rw [h.2] at hr
    have := itoa_len hr.1 hr.2
    rw [if_pos h2]
    omega
  · rw [if_neg h2]
    split
    · have := quoteL_len (L t.2.1)
      rw [L_len] at this
      unfold quoteV
      simp only [List.length_cons, List.length_append, List.length_nil]
      omega
    · rw [L_len]; omega

theorem joinB_len : ∀ (l : List TokT) (b : Bool), l.all formOk = true → (joinB b l).length ≤ (l.map wt).sum
  | [], b, _ => by cases b <;> simp [joinB]
  | t :: r, b, h => by
    simp only [List.all_cons, Bool.and_eq_true] at h
    have h1 := formB_len h.1
    have h2 := joinB_len r false h.2
    cases b <;> simp only [joinB, List.length_append, List.length_cons, List.map_cons, List.sum_cons] <;> omega

end Go.AM
end

section
/-
AM: the tokens of the text of tokens are these tokens. No condition.
-/
namespace Go.AM
open Go

/-! ### numbers -/
theorem digs_app (base : Nat) : ∀ (a b : List UInt8) (n : Nat), digs base (a ++ b) n = (digs base a n).bind (digs base b)
  | [], b, n => rfl
  | c :: a, b, n => by
    simp only [List.cons_append, digs]
    cases hexv c with
    | none => rfl
    | some d =>
      simp only
      split
      · exact digs_app base a b _
      · rfl

theorem hexv_dig : ∀ u : Nat, u < 10 → hexv (UInt8.ofNat (48 + u)) = some u := by decide +kernel
theorem dig_ne : ∀ u : Nat, u < 10 → 0 < u → UInt8.ofNat (48 + u) ≠ 48 := by decide +kernel
theorem dig_digit : ∀ u : Nat, u < 10 → digitB (UInt8.ofNat (48 + u)) = true := by decide +kernel

theorem dec_cut {u : Nat} (h : ¬ u < 10) : Lib.decDigits u = Lib.decDigits (u / 10) ++ [UInt8.ofNat (48 + u % 10)] := by rw [Lib.decDigits, dif_neg h]
theorem dec_one {u : Nat} (h : u < 10) : Lib.decDigits u = [UInt8.ofNat (48 + u)] := by rw [Lib.decDigits, dif_pos h]

theorem digs_dec : ∀ (k u : Nat), u ≤ k → u ≤ 9007199254740992 → digs 10 (Lib.decDigits u) 0 = some u := by
  intro k
  induction k with
  | zero =>
    intro u hk hu
    have : u = 0 := by omega
    subst this
    rw [dec_one (by omega)]
    decide
  | succ k ih =>
    intro u hk hu
    by_cases h : u < 10
    · rw [dec_one h]
      simp only [digs, hexv_dig u h, if_pos h]
      congr 1
      omega
    · rw [dec_cut h, digs_app, ih (u / 10) (by omega) (by omega)]
      have hm : u % 10 < 10 := Nat.mod_lt _ (by omega)
      simp only [Option.bind_some, digs, hexv_dig _ hm, if_pos hm]
      congr 1
      omega

theorem dec_head : ∀ (k u : Nat), u ≤ k → 0 < u → ∃ c r, Lib.decDigits u = c :: r ∧ c ≠ 48 := by
  intro k
  induction k with
  | zero => intro u hk h0; omega
  | succ k ih =>
    intro u hk h0
    by_cases h : u < 10
    · exact ⟨_, [], dec_one h, dig_ne u h h0⟩
    · obtain ⟨c, r, e, hc⟩ := ih (u / 10) (by omega) (by omega)
      exact ⟨c, r ++ [UInt8.ofNat (48 + u % 10)], by rw [dec_cut h, e]; rfl, hc⟩

theorem dec_digits : ∀ (k u : Nat), u ≤ k → ∀ c ∈ Lib.decDigits u, digitB c = true := by
  intro k
  induction k with
  | zero =>
    intro u hk c hc
    rw [dec_one (by omega)] at hc
    simp only [List.mem_singleton] at hc
    subst hc
    exact dig_digit u (by omega)
  | succ k ih =>
    intro u hk c hc
    by_cases h : u < 10
    · rw [dec_one h] at hc
      simp only [List.mem_singleton] at hc
      subst hc
      exact dig_digit u h
    · rw [dec_cut h] at hc
      rcases List.mem_append.1 hc with q | q
      · exact ih (u / 10) (by omega) c q
      · simp only [List.mem_singleton] at q
        subst q
        exact dig_digit _ (Nat.mod_lt _ (by omega))

theorem dec_cons (u : Nat) : ∃ c r, Lib.decDigits u = c :: r ∧ (c ≠ 48 ∨ r = []) := by
  by_cases h : u = 0
  · subst h
    exact ⟨_, [], dec_one (by omega), .inr rfl⟩
  · obtain ⟨c, r, e, hc⟩ := dec_head u u (Nat.le_refl _) (by omega)
    exact ⟨c, r, e, .inl hc⟩

theorem body_dec {u : Nat} (hu : u ≤ 9007199254740992) : bodyV (Lib.decDigits u) = some u := by
  have hd := dec_digits u u (Nat.le_refl _)
  have hn : natV (Lib.decDigits u) 10 = some u := by
    obtain ⟨c, r, e, hc⟩ := dec_cons u
    have hg := digs_dec u u (Nat.le_refl _) hu
    rw [e] at hg ⊢
    unfold natV
    simp only
    rw [if_neg (fun q => by rcases hc with h | h; exact h q.1; exact q.2 h)]
    exact hg
  unfold bodyV
  split
  · rename_i c r e
    have := hd 120 (by rw [e]; simp)
    exact absurd this (by decide)
  · exact hn

theorem numV_itoa {v : Int} (h1 : -9007199254740992 ≤ v) (h2 : v ≤ 9007199254740992) : numV (Lib.itoa v) = (v, 0) := by
  unfold Lib.itoa
  by_cases hn : v < 0
  · rw [if_pos hn, numV_minus, body_dec (by omega)]
    unfold numN
    simp only
    rw [if_neg (by omega), if_neg (by omega), if_pos trivial]
    congr 1
    omega
  · rw [if_neg hn]
    obtain ⟨c, r, e, _⟩ := dec_cons v.toNat
    have hc : c ≠ 45 := by
      intro q
      have := dec_digits v.toNat v.toNat (Nat.le_refl _) c (by rw [e]; simp)
      rw [q] at this
      exact absurd this (by decide)
    have hb := body_dec (u := v.toNat) (by omega)
    rw [e] at hb ⊢
    rw [numV_other hc, hb]
    unfold numN
    simp only
    rw [if_neg (by simp), if_neg (by omega), if_neg (by simp)]
    congr 1
    omega

theorem digit_word {c : UInt8} (h : digitB c = true) : wordB c = true := by
  unfold wordB
  rw [h]
  simp

theorem itoa_cons (v : Int) : ∃ c r, Lib.itoa v = c :: r ∧ (digitB c = true ∨ c = 45) ∧ ∀ x ∈ r, wordB x = true := by
  unfold Lib.itoa
  split
  · exact ⟨45, _, rfl, .inr rfl, fun x hx => digit_word (dec_digits _ _ (Nat.le_refl _) x hx)⟩
  · obtain ⟨c, r, e, _⟩ := dec_cons v.toNat
    have hd := dec_digits v.toNat v.toNat (Nat.le_refl _)
    rw [e] at hd ⊢
    exact ⟨c, r, rfl, .inl (hd c (by simp)), fun x hx => digit_word (hd x (by simp [hx]))⟩

/-! ### quoted strings -/
theorem unqL_quote (rest : List UInt8) : ∀ (l : List UInt8) (k : Nat), (quoteL l).length + 1 ≤ k → unqL k (quoteL l ++ 34 :: rest) = some (l, rest)
  | [], k, h => by
    obtain ⟨k, rfl⟩ : ∃ j, k = j + 1 := ⟨k - 1, by omega⟩
    show unqL (k + 1) (34 :: rest) = _
    rw [unqL, if_pos rfl]
  | c :: l, k, h => by
    rw [quoteL_cons, List.length_append] at h
    have h1 := quoteC_len c
    obtain ⟨k, rfl⟩ : ∃ j, k = j + 1 := ⟨k - 1, by omega⟩
    have ih := unqL_quote rest l k (by omega)
    rw [quoteL_cons]
    unfold quoteC
    by_cases hp : plainB c = true
    · rw [if_pos hp]
      have hq := plainB_iff.1 hp
      show unqL (k + 1) (c :: (quoteL l ++ 34 :: rest)) = _
      rw [unqL, if_neg hq.2.2.1, if_neg (by omega), if_pos hq.2.2.2, ih]
      rfl
    · rw [if_neg hp]
      have esc : ∀ (x : List UInt8) (n : Nat), escV x = some (c, n) → x.drop (n - 1) = quoteL l ++ 34 :: rest → unqL (k + 1) (92 :: x) = some (c :: l, rest) := by
        intro x n h2 h3
        rw [unqL, if_neg (by decide), if_neg (by decide), if_neg (by simp), h2]
        simp only
        rw [h3, ih]
        rfl
      by_cases h2 : c = 34 ∨ c = 92
      · rw [if_pos h2]
        exact esc (c :: (quoteL l ++ 34 :: rest)) 2 (if_pos h2) rfl
      · rw [if_neg h2]
        by_cases h3 : c = 10
        · subst h3
          rw [if_pos rfl]
          exact esc (110 :: (quoteL l ++ 34 :: rest)) 2 rfl rfl
        · rw [if_neg h3]
          refine esc (120 :: hexD (c.toNat / 16) :: hexD (c.toNat % 16) :: (quoteL l ++ 34 :: rest)) 4 ?_ rfl
          have hc := c.toNat_lt
          show (match hexv (hexD (c.toNat / 16)), hexv (hexD (c.toNat % 16)) with
            | some x, some y => some (UInt8.ofNat (16 * x + y), 4)
            | _, _ => none) = some (c, 4)
          rw [hexv_hexD _ (by omega), hexv_hexD _ (by omega)]
          simp only
          rw [hexD_back]

/-! ### one token -/
def Stop (rest : List UInt8) : Prop := rest = [] ∨ ∃ r, rest = 32 :: r

theorem take_stop {p : UInt8 → Bool} (h32 : p 32 = false) : ∀ {a rest : List UInt8}, (∀ x ∈ a, p x = true) → Stop rest → (a ++ rest).takeWhile p = a
  | [], rest, _, h => by
    rcases h with rfl | ⟨r, rfl⟩
    · rfl
    · simp [h32]
  | x :: a, rest, ha, h => by
    rw [List.cons_append, List.takeWhile_cons, ha x (by simp), take_stop h32 (fun y hy => ha y (by simp [hy])) h]
    rfl

def txtB (t : TokT) : List UInt8 := if t.1 = 2 then Lib.itoa t.2.2.1 else L t.2.1
def tokOf (t : TokT) : TokT := (t.1, strB (txtB t), t.2.2.1, 1)

theorem letter_facts : ∀ c : UInt8, letterB c = true → c ≠ 10 ∧ c ≠ 32 ∧ c ≠ 9 ∧ c ≠ 35 := by
  intro c h
  refine ⟨?_, ?_, ?_, ?_⟩ <;> (rintro rfl; exact absurd h (by decide))
theorem digit_facts : ∀ c : UInt8, (digitB c = true ∨ c = 45) → letterB c = false ∧ c ≠ 10 ∧ c ≠ 32 ∧ c ≠ 9 ∧ c ≠ 35 := by
  intro c h
  rcases h with h | rfl
  · refine ⟨?_, ?_, ?_, ?_, ?_⟩
    · unfold digitB at h
      simp only [Bool.and_eq_true, decide_eq_true_eq] at h
      unfold letterB
      rw [decide_eq_false (show ¬ 97 ≤ c.toNat by omega)]
      rfl
    all_goals (rintro rfl; exact absurd h (by decide))
  · decide
theorem mark_facts : ∀ c : UInt8, markB c = true → letterB c = false ∧ ¬ (digitB c = true ∨ c = 45) ∧ c ≠ 34 ∧ c ≠ 10 ∧ c ≠ 32 ∧ c ≠ 9 ∧ c ≠ 35 := by
  have key : ∀ c ∈ marks, letterB c = false ∧ ¬ (digitB c = true ∨ c = 45) ∧ c ≠ 34 ∧ c ≠ 10 ∧ c ≠ 32 ∧ c ≠ 9 ∧ c ≠ 35 := by decide +kernel
  intro c h
  exact key c (by unfold markB at h; simpa using h)

theorem tok_one {t : TokT} (h : formOk t = true) {rest : List UInt8} (hr : Stop rest) :
    takeV (formB t ++ rest) = .ok ((t.1, txtB t, t.2.2.1), (formB t).length) ∧ ∃ c r, formB t = c :: r ∧ c ≠ 10 ∧ c ≠ 32 ∧ c ≠ 9 ∧ c ≠ 35 := by
  have w32 : wordB 32 = false := by decide
  unfold formOk at h
  unfold formB txtB
  by_cases h1 : t.1 = 1
  · rw [if_pos h1] at h
    simp only [Bool.and_eq_true, decide_eq_true_eq] at h
    rw [if_neg (by omega), if_neg (by omega), if_neg (by omega)]
    cases hL : L t.2.1 with
    | nil => rw [hL] at h; cases h.1
    | cons c r =>
      rw [hL] at h
      have hn := h.1
      have hn2 := h.1
      rw [nameB_cons] at hn2
      simp only [Bool.and_eq_true] at hn2
      have hall := List.all_eq_true.1 hn2.2
      refine ⟨?_, c, r, rfl, letter_facts c hn2.1.2⟩
      have e := take_stop w32 hall hr
      rw [List.cons_append] at e
      unfold takeV
      rw [List.cons_append]
      simp only
      rw [if_pos hn2.1.2, e, show ((c :: (r ++ rest)).take (c :: r).length) = c :: r by simp, if_pos hn, h1, h.2]
  rw [if_neg h1] at h
  by_cases h2 : t.1 = 2
  · rw [if_pos h2] at h
    simp only [Bool.and_eq_true, decide_eq_true_eq] at h
    have hv := numV_ok h.1
    rw [h.2] at hv
    rw [if_pos h2, if_pos h2]
    obtain ⟨c, r, e, hc, hw⟩ := itoa_cons t.2.2.1
    have hnum := numV_itoa hv.1 hv.2
    rw [e] at hnum ⊢
    have hf := digit_facts c hc
    refine ⟨?_, c, r, rfl, hf.2⟩
    unfold takeV
    rw [List.cons_append]
    simp only
    rw [if_neg (by rw [hf.1]; simp), if_pos hc, take_stop w32 hw hr, show (c :: (r ++ rest)).take (1 + r.length) = c :: r by rw [Nat.add_comm]; simp, hnum, if_pos rfl, h2]
    rw [List.length_cons, Nat.add_comm]
  rw [if_neg h2] at h
  rw [if_neg h2, if_neg h2]
  by_cases h3 : t.1 = 3
  · rw [if_pos h3] at h
    simp only [decide_eq_true_eq] at h
    rw [if_pos h3]
    refine ⟨?_, 34, quoteL (L t.2.1) ++ [34], rfl, by decide⟩
    have e : quoteV (L t.2.1) ++ rest = 34 :: (quoteL (L t.2.1) ++ 34 :: rest) := by simp [quoteV]
    rw [e]
    unfold takeV
    simp only
    rw [if_neg (by decide), if_neg (by decide), if_pos trivial, unqL_quote rest (L t.2.1) _ (by simp)]
    simp only
    rw [h3, h]
    congr 2
    simp [quoteV]
    omega
  rw [if_neg h3] at h
  rw [if_neg h3]
  by_cases h4 : t.1 = 4
  · rw [if_pos h4] at h
    simp only [Bool.and_eq_true, decide_eq_true_eq] at h
    obtain ⟨c, hc⟩ : ∃ c, L t.2.1 = [c] := by
      have := h.1
      unfold markL at this
      split at this
      · rename_i c e; exact ⟨c, e⟩
      · cases this
    rw [hc] at h ⊢
    have hm : markB c = true := h.1
    have hf := mark_facts c hm
    refine ⟨?_, c, [], rfl, hf.2.2.2⟩
    unfold takeV
    rw [List.cons_append]
    simp only
    rw [if_neg (by rw [hf.1]; simp), if_neg hf.2.1, if_neg hf.2.2.1, if_pos hm, h4, h.2]
    rfl
  · rw [if_neg h4] at h; cases h

theorem join_stop (l : List TokT) : Stop (joinB false l) := by
  cases l with
  | nil => exact .inl rfl
  | cons t r => exact .inr ⟨_, rfl⟩

theorem tokF_join : ∀ (l : List TokT) (k : Nat), l.all formOk = true → (joinB true l).length ≤ k → tokF k 1 (joinB true l) = .ok (l.map tokOf)
  | [], k, _, _ => by cases k <;> rfl
  | t :: r, k, h, hk => by
    simp only [List.all_cons, Bool.and_eq_true] at h
    obtain ⟨h1, c, q, h2, h3, h4, h5, h6⟩ := tok_one h.1 (join_stop r)
    have hj : joinB true (t :: r) = formB t ++ joinB false r := rfl
    rw [hj] at hk ⊢
    rw [h2] at h1 hk ⊢
    simp only [List.cons_append, List.length_cons, List.length_append] at h1 hk ⊢
    obtain ⟨k, rfl⟩ : ∃ j, k = j + 1 := ⟨k - 1, by omega⟩
    have hd : (c :: (q ++ joinB false r)).drop (q.length + 1) = joinB false r := by simp
    have hrest : tokF k 1 (joinB false r) = .ok (r.map tokOf) := by
      cases r with
      | nil => cases k <;> rfl
      | cons t2 r2 =>
        have e : joinB false (t2 :: r2) = 32 :: joinB true (t2 :: r2) := rfl
        rw [e] at hk ⊢
        simp only [List.length_cons] at hk
        obtain ⟨k, rfl⟩ : ∃ j, k = j + 1 := ⟨k - 1, by omega⟩
        rw [tokF, if_neg (by decide), if_pos (.inl rfl)]
        exact tokF_join (t2 :: r2) k h.2 (by omega)
    rw [tokF, if_neg h3, if_neg (by simp [h4, h5]), if_neg h6, h1]
    simp only
    rw [hd, hrest]
    rfl

theorem tokV_join {l : List TokT} (h : l.all formOk = true) (hl : (joinB true l).length ≤ 1048576) : tokV (joinB true l) = .ok (l.map tokOf) := by
  unfold tokV
  rw [if_neg (by omega)]
  exact tokF_join l _ h (Nat.le_refl _)

theorem formB_tokOf {t : TokT} (h : formOk t = true) : formOk (tokOf t) = true ∧ formB (tokOf t) = formB t := by
  unfold formOk at h
  unfold tokOf formOk formB txtB
  simp only [L_strB]
  by_cases h1 : t.1 = 1
  · simp only [h1, if_true] at h ⊢
    exact ⟨by simpa using h, by simp⟩
  by_cases h2 : t.1 = 2
  · rw [if_neg h1, if_pos h2] at h
    simp only [Bool.and_eq_true, decide_eq_true_eq] at h
    have hv := numV_ok h.1
    rw [h.2] at hv
    simp only [h2, if_true]
    rw [numV_itoa hv.1 hv.2]
    simp
  simp only [if_neg h2, if_neg h1] at h ⊢
  exact ⟨h, trivial⟩

theorem join_tokOf : ∀ (l : List TokT) (b : Bool), l.all formOk = true → joinB b (l.map tokOf) = joinB b l ∧ (l.map tokOf).all formOk = true
  | [], b, _ => by cases b <;> exact ⟨rfl, rfl⟩
  | t :: r, b, h => by
    simp only [List.all_cons, Bool.and_eq_true] at h
    obtain ⟨h1, h2⟩ := formB_tokOf h.1
    obtain ⟨h3, h4⟩ := join_tokOf r false h.2
    refine ⟨?_, by simp only [List.map_cons, List.all_cons, Bool.and_eq_true]; exact ⟨h1, h4⟩⟩
    cases b <;> simp only [List.map_cons, joinB, h2, h3]

theorem textV_tokOf {l : List TokT} (h : l.all formOk = true) : textV (l.map tokOf) = textV l := by
  obtain ⟨h1, h2⟩ := join_tokOf l true h
  unfold textV
  rw [if_pos h2, if_pos h, h1]

end Go.AM
end
