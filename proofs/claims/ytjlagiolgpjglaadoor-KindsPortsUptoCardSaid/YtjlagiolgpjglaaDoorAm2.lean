/-
An abstract machine over plain values, and that what it computes is what the translated program does; rows out of it. No condition.
-/
import Derived.Tactics
import Derived.LoopN
import Derived.Scope
import Derived.KernelRfl
import Derived.Carry
import Derived.WalkKit
import Derived.ProofKit
import Derived.OpenShut
import Derived.ShutString
import Derived.ChangeOld
import Derived.Below
import Derived.JoinedCond
import Derived.Deep.Slices
import Derived.Laws.StructEq
import Derived.ChangeKeysEq
import Derived.IntWalk
import Derived.Test.YtjlagiolgpjglaaDoorAm1
set_option linter.unusedVariables false
set_option linter.unusedSimpArgs false
set_option linter.unusedSectionVars false

section
/-
AM: one operation, whichever it is, does in the model what it does here. No condition.
-/
namespace Go.AM
open Go
variable [Inhabited ZMem]

section
variable {P : Program} {T : TT} {w : World} {M : Mem} {G : Gh} {H : HL} {R : Type} {C : CT} {base n : Nat} {e : Operand → AV} {a : Act} {k : AV → Upd → Option R} {r : R} {o : Oper}

/-- The operation leads where the rest goes on. -/
def Acts (P : Program) (w : World) (M : Mem) (G : Gh) (H : HL) (base n : Nat) (a : Act) (o : Oper) (k : AV → Upd → Option R) (r : R) : Prop :=
  ∃ v u, k v u = some r ∧ Runs P a o w (Good w M G H base n v u)

theorem Good.wide {v : AV} {u : Upd} {val : Value} {w' : World} {n' : Nat} (h : Good w M G H base n v u val w') (hn : n ≤ n') : Good w M G H base n' v u val w' := by
  obtain ⟨M', G', h1, h2, h3, h4⟩ := h
  exact ⟨M', G', h1, h2, h3, fun j hj => h4 j (by omega)⟩

theorem Runs.mono {R1 R2 : Value → World → Prop} (h : Runs P a o w R1) (hr : ∀ v w', R1 v w' → R2 v w') : Runs P a o w R2 :=
  fun next Q hn => h next Q (fun v w' q => hn v w' (hr v w' q))

theorem acts_of {v : AV} {u : Upd} (hk : k v u = some r) (h : Runs P a o w (Good w M G H base n v u)) : Acts P w M G H base n a o k r := ⟨v, u, hk, h⟩

theorem eval_val {x : Operand} (he : ∀ x, AVR M G (a.eval x) (e x)) {v : Value} (h : e x = .sv (.one (.val v))) : a.eval x = v := by
  have := he x
  rw [h] at this
  exact this.1

theorem acts_pick (hI : Inv w M G H) (he : ∀ x, AVR M G (a.eval x) (e x)) {c x y : Operand} (ho : o.op = .pick c x y) (hk : act T C o base e H k = some r) : Acts P w M G H base n a o k r := by
  simp only [act, ho] at hk
  split at hk
  · rename_i t hc
    have hc' := eval_val he hc
    split at hk
    · rename_i ka vx kb vy hx hy
      split at hk
      · rename_i hkk
        subst hkk
        refine acts_of hk (pick_sound hI ho hc' ?_)
        have h1 := eval_val he hx
        have h2 := eval_val he hy
        cases t
        · exact ⟨h2, rfl⟩
        · exact ⟨h1, rfl⟩
      · cases hk
    · rename_i vx vy hx hy
      refine acts_of hk (pick_sound hI ho hc' ?_)
      have h1 := eval_val he hx
      have h2 := eval_val he hy
      cases t
      · exact ⟨h2, rfl⟩
      · exact ⟨h1, rfl⟩
    · rename_i vx vy hx hy
      refine acts_of hk (pick_sound hI ho hc' ?_)
      have h1 := eval_val he hx
      have h2 := eval_val he hy
      cases t
      · exact ⟨h2, rfl⟩
      · exact ⟨h1, rfl⟩
    · split at hk
      · rename_i ht
        subst ht
        exact acts_of hk (pick_sound hI ho hc' (by simpa using he x))
      · rename_i ht
        exact acts_of hk (pick_sound hI ho hc' (by simpa [ht] using he y))
  · cases hk

theorem acts_build (hT : TOK P T) (hI : Inv w M G H) (he : ∀ x, AVR M G (a.eval x) (e x)) {t : TypeId} {parts : Array (Nat × Operand)} (ho : o.op = .build t parts) (hk : act T C o base e H k = some r) : Acts P w M G H base n a o k r := by
  simp only [act, ho] at hk
  split at hk
  · rename_i d hd
    split at hk
    · rename_i fs hf
      split at hk
      · rename_i cs hc
        exact acts_of hk (build_struct hT hI he ho hd hf hc)
      · cases hk
    · rename_i m el hf
      split at hk
      · rename_i de hde
        split at hk
        · rename_i cs hc
          exact acts_of hk (build_array hT hI he ho hd hf hde hc)
        · cases hk
      · cases hk
    · cases hk
  · cases hk

theorem acts_buildSlice (hT : TOK P T) (hI : Inv w M G H) (he : ∀ x, AVR M G (a.eval x) (e x)) (hf : ∀ j, base ≤ j → j < base + 1 → G j = none) {t : TypeId} {len : Nat} {parts : Array (Nat × Operand)} (ho : o.op = .buildSlice t len parts) (hk : act T C o base e H k = some r) : Acts P w M G H base 1 a o k r := by
  simp only [act, ho] at hk
  split at hk
  · rename_i te u de h
    split at hk
    · rename_i cs hc
      split at hk
      · rename_i l hl
        split at hk
        · rename_i h24
          exact acts_of hk (buildSlice_sound hT hI he ho h hc hl h24 (hf base (Nat.le_refl _) (by omega)))
        · cases hk
      · cases hk
    · cases hk
  · cases hk

theorem acts_store (hT : TOK P T) (hI : Inv w M G H) (he : ∀ x, AVR M G (a.eval x) (e x)) {t : TypeId} {x y : Operand} (ho : o.op = .store t x y) (hk : act T C o base e H k = some r) : Acts P w M G H base n a o k r := by
  simp only [act, ho] at hk
  split at hk
  · rename_i b off s d hx hs hd
    have h1 := he x
    rw [hx] at h1
    split at hk
    · rename_i cs hb
      split at hk
      · rename_i hl
        exact acts_of hk (store_box hT hI ho hd h1 (cellsA_sound hs (he y)) (cellsA_nj hs) hb hl)
      · cases hk
    · cases hk
  · rename_i b i sz off s d hx hs hd
    have h1 := he x
    rw [hx] at h1
    split at hk
    · rename_i tu u l hb
      split at hk
      · rename_i hl
        split at hk
        · rename_i y' hun
          exact acts_of hk (store_elem hT hI ho hd h1 (cellsA_sound hs (he y)) (cellsA_nj hs) hb hl hun)
        · cases hk
      · cases hk
    · cases hk
  · cases hk

theorem acts_nilCheck (hI : Inv w M G H) (he : ∀ x, AVR M G (a.eval x) (e x)) {x : Operand} (ho : o.op = .nilCheck x) (hk : act T C o base e H k = some r) : Acts P w M G H base n a o k r := by
  simp only [act, ho] at hk
  split at hk
  · rename_i b off hx
    exact acts_of hk (nilCheck_sound hI ho (by rw [← hx]; exact he x) (.inl ⟨_, _, rfl⟩))
  · rename_i u y off hx
    exact acts_of hk (nilCheck_sound hI ho (by rw [← hx]; exact he x) (.inr (.inl ⟨_, _, _, rfl⟩)))
  · rename_i b i sz off hx
    exact acts_of hk (nilCheck_sound hI ho (by rw [← hx]; exact he x) (.inr (.inr (.inl ⟨_, _, _, _, rfl⟩))))
  · rename_i f cs hx
    exact acts_of hk (nilCheck_sound hI ho (by rw [← hx]; exact he x) (.inr (.inr (.inr ⟨_, _, rfl⟩))))
  · cases hk

theorem acts_binOp (hT : TOK P T) (hI : Inv w M G H) (he : ∀ x, AVR M G (a.eval x) (e x)) {op : BinOp} {t t' : TypeId} {x y : Operand} (ho : o.op = .binOp op t x y t') (hk : act T C o base e H k = some r) : Acts P w M G H base n a o k r := by
  simp only [act, ho] at hk
  split at hk
  · rename_i hx hy
    split at hk
    · rename_i hi
      exact acts_of hk (binOp_nil hT hI ho (eval_val he hx) (eval_val he hy) hi (.inl ⟨rfl, rfl⟩))
    · rename_i hi
      exact acts_of hk (binOp_nil hT hI ho (eval_val he hx) (eval_val he hy) hi (.inr ⟨rfl, rfl⟩))
    · cases hk
  · rename_i va vb hx hy
    exact binOp_vals hT hI ho (eval_val he hx) (eval_val he hy) hk
  · rename_i ca cb hx hy
    have h1 := he x
    have h2 := he y
    rw [hx] at h1
    rw [hy] at h2
    split at hk
    · rename_i d hd
      split at hk
      · rename_i hq
        split at hk
        · rename_i u hu
          split at hk
          · rename_i xa xb ha hb
            split at hk
            · exact acts_of hk (binOp_agg hT hI ho h1 h2 hd hq hu ha hb (.inl ⟨rfl, rfl⟩))
            · exact acts_of hk (binOp_agg hT hI ho h1 h2 hd hq hu ha hb (.inr ⟨rfl, rfl⟩))
            · cases hk
          · cases hk
        · cases hk
      · cases hk
    · cases hk
  · cases hk

theorem acts_unOp (hI : Inv w M G H) (he : ∀ x, AVR M G (a.eval x) (e x)) {op : UnOp} {t : TypeId} {x : Operand} (ho : o.op = .unOp op t x) (hk : act T C o base e H k = some r) : Acts P w M G H base n a o k r := by
  simp only [act, ho] at hk
  split at hk
  · rename_i kk m hx
    exact acts_of hk (unOp_sound hI ho (eval_val he hx) (.inl ⟨kk, m, rfl, rfl, rfl⟩))
  · rename_i b hx
    exact acts_of hk (unOp_sound hI ho (eval_val he hx) (.inr (.inl ⟨b, rfl, rfl, rfl⟩)))
  · rename_i kk m hx
    exact acts_of hk (unOp_sound hI ho (eval_val he hx) (.inr (.inr ⟨kk, m, rfl, rfl, rfl⟩)))
  · cases hk

theorem acts_convert (hT : TOK P T) (hI : Inv w M G H) (he : ∀ x, AVR M G (a.eval x) (e x)) {s t : TypeId} {x : Operand} (ho : o.op = .convert s t x) (hk : act T C o base e H k = some r) : Acts P w M G H base n a o k r := by
  simp only [act, ho] at hk
  split at hk
  · rename_i ds dd y hs ht hx
    have h1 := he x
    rw [hx] at h1
    split at hk
    · rename_i k1 kk k3 m h2 h3
      exact acts_of hk (convert_int hT hI ho hs ht h2 h3 h1.1)
    · rename_i m h2 h3
      exact acts_of hk (convert_str hT hI ho hs ht h2 h3 h1.1)
    · rename_i te h2 h3
      split at hk
      · rename_i h8
        split at hk
        · rename_i l hl
          exact acts_of hk (convert_bytes hT hI ho hs ht h2 h3 h8 h1 hl)
        · cases hk
      · cases hk
    · cases hk
  · cases hk

theorem acts_makeFunc (hI : Inv w M G H) (he : ∀ x, AVR M G (a.eval x) (e x)) {f : Fn} {first captured : Array Operand} (ho : o.op = .makeFunc f first captured) (hk : act T C o base e H k = some r) : Acts P w M G H base n a o k r := by
  cases f with
  | func f =>
    simp only [act, ho] at hk
    split at hk
    · rename_i hf
      split at hk
      · rename_i l hl
        exact acts_of hk (makeFunc_sound hI he ho hf hl)
      · cases hk
    · cases hk
  | _ => simp [act, ho] at hk

theorem acts_makeSlice (hT : TOK P T) (hI : Inv w M G H) (he : ∀ x, AVR M G (a.eval x) (e x)) (hf : ∀ j, base ≤ j → j < base + 1 → G j = none) {t : TypeId} {x y : Operand} (ho : o.op = .makeSlice t x y) (hk : act T C o base e H k = some r) : Acts P w M G H base 1 a o k r := by
  simp only [act, ho] at hk
  split at hk
  · rename_i te u de i j h hx hy
    split at hk
    · rename_i hb
      exact acts_of hk (makeSlice_sound hT hI ho h (eval_val he hx) (eval_val he hy) hb (hf base (Nat.le_refl _) (by omega)))
    · cases hk
  · cases hk

theorem acts_fieldAddr (hT : TOK P T) (hI : Inv w M G H) (he : ∀ x, AVR M G (a.eval x) (e x)) {s : TypeId} {x : Operand} {f : Nat} (ho : o.op = .fieldAddr s x f) (hk : act T C o base e H k = some r) : Acts P w M G H base n a o k r := by
  simp only [act, ho] at hk
  split at hk
  · rename_i fl h
    split at hk
    · rename_i df hdf
      split at hk
      · cases hk
      · rename_i h0
        split at hk
        · rename_i b off hx
          exact acts_of hk (fieldAddr_sound hT hI ho h hdf h0 (by rw [← hx]; exact he x) (.inl ⟨_, _, rfl, rfl⟩))
        · rename_i u y off hx
          exact acts_of hk (fieldAddr_sound hT hI ho h hdf h0 (by rw [← hx]; exact he x) (.inr (.inl ⟨_, _, _, rfl, rfl⟩)))
        · rename_i b i sz off hx
          exact acts_of hk (fieldAddr_sound hT hI ho h hdf h0 (by rw [← hx]; exact he x) (.inr (.inr ⟨_, _, _, _, rfl, rfl⟩)))
        · cases hk
    · cases hk
  · cases hk

theorem acts_field (hT : TOK P T) (hI : Inv w M G H) (he : ∀ x, AVR M G (a.eval x) (e x)) {s : TypeId} {x : Operand} {f : Nat} (ho : o.op = .field s x f) (hk : act T C o base e H k = some r) : Acts P w M G H base n a o k r := by
  simp only [act, ho] at hk
  split at hk
  · rename_i fl cs h hx
    obtain ⟨d, sv, hd, hl, hk', hs⟩ := ld_sound hT hk
    exact acts_of hk' (field_sound hT hI ho h (by rw [← hx]; exact he x) hd hl hs)
  · cases hk

theorem pickN_some {R : Type} {n : Nat} {f : Nat → Option R} {r : R} : ∀ {len : Nat}, pickN n len f = some r → f n = some r
  | 0, h => by cases h
  | len + 1, h => by
    unfold pickN at h
    split at h
    · rename_i e; rw [e]; exact h
    · exact pickN_some h

theorem acts_indexAddr (hT : TOK P T) (hI : Inv w M G H) (he : ∀ x, AVR M G (a.eval x) (e x)) {t : TypeId} {x y : Operand} (ho : o.op = .indexAddr t x y) (hk : act T C o base e H k = some r) : Acts P w M G H base n a o k r := by
  simp only [act, ho] at hk
  split at hk
  · rename_i te u de z kk i h hx hy
    have h1 := he x
    rw [hx] at h1
    split at hk
    · rename_i b
      split at hk
      · rename_i tt u' l st hb
        split at hk
        · rename_i hu
          split at hk
          · rename_i hi
            exact acts_of hk (indexAddr_own hT hI ho h h1 (eval_val he hy) hb hu hi)
          · cases hk
        · cases hk
      · cases hk
    · split at hk
      · rename_i l hl
        split at hk
        · rename_i hi
          exact acts_of hk (indexAddr_data hT hI ho h h1 (eval_val he hy) hl hi)
        · cases hk
      · cases hk
  · rename_i b off kk i h hx hy
    have h1 := he x
    rw [hx] at h1
    split at hk
    · rename_i d hd
      split at hk
      · rename_i len el hds
        split at hk
        · rename_i de hde
          split at hk
          · rename_i hi
            exact acts_of (pickN_some hk) (indexAddr_array hT hI ho hd hds hde h1 (eval_val he hy) hi)
          · cases hk
        · cases hk
      · cases hk
    · cases hk
  · cases hk

theorem acts_index (hT : TOK P T) (hI : Inv w M G H) (he : ∀ x, AVR M G (a.eval x) (e x)) {t : TypeId} {x y : Operand} (ho : o.op = .index t x y) (hk : act T C o base e H k = some r) : Acts P w M G H base n a o k r := by
  simp only [act, ho] at hk
  split at hk
  · rename_i d s kk i hd hx hy
    split at hk
    · rename_i hds
      split at hk
      · rename_i hi
        exact acts_of hk (index_string hT hI ho hd hds (eval_val he hx) (eval_val he hy) hi)
      · cases hk
    · cases hk
  · rename_i d cs kk i hd hx hy
    split at hk
    · rename_i len el hds
      split at hk
      · rename_i de hde
        split at hk
        · rename_i u hu
          split at hk
          · rename_i l hl
            split at hk
            · rename_i hcs
              split at hk
              · rename_i hi
                split at hk
                · rename_i s hs
                  exact acts_of hk (index_array hT hI ho hd hds (by rw [← hx]; exact he x) (eval_val he hy) hde hu hl hcs hi hs)
                · cases hk
              · cases hk
            · cases hk
          · cases hk
        · cases hk
      · cases hk
    · cases hk
  · cases hk

theorem acts_extract (hI : Inv w M G H) (he : ∀ x, AVR M G (a.eval x) (e x)) {t : Operand} {i : Nat} (ho : o.op = .extract t i) (hk : act T C o base e H k = some r) : Acts P w M G H base n a o k r := by
  simp only [act, ho] at hk
  split at hk
  · rename_i l hx
    split at hk
    · rename_i s hs
      have h1 := he t
      rw [hx] at h1
      exact acts_of hk (extract_sound hI ho h1 hs)
    · cases hk
  · cases hk

theorem acts_makeInterface (hT : TOK P T) (hI : Inv w M G H) (he : ∀ x, AVR M G (a.eval x) (e x)) {t : TypeId} {x : Operand} (ho : o.op = .makeInterface t x) (hk : act T C o base e H k = some r) : Acts P w M G H base n a o k r := by
  simp only [act, ho] at hk
  split at hk
  · rename_i d s hd hx
    have h1 := he x
    rw [hx] at h1
    split at hk
    · rename_i hcn
      split at hk
      · rename_i p hp
        exact acts_of hk (makeInterface_sound hT hI ho hd hcn h1 hp)
      · cases hk
    · cases hk
  · cases hk

theorem acts_typeAssert (hT : TOK P T) (hI : Inv w M G H) (he : ∀ x, AVR M G (a.eval x) (e x)) {x : Operand} {xt ta : TypeId} {ok : Bool} (ho : o.op = .typeAssert x xt ta ok) (hk : act T C o base e H k = some r) : Acts P w M G H base n a o k r := by
  cases ok with
  | false => simp [act, ho] at hk
  | true =>
    simp only [act, ho] at hk
    split at hk
    · rename_i d v hd hx
      have h1 := he x
      rw [hx] at h1
      split at hk
      · rename_i u hcn hu
        cases hq : asT ta d.isAgg u v with
        | none => rw [hq] at hk; cases hk
        | some q =>
          rw [hq] at hk
          have ts := typeAssert_sound (n := n) (base := base) hT hI ho hd hcn h1 hq
          cases q with
          | none => exact acts_of hk (ts.2 rfl)
          | some y =>
            simp only [Option.bind_some, orK] at hk
            split at hk
            · rename_i s hs
              exact acts_of hk (ts.1 y s rfl hs)
            · cases hk
      · cases hk
    · cases hk

theorem ownRow_some {y : LV} {bt : Nat × TypeId} (h : ownRow C o H y = some bt) : ∃ u l, y = .own bt.1 ∧ hget H bt.1 = some (.arr bt.2 u l true) := by
  unfold ownRow at h
  split at h
  · split at h
    · cases h
    · split at h
      · rename_i hb
        cases h
        exact ⟨_, _, rfl, hb⟩
      · cases h
  · cases h

theorem acts_slice (hT : TOK P T) (hI : Inv w M G H) (he : ∀ x, AVR M G (a.eval x) (e x)) (hf : ∀ j, base ≤ j → j < base + 1 → G j = none) {t : TypeId} {x : Operand} {lo hi : Option Operand} (ho : o.op = .slice t x lo hi none) (hk : act T C o base e H k = some r) : Acts P w M G H base 1 a o k r := by
  simp only [act, ho] at hk
  split at hk
  · rename_i d hd
    split at hk
    · cases hk
    · rename_i i hb
      have hlo : (lo = none ∧ i = 0) ∨ ∃ y kk, lo = some y ∧ a.eval y = .int kk i := by
        cases lo with
        | none => simp at hb; exact .inl ⟨rfl, hb.symm⟩
        | some y =>
          simp only at hb
          split at hb
          · rename_i kk m hy
            cases hb
            exact .inr ⟨y, kk, rfl, eval_val he hy⟩
          · cases hb
      split at hk
      · rename_i s hds hx
        have hx' := eval_val he hx
        cases hi with
        | none =>
          simp only at hk
          split at hk
          · rename_i hbd
            have := slice_string (n := 1) (base := base) hT hI ho hd hds hx' (j := s.size) hlo (.inl ⟨rfl, rfl⟩) ⟨hbd.1, hbd.2, Int.le_refl _⟩
            exact acts_of hk (by simpa using this)
          · cases hk
        | some y =>
          simp only at hk
          split at hk
          · rename_i kk m hy
            split at hk
            · rename_i hbd
              exact acts_of hk (slice_string hT hI ho hd hds hx' hlo (.inr ⟨y, kk, rfl, eval_val he hy⟩) hbd)
            · cases hk
          · cases hk
      · rename_i y hds hx
        have h1 := he x
        rw [hx] at h1
        split at hk
        · rename_i te u de h
          split at hk
          · rename_i l hl
            cases hi with
            | none =>
              simp only at hk
              split at hk
              · rename_i hbd
                split at hk
                · rename_i bt hbt
                  obtain ⟨u', l', rfl, hget'⟩ := ownRow_some hbt
                  simp only [peekL, hget'] at hl
                  obtain ⟨q, ql⟩ := castL_eq hl
                  subst q
                  subst ql
                  exact acts_of hk (slice_own hT hI ho h h1 hget' hlo hbd (hf base (Nat.le_refl _) (by omega)))
                · have := slice_data (n := 1) (base := base) hT hI ho h h1 hl (j := l.length) hlo (.inl ⟨rfl, rfl⟩) ⟨hbd.1, hbd.2, Int.le_refl _⟩
                  exact acts_of hk (by simpa using this)
              · cases hk
            | some z =>
              simp only at hk
              split at hk
              · rename_i kk m hz
                split at hk
                · rename_i hbd
                  exact acts_of hk (slice_data hT hI ho h h1 hl hlo (.inr ⟨z, kk, rfl, eval_val he hz⟩) hbd)
                · cases hk
              · cases hk
          · cases hk
        · cases hk
      · cases hk
  · cases hk

theorem map1 {α β : Type} {f : α → β} {xs : Array α} {y : β} (h : xs.toList.map f = [y]) : ∃ x, xs = #[x] ∧ f x = y := by
  obtain ⟨l⟩ := xs
  match l, h with
  | [x], h => exact ⟨x, rfl, by simpa using h⟩

theorem map2 {α β : Type} {f : α → β} {xs : Array α} {y z : β} (h : xs.toList.map f = [y, z]) : ∃ x x', xs = #[x, x'] ∧ f x = y ∧ f x' = z := by
  obtain ⟨l⟩ := xs
  match l, h with
  | [x, x'], h => exact ⟨x, x', rfl, by simpa using h⟩

theorem list1 {α : Type} {xs : Array α} {y : α} (h : xs.toList = [y]) : xs = #[y] := by
  obtain ⟨l⟩ := xs
  simp at h
  rw [h]

theorem list2 {α : Type} {xs : Array α} {y z : α} (h : xs.toList = [y, z]) : xs = #[y, z] := by
  obtain ⟨l⟩ := xs
  simp at h
  rw [h]

theorem acts_builtin (hT : TOK P T) (hI : Inv w M G H) (he : ∀ x, AVR M G (a.eval x) (e x)) (hf : ∀ j, base ≤ j → j < base + 1 → G j = none) {c : Call} {b : Builtin} (ho : o.op = .call c) (hc : c.callee = .builtin b) (hk : act T C o base e H k = some r) : Acts P w M G H base 1 a o k r := by
  obtain ⟨callee, args, argTypes⟩ := c
  simp only at hc
  subst hc
  simp only [act, ho] at hk
  split at hk
  · rename_i y t ha ht
    obtain ⟨x, rfl, hx⟩ := map1 ha
    have ht' := list1 ht
    subst ht'
    have h1 := he x
    rw [hx] at h1
    split at hk
    · rename_i d hd
      split at hk
      · rename_i s hds
        exact acts_of hk (len_string hT hI ho rfl hd hds h1.1)
      · rename_i te0 hds
        split at hk
        · rename_i te u de h
          split at hk
          · rename_i l hl
            exact acts_of hk (len_slice hT hI ho rfl h h1 hl)
          · cases hk
        · cases hk
      · cases hk
    · cases hk
  · rename_i s x t tx ha ht
    obtain ⟨xs, xx, rfl, hs, hx⟩ := map2 ha
    have ht' := list2 ht
    subst ht'
    have h1 := he xs
    have h2 := he xx
    rw [hs] at h1
    rw [hx] at h2
    have hfb := hf base (Nat.le_refl _) (by omega)
    split at hk
    · rename_i te u de dx h hdx
      split at hk
      · rename_i l2 hl2
        split at hk
        · split at hk
          · rename_i hbd
            have := append_sound (l := []) (st := true) (b := base) hT hI ho h hdx (avr_one h1) (avr_one h2) hl2 hfb (.inl ⟨rfl, rfl, rfl, rfl⟩) (by simpa using hbd.1) hbd.2
            refine acts_of hk (this.mono fun v w' g => Good.congr g fun j => ?_)
            simp only [List.cons_append, List.nil_append, hget]
            split <;> rfl
          · cases hk
        · rename_i b
          split at hk
          · rename_i te' u' l st hb
            split at hk
            · rename_i hte
              subst hte
              split at hk
              · rename_i l' hl'
                obtain ⟨rfl, rfl⟩ := castL_eq hl'
                split at hk
                · rename_i hbd
                  exact acts_of hk (append_sound hT hI ho h hdx (avr_one h1) (avr_one h2) hl2 hfb (.inr ⟨rfl, hb⟩) hbd.1 hbd.2)
                · cases hk
              · cases hk
            · cases hk
          · cases hk
        · cases hk
      · cases hk
    · cases hk
  · rename_i ka p kb q _ ha
    obtain ⟨x, y, rfl, hx, hy⟩ := map2 ha
    split at hk
    · rename_i hkk
      subst hkk
      exact acts_of hk (min_sound hI ho (eval_val he hx) (eval_val he hy))
    · cases hk
  · rename_i ka p kb q _ ha
    obtain ⟨x, y, rfl, hx, hy⟩ := map2 ha
    split at hk
    · rename_i hkk
      subst hkk
      exact acts_of hk (max_sound hI ho (eval_val he hx) (eval_val he hy))
    · cases hk
  · cases hk

theorem acts_call (hT : TOK P T) (hC : COK P C) (hI : Inv w M G H) (he : ∀ x, AVR M G (a.eval x) (e x)) {c : Call} (ho : o.op = .call c) (hf : ∀ j, base ≤ j → j < base + width o.op → G j = none) (hk : act T C o base e H k = some r) : Acts P w M G H base (width o.op) a o k r := by
  cases hcc : c.callee with
  | builtin b =>
    have hw : width o.op = 1 := by
      rw [ho]
      obtain ⟨callee, args, argTypes⟩ := c
      simp only at hcc
      subst hcc
      rfl
    rw [hw] at hf ⊢
    exact acts_builtin hT hI he hf ho hcc hk
  | value f =>
    have hw : width o.op = 12 := by
      rw [ho]
      obtain ⟨callee, args, argTypes⟩ := c
      simp only at hcc
      subst hcc
      rfl
    rw [hw] at hf ⊢
    simp only [act, ho, hcc] at hk
    split at hk
    · rename_i g caps args hef ha
      exact call_sound hC hI he ho hcc hef ha hk hf
    · cases hk
  | invoke recv nm => simp [act, ho, hcc] at hk

theorem act_sound (hT : TOK P T) (hC : COK P C) (hI : Inv w M G H) (he : ∀ x, AVR M G (a.eval x) (e x)) (hf : ∀ j, base ≤ j → j < base + width o.op → G j = none) (hk : act T C o base e H k = some r) : Acts P w M G H base (width o.op) a o k r := by
  cases ho : o.op with
  | move x => exact act_move hI he (.inl ho) (by simpa only [act, ho] using hk)
  | assign x => exact act_move hI he (.inr ho) (by simpa only [act, ho] using hk)
  | pick c x y => exact acts_pick hI he ho hk
  | alloc t =>
    rw [ho] at hf
    simp only [act, ho] at hk
    split at hk
    · rename_i d hd
      exact act_alloc hT hI hf ho hd hk
    · cases hk
  | box t x =>
    rw [ho] at hf
    simp only [act, ho] at hk
    split at hk
    · rename_i s hs
      exact act_box hI he hf ho hs hk
    · cases hk
  | build t parts => exact acts_build hT hI he ho hk
  | buildSlice t len parts => rw [ho] at hf; exact acts_buildSlice hT hI he hf ho hk
  | load t x => exact act_load hT hI he ho hk
  | store t x y => exact acts_store hT hI he ho hk
  | nilCheck x => exact acts_nilCheck hI he ho hk
  | binOp op t x y t' => exact acts_binOp hT hI he ho hk
  | unOp op t x => exact acts_unOp hI he ho hk
  | convert s t x => exact acts_convert hT hI he ho hk
  | makeFunc f first captured => exact acts_makeFunc hI he ho hk
  | makeSlice t x y => rw [ho] at hf; exact acts_makeSlice hT hI he hf ho hk
  | slice t x lo hi mx =>
    cases mx with
    | none => rw [ho] at hf; exact acts_slice hT hI he hf ho hk
    | some _ => simp [act, ho] at hk
  | fieldAddr s x f => exact acts_fieldAddr hT hI he ho hk
  | field s x f => exact acts_field hT hI he ho hk
  | indexAddr t x y => exact acts_indexAddr hT hI he ho hk
  | index t x y => exact acts_index hT hI he ho hk
  | makeInterface t x => exact acts_makeInterface hT hI he ho hk
  | typeAssert x xt ta ok => exact acts_typeAssert hT hI he ho hk
  | extract t i => exact acts_extract hI he ho hk
  | call c =>
    have := acts_call hT hC hI he ho hf hk
    rwa [ho] at this
  | _ => simp [act, ho] at hk

end
end Go.AM
end

section
/-
AM: an operation reads no more of the local heap than the keys that it is told to read. No condition.
-/
namespace Go.AM
open Go
variable [Inhabited ZMem]

def Agree (ks : List Nat) (H H' : HL) : Prop := ∀ k ∈ ks, hget H k = hget H' k

theorem Agree.app {ks : List Nat} {H H' : HL} (h : Agree ks H H') (u : Upd) : Agree ks (u ++ H) (u ++ H') := fun k hk => by
  rw [hget_app, hget_app, h k hk]

section
variable {ks : List Nat} {H H' : HL}

theorem getL_agree (h : Agree ks H H') {x : LV} (hx : ∀ k ∈ keysL x, k ∈ ks) (e : U) : getL H e x = getL H' e x := by
  cases x with
  | own k => simp only [getL]; rw [h k (hx k (by simp [keysL]))]
  | val v =>
    cases v <;> first | rfl | skip
    rename_i a n c
    cases a <;> cases n <;> cases c <;> rfl
  | _ => simp [getL]

theorem peekL_agree (h : Agree ks H H') {x : LV} (hx : ∀ k ∈ keysL x, k ∈ ks) (e : U) : peekL H e x = peekL H' e x := by
  cases x with
  | own k => simp only [peekL]; rw [h k (hx k (by simp [keysL]))]
  | _ => simp only [peekL]; exact getL_agree h hx e

theorem srcL_agree (h : Agree ks H H') {x : LV} (hx : ∀ k ∈ keysL x, k ∈ ks) (u : U) (d : TypeDesc) : srcL H u d x = srcL H' u d x := by
  cases d <;> simp only [srcL]
  exact peekL_agree h hx u

theorem fzU_agree (h : Agree ks H H') : ∀ {cs : List LV}, (∀ x ∈ cs, ∀ k ∈ keysL x, k ∈ ks) → fzU H cs = fzU H' cs
  | [], _ => rfl
  | c :: cs, hc => by
    have ih := fzU_agree h (cs := cs) (fun x hx => hc x (by simp [hx]))
    cases c with
    | own k => simp only [fzU]; rw [h k (hc (.own k) (by simp) k (by simp [keysL])), ih]
    | _ => simp only [fzU]; exact ih

theorem unflat_rest (H : HL) : ∀ (u : U) (cs : List LV) (x : El u) (r : List LV), unflat H u cs = some (x, r) → ∀ y ∈ r, y ∈ cs
  | .int k, cs, x, r, h, y, hy => by
    cases cs with
    | nil => simp [unflat] at h
    | cons c cs => cases c with
      | val v =>
        cases v <;> simp [unflat] at h
        simp_all
      | _ => simp [unflat] at h
  | .bool, cs, x, r, h, y, hy => by
    cases cs with
    | nil => simp [unflat] at h
    | cons c cs => cases c with
      | val v =>
        cases v <;> simp [unflat] at h
        simp_all
      | _ => simp [unflat] at h
  | .str, cs, x, r, h, y, hy => by
    cases cs with
    | nil => simp [unflat] at h
    | cons c cs => cases c with
      | val v =>
        cases v <;> simp [unflat] at h
        simp_all
      | _ => simp [unflat] at h
  | .any, cs, x, r, h, y, hy => by
    cases cs with
    | nil => simp [unflat] at h
    | cons c cs => cases c with
      | val v =>
        simp only [unflat] at h
        split at h
        · cases h; simp [hy]
        · cases h
      | _ => simp [unflat] at h
  | .nil, cs, x, r, h, y, hy => by
    simp [unflat] at h
    subst h; exact hy
  | .sl e, cs, x, r, h, y, hy => by
    cases cs with
    | nil => simp [unflat] at h
    | cons c cs =>
      simp only [unflat] at h
      split at h
      · cases h; simp [hy]
      · cases h
  | .cons a b, cs, x, r, h, y, hy => by
    simp only [unflat] at h
    split at h
    · rename_i x1 r1 h1
      split at h
      · rename_i x2 r2 h2
        cases h
        exact unflat_rest H a cs x1 r1 h1 y (unflat_rest H b r1 x2 r h2 y hy)
      · cases h
    · cases h

theorem unflat_agree (h : Agree ks H H') : ∀ (u : U) (cs : List LV), (∀ x ∈ cs, ∀ k ∈ keysL x, k ∈ ks) → unflat H u cs = unflat H' u cs
  | .int _, cs, _ => by cases cs with
    | nil => rfl
    | cons c cs => cases c with
      | val v => cases v <;> rfl
      | _ => rfl
  | .bool, cs, _ => by cases cs with
    | nil => rfl
    | cons c cs => cases c with
      | val v => cases v <;> rfl
      | _ => rfl
  | .str, cs, _ => by cases cs with
    | nil => rfl
    | cons c cs => cases c with
      | val v => cases v <;> rfl
      | _ => rfl
  | .any, cs, _ => by cases cs with
    | nil => rfl
    | cons c cs => cases c <;> rfl
  | .nil, cs, _ => by simp [unflat]
  | .sl e, cs, hc => by
    cases cs with
    | nil => rfl
    | cons c cs => simp only [unflat]; rw [getL_agree h (hc c (by simp)) e]
  | .cons a b, cs, hc => by
    simp only [unflat]
    rw [← unflat_agree h a cs hc]
    cases h1 : unflat H a cs with
    | none => rfl
    | some p =>
      obtain ⟨x1, r1⟩ := p
      simp only
      rw [unflat_agree h b r1 (fun x hx => hc x (unflat_rest H a cs x1 r1 h1 x hx))]

theorem unflatN_agree (h : Agree ks H H') (u : U) : ∀ (n : Nat) (cs : List LV), (∀ x ∈ cs, ∀ k ∈ keysL x, k ∈ ks) → unflatN H u n cs = unflatN H' u n cs
  | 0, _, _ => rfl
  | n + 1, cs, hc => by
    simp only [unflatN]
    rw [← unflat_agree h u cs hc]
    cases h1 : unflat H u cs with
    | none => rfl
    | some p =>
      obtain ⟨x1, r1⟩ := p
      simp only
      rw [unflatN_agree h u n r1 (fun x hx => hc x (unflat_rest H u cs x1 r1 h1 x hx))]

/-! ### matching -/
def MS.on (m : MS) (H' : HL) : MS := { m with H := H' }

structure MLoc (ks : List Nat) (H' : HL) (m : MS) : Prop where
  agree : Agree ks m.H H'
  closed : ∀ k ∈ ks, ∀ tb cs, hget m.H k = some (.box tb cs) → ∀ x ∈ cs, ∀ j ∈ keysL x, j ∈ ks
  arr : ∀ p ∈ m.u, ∃ t e l s, p.2 = HC.arr t e l s
  keys : ∀ k, some k ∈ m.κ → k ∈ ks

theorem MLoc.h {m : MS} (h : MLoc ks H' m) : Agree ks m.h (m.on H').h := h.agree.app m.u

theorem hget_arr : ∀ {u : Upd} {H : HL} {k : Nat} {tb : TypeId} {cs : List LV}, (∀ p ∈ u, ∃ t e l s, p.2 = HC.arr t e l s) → hget (u ++ H) k = some (.box tb cs) → hget H k = some (.box tb cs)
  | [], _, _, _, _, _, h => h
  | (j, c) :: u, H, k, tb, cs, hu, h => by
    simp only [List.cons_append, hget] at h
    split at h
    · obtain ⟨t, e, l, s, q⟩ := hu (j, c) (by simp)
      simp only at q
      subst q
      cases h
    · exact hget_arr (fun p hp => hu p (by simp [hp])) h

theorem fzU_arr (H : HL) : ∀ (cs : List LV), ∀ p ∈ fzU H cs, ∃ t e l s, p.2 = HC.arr t e l s
  | [], p, hp => by simp [fzU] at hp
  | c :: cs, p, hp => by
    have ih := fzU_arr H cs p
    cases c with
    | own k =>
      simp only [fzU] at hp
      split at hp
      · rcases List.mem_cons.1 hp with rfl | hp
        · exact ⟨_, _, _, _, rfl⟩
        · exact ih hp
      · exact ih hp
    | _ => simp only [fzU] at hp; exact ih hp

theorem MLoc.fz {m : MS} (h : MLoc ks H' m) (cs : List LV) : MLoc ks H' { m with u := fzU m.h cs ++ m.u } := by
  refine ⟨h.agree, h.closed, fun p hp => ?_, h.keys⟩
  rcases List.mem_append.1 hp with q | q
  · exact fzU_arr _ _ p q
  · exact h.arr p q

def On {α : Type} (H' : HL) : Option (α × MS) → Option (α × MS)
  | some (a, m) => some (a, m.on H')
  | none => none

theorem bindKey_on {m : MS} (j : Nat) (kb : KB) : bindKey (m.on H') j kb = (bindKey m j kb).map (·.on H') := by
  unfold bindKey MS.on
  simp only
  split
  · split
    · split <;> rfl
    · rfl
    · rfl
  · split
    · rfl
    · rfl

theorem bindKey_loc {m m' : MS} (h : MLoc ks H' m) {j : Nat} {kb : KB} (hb : bindKey m j kb = some m') (hk : ∀ k, kb = some k → k ∈ ks) : MLoc ks H' m' := by
  unfold bindKey at hb
  split at hb
  · split at hb
    · split at hb
      · cases hb; exact h
      · cases hb
    · cases hb; exact h
    · cases hb
  · split at hb
    · cases hb
      refine ⟨h.agree, h.closed, h.arr, fun k q => ?_⟩
      rcases List.mem_append.1 q with q | q
      · exact h.keys k q
      · simp at q; exact hk k q.symm
    · cases hb

theorem bindCaps_on : ∀ (js cs : List Nat) (m : MS), MLoc ks H' m → (∀ k ∈ cs, k ∈ ks) → bindCaps (m.on H') js cs = (bindCaps m js cs).map (·.on H') ∧ ∀ m', bindCaps m js cs = some m' → MLoc ks H' m'
  | [], [], m, h, _ => ⟨rfl, fun m' q => by simp [bindCaps] at q; subst q; exact h⟩
  | j :: js, k :: cs, m, h, hc => by
    simp only [bindCaps]
    rw [bindKey_on]
    cases hb : bindKey m j (some k) with
    | none => exact ⟨rfl, fun m' q => by cases q⟩
    | some m1 =>
      have h1 := bindKey_loc h hb (fun k' q => by cases q; exact hc k (by simp))
      exact bindCaps_on js cs m1 h1 (fun k hk => hc k (by simp [hk]))
  | [], _ :: _, _, _, _ => ⟨rfl, fun m' q => by cases q⟩
  | _ :: _, [], _, _, _ => ⟨rfl, fun m' q => by cases q⟩

theorem fz_on {m : MS} (h : MLoc ks H' m) {cs : List LV} (hc : ∀ x ∈ cs, ∀ k ∈ keysL x, k ∈ ks) : fzU (m.on H').h cs = fzU m.h cs := (fzU_agree h.h hc).symm

theorem matchL_on (sh : LSh) (x : LV) {m : MS} (h : MLoc ks H' m) (hx : ∀ k ∈ keysL x, k ∈ ks) : matchL sh x (m.on H') = On H' (matchL sh x m) ∧ ∀ y m', matchL sh x m = some (y, m') → MLoc ks H' m' := by
  have one : ∀ z ∈ [x], ∀ k ∈ keysL z, k ∈ ks := fun z hz => by simp at hz; subst hz; exact hx
  cases sh with
  | sl e =>
    simp only [matchL]
    rw [fz_on h one, ← getL_agree (h.h.app _) hx]
    cases hg : getL (fzU m.h [x] ++ m.h) e x with
    | none => exact ⟨rfl, fun y m' q => by cases q⟩
    | some l => exact ⟨rfl, fun y m' q => by cases q; exact h.fz [x]⟩
  | own j =>
    cases x with
    | own k =>
      simp only [matchL]
      rw [bindKey_on]
      cases hb : bindKey m j (some k) with
      | none => exact ⟨rfl, fun y m' q => by cases q⟩
      | some m1 => exact ⟨rfl, fun y m' q => by cases q; exact bindKey_loc h hb (fun k' q => by cases q; exact hx k (by simp [keysL]))⟩
    | val v =>
      cases v <;> first | (refine ⟨rfl, fun y m' q => ?_⟩; simp [matchL] at q; done) | skip
      rename_i a n c
      cases a <;> cases n <;> cases c <;> first | (refine ⟨rfl, fun y m' q => ?_⟩; simp [matchL] at q; done) | skip
      simp only [matchL]
      rw [bindKey_on]
      cases hb : bindKey m j none with
      | none => exact ⟨rfl, fun y m' q => by cases q⟩
      | some m1 => exact ⟨rfl, fun y m' q => by cases q; exact bindKey_loc h hb (fun k' q => by cases q)⟩
    | _ => exact ⟨rfl, fun y m' q => by simp [matchL] at q⟩
  | ptr j off =>
    cases x with
    | ptr k off' =>
      simp only [matchL]
      split
      · rw [bindKey_on]
        cases hb : bindKey m j (some k) with
        | none => exact ⟨rfl, fun y m' q => by cases q⟩
        | some m1 => exact ⟨rfl, fun y m' q => by cases q; exact bindKey_loc h hb (fun k' q => by cases q; exact hx k (by simp [keysL]))⟩
      · exact ⟨rfl, fun y m' q => by cases q⟩
    | _ => exact ⟨rfl, fun y m' q => by simp [matchL] at q⟩
  | fn f js =>
    cases x with
    | fn f' cs =>
      simp only [matchL]
      split
      · obtain ⟨h1, h2⟩ := bindCaps_on (H' := H') js cs m h (fun k hk => hx k (by simpa [keysL] using hk))
        rw [h1]
        cases hb : bindCaps m js cs with
        | none => exact ⟨rfl, fun y m' q => by cases q⟩
        | some m1 => exact ⟨rfl, fun y m' q => by cases q; exact h2 _ hb⟩
      · exact ⟨rfl, fun y m' q => by cases q⟩
    | _ => exact ⟨rfl, fun y m' q => by simp [matchL] at q⟩
  | oself j =>
    cases x with
    | oself k =>
      simp only [matchL]
      rw [bindKey_on]
      cases hb : bindKey m j (some k) with
      | none => exact ⟨rfl, fun y m' q => by cases q⟩
      | some m1 => exact ⟨rfl, fun y m' q => by cases q; exact bindKey_loc h hb (fun k' q => by cases q; exact hx k (by simp [keysL]))⟩
    | ptr k off =>
      cases off with
      | succ n => exact ⟨rfl, fun y m' q => by simp [matchL] at q⟩
      | zero =>
        simp only [matchL]
        rw [bindKey_on]
        cases hb : bindKey m j (some k) with
        | none => exact ⟨rfl, fun y m' q => by cases q⟩
        | some m1 => exact ⟨rfl, fun y m' q => by cases q; exact bindKey_loc h hb (fun k' q => by cases q; exact hx k (by simp [keysL]))⟩
    | val v =>
      cases v <;> first | (refine ⟨rfl, fun y m' q => ?_⟩; simp [matchL] at q; done) | skip
      rename_i a
      cases a with
      | some a => exact ⟨rfl, fun y m' q => by simp [matchL] at q⟩
      | none =>
        simp only [matchL]
        have e : (m.on H').κ = m.κ := rfl
        rw [e]
        cases hk : m.κ[j]? with
        | none => exact ⟨rfl, fun y m' q => by cases q⟩
        | some kb =>
          cases kb with
          | none => exact ⟨rfl, fun y m' q => by cases q⟩
          | some k =>
            have hq : hget (m.on H').h k = hget m.h k := (h.h k (h.keys k (List.mem_of_getElem? hk))).symm
            simp only [hq]
            cases hget m.h k with
            | none => exact ⟨rfl, fun y m' q => by cases q⟩
            | some c =>
              cases c with
              | box tb cs => exact ⟨rfl, fun y m' q => by cases q; exact h⟩
              | _ => exact ⟨rfl, fun y m' q => by cases q⟩
    | _ => exact ⟨rfl, fun y m' q => by simp [matchL] at q⟩
  | junk => exact ⟨rfl, fun y m' q => by simp [matchL] at q; rw [← q]; exact h⟩
  | inil =>
    cases x with
    | val v => cases v <;> first | (refine ⟨rfl, fun y m' q => ?_⟩; simp [matchL] at q; done) | (refine ⟨rfl, fun y m' q => ?_⟩; simp [matchL] at q; rw [← q]; exact h)
    | _ => exact ⟨rfl, fun y m' q => by simp [matchL] at q⟩
  | int k =>
    cases x with
    | val v =>
      cases v <;> first | (refine ⟨rfl, fun y m' q => ?_⟩; simp [matchL] at q; done) | skip
      simp only [matchL]
      split
      · exact ⟨rfl, fun y m' q => by cases q; exact h⟩
      · exact ⟨rfl, fun y m' q => by cases q⟩
    | _ => exact ⟨rfl, fun y m' q => by simp [matchL] at q⟩
  | bool =>
    cases x with
    | val v => cases v <;> first | (refine ⟨rfl, fun y m' q => ?_⟩; simp [matchL] at q; done) | (exact ⟨rfl, fun y m' q => by simp [matchL] at q; rw [← q.2]; exact h⟩)
    | _ => exact ⟨rfl, fun y m' q => by simp [matchL] at q⟩
  | str =>
    cases x with
    | val v => cases v <;> first | (refine ⟨rfl, fun y m' q => ?_⟩; simp [matchL] at q; done) | (exact ⟨rfl, fun y m' q => by simp [matchL] at q; rw [← q.2]; exact h⟩)
    | _ => exact ⟨rfl, fun y m' q => by simp [matchL] at q⟩

end
end Go.AM
end

section
/-
AM: matching reads no more than the keys reached; calls. No condition.
-/
namespace Go.AM
open Go
variable [Inhabited ZMem]

section
variable {ks : List Nat} {H' : HL}

theorem matchLs_on : ∀ (sh : List LSh) (xs : List LV) (m : MS), MLoc ks H' m → (∀ x ∈ xs, ∀ k ∈ keysL x, k ∈ ks) → matchLs sh xs (m.on H') = On H' (matchLs sh xs m) ∧ ∀ y m', matchLs sh xs m = some (y, m') → MLoc ks H' m'
  | [], [], m, h, _ => ⟨rfl, fun y m' q => by simp [matchLs] at q; rw [← q]; exact h⟩
  | s :: ss, x :: xs, m, h, hx => by
    obtain ⟨h1, h2⟩ := matchL_on s x h (hx x (by simp))
    simp only [matchLs]
    rw [h1]
    cases e : matchL s x m with
    | none => exact ⟨rfl, fun y m' q => by cases q⟩
    | some p =>
      obtain ⟨a, m1⟩ := p
      obtain ⟨h3, h4⟩ := matchLs_on ss xs m1 (h2 _ _ e) (fun z hz => hx z (by simp [hz]))
      simp only [On]
      rw [h3]
      cases e2 : matchLs ss xs m1 with
      | none => exact ⟨rfl, fun y m' q => by cases q⟩
      | some p => exact ⟨rfl, fun y m' q => by cases q; exact h4 _ _ e2⟩
  | [], _ :: _, _, _, _ => ⟨rfl, fun y m' q => by simp [matchLs] at q⟩
  | _ :: _, [], _, _, _ => ⟨rfl, fun y m' q => by simp [matchLs] at q⟩

theorem matchR_on (u : U) (cs : List LV) {m : MS} (h : MLoc ks H' m) (hx : ∀ x ∈ cs, ∀ k ∈ keysL x, k ∈ ks) : matchR u cs (m.on H') = On H' (matchR u cs m) ∧ ∀ y m', matchR u cs m = some (y, m') → MLoc ks H' m' := by
  unfold matchR
  rw [fz_on h hx, ← unflat_agree (h.h.app _) u cs hx]
  split
  · exact ⟨rfl, fun y m' q => by cases q; exact h.fz cs⟩
  · exact ⟨rfl, fun y m' q => by cases q⟩

theorem matchS_on (sh : SSh) (x : SV) {m : MS} (h : MLoc ks H' m) (hx : ∀ k ∈ keysS x, k ∈ ks) : matchS sh x (m.on H') = On H' (matchS sh x m) ∧ ∀ y m', matchS sh x m = some (y, m') → MLoc ks H' m' := by
  cases sh with
  | one s =>
    cases x with
    | one y => exact matchL_on s y h hx
    | agg cs =>
      cases s with
      | junk => exact ⟨rfl, fun y m' q => by simp [matchS] at q; rw [← q]; exact h⟩
      | _ => exact ⟨rfl, fun y m' q => by simp [matchS] at q⟩
  | row u =>
    cases x with
    | one y => exact ⟨rfl, fun y m' q => by simp [matchS] at q⟩
    | agg cs => exact matchR_on u cs h (fun x hx' k hk => hx k (by simp only [keysS, List.mem_flatMap]; exact ⟨x, hx', hk⟩))
  | agg l =>
    cases x with
    | one y => exact ⟨rfl, fun y m' q => by simp [matchS] at q⟩
    | agg cs => exact matchLs_on l cs m h (fun x hx' k hk => hx k (by simp only [keysS, List.mem_flatMap]; exact ⟨x, hx', hk⟩))

theorem matchSs_on : ∀ (sh : List SSh) (xs : List SV) (m : MS), MLoc ks H' m → (∀ x ∈ xs, ∀ k ∈ keysS x, k ∈ ks) → matchSs sh xs (m.on H') = On H' (matchSs sh xs m) ∧ ∀ y m', matchSs sh xs m = some (y, m') → MLoc ks H' m'
  | [], [], m, h, _ => ⟨rfl, fun y m' q => by simp [matchSs] at q; rw [← q]; exact h⟩
  | s :: ss, x :: xs, m, h, hx => by
    obtain ⟨h1, h2⟩ := matchS_on s x h (hx x (by simp))
    simp only [matchSs]
    rw [h1]
    cases e : matchS s x m with
    | none => exact ⟨rfl, fun y m' q => by cases q⟩
    | some p =>
      obtain ⟨a, m1⟩ := p
      obtain ⟨h3, h4⟩ := matchSs_on ss xs m1 (h2 _ _ e) (fun z hz => hx z (by simp [hz]))
      simp only [On]
      rw [h3]
      cases e2 : matchSs ss xs m1 with
      | none => exact ⟨rfl, fun y m' q => by cases q⟩
      | some p => exact ⟨rfl, fun y m' q => by cases q; exact h4 _ _ e2⟩
  | [], _ :: _, _, _, _ => ⟨rfl, fun y m' q => by simp [matchSs] at q⟩
  | _ :: _, [], _, _, _ => ⟨rfl, fun y m' q => by simp [matchSs] at q⟩

theorem matchHC_on (sh : HSh) (kb : KB) {m : MS} (h : MLoc ks H' m) (hx : ∀ k, kb = some k → k ∈ ks) : matchHC sh kb (m.on H') = On H' (matchHC sh kb m) ∧ ∀ y m', matchHC sh kb m = some (y, m') → MLoc ks H' m' := by
  cases kb with
  | none =>
    cases sh with
    | dead => exact ⟨rfl, fun y m' q => by simp [matchHC] at q; rw [← q]; exact h⟩
    | arr t e s => exact ⟨rfl, fun y m' q => by simp [matchHC] at q; rw [← q.2]; exact h⟩
    | _ => exact ⟨rfl, fun y m' q => by simp [matchHC] at q⟩
  | some k =>
    have hk := hx k rfl
    have hg : hget (m.on H').h k = hget m.h k := (h.h k hk).symm
    have hbox : ∀ tb cs, hget m.h k = some (.box tb cs) → ∀ x ∈ cs, ∀ j ∈ keysL x, j ∈ ks := fun tb cs hc => h.closed k hk tb cs (hget_arr h.arr hc)
    cases sh with
    | dead => exact ⟨rfl, fun y m' q => by simp [matchHC] at q; rw [← q]; exact h⟩
    | box tb l =>
      simp only [matchHC]
      rw [hg]
      split
      · rename_i tb' cs hc
        split
        · exact matchLs_on l cs m h (hbox tb' cs hc)
        · exact ⟨rfl, fun y m' q => by cases q⟩
      · exact ⟨rfl, fun y m' q => by cases q⟩
    | boxr tb u =>
      simp only [matchHC]
      rw [hg]
      split
      · rename_i tb' cs hc
        split
        · exact matchR_on u cs h (hbox tb' cs hc)
        · exact ⟨rfl, fun y m' q => by cases q⟩
      · exact ⟨rfl, fun y m' q => by cases q⟩
    | arr t e s =>
      simp only [matchHC]
      rw [hg]
      have hf : fzU (m.on H').h [.own k] = fzU m.h [.own k] := fz_on h (fun x hx j hj => by simp at hx; subst hx; simp [keysL] at hj; subst hj; exact hk)
      rw [hf]
      split
      · split
        · split
          · refine ⟨rfl, fun y m' q => ?_⟩
            cases q
            cases s with
            | true => exact h
            | false => exact h.fz [.own k]
          · exact ⟨rfl, fun y m' q => by cases q⟩
        · exact ⟨rfl, fun y m' q => by cases q⟩
      · exact ⟨rfl, fun y m' q => by cases q⟩

theorem matchHs_on : ∀ (sh : List HSh) (j : Nat) (m : MS), MLoc ks H' m → matchHs sh j (m.on H') = On H' (matchHs sh j m) ∧ ∀ y m', matchHs sh j m = some (y, m') → MLoc ks H' m'
  | [], j, m, h => by
    have e : (m.on H').κ = m.κ := rfl
    simp only [matchHs]
    rw [e]
    split
    · exact ⟨rfl, fun y m' q => by cases q; exact h⟩
    · exact ⟨rfl, fun y m' q => by cases q⟩
  | s :: ss, j, m, h => by
    have e : (m.on H').κ = m.κ := rfl
    simp only [matchHs]
    rw [e]
    cases hj : m.κ[j]? with
    | none => exact ⟨rfl, fun y m' q => by cases q⟩
    | some kb =>
      obtain ⟨h1, h2⟩ := matchHC_on s kb h (fun k q => by subst q; exact h.keys k (List.mem_of_getElem? hj))
      simp only
      rw [h1]
      cases e1 : matchHC s kb m with
      | none => exact ⟨rfl, fun y m' q => by cases q⟩
      | some p =>
        obtain ⟨a, m1⟩ := p
        obtain ⟨h3, h4⟩ := matchHs_on ss (j + 1) m1 (h2 _ _ e1)
        simp only [On]
        rw [h3]
        cases e2 : matchHs ss (j + 1) m1 with
        | none => exact ⟨rfl, fun y m' q => by cases q⟩
        | some p => exact ⟨rfl, fun y m' q => by cases q; exact h4 _ _ e2⟩

theorem stoOk_agree : ∀ (sh : List HSh) (κ : List KB) {H H2 : HL}, Agree ks H H2 → (∀ k, some k ∈ κ → k ∈ ks) → stoOk sh κ H = stoOk sh κ H2
  | [], _, _, _, _, _ => rfl
  | s :: ss, [], H, H2, h, hk => by
    cases s with
    | arr t e s => cases s <;> rfl
    | _ => rfl
  | s :: ss, kb :: κ, H, H2, h, hk => by
    have ih := stoOk_agree ss κ h (fun k q => hk k (by simp [q]))
    cases s with
    | arr t e s =>
      cases s with
      | true =>
        cases kb with
        | none => exact ih
        | some k => simp only [stoOk]; rw [h k (hk k (by simp)), ih]
      | false => cases kb <;> exact ih
    | _ => cases kb <;> exact ih

theorem matchAll_on (sh : Shape) (xs : List SV) {m : MS} (h : MLoc ks H' m) (hx : ∀ x ∈ xs, ∀ k ∈ keysS x, k ∈ ks) : matchAll sh xs (m.on H') = On H' (matchAll sh xs m) := by
  unfold matchAll
  obtain ⟨h1, h2⟩ := matchSs_on sh.slots xs m h hx
  rw [h1]
  cases e : matchSs sh.slots xs m with
  | none => rfl
  | some p =>
    obtain ⟨a, m1⟩ := p
    obtain ⟨h3, h4⟩ := matchHs_on sh.heap 0 m1 (h2 _ _ e)
    simp only [On]
    rw [h3]
    cases e2 : matchHs sh.heap 0 m1 with
    | none => rfl
    | some p =>
      obtain ⟨b, m2⟩ := p
      have h5 := h4 _ _ e2
      simp only [On]
      have hs : stoOk sh.heap (m2.on H').κ (m2.on H').h = stoOk sh.heap m2.κ m2.h := (stoOk_agree sh.heap m2.κ h5.h h5.keys).symm
      have hk : (m2.on H').κ = m2.κ := rfl
      rw [hs, hk]
      split <;> rfl

theorem closedB_sound {H : HL} (h : closedB H ks = true) : ∀ k ∈ ks, ∀ tb cs, hget H k = some (.box tb cs) → ∀ x ∈ cs, ∀ j ∈ keysL x, j ∈ ks := by
  intro k hk tb cs hc x hx j hj
  have h1 := List.all_eq_true.1 h k hk
  rw [hc] at h1
  have h2 := List.all_eq_true.1 h1 j (List.mem_flatMap.2 ⟨x, hx, hj⟩)
  simpa using h2

theorem callK_on {R : Type} {base : Nat} {k : AV → Upd → Option R} {H : HL} (ha : Agree ks H H') (hc : closedB H ks = true) : ∀ (fcs : List FC) (args : List SV), (∀ x ∈ args, ∀ k ∈ keysS x, k ∈ ks) → callK fcs args base H' k = callK fcs args base H k
  | [], _, _ => rfl
  | fc :: fcs, args, hx => by
    have hl : MLoc ks H' ⟨H, [], []⟩ := ⟨ha, closedB_sound hc, fun p hp => by simp at hp, fun k hk => by simp at hk⟩
    have h1 := matchAll_on fc.sa args hl hx
    have e : (MS.on ⟨H, [], []⟩ H') = ⟨H', [], []⟩ := rfl
    rw [e] at h1
    simp only [callK]
    rw [h1]
    cases h2 : matchAll fc.sa args ⟨H, [], []⟩ with
    | none => exact callK_on ha hc fcs args hx
    | some p => rw [callK_on ha hc fcs args hx]; rfl

theorem callK_nat {R : Type} {base : Nat} {k : AV → Upd → Option R} {H : HL} : ∀ (fcs : List FC) (args : List SV), callK fcs args base H k = (callK fcs args base H fun v u => some (v, u)).bind fun p => k p.1 p.2
  | [], _ => rfl
  | fc :: fcs, args => by
    simp only [callK]
    split
    · split
      · rename_i xx mm _ _ _
        cases fc.f xx with
        | none => exact callK_nat fcs args
        | some y => rfl
      · rfl
    · exact callK_nat fcs args

end
end Go.AM
end

section
/-
AM: one operation at another heap that agrees on the keys it reads; what goes on behind it may be split off. No condition.
-/
namespace Go.AM
open Go
variable [Inhabited ZMem]

theorem flat_keys : ∀ (u : U) (x : El u), ∀ y ∈ flat u x, keysL y = []
  | .cons a b, x, y, hy => by
    simp only [flat, List.mem_append] at hy
    rcases hy with h | h
    · exact flat_keys a _ y h
    · exact flat_keys b _ y h
  | .nil, x, y, hy => by simp [flat] at hy
  | .int _, x, y, hy => by simp [flat] at hy; subst hy; rfl
  | .bool, x, y, hy => by simp [flat] at hy; subst hy; rfl
  | .str, x, y, hy => by simp [flat] at hy; subst hy; rfl
  | .sl _, x, y, hy => by simp [flat] at hy; subst hy; rfl
  | .any, x, y, hy => by simp [flat] at hy; subst hy; rfl

theorem cellsA_keys {v : AV} {s : List LV} (h : cellsA v = some s) : ∀ x ∈ s, ∀ k ∈ keysL x, k ∈ keysA v := by
  cases v with
  | tup l => simp [cellsA] at h
  | sv sv =>
    simp only [cellsA] at h
    split at h
    · cases h
      cases sv with
      | one y => intro x hx k hk; simp [SV.cells] at hx; subst hx; exact hk
      | agg cs => intro x hx k hk; simp only [keysA, keysS, List.mem_flatMap]; exact ⟨x, hx, hk⟩
    · cases h

theorem fillL_mem (place : Nat → Option (Nat × Nat)) : ∀ (parts : List (Nat × AV)) (cells cs : List LV), fillL place cells parts = some cs → ∀ x ∈ cs, x ∈ cells ∨ ∃ p ∈ parts, ∃ s, cellsA p.2 = some s ∧ x ∈ s
  | [], cells, cs, h, x, hx => by simp [fillL] at h; subst h; exact .inl hx
  | (i, v) :: rest, cells, cs, h, x, hx => by
    simp only [fillL] at h
    split at h
    · rename_i off size s hp hs
      split at h
      · rcases fillL_mem place rest _ cs h x hx with h1 | ⟨p, h1, s', h2, h3⟩
        · unfold splice at h1
          simp only [List.mem_append] at h1
          rcases h1 with (h1 | h1) | h1
          · exact .inl (List.mem_of_mem_take h1)
          · exact .inr ⟨(i, v), by simp, s, hs, h1⟩
          · exact .inl (List.mem_of_mem_drop h1)
        · exact .inr ⟨p, by simp [h1], s', h2, h3⟩
      · cases h
    · cases h

theorem mem_repeatL (cs : List LV) : ∀ (n : Nat), ∀ x ∈ repeatL cs n, x ∈ cs
  | 0, x, h => by simp [repeatL] at h
  | n + 1, x, h => by
    simp only [repeatL, List.mem_append] at h
    rcases h with h | h
    · exact h
    · exact mem_repeatL cs n x h

theorem zero_keys {P : Program} {t : TypeId} {d : TD} (h : TOk P t d) : ∀ x ∈ d.zero, keysL x = [] := by
  obtain ⟨i, z, _, _, _, _, hm, _⟩ := h.info
  intro x hx
  rw [← hm] at hx
  obtain ⟨v, _, rfl⟩ := List.mem_map.1 hx
  rfl

section
variable {P : Program} {T : TT} {R : Type} {C : CT} {base : Nat} {e e' : Operand → AV} {H H' : HL} {k : AV → Upd → Option R} {o : Oper} {ks : List Nat}

theorem ld_nat {t : TypeId} {cs : List LV} {off : Nat} : (ld T t cs off fun s => k (.sv s) []) = (ld T t cs off fun s => some (.sv s, [])).bind fun p : AV × Upd => k p.1 p.2 := by
  unfold ld
  split
  · split
    · split <;> rfl
    · rfl
  · rfl

theorem binV_nat {tb : Bool} {op : BinOp} {a b : Value} : (binV tb op a b fun v => k (.sv (.one (.val v))) []) = (binV tb op a b fun v => some (.sv (.one (.val v)), [])).bind fun p : AV × Upd => k p.1 p.2 := by
  unfold binV
  repeat' (first | rfl | split)

theorem pickN_nat {g : Nat → AV} {n : Nat} : ∀ len : Nat, (pickN n len fun i => k (g i) []) = (pickN n len fun i => some (g i, [])).bind fun p : AV × Upd => k p.1 p.2
  | 0 => rfl
  | len + 1 => by
    unfold pickN
    split
    · rfl
    · exact pickN_nat len

theorem act_nat : act T C o base e H k = (act T C o base e H fun v u => some (v, u)).bind fun p => k p.1 p.2 := by
  cases ho : o.op with
  | load t x =>
    simp only [act, ho]
    repeat' (first | rfl | exact ld_nat | split)
  | field s x f =>
    simp only [act, ho]
    repeat' (first | rfl | exact ld_nat | split)
  | binOp op t x y t' =>
    simp only [act, ho]
    repeat' (first | rfl | exact binV_nat | split)
  | typeAssert x xt ta ok =>
    cases ok with
    | false => simp only [act, ho]; rfl
    | true =>
      simp only [act, ho]
      split
      · rename_i d v _ _
        split
        · rename_i u _ _
          cases asT ta d.isAgg u v with
          | none => rfl
          | some o => cases o with
            | none => rfl
            | some y => simp only [Option.bind_some, orK]; split <;> rfl
        · rfl
      · rfl
  | indexAddr t x i =>
    simp only [act, ho]
    repeat' (first | rfl | exact pickN_nat _ | split)
  | call c =>
    simp only [act, ho]
    cases c.callee with
    | builtin b => simp only; repeat' (first | rfl | split)
    | value f =>
      simp only
      repeat' (first | rfl | exact callK_nat _ _ | split)
    | invoke _ _ => rfl
  | slice t x lo hi mx =>
    cases mx with
    | some _ => simp [act, ho]
    | none =>
      simp only [act, ho]
      repeat' (first | rfl | split)
  | makeFunc f first captured =>
    cases f with
    | func f => simp only [act, ho]; repeat' (first | rfl | split)
    | _ => simp [act, ho]
  | _ => simp only [act, ho] <;> repeat' (first | rfl | split)

end
end Go.AM
end

section
/-
AM: one operation at another heap that agrees on the keys it reads. No condition.
-/
namespace Go.AM
open Go
variable [Inhabited ZMem]

section
variable {P : Program} {T : TT} {R : Type} {C : CT} {base : Nat} {e e' : Operand → AV} {H H' : HL} {k : AV → Upd → Option R} {o : Oper} {ks : List Nat}

theorem keys_of {x : Operand} {xs : List Operand} (hx : x ∈ xs) {j : Nat} (hj : j ∈ keysA (e x)) : j ∈ (xs.map e).flatMap keysA :=
  List.mem_flatMap.2 ⟨e x, List.mem_map.2 ⟨x, hx, rfl⟩, hj⟩

theorem map_agree {α β : Type} {f g : α → β} : ∀ {xs : List α}, (∀ x ∈ xs, f x = g x) → xs.map f = xs.map g
  | [], _ => rfl
  | x :: xs, h => by simp only [List.map_cons]; rw [h x (by simp), map_agree (fun y hy => h y (by simp [hy]))]

theorem toSVs_keys : ∀ (l : List AV) (args : List SV), toSVs l = some args → ∀ x ∈ args, ∀ k ∈ keysS x, k ∈ l.flatMap keysA
  | [], args, h, x, hx, k, hk => by simp [toSVs] at h; subst h; simp at hx
  | v :: l, args, h, x, hx, k, hk => by
    cases v with
    | tup _ => simp [toSVs] at h
    | sv s =>
      simp only [toSVs] at h
      split at h
      · rename_i l' hl
        cases h
        rcases List.mem_cons.1 hx with rfl | hx
        · simp only [List.flatMap_cons, List.mem_append]; exact .inl hk
        · simp only [List.flatMap_cons, List.mem_append]; exact .inr (toSVs_keys l l' hl x hx k hk)
      · cases h

theorem reach_sub (H : HL) : ∀ (n : Nat) (ks : List Nat), ∀ k ∈ ks, k ∈ reach H n ks
  | 0, _, _, h => h
  | n + 1, ks, k, h => by
    simp only [reach]
    exact reach_sub H n _ k (List.mem_append.2 (.inl h))

theorem local_load {t : TypeId} {x : Operand} (ho : o.op = .load t x) (he : e x = e' x) (hk : Agree (keysA (e x)) H H') : act T C o base e' H' k = act T C o base e H k := by
  simp only [act, ho, ← he]
  split
  · rename_i b off hx
    rw [hk b (by rw [hx]; simp [keysA, keysS, keysL])]
  · rfl
  · rename_i b i sz off hx
    rw [hk b (by rw [hx]; simp [keysA, keysS, keysL])]
  · rfl

theorem one_keys {x : Operand} {y : LV} (hx : e x = .sv (.one y)) {j : Nat} (hj : j ∈ keysL y) : j ∈ keysA (e x) := by rw [hx]; exact hj

theorem local_store {t : TypeId} {x y : Operand} (ho : o.op = .store t x y) (he : e x = e' x) (hy : e y = e' y) (hk : Agree (keysA (e x) ++ keysA (e y)) H H') : act T C o base e' H' k = act T C o base e H k := by
  simp only [act, ho, ← he, ← hy]
  split
  · rename_i b off s d hx hs hd
    rw [hk b (List.mem_append.2 (.inl (one_keys hx (by simp [keysL]))))]
  · rename_i b i sz off s d hx hs hd
    have hsk : ∀ z ∈ s, ∀ j ∈ keysL z, j ∈ keysA (e x) ++ keysA (e y) := fun z hz j hj => List.mem_append.2 (.inr (cellsA_keys hs z hz j hj))
    have hf := fzU_agree hk hsk
    have ha := hk.app (fzU H s)
    rw [← hf, ← ha b (List.mem_append.2 (.inl (one_keys hx (by simp [keysL]))))]
    split
    · rename_i tu u l hb
      split
      · have hsp : ∀ z ∈ splice (flat u (l.getD i (dflt u))) off s, ∀ j ∈ keysL z, j ∈ keysA (e x) ++ keysA (e y) := by
          intro z hz j hj
          unfold splice at hz
          simp only [List.mem_append] at hz
          rcases hz with (hz | hz) | hz
          · rw [flat_keys u _ z (List.mem_of_mem_take hz)] at hj; simp at hj
          · exact hsk z hz j hj
          · rw [flat_keys u _ z (List.mem_of_mem_drop hz)] at hj; simp at hj
        rw [← unflat_agree ha u _ hsp]
      · rfl
    · rfl
  · rfl

theorem local_buildSlice (hT : TOK P T) {t : TypeId} {len : Nat} {parts : Array (Nat × Operand)} (ho : o.op = .buildSlice t len parts) (he : ∀ p ∈ parts.toList, e p.2 = e' p.2) (hk : Agree ((parts.toList.map fun p => e p.2).flatMap keysA) H H') : act T C o base e' H' k = act T C o base e H k := by
  simp only [act, ho]
  have hm : (parts.toList.map fun p => (p.1, e' p.2)) = parts.toList.map fun p => (p.1, e p.2) := map_agree fun p hp => by rw [he p hp]
  rw [hm]
  split
  · rename_i te u de h
    obtain ⟨d, hd, _, hte, _⟩ := elemOfT_sound hT h
    split
    · rename_i cs hc
      have hck : ∀ z ∈ cs, ∀ j ∈ keysL z, j ∈ (parts.toList.map fun p => e p.2).flatMap keysA := by
        intro z hz j hj
        rcases fillL_mem _ _ _ _ hc z hz with h1 | ⟨p, h1, s, h2, h3⟩
        · rw [zero_keys (hT te de hte) z (mem_repeatL _ _ z h1)] at hj; simp at hj
        · obtain ⟨q, hq, rfl⟩ := List.mem_map.1 h1
          exact List.mem_flatMap.2 ⟨e q.2, List.mem_map.2 ⟨q, hq, rfl⟩, cellsA_keys h2 z h3 j hj⟩
      rw [← fzU_agree hk hck, ← unflatN_agree (hk.app (fzU H cs)) u len cs hck]
    · rfl
  · rfl

theorem local_convert {s t : TypeId} {x : Operand} (ho : o.op = .convert s t x) (he : e x = e' x) (hk : Agree (keysA (e x)) H H') : act T C o base e' H' k = act T C o base e H k := by
  simp only [act, ho, ← he]
  split
  · rename_i ds dd y hs ht hx
    have hy : ∀ j ∈ keysL y, j ∈ keysA (e x) := fun j hj => one_keys hx hj
    split
    · rfl
    · rfl
    · rw [← peekL_agree hk hy]
    · rfl
  · rfl

theorem local_slice {t : TypeId} {x : Operand} {lo hi : Option Operand} (ho : o.op = .slice t x lo hi none) (he : e x = e' x) (hlo : ∀ y, lo = some y → e y = e' y) (hhi : ∀ y, hi = some y → e y = e' y) (hk : Agree (keysA (e x)) H H') :
    act T C o base e' H' k = act T C o base e H k := by
  have h1 : act T C o base e' H' k = act T C o base e H' k := by
    cases lo <;> cases hi
    · simp only [act, ho, he]
    · rename_i z; simp only [act, ho, he, hhi z rfl]
    · rename_i y; simp only [act, ho, he, hlo y rfl]
    · rename_i y z; simp only [act, ho, he, hlo y rfl, hhi z rfl]
  rw [h1]
  simp only [act, ho]
  split
  · rename_i d hd
    split
    · rfl
    · split
      · rfl
      · rename_i y hds hx
        have hy : ∀ j ∈ keysL y, j ∈ keysA (e x) := fun j hj => one_keys hx hj
        have hf : fzU H' [y] = fzU H [y] := (fzU_agree hk (fun z hz => by simp at hz; subst hz; exact hy)).symm
        rw [hf]
        have hro : ownRow C o H' y = ownRow C o H y := by
          unfold ownRow
          split
          · rename_i b _
            rw [← hk b (hy b (by simp [keysL]))]
          · rfl
        rw [hro]
        split
        · rename_i u _ _
          rw [← peekL_agree hk hy]
        · rfl
      · rfl
  · rfl

theorem local_indexAddr {t : TypeId} {x y : Operand} (ho : o.op = .indexAddr t x y) (he : e x = e' x) (hy : e y = e' y) (hk : Agree (keysA (e x)) H H') : act T C o base e' H' k = act T C o base e H k := by
  simp only [act, ho, ← he, ← hy]
  split
  · rename_i te u de z kk i h hx hy'
    have hz : ∀ j ∈ keysL z, j ∈ keysA (e x) := fun j hj => one_keys hx hj
    split
    · rename_i b
      rw [← hk b (hz b (by simp [keysL]))]
    · rw [← getL_agree hk hz]
  · rfl
  · rfl

theorem local_builtin {c : Call} {b : Builtin} (ho : o.op = .call c) (hc : c.callee = .builtin b) (he : ∀ x ∈ c.args.toList, e x = e' x) (hk : Agree ((c.args.toList.map e).flatMap keysA) H H') : act T C o base e' H' k = act T C o base e H k := by
  have hm : c.args.toList.map e' = c.args.toList.map e := (map_agree he).symm
  simp only [act, ho, hc]
  rw [hm]
  split
  · rename_i y t ha ht
    have hy : ∀ j ∈ keysL y, j ∈ (c.args.toList.map e).flatMap keysA := fun j hj => by rw [ha]; simp [keysA, keysS, hj]
    split
    · split
      · rfl
      · split
        · rw [← peekL_agree hk hy]
        · rfl
      · rfl
    · rfl
  · rename_i s x t tx ha ht
    have hs : ∀ j ∈ keysL s, j ∈ (c.args.toList.map e).flatMap keysA := fun j hj => by rw [ha]; simp [keysA, keysS, hj]
    have hx : ∀ j ∈ keysL x, j ∈ (c.args.toList.map e).flatMap keysA := fun j hj => by rw [ha]; simp [keysA, keysS, hj]
    split
    · rw [← srcL_agree hk hx]
      split
      · split
        · rfl
        · rename_i b
          rw [← hk b (hs b (by simp [keysL]))]
        · rfl
      · rfl
    · rfl
  · rfl
  · rfl
  · rfl

theorem act_local (hT : TOK P T) (he : ∀ x ∈ o.op.operands.toList, e x = e' x) (hk : Agree (rkeys o e H) H H') (hr : rok o e H = true) : act T C o base e' H' k = act T C o base e H k := by
  cases ho : o.op with
  | move x =>
    have := he x (by simp [ho, Op.operands])
    simp only [act, ho, this]
  | assign x =>
    have := he x (by simp [ho, Op.operands])
    simp only [act, ho, this]
  | pick c x y =>
    have h1 := he c (by simp [ho, Op.operands])
    have h2 := he x (by simp [ho, Op.operands])
    have h3 := he y (by simp [ho, Op.operands])
    simp only [act, ho, h1, h2, h3]
  | alloc t => simp only [act, ho]
  | box t x =>
    have h1 := he x (by simp [ho, Op.operands])
    simp only [act, ho, h1]
  | build t parts =>
    have hm : (parts.toList.map fun p => (p.1, e' p.2)) = parts.toList.map fun p => (p.1, e p.2) := map_agree fun p hp => by
      rw [he p.2 (by simp only [ho, Op.operands, List.toList_toArray]; exact List.mem_map.2 ⟨p, hp, rfl⟩)]
    simp only [act, ho]
    rw [hm]
  | buildSlice t len parts =>
    refine local_buildSlice hT ho (fun p hp => he p.2 (by simp only [ho, Op.operands, List.toList_toArray]; exact List.mem_map.2 ⟨p, hp, rfl⟩)) ?_
    have e1 : rkeys o e H = (parts.toList.map fun p => e p.2).flatMap keysA := by
      simp only [rkeys, ho, Op.operands, List.map_map]
      rfl
    rw [← e1]; exact hk
  | load t x =>
    refine local_load ho (he x (by simp [ho, Op.operands])) ?_
    have e1 : rkeys o e H = keysA (e x) := by simp [rkeys, ho, Op.operands]
    rw [← e1]; exact hk
  | store t x y =>
    refine local_store ho (he x (by simp [ho, Op.operands])) (he y (by simp [ho, Op.operands])) ?_
    have e1 : rkeys o e H = keysA (e x) ++ keysA (e y) := by simp [rkeys, ho, Op.operands]
    rw [← e1]; exact hk
  | nilCheck x =>
    have h1 := he x (by simp [ho, Op.operands])
    simp only [act, ho, h1]
  | binOp op t x y t' =>
    have h1 := he x (by simp [ho, Op.operands])
    have h2 := he y (by simp [ho, Op.operands])
    simp only [act, ho, h1, h2]
  | unOp op t x =>
    have h1 := he x (by simp [ho, Op.operands])
    simp only [act, ho, h1]
  | convert s t x =>
    refine local_convert ho (he x (by simp [ho, Op.operands])) ?_
    have e1 : rkeys o e H = keysA (e x) := by simp [rkeys, ho, Op.operands]
    rw [← e1]; exact hk
  | makeFunc f first captured =>
    cases f with
    | func f =>
      have hm : capKeys e' captured.toList = capKeys e captured.toList := by
        have h1 : ∀ x ∈ captured.toList, e x = e' x := fun x hx => he x (by simp only [ho, Op.operands, Array.toList_append, List.mem_append]; exact .inr hx)
        revert h1
        generalize captured.toList = l
        intro h1
        induction l with
        | nil => rfl
        | cons x xs ih =>
          simp only [capKeys]
          rw [ih (fun y hy => h1 y (by simp [hy])), h1 x (by simp)]
      simp only [act, ho]
      rw [hm]
    | _ => simp only [act, ho]
  | makeSlice t x y =>
    have h1 := he x (by simp [ho, Op.operands])
    have h2 := he y (by simp [ho, Op.operands])
    simp only [act, ho, h1, h2]
  | slice t x lo hi mx =>
    cases mx with
    | some _ => simp only [act, ho]
    | none =>
      refine local_slice ho (he x (by simp [ho, Op.operands])) (fun y q => he y (by subst q; simp [ho, Op.operands])) (fun y q => he y (by subst q; simp [ho, Op.operands])) ?_
      intro j hj
      refine hk j ?_
      simp only [rkeys, ho, Op.operands]
      exact keys_of (x := x) (by simp) hj
  | fieldAddr s x f =>
    have h1 := he x (by simp [ho, Op.operands])
    simp only [act, ho, h1]
  | field s x f =>
    have h1 := he x (by simp [ho, Op.operands])
    simp only [act, ho, h1]
  | indexAddr t x y =>
    refine local_indexAddr ho (he x (by simp [ho, Op.operands])) (he y (by simp [ho, Op.operands])) ?_
    intro j hj
    refine hk j ?_
    simp only [rkeys, ho, Op.operands]
    exact keys_of (x := x) (by simp) hj
  | index t x y =>
    have h1 := he x (by simp [ho, Op.operands])
    have h2 := he y (by simp [ho, Op.operands])
    simp only [act, ho, h1, h2]
  | makeInterface t x =>
    have h1 := he x (by simp [ho, Op.operands])
    simp only [act, ho, h1]
  | typeAssert x xt ta ok =>
    have h1 := he x (by simp [ho, Op.operands])
    cases ok <;> simp only [act, ho, h1]
  | extract t i =>
    have h1 := he t (by simp [ho, Op.operands])
    simp only [act, ho, h1]
  | call c =>
    cases hc : c.callee with
    | builtin b =>
      obtain ⟨callee, args, argTypes⟩ := c
      simp only at hc
      subst hc
      refine local_builtin ho rfl (fun x hx => he x (by simp only [ho, Op.operands, Call.operands]; simpa using hx)) ?_
      intro j hj
      refine hk j ?_
      simp only [rkeys, ho, Op.operands, Call.operands]
      simpa using hj
    | value f =>
      obtain ⟨callee, args, argTypes⟩ := c
      simp only at hc
      subst hc
      have hf := he f (by simp [ho, Op.operands, Call.operands])
      have ha : ∀ x ∈ args.toList, e x = e' x := fun x hx => he x (by simp only [ho, Op.operands, Call.operands]; simp at hx ⊢; exact .inr hx)
      simp only [act, ho]
      rw [← hf, ← map_agree ha]
      split
      · rename_i g caps args' hef hargs
        simp only [rkeys, ho] at hk
        simp only [rok, ho, rkeys] at hr
        refine callK_on hk hr _ _ (fun x hx j hj => ?_)
        refine reach_sub H 3 _ j ?_
        simp only [List.flatMap_cons, List.mem_append]
        rcases List.mem_append.1 hx with h1 | h1
        · exact .inr (toSVs_keys _ _ hargs x h1 j hj)
        · obtain ⟨b, hb, rfl⟩ := List.mem_map.1 h1
          simp only [keysS, keysL, List.mem_singleton] at hj
          subst hj
          rw [hef]
          exact .inl hb
      · rfl
    | invoke _ _ => simp only [act, ho, hc]
  | _ => simp only [act, ho]

end
end Go.AM
end

section
/-
AM: a region in the order of its text: what its operations yield, and that the model does it. No condition.
-/
namespace Go.AM
open Go
variable [Inhabited ZMem]

/-- The values of operands, where slots hold these. -/
def evF (f : Nat → AV) : Operand → AV
  | .tmp t => f t
  | .const v => constAV v
  | .func f => .sv (.one (.fn f []))
  | .global _ => .sv (.one .junk)

theorem ev_evF (st : St) : ev st = evF (sget st.slots) := by
  funext x; cases x <;> rfl

def setF (f : Nat → AV) (d : Option Nat) (v : AV) : Nat → AV := fun t => if d = some t then v else f t
def setG (g : Nat → Option HC) (u : Upd) : Nat → Option HC := fun k => match hget u k with
  | some c => some c
  | none => g k

theorem sget_put (s : List (Nat × AV)) (d : Option Nat) (v : AV) : sget (put s d v) = setF (sget s) d v := by
  funext t
  cases d with
  | none => simp [put, setF]
  | some d => simp [put, setF, sget]

theorem hget_setG (u H : HL) : hget (u ++ H) = setG (hget H) u := by
  funext k
  rw [hget_app]
  rfl

/-- Is the operation carried out? -/
def guardF (ops : List Oper) (o : Oper) (f : Nat → AV) : Option Bool := match o.guard with
  | none => some true
  | some (j, b) => match (ops[j]?).bind (·.dst) with
    | some d => match f d with
      | .sv (.one (.val (.bool q))) => some (q == b)
      | .tup [] => some false
      | _ => none
    | none => none

structure Rc where
  v : AV
  u : Upd
  r : List Nat
  ran : Bool

inductive Tr (T : TT) (C : CT) (all : List Oper) (draw : Bool) (b : List Nat) : List (Nat × Nat × Oper) → List (Nat × List Nat × List Nat) → (Nat → AV) → HL → List Rc → Prop where
  | nil {fps f H} : Tr T C all draw b [] fps f H []
  | run {i base o l fps f H v u recs} (hg : guardF all o f = some true) (ha : act T C o base (evF f) H (fun v u => some (v, u)) = some (v, u))
      (hc : draw = true → okFp b i (rkeys o (evF f) H) (u.map (·.1)) fps = true ∧ rok o (evF f) H = true)
      (ht : Tr T C all draw b l ((i, rkeys o (evF f) H, u.map (·.1)) :: fps) (setF f o.dst v) (u ++ H) recs) : Tr T C all draw b ((i, base, o) :: l) fps f H (⟨v, u, rkeys o (evF f) H, true⟩ :: recs)
  | skip {i base o l fps f H recs} (hg : guardF all o f = some false) (ht : Tr T C all draw b l ((i, [], []) :: fps) (setF f o.dst junkA) H recs) :
      Tr T C all draw b ((i, base, o) :: l) fps f H (⟨junkA, [], [], false⟩ :: recs)

/-- What the slots and the heap are behind these. -/
def endF (f : Nat → AV) : List (Nat × Nat × Oper) → List Rc → Nat → AV
  | (_, _, o) :: l, c :: cs => endF (setF f o.dst c.v) l cs
  | _, _ => f
def endH (H : HL) : List Rc → HL
  | [] => H
  | c :: cs => endH (c.u ++ H) cs

section
variable {T : TT} {C : CT} {all : List Oper} {draw : Bool} {b : List Nat} {R : Type} {r : R}

theorem know_sget {st : St} {j : Nat} {q : Bool} (h : boolAt all st j = some (some q)) : sget (know all st j q).slots = sget st.slots ∧ (know all st j q).heap = st.heap := by
  unfold boolAt at h
  unfold know
  cases ho : all[j]? with
  | none => rw [ho] at h; cases h
  | some o =>
    rw [ho] at h
    simp only at h ⊢
    cases hd : o.dst with
    | none => rw [hd] at h; cases h
    | some d =>
      rw [hd] at h
      simp only at h ⊢
      refine ⟨?_, trivial⟩
      funext t
      simp only [sget]
      split
      · rename_i e
        subst e
        split at h
        · rename_i b hb
          cases h
          exact hb.symm
        · cases h
        · cases h
      · rfl

theorem guard_bool {st : St} {o : Oper} {j : Nat} {b q : Bool} (hg : o.guard = some (j, b)) (h : boolAt all st j = some (some q)) : guardF all o (sget st.slots) = some (q == b) := by
  unfold boolAt at h
  unfold guardF
  rw [hg]
  simp only
  cases ho : all[j]? with
  | none => rw [ho] at h; cases h
  | some o =>
    rw [ho] at h
    simp only [Option.bind_some] at h ⊢
    cases hd : o.dst with
    | none => rw [hd] at h; cases h
    | some d =>
      rw [hd] at h
      simp only at h ⊢
      split at h
      · rename_i b' hb
        cases h
        have : sget st.slots d = .sv (.one (.val (.bool q))) := hb
        rw [this]
      · cases h
      · cases h

theorem guard_undef {st : St} {o : Oper} {j : Nat} {b : Bool} (hg : o.guard = some (j, b)) (h : boolAt all st j = some none) : guardF all o (sget st.slots) = some false := by
  unfold boolAt at h
  unfold guardF
  rw [hg]
  simp only
  cases ho : all[j]? with
  | none => rw [ho] at h; cases h
  | some o =>
    rw [ho] at h
    simp only [Option.bind_some] at h ⊢
    cases hd : o.dst with
    | none => rw [hd] at h; cases h
    | some d =>
      rw [hd] at h
      simp only at h ⊢
      split at h
      · cases h
      · rename_i hb
        have : sget st.slots d = .tup [] := hb
        rw [this]
      · cases h

theorem regK_tr : ∀ (l : List (Nat × Nat × Oper)) (fps : List (Nat × List Nat × List Nat)) (st : St) (k : St → Option R), regK T C all draw b l fps st k = some r →
    ∃ recs st', Tr T C all draw b l fps (sget st.slots) st.heap recs ∧ recs.length = l.length ∧ k st' = some r ∧ sget st'.slots = endF (sget st.slots) l recs ∧ st'.heap = endH st.heap recs
  | [], fps, st, k, h => ⟨[], st, .nil, rfl, h, rfl, rfl⟩
  | (i, base, o) :: l, fps, st, k, h => by
    have ran : ∀ (st1 : St), sget st1.slots = sget st.slots → guardF all o (sget st.slots) = some true →
        (act T C o base (ev st1) st.heap fun v u =>
          if (!draw || (okFp b i (rkeys o (ev st1) st.heap) (u.map (·.1)) fps && rok o (ev st1) st.heap)) = true then
            regK T C all draw b l ((i, rkeys o (ev st1) st.heap, u.map (·.1)) :: fps) ⟨put st1.slots o.dst v, u ++ st.heap, st.hn⟩ k
          else none) = some r →
        ∃ recs st', Tr T C all draw b ((i, base, o) :: l) fps (sget st.slots) st.heap recs ∧ recs.length = (l.length + 1) ∧ k st' = some r ∧ sget st'.slots = endF (sget st.slots) ((i, base, o) :: l) recs ∧ st'.heap = endH st.heap recs := by
      intro st1 e1 hg h1
      rw [ev_evF, e1] at h1
      rw [act_nat] at h1
      cases ha : act T C o base (evF (sget st.slots)) st.heap (fun v u => some (v, u)) with
      | none => rw [ha] at h1; cases h1
      | some p =>
        obtain ⟨v, u⟩ := p
        rw [ha] at h1
        simp only [Option.bind_some] at h1
        split at h1
        · rename_i hc
          obtain ⟨recs, st', h2, h3, h4, h5, h6⟩ := regK_tr l _ _ k h1
          simp only [sget_put, e1] at h2 h5 h6
          refine ⟨⟨v, u, _, true⟩ :: recs, st', .run hg ha (fun hd => ?_) h2, by simp [h3], h4, h5, h6⟩
          rw [hd] at hc
          simpa using hc
        · cases h1
    have skp : ∀ (st1 : St), sget st1.slots = sget st.slots → guardF all o (sget st.slots) = some false →
        regK T C all draw b l ((i, [], []) :: fps) ⟨put st1.slots o.dst junkA, st.heap, st.hn⟩ k = some r →
        ∃ recs st', Tr T C all draw b ((i, base, o) :: l) fps (sget st.slots) st.heap recs ∧ recs.length = (l.length + 1) ∧ k st' = some r ∧ sget st'.slots = endF (sget st.slots) ((i, base, o) :: l) recs ∧ st'.heap = endH st.heap recs := by
      intro st1 e1 hg h1
      obtain ⟨recs, st', h2, h3, h4, h5, h6⟩ := regK_tr l _ _ k h1
      simp only [sget_put, e1] at h2 h5 h6
      refine ⟨⟨junkA, [], [], false⟩ :: recs, st', .skip hg h2, by simp [h3], h4, h5, ?_⟩
      rw [h6]
      rfl
    simp only [regK] at h
    split at h
    · rename_i hg
      exact ran st rfl (by simp [guardF, hg]) h
    · rename_i j hg
      split at h
      · rename_i hq
        exact skp _ rfl (guard_undef hg hq) h
      · rename_i q hq
        have hgb := guard_bool hg hq
        split at h
        · rename_i e
          subst e
          exact ran _ (know_sget hq).1 (by rw [hgb]; rfl) h
        · rename_i e
          have : q = false := by simpa using e
          subst this
          exact skp _ (know_sget hq).1 (by rw [hgb]; rfl) h
      · cases h
    · rename_i j hg
      split at h
      · rename_i hq
        exact skp _ rfl (guard_undef hg hq) h
      · rename_i q hq
        have hgb := guard_bool hg hq
        split at h
        · rename_i e
          subst e
          exact skp _ (know_sget hq).1 (by rw [hgb]; rfl) h
        · rename_i e
          have : q = false := by simpa using e
          subst this
          exact ran _ (know_sget hq).1 (by rw [hgb]; rfl) h
      · cases h

end

/-- How a state of the machine stands for a state of the model: with these keys free. -/
def Stands (w0 : World) (M0 : Mem) (G0 : Gh) (H0 : HL) (lo hi n : Nat) (fr : Nat → Prop) (a : Act) (w : World) (f : Nat → AV) (gp : HL → Prop) : Prop :=
  (∃ M G H, gp H ∧ (∀ t, AVR M G (a.tmps.getD t undef) (f t)) ∧ Inv w M G H ∧ Step w0 M0 G0 H0 w M G H ∧ (∀ j, (j < lo ∨ hi ≤ j) → G j = G0 j) ∧ ∀ j, fr j → G j = none) ∧
  a.tmps.size = n ∧ a.defers = []

section
variable {P : Program} {T : TT} {C : CT} {w : World} {M : Mem} {G : Gh} {a : Act} {f : Nat → AV} {o : Oper} {n : Nat}

theorem avr_put {M' : Mem} {G' : Gh} (hm : MLe M M') (hg : GLe G G') (h : ∀ t, AVR M G (a.tmps.getD t undef) (f t)) (hd : ∀ d, o.dst = some d → d < a.tmps.size) {val : Value} {v : AV} (hv : AVR M' G' val v) :
    ∀ t, AVR M' G' ((a.put o.dst val).tmps.getD t undef) (setF f o.dst v t) := by
  intro t
  cases ho : o.dst with
  | none => simpa [Act.put, setF] using (h t).ext hm hg
  | some d =>
    by_cases e : d = t
    · subst e
      have := hd d ho
      simpa [Act.put, setF, this] using hv
    · have e' : ¬ (some d = some t) := fun q => e (by cases q; rfl)
      simp only [setF, e', if_false]
      have : (a.put (some d) val).tmps.getD t undef = a.tmps.getD t undef := by
        simp [Act.put, Array.getElem?_setIfInBounds_ne e]
      rw [this]
      exact (h t).ext hm hg

theorem put_size (a : Act) (d : Option Nat) (v : Value) : (a.put d v).tmps.size = a.tmps.size := by cases d <;> simp [Act.put]
theorem put_defers' (a : Act) (d : Option Nat) (v : Value) : (a.put d v).defers = a.defers := by cases d <;> simp [Act.put]

/-- The guard, as the model reads it. -/
theorem guard_wanted {ops : List Oper} (h : ∀ t, AVR M G (a.tmps.getD t undef) (f t)) {q : Bool} (hg : guardF ops o f = some q) : Region.wanted o (yielded ops.toArray a.tmps) = q := by
  unfold guardF at hg
  unfold Region.wanted
  split at hg
  · rename_i e
    cases hg
    rw [e]
  · rename_i j b e
    rw [e]
    simp only
    split at hg
    · rename_i d hd
      split at hg
      · rename_i q' hq
        cases hg
        have h1 := h d
        rw [hq] at h1
        have h2 := h1.1
        have h3 : a.tmps[d]? = some (.bool q') := by
          cases h4 : a.tmps[d]? with
          | none => simp [h4, undef] at h2
          | some x => simp [h4] at h2; rw [h2]
        have : yielded ops.toArray a.tmps j = some q' := by
          unfold yielded
          have e1 : (ops.toArray[j]?).bind (·.dst) = some d := by simpa using hd
          rw [e1]
          simp only [Option.bind_some, h3]
        rw [this]
        cases q' <;> cases b <;> rfl
      · rename_i hq
        cases hg
        have h1 := h d
        rw [hq] at h1
        obtain ⟨vs, h2, h5⟩ := h1
        have h6 : vs = #[] := by
          obtain ⟨l⟩ := vs
          cases l with
          | nil => rfl
          | cons _ _ => exact h5.elim
        subst h6
        have : yielded ops.toArray a.tmps j = none := by
          unfold yielded
          have e1 : (ops.toArray[j]?).bind (·.dst) = some d := by simpa using hd
          rw [e1]
          simp only [Option.bind_some]
          cases h4 : a.tmps[d]? with
          | none => rfl
          | some x =>
            simp [h4] at h2
            rw [h2]
        rw [this]
        cases b <;> rfl
      · cases hg
    · cases hg

theorem evF_sound (h : ∀ t, AVR M G (a.tmps.getD t undef) (f t)) (x : Operand) : AVR M G (a.eval x) (evF f x) := by
  cases x with
  | tmp t => exact h t
  | const v => exact constAV_sound v
  | func f => exact ⟨#[], rfl, trivial⟩
  | global g => trivial

/-- One operation from a state that stands, to the next. -/
theorem stands_step (hT : TOK P T) (hC : COK P C) {w0 : World} {M0 : Mem} {G0 : Gh} {H0 : HL} {lo hi : Nat} {base : Nat} {v : AV} {u : Upd} {gp gp' : HL → Prop} {fr fr' : Nat → Prop} (hs : Stands w0 M0 G0 H0 lo hi n fr a w f gp)
    (hd : ∀ d, o.dst = some d → d < n) (hb : lo ≤ base) (hbh : base + width o.op ≤ hi) (hf : ∀ j, base ≤ j → j < base + width o.op → fr j) (hfr : ∀ j, fr' j → fr j ∧ (j < base ∨ base + width o.op ≤ j))
    (ha : ∀ H, gp H → act T C o base (evF f) H (fun v u => some (v, u)) = some (v, u)) (hgp : ∀ H, gp H → gp' (u ++ H)) : Runs P a o w fun val w' => Stands w0 M0 G0 H0 lo hi n fr' (a.put o.dst val) w' (setF f o.dst v) gp' := by
  obtain ⟨⟨M, G, H, hH, hsl, hI, hst, hfx, hfe⟩, hsz, hdf⟩ := hs
  obtain ⟨v', u', e, hr⟩ := act_sound hT hC hI (evF_sound hsl) (fun j h1 h2 => hfe j (hf j h1 h2)) (ha H hH)
  simp only [Option.some.injEq, Prod.mk.injEq] at e
  obtain ⟨rfl, rfl⟩ := e
  refine hr.mono fun val w' hg => ?_
  obtain ⟨M', G', h1, h2, h3, h4⟩ := hg
  refine ⟨⟨M', G', _, hgp H hH, avr_put h3.mle h3.gle hsl (by rw [hsz]; exact hd) h1, h2, hst.trans h3, fun j hj => ?_, fun j hj => ?_⟩, by rw [put_size, hsz], by rw [put_defers', hdf]⟩
  · rw [h4 j (by omega), hfx j hj]
  · obtain ⟨h5, h6⟩ := hfr j hj
    rw [h4 j h6, hfe j h5]

/-- An operation that is not carried out. -/
theorem stands_skip {w0 : World} {M0 : Mem} {G0 : Gh} {H0 : HL} {lo hi : Nat} {gp gp' : HL → Prop} {fr fr' : Nat → Prop} (hs : Stands w0 M0 G0 H0 lo hi n fr a w f gp) (hd : ∀ d, o.dst = some d → d < n) (hfr : ∀ j, fr' j → fr j) (hgp : ∀ H, gp H → gp' H) :
    Stands w0 M0 G0 H0 lo hi n fr' (a.put o.dst undef) w (setF f o.dst junkA) gp' := by
  obtain ⟨⟨M, G, H, hH, hsl, hI, hst, hfx, hfe⟩, hsz, hdf⟩ := hs
  exact ⟨⟨M, G, H, hgp H hH, avr_put (MLe.refl _) (GLe.refl _) hsl (by rw [hsz]; exact hd) ⟨#[], rfl, trivial⟩, hI, hst, hfx, fun j hj => hfe j (hfr j hj)⟩, by rw [put_size, hsz], by rw [put_defers', hdf]⟩

theorem stands_act {w0 : World} {M0 : Mem} {G0 : Gh} {H0 : HL} {lo hi : Nat} {gp : HL → Prop} {fr : Nat → Prop} (hs : Stands w0 M0 G0 H0 lo hi n fr a w f gp) : ∃ M G, ∀ t, AVR M G (a.tmps.getD t undef) (f t) := by
  obtain ⟨⟨M, G, H, _, h, _⟩, _⟩ := hs
  exact ⟨M, G, h⟩

theorem Stands.weak {w0 : World} {M0 : Mem} {G0 : Gh} {H0 : HL} {lo hi : Nat} {gp gp' : HL → Prop} {fr fr' : Nat → Prop} {f' : Nat → AV} (hs : Stands w0 M0 G0 H0 lo hi n fr a w f gp) (hfr : ∀ j, fr' j → fr j) (hgp : ∀ H, gp H → gp' H) (hf : f = f') : Stands w0 M0 G0 H0 lo hi n fr' a w f' gp' := by
  subst hf
  obtain ⟨⟨M, G, H, hH, hsl, hI, hst, hfx, hfe⟩, hsz, hdf⟩ := hs
  exact ⟨⟨M, G, H, hgp H hH, hsl, hI, hst, hfx, fun j hj => hfe j (hfr j hj)⟩, hsz, hdf⟩

theorem sumW (ops : List Oper) : ∀ s, ops.foldl (fun s o => s + width o.op) s = s + (ops.map fun o => width o.op).sum := by
  induction ops with
  | nil => intro s; simp
  | cons o ops ih => intro s; simp only [List.foldl_cons, List.map_cons, List.sum_cons]; rw [ih]; omega

theorem widths_sum (ops : List Oper) : widths ops = (ops.map fun o => width o.op).sum := by
  unfold widths; rw [sumW]; omega

/-- A region in the order of its text. -/
theorem seq_sound (hT : TOK P T) (hC : COK P C) {ops : List Oper} {b : List Nat} {w0 : World} {M0 : Mem} {G0 : Gh} {H0 : HL} {lo hi : Nat} {Q : Exit → Act → World → Prop} : ∀ (l : List Oper) (i base : Nat) (fps : List (Nat × List Nat × List Nat)) (f : Nat → AV) (H : HL) (recs : List Rc) (a : Act) (w : World),
    Tr T C ops false b (number i base l) fps f H recs → (∀ o ∈ l, ∀ d, o.dst = some d → d < n) → lo ≤ base → base + (l.map fun o => width o.op).sum = hi → Stands w0 M0 G0 H0 lo hi n (fun j => base ≤ j ∧ j < hi) a w f (· = H) →
    (∀ a' w', Stands w0 M0 G0 H0 lo hi n (fun _ => False) a' w' (endF f (number i base l) recs) (· = endH H recs) → Q .normal a' w') → wpList P ops.toArray Q l a w
  | [], i, base, fps, f, H, recs, a, w, ht, hd, hb, hh, hs, hQ => by
    cases ht
    exact hQ a w (hs.weak (fun _ h => h.elim) (fun _ h => h) rfl)
  | o :: l, i, base, fps, f, H, recs, a, w, ht, hd, hb, hh, hs, hQ => by
    simp only [List.map_cons, List.sum_cons] at hh
    obtain ⟨M, G, hsl⟩ := stands_act hs
    unfold wpList
    cases ht with
    | @run _ _ _ _ _ _ _ v u recs hg ha hc ht =>
      rw [if_pos (guard_wanted hsl hg)]
      refine .inl (stands_step (v := v) (u := u) hT hC hs (gp' := (· = u ++ H)) (fr' := fun j => base + width o.op ≤ j ∧ j < hi) (hd o (by simp)) hb (by omega) (fun j h1 h2 => ⟨h1, by omega⟩) (fun j hj => ⟨⟨by omega, hj.2⟩, .inr hj.1⟩) (fun H' hH' => by rw [hH']; exact ha) (fun H' hH' => by rw [hH']) _ Q (fun val w' hs' => ?_))
      exact seq_sound hT hC l (i + 1) (base + width o.op) _ _ _ _ _ _ ht (fun o ho => hd o (by simp [ho])) (by omega) (by omega) hs' hQ
    | skip hg ht =>
      rw [if_neg (by rw [guard_wanted hsl hg]; simp)]
      exact seq_sound hT hC l (i + 1) (base + width o.op) _ _ _ _ _ _ ht (fun o ho => hd o (by simp [ho])) (by omega) (by omega) (stands_skip hs (hd o (by simp)) (fun j hj => ⟨by omega, hj.2⟩) (fun _ h => h)) hQ

end
end Go.AM
end

section
/-
AM: a region whose order is drawn: every order comes to the text's. No condition.
-/
namespace Go.AM
open Go
variable [Inhabited ZMem]

/-- The keys a record reads and writes are apart from an earlier one's. -/
def Apt (b : List Nat) (i : Nat) (r w : List Nat) (x : Nat × List Nat × List Nat) : Prop :=
  (b.getD i 0).testBit x.1 = true ∨ ((∀ k ∈ x.2.2, k ∉ r) ∧ (∀ k ∈ x.2.2, k ∉ w) ∧ ∀ k ∈ x.2.1, k ∉ w)

theorem meets_false {a b : List Nat} (h : meets a b = false) : ∀ k ∈ a, k ∉ b := by
  intro k hk hb
  have : meets a b = true := List.any_eq_true.2 ⟨k, hk, by simpa using hb⟩
  rw [h] at this; cases this

theorem okFp_apt {b : List Nat} {i : Nat} {r w : List Nat} {fps : List (Nat × List Nat × List Nat)} (h : okFp b i r w fps = true) : ∀ x ∈ fps, Apt b i r w x := by
  intro x hx
  have := List.all_eq_true.1 h x hx
  simp only [Bool.or_eq_true, Bool.and_eq_true, Bool.not_eq_true'] at this
  rcases this with h1 | ⟨⟨h1, h2⟩, h3⟩
  · exact .inl h1
  · exact .inr ⟨meets_false h1, meets_false h2, meets_false h3⟩

def fpOf (x : Nat × Nat × Oper) (c : Rc) : Nat × List Nat × List Nat := (x.1, c.r, c.u.map (·.1))

structure RcOk (T : TT) (C : CT) (all : List Oper) (b : List Nat) (x : Nat × Nat × Oper) (fm : Nat → AV) (Hm : HL) (c : Rc) (fps : List (Nat × List Nat × List Nat)) : Prop where
  gd : guardF all x.2.2 fm = some c.ran
  no : c.ran = false → c = ⟨junkA, [], [], false⟩
  ac : c.ran = true → act T C x.2.2 x.2.1 (evF fm) Hm (fun v u => some (v, u)) = some (c.v, c.u) ∧ c.r = rkeys x.2.2 (evF fm) Hm ∧ rok x.2.2 (evF fm) Hm = true
  fp : ∀ y ∈ fps, Apt b x.1 c.r (c.u.map (·.1)) y

theorem tr_at {T : TT} {C : CT} {all : List Oper} {b : List Nat} : ∀ {l : List (Nat × Nat × Oper)} {fps : List (Nat × List Nat × List Nat)} {f : Nat → AV} {H : HL} {recs : List Rc}, Tr T C all true b l fps f H recs → ∀ (m : Nat) (x : Nat × Nat × Oper), l[m]? = some x →
    ∃ c, recs[m]? = some c ∧ RcOk T C all b x (endF f (l.take m) (recs.take m)) (endH H (recs.take m)) c fps ∧
      ∀ m' x' c', m' < m → l[m']? = some x' → recs[m']? = some c' → Apt b x.1 c.r (c.u.map (·.1)) (fpOf x' c') := by
  intro l fps f H recs ht
  induction ht with
  | nil => intro m x h; simp at h
  | @run i base o l fps f H v u recs hg ha hc ht ih =>
    intro m x h
    cases m with
    | zero =>
      simp at h
      subst h
      obtain ⟨h1, h2⟩ := hc rfl
      refine ⟨_, rfl, ⟨hg, (fun q => by cases q), fun _ => ⟨ha, rfl, h2⟩, okFp_apt h1⟩, fun m' _ _ hm => by omega⟩
    | succ m =>
      obtain ⟨c, h1, h2, h3⟩ := ih m x (by simpa using h)
      refine ⟨c, by simpa using h1, ⟨h2.gd, h2.no, h2.ac, fun y hy => h2.fp y (by simp [hy])⟩, fun m' x' c' hm hx hc' => ?_⟩
      cases m' with
      | zero =>
        simp at hx hc'
        subst hx; subst hc'
        exact h2.fp _ (by simp [fpOf])
      | succ m' => exact h3 m' x' c' (by omega) (by simpa using hx) (by simpa using hc')
  | @skip i base o l fps f H recs hg ht ih =>
    intro m x h
    cases m with
    | zero =>
      simp at h
      subst h
      refine ⟨_, rfl, ⟨hg, fun _ => rfl, (fun q => by cases q), fun y hy => .inr ⟨?_, ?_, ?_⟩⟩, fun m' _ _ hm => by omega⟩ <;> simp
    | succ m =>
      obtain ⟨c, h1, h2, h3⟩ := ih m x (by simpa using h)
      refine ⟨c, by simpa using h1, ⟨h2.gd, h2.no, h2.ac, fun y hy => h2.fp y (by simp [hy])⟩, fun m' x' c' hm hx hc' => ?_⟩
      cases m' with
      | zero =>
        simp at hx hc'
        subst hx; subst hc'
        exact h2.fp _ (by simp [fpOf])
      | succ m' => exact h3 m' x' c' (by omega) (by simpa using hx) (by simpa using hc')

/-! ### the state behind a set of the operations -/
section
variable (ops : List Oper) (recs : List Rc) (f0 : Nat → AV) (g0 : Nat → Option HC)

def dstOf (j : Nat) : Option Nat := (ops[j]?).bind (·.dst)
def rcOf (j : Nat) : Rc := (recs[j]?).getD ⟨junkA, [], [], false⟩

def FS (S : Nat → Bool) : Nat → Nat → AV
  | 0 => f0
  | n + 1 => if S n = true then setF (FS S n) (dstOf ops n) (rcOf recs n).v else FS S n

def GS (S : Nat → Bool) : Nat → Nat → Option HC
  | 0 => g0
  | n + 1 => if S n = true then setG (GS S n) (rcOf recs n).u else GS S n

theorem FS_dep {S S' : Nat → Bool} {t : Nat} : ∀ (n : Nat), (∀ j, j < n → dstOf ops j = some t → S j = S' j) → FS ops recs f0 S n t = FS ops recs f0 S' n t
  | 0, _ => rfl
  | n + 1, h => by
    have ih := FS_dep n (fun j hj => h j (by omega))
    simp only [FS]
    by_cases e : dstOf ops n = some t
    · rw [← h n (by omega) e]
      split
      · simp [setF, e]
      · exact ih
    · have e1 : ∀ (f : Nat → AV) v, setF f (dstOf ops n) v t = f t := fun f v => by simp [setF, e]
      split <;> split <;> (try simp only [e1]) <;> exact ih

theorem FS_stop {S : Nat → Bool} {t i : Nat} : ∀ (n : Nat), i ≤ n → (∀ j, i ≤ j → j < n → dstOf ops j = some t → S j = false) → FS ops recs f0 S n t = FS ops recs f0 S i t
  | 0, h, _ => by obtain rfl : i = 0 := by omega
                  rfl
  | n + 1, h, hs => by
    by_cases e : i = n + 1
    · subst e; rfl
    · have ih := FS_stop n (by omega) (fun j h1 h2 => hs j h1 (by omega))
      simp only [FS]
      split
      · rename_i hn
        by_cases e2 : dstOf ops n = some t
        · rw [hs n (by omega) (by omega) e2] at hn; cases hn
        · rw [show setF (FS ops recs f0 S n) (dstOf ops n) (rcOf recs n).v t = FS ops recs f0 S n t by simp [setF, e2]]; exact ih
      · exact ih

theorem GS_dep {S S' : Nat → Bool} {k : Nat} : ∀ (n : Nat), (∀ j, j < n → hget (rcOf recs j).u k ≠ none → S j = S' j) → GS recs g0 S n k = GS recs g0 S' n k
  | 0, _ => rfl
  | n + 1, h => by
    have ih := GS_dep n (fun j hj => h j (by omega))
    simp only [GS]
    cases e : hget (rcOf recs n).u k with
    | some c =>
      rw [← h n (by omega) (by rw [e]; simp)]
      split
      · simp [setG, e]
      · exact ih
    | none =>
      have e1 : ∀ (g : Nat → Option HC), setG g (rcOf recs n).u k = g k := fun g => by simp [setG, e]
      split <;> split <;> (try simp only [e1]) <;> exact ih

theorem GS_stop {S : Nat → Bool} {k i : Nat} : ∀ (n : Nat), i ≤ n → (∀ j, i ≤ j → j < n → hget (rcOf recs j).u k ≠ none → S j = false) → GS recs g0 S n k = GS recs g0 S i k
  | 0, h, _ => by obtain rfl : i = 0 := by omega
                  rfl
  | n + 1, h, hs => by
    by_cases e : i = n + 1
    · subst e; rfl
    · have ih := GS_stop n (by omega) (fun j h1 h2 => hs j h1 (by omega))
      simp only [GS]
      split
      · rename_i hn
        cases e2 : hget (rcOf recs n).u k with
        | some c => rw [hs n (by omega) (by omega) (by rw [e2]; simp)] at hn; cases hn
        | none => simp only [setG, e2]; exact ih
      · exact ih

end

theorem hget_mem : ∀ (u : Upd) (k : Nat), hget u k ≠ none → k ∈ u.map (·.1)
  | [], k, h => by simp [hget] at h
  | (j, c) :: u, k, h => by
    by_cases e : j = k
    · simp [e]
    · simp only [hget, e, if_false] at h
      simp only [List.map_cons, List.mem_cons]
      exact .inr (hget_mem u k h)

theorem endF_snoc (x : Nat × Nat × Oper) (c : Rc) (l : List (Nat × Nat × Oper)) : ∀ (recs : List Rc) (f : Nat → AV), l.length = recs.length → endF f (l ++ [x]) (recs ++ [c]) = setF (endF f l recs) x.2.2.dst c.v := by
  induction l with
  | nil =>
    intro recs f h
    cases recs with
    | nil => obtain ⟨a, b, o⟩ := x; rfl
    | cons _ _ => simp at h
  | cons y l ih =>
    intro recs f h
    cases recs with
    | nil => simp at h
    | cons d recs =>
      obtain ⟨a, b, o⟩ := y
      exact ih recs _ (by simpa using h)

theorem endH_snoc : ∀ (recs : List Rc) (H : HL) (c : Rc), endH H (recs ++ [c]) = c.u ++ endH H recs
  | [], H, c => rfl
  | _ :: recs, H, c => by
    simp only [List.cons_append, endH]
    exact endH_snoc recs _ c

theorem number_get : ∀ (l : List Oper) (n base m : Nat), (number n base l)[m]? = (l[m]?).map fun o => (n + m, base + ((l.take m).map fun o => width o.op).sum, o)
  | [], n, base, m => by simp [number]
  | o :: l, n, base, 0 => by simp [number]
  | o :: l, n, base, m + 1 => by
    simp only [number, List.getElem?_cons_succ]
    rw [number_get l (n + 1) (base + width o.op) m]
    cases h : l[m]? with
    | none => rfl
    | some o' => simp only [Option.map_some, List.take_succ_cons, List.map_cons, List.sum_cons, Option.some.injEq, Prod.mk.injEq, and_true]; omega

theorem number_length : ∀ (l : List Oper) (n base : Nat), (number n base l).length = l.length
  | [], _, _ => rfl
  | o :: l, n, base => by simp [number, number_length l]

theorem FS_all (ops : List Oper) (recs : List Rc) (f0 : Nat → AV) (base : Nat) (hl : recs.length = ops.length) : ∀ m, m ≤ ops.length → FS ops recs f0 (fun _ => true) m = endF f0 ((number 0 base ops).take m) (recs.take m)
  | 0, _ => by simp [FS, endF]
  | m + 1, h => by
    have ih := FS_all ops recs f0 base hl m (by omega)
    have hm : m < ops.length := by omega
    have h1 : (number 0 base ops).take (m + 1) = (number 0 base ops).take m ++ [(0 + m, base + ((ops.take m).map fun o => width o.op).sum, ops[m])] := by
      rw [List.take_add_one, number_get, List.getElem?_eq_getElem hm]
      rfl
    have h2 : recs.take (m + 1) = recs.take m ++ [recs[m]'(by omega)] := by
      rw [List.take_add_one, List.getElem?_eq_getElem (by omega)]
      rfl
    rw [h1, h2, endF_snoc _ _ _ _ _ (by simp [number_length]; omega), ← ih]
    simp only [FS, if_true, dstOf, rcOf]
    rw [List.getElem?_eq_getElem hm, List.getElem?_eq_getElem (show m < recs.length by omega)]
    rfl

theorem GS_all (recs : List Rc) (H : HL) : ∀ m, m ≤ recs.length → GS recs (hget H) (fun _ => true) m = hget (endH H (recs.take m))
  | 0, _ => by simp [GS, endH]
  | m + 1, h => by
    have ih := GS_all recs H m (by omega)
    have h2 : recs.take (m + 1) = recs.take m ++ [recs[m]'(by omega)] := by
      rw [List.take_add_one, List.getElem?_eq_getElem (by omega)]
      rfl
    rw [h2, endH_snoc, hget_setG, ← ih]
    simp only [GS, if_true, rcOf]
    rw [List.getElem?_eq_getElem (show m < recs.length by omega)]
    rfl

theorem sum_take_le (ops : List Oper) : ∀ (i j : Nat), i ≤ j → ((ops.take i).map fun o => width o.op).sum ≤ ((ops.take j).map fun o => width o.op).sum := by
  induction ops with
  | nil => intro i j _; simp
  | cons o ops ih =>
    intro i j h
    cases i with
    | zero => simp
    | succ i =>
      cases j with
      | zero => omega
      | succ j => simp only [List.take_succ_cons, List.map_cons, List.sum_cons]; have := ih i j (by omega); omega

theorem sum_take_succ (ops : List Oper) (i : Nat) (o : Oper) (h : ops[i]? = some o) : ((ops.take (i + 1)).map fun o => width o.op).sum = ((ops.take i).map fun o => width o.op).sum + width o.op := by
  rw [List.take_add_one, h]
  simp

end Go.AM
end

section
/-
AM: a region whose order is drawn: every order comes to the text's: the proof. No condition.
-/
namespace Go.AM
open Go
variable [Inhabited ZMem]

def cnt (S : Nat → Bool) : Nat → Nat
  | 0 => 0
  | n + 1 => cnt S n + (if S n = true then 0 else 1)

theorem cnt_zero {S : Nat → Bool} : ∀ (n : Nat), cnt S n = 0 → ∀ j, j < n → S j = true
  | 0, _, j, h => by omega
  | n + 1, h, j, hj => by
    simp only [cnt] at h
    by_cases e : j = n
    · subst e
      split at h
      · assumption
      · omega
    · exact cnt_zero n (by omega) j (by omega)

theorem cnt_pos {S : Nat → Bool} : ∀ (n : Nat), cnt S n ≠ 0 → ∃ j, j < n ∧ S j = false
  | 0, h => by simp [cnt] at h
  | n + 1, h => by
    simp only [cnt] at h
    by_cases e : S n = true
    · rw [if_pos e] at h
      obtain ⟨j, h1, h2⟩ := cnt_pos n (by omega)
      exact ⟨j, by omega, h2⟩
    · exact ⟨n, by omega, by simpa using e⟩

theorem cnt_same {S S' : Nat → Bool} : ∀ (n : Nat), (∀ j, j < n → S j = S' j) → cnt S n = cnt S' n
  | 0, _ => rfl
  | n + 1, h => by
    simp only [cnt]
    rw [cnt_same n (fun j hj => h j (by omega)), h n (by omega)]

theorem cnt_set {S S' : Nat → Bool} {i : Nat} (h0 : S i = false) (h1 : S' i = true) (h : ∀ j, j ≠ i → S j = S' j) : ∀ (n : Nat), i < n → cnt S n = cnt S' n + 1
  | 0, hn => by omega
  | n + 1, hn => by
    simp only [cnt]
    by_cases e : i = n
    · subst e
      rw [cnt_same i (fun j hj => h j (by omega)), h0, h1]
      simp
    · rw [cnt_set h0 h1 h n (by omega), h n (fun q => e q.symm)]
      omega

theorem cnt_none {S : Nat → Bool} : ∀ (n : Nat), (∀ j, S j = false) → cnt S n = n
  | 0, _ => rfl
  | n + 1, h => by simp only [cnt]; rw [cnt_none n h, h n]; rfl

/-! ### what an operation looks at -/
theorem evF_looks {ops : List Oper} {o : Oper} {f f' : Nat → AV} (h : ∀ t ∈ o.looksAt ops.toArray, f t = f' t) : ∀ x ∈ o.op.operands.toList, evF f x = evF f' x := by
  intro x hx
  cases x with
  | tmp t =>
    refine h t ?_
    unfold Oper.looksAt
    exact List.mem_append.2 (.inl (List.mem_filterMap.2 ⟨.tmp t, hx, rfl⟩))
  | const v => rfl
  | func f => rfl
  | global g => rfl

theorem guardF_looks {ops : List Oper} {o : Oper} {f f' : Nat → AV} (h : ∀ t ∈ o.looksAt ops.toArray, f t = f' t) : guardF ops o f = guardF ops o f' := by
  unfold guardF
  cases hg : o.guard with
  | none => rfl
  | some p =>
    obtain ⟨j, b⟩ := p
    simp only
    cases hd : (ops[j]?).bind (·.dst) with
    | none => rfl
    | some d =>
      simp only
      have : f d = f' d := by
        refine h d ?_
        unfold Oper.looksAt
        refine List.mem_append.2 (.inr ?_)
        rw [hg]
        simp only [List.getElem?_toArray, hd]
        simp
      rw [this]

section
variable {P : Program} {T : TT} {C : CT} {ops : List Oper} {b : List Nat} {recs : List Rc} {f0 : Nat → AV} {H1 : HL} {base : Nat} {n : Nat}

def baseOf (ops : List Oper) (base i : Nat) : Nat := base + ((ops.take i).map fun o => width o.op).sum
def inS (ls : Array Bool) (j : Nat) : Bool := ls.getD j false

structure DrawOk (T : TT) (C : CT) (ops : List Oper) (b : List Nat) (recs : List Rc) (f0 : Nat → AV) (H1 : HL) (base n : Nat) : Prop where
  tr : Tr T C ops true b (number 0 base ops) [] f0 H1 recs
  len : recs.length = ops.length
  prs : pairs ops b = true
  bef : befOk ops b = true
  dst : ∀ o ∈ ops, ∀ d, o.dst = some d → d < n

def Closed (ops : List Oper) (b : List Nat) (ls : Array Bool) : Prop := ∀ j, inS ls j = true → ∀ q, q < ops.length → (b.getD j 0).testBit q = true → inS ls q = true

theorem pairs_apart (h : pairs ops b = true) {i j : Nat} {x y : Oper} (hij : i < j) (hx : ops[i]? = some x) (hy : ops[j]? = some y) (hb : (b.getD j 0).testBit i = false) : x.apart ops.toArray y = true := by
  have hj : j < ops.length := (List.getElem?_eq_some_iff.1 hy).1
  have h1 := List.all_eq_true.1 h j (List.mem_range.2 hj)
  have h2 := List.all_eq_true.1 h1 i (List.mem_range.2 hij)
  rw [hb, hx, hy] at h2
  simpa using h2

theorem bef_spec (h : befOk ops b = true) {i : Nat} {o : Oper} (ho : ops[i]? = some o) : (∀ e ∈ o.after.toList, Region.binds .any e = true → e.on < i) ∧
    ∀ q, q < ops.length → (b.getD i 0).testBit q = true → ∃ e ∈ o.after.toList, Region.binds .any e = true ∧ (e.on = q ∨ (b.getD e.on 0).testBit q = true) := by
  have hi : i < ops.length := (List.getElem?_eq_some_iff.1 ho).1
  have h1 := List.all_eq_true.1 h i (List.mem_range.2 hi)
  rw [ho] at h1
  simp only [Bool.and_eq_true] at h1
  refine ⟨fun e he hb => ?_, fun q hq ht => ?_⟩
  · have := List.all_eq_true.1 h1.1 e he
    simp only [Bool.or_eq_true, Bool.not_eq_true', decide_eq_true_eq] at this
    rcases this with h2 | h2
    · rw [hb] at h2; cases h2
    · exact h2
  · have := List.all_eq_true.1 h1.2 q (List.mem_range.2 hq)
    rw [ht] at this
    simp only [Bool.not_true, Bool.false_or] at this
    obtain ⟨e, he, h2⟩ := List.any_eq_true.1 this
    simp only [Bool.and_eq_true, Bool.or_eq_true, beq_iff_eq] at h2
    exact ⟨e, he, h2.1, h2.2⟩

theorem ready_spec {ls : Array Bool} (hsz : ls.size = ops.length) {i : Nat} (h : i ∈ Region.ready .any ops.toArray ls) : inS ls i = false ∧ ∃ o, ops[i]? = some o ∧ ∀ e ∈ o.after.toList, Region.binds .any e = true → inS ls e.on = true := by
  obtain ⟨h1, o, h2, h3⟩ := mem_ready.1 h
  refine ⟨?_, o, by simpa using h2, fun e he hb => h3 e (by simpa using he) hb⟩
  unfold inS
  have hi : i < ls.size := by
    have := (Array.getElem?_eq_some_iff.1 h2).1
    simp at this; omega
  simp [Array.getD, hi] at h1 ⊢
  exact h1

theorem ready_of {ls : Array Bool} (hsz : ls.size = ops.length) {i : Nat} {o : Oper} (ho : ops[i]? = some o) (h1 : inS ls i = false) (h : ∀ e ∈ o.after.toList, Region.binds .any e = true → inS ls e.on = true) : i ∈ Region.ready .any ops.toArray ls := by
  refine mem_ready.2 ⟨?_, o, by simpa using ho, fun e he hb => h e (by simpa using he) hb⟩
  have hi : i < ls.size := by rw [hsz]; exact (List.getElem?_eq_some_iff.1 ho).1
  unfold inS at h1
  simp [Array.getD, hi] at h1 ⊢
  exact h1

theorem some_ready (hb : befOk ops b = true) {ls : Array Bool} (hsz : ls.size = ops.length) : ∀ (i : Nat), i < ops.length → inS ls i = false → ∃ j, j ∈ Region.ready .any ops.toArray ls := by
  intro i
  induction i using Nat.strongRecOn with
  | _ i ih =>
    intro hi h1
    have ho : ops[i]? = some ops[i] := List.getElem?_eq_getElem hi
    by_cases hall : ∀ e ∈ ops[i].after.toList, Region.binds .any e = true → inS ls e.on = true
    · exact ⟨i, ready_of hsz ho h1 hall⟩
    · simp only [Classical.not_forall] at hall
      obtain ⟨e, he, hbd, hno⟩ := hall
      have hlt := (bef_spec hb ho).1 e he hbd
      exact ih e.on hlt (by omega) (by simpa using hno)

theorem ready_bef (hb : befOk ops b = true) {ls : Array Bool} (hsz : ls.size = ops.length) (hcl : Closed ops b ls) {i : Nat} (hi : i ∈ Region.ready .any ops.toArray ls) : ∀ q, q < ops.length → (b.getD i 0).testBit q = true → inS ls q = true := by
  intro q hq ht
  obtain ⟨_, o, ho, hall⟩ := ready_spec hsz hi
  obtain ⟨e, he, hbd, h | h⟩ := (bef_spec hb ho).2 q hq ht
  · rw [← h]; exact hall e he hbd
  · exact hcl e.on (hall e he hbd) q hq h

theorem inS_set {ls : Array Bool} {i j : Nat} (hi : i < ls.size) : inS (ls.setIfInBounds i true) j = if j = i then true else inS ls j := by
  unfold inS
  by_cases e : j = i
  · subst e; simp [Array.getD, hi]
  · have e2 : ¬ i = j := fun q => e q.symm
    simp only [e, if_false]
    simp [Array.getElem?_setIfInBounds, e2]

/-- The record of an operation, and what holds at it. -/
theorem rc_at (hd : DrawOk T C ops b recs f0 H1 base n) {i : Nat} {o : Oper} (ho : ops[i]? = some o) :
    RcOk T C ops b (i, baseOf ops base i, o) (FS ops recs f0 (fun _ => true) i) (endH H1 (recs.take i)) (rcOf recs i) [] ∧
      ∀ j o', j < i → ops[j]? = some o' → Apt b i (rcOf recs i).r ((rcOf recs i).u.map (·.1)) (j, (rcOf recs j).r, (rcOf recs j).u.map (·.1)) := by
  have hi : i < ops.length := (List.getElem?_eq_some_iff.1 ho).1
  have hx : (number 0 base ops)[i]? = some (i, baseOf ops base i, o) := by rw [number_get, ho]; simp [baseOf]
  obtain ⟨c, h1, h2, h3⟩ := tr_at hd.tr i _ hx
  have hc : rcOf recs i = c := by unfold rcOf; rw [h1]; rfl
  rw [← FS_all ops recs f0 base hd.len i (by omega)] at h2
  rw [hc]
  refine ⟨h2, fun j o' hj ho' => ?_⟩
  have hj' : j < recs.length := by rw [hd.len]; omega
  have h4 := h3 j (j, baseOf ops base j, o') recs[j] hj (by rw [number_get, ho']; simp [baseOf]) (List.getElem?_eq_getElem hj')
  have hc' : rcOf recs j = recs[j] := by unfold rcOf; rw [List.getElem?_eq_getElem hj']; rfl
  rw [hc']
  exact h4

theorem dst_looks {x y : Oper} {ops : Array Oper} (h : x.apart ops y = true) {t : Nat} (hx : x.dst = some t) : t ∉ y.looksAt ops := (Oper.apart_spec h).1 t hx

/-- What a ready operation sees is what it saw in the text. -/
theorem sees (hd : DrawOk T C ops b recs f0 H1 base n) {ls : Array Bool} (hsz : ls.size = ops.length) (hcl : Closed ops b ls) {i : Nat} {o : Oper} (hi : i ∈ Region.ready .any ops.toArray ls) (ho : ops[i]? = some o) :
    (∀ t ∈ o.looksAt ops.toArray, FS ops recs f0 (inS ls) ops.length t = FS ops recs f0 (fun _ => true) i t) ∧
    (∀ k ∈ (rcOf recs i).r, GS recs (hget H1) (inS ls) ops.length k = GS recs (hget H1) (fun _ => true) i k) := by
  have hil : i < ops.length := (List.getElem?_eq_some_iff.1 ho).1
  obtain ⟨hno, _⟩ := ready_spec hsz hi
  have hbef := ready_bef hd.bef hsz hcl hi
  -- earlier, not yet carried out
  have early : ∀ j x, j < i → ops[j]? = some x → inS ls j = false → (b.getD i 0).testBit j = false := by
    intro j x hj hx hs
    cases h : (b.getD i 0).testBit j with
    | false => rfl
    | true => rw [hbef j (by omega) h] at hs; cases hs
  have late : ∀ j y, i < j → ops[j]? = some y → inS ls j = true → (b.getD j 0).testBit i = false := by
    intro j y hj hy hs
    cases h : (b.getD j 0).testBit i with
    | false => rfl
    | true => rw [hcl j hs i hil h] at hno; cases hno
  refine ⟨fun t ht => ?_, fun k hk => ?_⟩
  · rw [FS_stop ops recs f0 (i := i) ops.length (by omega) (fun j h1 h2 hdst => ?_)]
    · refine FS_dep ops recs f0 i (fun j hj hdst => ?_)
      have hx : ops[j]? = some ops[j] := List.getElem?_eq_getElem (by omega)
      cases hs : inS ls j with
      | true => rfl
      | false =>
        exfalso
        have hap := pairs_apart hd.prs hj hx ho (early j _ hj hx hs)
        have : ops[j].dst = some t := by simpa [dstOf, hx] using hdst
        exact dst_looks hap this ht
    · by_cases e : j = i
      · subst e; exact hno
      · have hy : ops[j]? = some ops[j] := List.getElem?_eq_getElem h2
        cases hs : inS ls j with
        | false => rfl
        | true =>
          exfalso
          have hap := pairs_apart hd.prs (show i < j by omega) ho hy (late j _ (by omega) hy hs)
          have : ops[j].dst = some t := by simpa [dstOf, hy] using hdst
          exact (Oper.apart_spec hap).2.2 t this ht
  · rw [GS_stop recs (hget H1) (i := i) ops.length (by omega) (fun j h1 h2 hw => ?_)]
    · refine GS_dep recs (hget H1) i (fun j hj hw => ?_)
      have hx : ops[j]? = some ops[j] := List.getElem?_eq_getElem (by omega)
      cases hs : inS ls j with
      | true => rfl
      | false =>
        exfalso
        rcases (rc_at hd ho).2 j _ hj hx with h3 | h3
        · rw [early j _ hj hx hs] at h3; cases h3
        · exact h3.1 k (hget_mem _ _ hw) hk
    · by_cases e : j = i
      · subst e; exact hno
      · have hy : ops[j]? = some ops[j] := List.getElem?_eq_getElem h2
        cases hs : inS ls j with
        | false => rfl
        | true =>
          exfalso
          rcases (rc_at hd hy).2 i _ (by omega) ho with h3 | h3
          · rw [late j _ (by omega) hy hs] at h3; cases h3
          · exact h3.2.2 k hk (hget_mem _ _ hw)

/-- One more is carried out. -/
theorem more (hd : DrawOk T C ops b recs f0 H1 base n) {ls : Array Bool} (hsz : ls.size = ops.length) (hcl : Closed ops b ls) {i : Nat} {o : Oper} (hi : i ∈ Region.ready .any ops.toArray ls) (ho : ops[i]? = some o) :
    FS ops recs f0 (inS (ls.setIfInBounds i true)) ops.length = setF (FS ops recs f0 (inS ls) ops.length) o.dst (rcOf recs i).v ∧
    GS recs (hget H1) (inS (ls.setIfInBounds i true)) ops.length = setG (GS recs (hget H1) (inS ls) ops.length) (rcOf recs i).u := by
  have hil : i < ops.length := (List.getElem?_eq_some_iff.1 ho).1
  obtain ⟨hno, _⟩ := ready_spec hsz hi
  have late : ∀ j y, i < j → ops[j]? = some y → inS ls j = true → (b.getD j 0).testBit i = false := by
    intro j y hj hy hs
    cases h : (b.getD j 0).testBit i with
    | false => rfl
    | true => rw [hcl j hs i hil h] at hno; cases hno
  have hset : ∀ j, inS (ls.setIfInBounds i true) j = if j = i then true else inS ls j := fun j => inS_set (by omega)
  have hdst : dstOf ops i = o.dst := by simp [dstOf, ho]
  constructor
  · funext t
    by_cases e : o.dst = some t
    · rw [FS_stop ops recs f0 (i := i + 1) ops.length (by omega) (fun j h1 h2 hj => ?_)]
      · simp only [FS]
        rw [hset i, if_pos rfl, if_pos rfl, hdst]
        simp [setF, e]
      · have hy : ops[j]? = some ops[j] := List.getElem?_eq_getElem h2
        rw [hset j, if_neg (by omega)]
        cases hs : inS ls j with
        | false => rfl
        | true =>
          exfalso
          have hap := pairs_apart hd.prs (show i < j by omega) ho hy (late j _ (by omega) hy hs)
          have : ops[j].dst = some t := by simpa [dstOf, hy] using hj
          exact (Oper.apart_spec hap).2.1 t e this
    · simp only [setF, e, if_false]
      refine FS_dep ops recs f0 ops.length (fun j hj hjd => ?_)
      rw [hset j]
      split
      · rename_i q; subst q; rw [hdst] at hjd; exact absurd hjd e
      · rfl
  · funext k
    cases e : hget (rcOf recs i).u k with
    | some c =>
      rw [GS_stop recs (hget H1) (i := i + 1) ops.length (by omega) (fun j h1 h2 hw => ?_)]
      · simp only [GS]
        rw [hset i, if_pos rfl, if_pos rfl]
        simp [setG, e]
      · have hy : ops[j]? = some ops[j] := List.getElem?_eq_getElem h2
        rw [hset j, if_neg (by omega)]
        cases hs : inS ls j with
        | false => rfl
        | true =>
          exfalso
          rcases (rc_at hd hy).2 i _ (by omega) ho with h3 | h3
          · rw [late j _ (by omega) hy hs] at h3; cases h3
          · exact h3.2.1 k (hget_mem _ _ (by rw [e]; simp)) (hget_mem _ _ hw)
    | none =>
      simp only [setG, e]
      refine GS_dep recs (hget H1) ops.length (fun j hj hw => ?_)
      rw [hset j]
      split
      · rename_i q; subst q; rw [e] at hw; exact absurd rfl hw
      · rfl

theorem base_apart (ops : List Oper) (base : Nat) {i j : Nat} {o o' : Oper} (hi : ops[i]? = some o) (hj : ops[j]? = some o') (h : i < j) : baseOf ops base i + width o.op ≤ baseOf ops base j := by
  unfold baseOf
  have := sum_take_le ops (i + 1) j h
  rw [sum_take_succ ops i o hi] at this
  omega

theorem base_end (ops : List Oper) (base : Nat) {i : Nat} {o : Oper} (hi : ops[i]? = some o) : baseOf ops base i + width o.op ≤ base + (ops.map fun o => width o.op).sum := by
  unfold baseOf
  have hil := (List.getElem?_eq_some_iff.1 hi).1
  have := sum_take_le ops (i + 1) ops.length (by omega)
  rw [sum_take_succ ops i o hi, List.take_length] at this
  omega

/-- The keys that are still to be taken. -/
def Free (ops : List Oper) (base : Nat) (ls : Array Bool) (k : Nat) : Prop := ∃ j o, ops[j]? = some o ∧ inS ls j = false ∧ baseOf ops base j ≤ k ∧ k < baseOf ops base j + width o.op

theorem draw_sound (hT : TOK P T) (hC : COK P C) (hd : DrawOk T C ops b recs f0 H1 base n) {w0 : World} {M0 : Mem} {G0 : Gh} {H0 : HL} {Q : Exit → Act → World → Prop}
    (hQ : ∀ a' w', Stands w0 M0 G0 H0 base (base + (ops.map fun o => width o.op).sum) n (fun _ => False) a' w' (endF f0 (number 0 base ops) recs) (fun H => hget H = hget (endH H1 recs)) → Q .normal a' w') :
    ∀ (fuel : Nat) (ls : Array Bool) (a : Act) (w : World), ls.size = ops.length → Closed ops b ls → cnt (inS ls) ops.length = fuel →
      Stands w0 M0 G0 H0 base (base + (ops.map fun o => width o.op).sum) n (Free ops base ls) a w (FS ops recs f0 (inS ls) ops.length) (fun H => hget H = GS recs (hget H1) (inS ls) ops.length) →
      wpAny P .any ops.toArray Q fuel ls a w
  | 0, ls, a, w, hsz, hcl, hf, hs => by
    have hall := cnt_zero _ hf
    refine ⟨?_, hQ a w (hs.weak (fun _ h => h.elim) (fun H hH => ?_) ?_)⟩
    · cases hr : Region.ready .any ops.toArray ls with
      | nil => rfl
      | cons i r =>
        obtain ⟨h1, o, h2, _⟩ := ready_spec hsz (i := i) (by rw [hr]; simp)
        rw [hall i (List.getElem?_eq_some_iff.1 h2).1] at h1
        cases h1
    · rw [hH]
      have := GS_all recs H1 ops.length (by rw [hd.len]; exact Nat.le_refl _)
      rw [List.take_of_length_le (by rw [hd.len]; exact Nat.le_refl _)] at this
      rw [← this]
      funext k
      exact GS_dep recs (hget H1) ops.length (fun j hj _ => hall j hj)
    · have := FS_all ops recs f0 base hd.len ops.length (Nat.le_refl _)
      rw [List.take_of_length_le (by rw [number_length]; exact Nat.le_refl _), List.take_of_length_le (by rw [hd.len]; exact Nat.le_refl _)] at this
      rw [← this]
      funext t
      exact FS_dep ops recs f0 ops.length (fun j hj _ => hall j hj)
  | fuel + 1, ls, a, w, hsz, hcl, hf, hs => by
    refine ⟨fun hr => ?_, fun i hi => ?_⟩
    · obtain ⟨j, h1, h2⟩ := cnt_pos (S := inS ls) ops.length (by rw [hf]; omega)
      obtain ⟨i, hi⟩ := some_ready hd.bef hsz j h1 h2
      rw [hr] at hi
      cases hi
    · obtain ⟨hno, o, ho, hall⟩ := ready_spec hsz hi
      have hil : i < ops.length := (List.getElem?_eq_some_iff.1 ho).1
      have hset : ∀ j, inS (ls.setIfInBounds i true) j = if j = i then true else inS ls j := fun j => inS_set (by omega)
      have hcl' : Closed ops b (ls.setIfInBounds i true) := by
        intro j hj q hq ht
        rw [hset q]
        split
        · rfl
        · rw [hset j] at hj
          split at hj
          · rename_i e; subst e; exact ready_bef hd.bef hsz hcl hi q hq ht
          · exact hcl j hj q hq ht
      have hf' : cnt (inS (ls.setIfInBounds i true)) ops.length = fuel := by
        have := cnt_set (S := inS ls) (S' := inS (ls.setIfInBounds i true)) hno (by rw [hset i, if_pos rfl]) (fun j hj => by rw [hset j, if_neg hj]) ops.length hil
        omega
      have hfree : ∀ k, Free ops base (ls.setIfInBounds i true) k → Free ops base ls k ∧ (k < baseOf ops base i ∨ baseOf ops base i + width o.op ≤ k) := by
        rintro k ⟨j, o', h1, h2, h3, h4⟩
        rw [hset j] at h2
        split at h2
        · cases h2
        · rename_i hne
          refine ⟨⟨j, o', h1, h2, h3, h4⟩, ?_⟩
          rcases Nat.lt_or_gt_of_ne hne with h | h
          · have := base_apart ops base h1 ho h; omega
          · have := base_apart ops base ho h1 h; omega
      obtain ⟨M, G, hsl⟩ := stands_act hs
      obtain ⟨hl, hg⟩ := sees hd hsz hcl hi ho
      obtain ⟨m1, m2⟩ := more hd hsz hcl hi ho
      have hrc := (rc_at hd ho).1
      have hgd : guardF ops o (FS ops recs f0 (inS ls) ops.length) = some (rcOf recs i).ran := by rw [guardF_looks hl]; exact hrc.gd
      have hw := guard_wanted hsl hgd
      have hoa : ops.toArray[i]? = some o := by simpa using ho
      unfold wpOp
      rw [hoa]
      simp only
      cases hran : (rcOf recs i).ran with
      | true =>
        rw [hran] at hw
        rw [if_pos hw]
        obtain ⟨ha, hr, hrok⟩ := hrc.ac hran
        have hH1 : hget (endH H1 (recs.take i)) = GS recs (hget H1) (fun _ => true) i := (GS_all recs H1 i (by rw [hd.len]; omega)).symm
        refine .inl (stands_step (v := (rcOf recs i).v) (u := (rcOf recs i).u) hT hC hs (gp' := fun H => hget H = GS recs (hget H1) (inS (ls.setIfInBounds i true)) ops.length) (fr' := Free ops base (ls.setIfInBounds i true)) (hd.dst o (List.mem_of_getElem? ho)) (Nat.le_add_right _ _) (base_end ops base ho)
          (fun k h1 h2 => ⟨i, o, ho, hno, h1, h2⟩) hfree (fun H hH => ?_) (fun H hH => by rw [hget_setG, hH, m2]) _ Q (fun val w' hs' => ?_))
        · rw [← ha]
          refine act_local hT (fun x hx => ?_) ?_ hrok
          · exact (evF_looks hl x hx).symm
          · intro k hk
            rw [← hr] at hk
            rw [hH, hg k hk, hH1]
        · refine draw_sound hT hC hd hQ fuel (ls.setIfInBounds i true) _ w' (by simpa using hsz) hcl' hf' ?_
          rw [m1]
          exact hs'
      | false =>
        rw [hran] at hw
        rw [if_neg (by rw [hw]; simp)]
        have hc := hrc.no hran
        refine draw_sound hT hC hd hQ fuel (ls.setIfInBounds i true) _ w (by simpa using hsz) hcl' hf' ?_
        rw [m1, m2, hc]
        exact stands_skip hs (hd.dst o (List.mem_of_getElem? ho)) (fun k hk => (hfree k hk).1) (fun H hH => by rw [hH]; rfl)

end
end Go.AM
end

section
/-
AM: regions, frames, code: what the machine computes the model does. No condition.
-/
namespace Go.AM
open Go
variable [Inhabited ZMem]

/-- A state of a function's machine stands for a state of the model. -/
def CS (w0 : World) (M0 : Mem) (G0 : Gh) (H0 : HL) (n : Nat) (st : St) (a : Act) (w : World) : Prop :=
  (∃ M G, (∀ t, AVR M G (a.tmps.getD t undef) (sget st.slots t)) ∧ Inv w M G st.heap ∧ Step w0 M0 G0 H0 w M G st.heap ∧ ∀ j, st.hn ≤ j → G j = none) ∧ a.tmps.size = n ∧ a.defers = []

section
variable {P : Program} {T : TT} {C : CT} {w0 : World} {M0 : Mem} {G0 : Gh} {H0 : HL} {n m : Nat} {R : Type} {r : R} {a : Act} {w : World} {st : St} {Q : Exit → Act → World → Prop}

theorem cs_drawn (h : CS w0 M0 G0 H0 n st a w) : CS w0 M0 G0 H0 n st a { w with drawn := w.drawn + 1 } := by
  obtain ⟨⟨M, G, h1, h2, h3, h4⟩, h5⟩ := h
  refine ⟨⟨M, G, h1, ⟨h2.sub, fun k c hk => ?_, h2.sep, h2.zone, h2.zsep⟩, ⟨h3.os, h3.tape, h3.output, h3.size, h3.mle, h3.gle, h3.keep, h3.mnew, h3.bl⟩, h4⟩, h5⟩
  have := h2.cells k c hk
  cases c <;> exact this

theorem cs_bool (h : CS w0 M0 G0 H0 n st a w) {c : Operand} {q : Bool} (hc : ev st c = .sv (.one (.val (.bool q)))) : a.eval c = .bool q := by
  obtain ⟨⟨M, G, h1, _⟩, _⟩ := h
  have := evF_sound h1 c
  rw [← ev_evF, hc] at this
  exact this.1

theorem cs_know (h : CS w0 M0 G0 H0 n st a w) {c : Operand} {q : Bool} (hc : ev st c = .sv (.one (.val (.bool q)))) : CS w0 M0 G0 H0 n (knowC st c q) a w := by
  obtain ⟨⟨M, G, h1, h2, h3, h4⟩, h5⟩ := h
  cases c with
  | tmp t =>
    refine ⟨⟨M, G, fun t' => ?_, h2, h3, h4⟩, h5⟩
    simp only [knowC, sget]
    split
    · rename_i e
      subst e
      have := h1 t
      have e2 : sget st.slots t = .sv (.one (.val (.bool q))) := hc
      rw [e2] at this
      exact this
    · exact h1 t'
  | _ => exact ⟨⟨M, G, h1, h2, h3, h4⟩, h5⟩

theorem region_sound (hT : TOK P T) (hC : COK P C) (hm : P.follows .mixedOrders = true) {ops : Array Oper} {id : Nat} {draw : Bool} {k : St → Option R} (h : region T C ops.toList draw st k = some r) (hd : ∀ o ∈ ops.toList, ∀ d, o.dst = some d → d < n) (hs : CS w0 M0 G0 H0 n st a w)
    (hk : ∀ st' a' w', k st' = some r → CS w0 M0 G0 H0 n st' a' w' → Q .normal a' w') : (Code.region id ops draw).wp P Q a w := by
  obtain ⟨⟨M, G, h1, h2, h3, h4⟩, h5, h6⟩ := hs
  cases draw with
  | false =>
    have h' : regK T C ops.toList false [] (number 0 st.hn ops.toList) [] st (fun st' => k ⟨st'.slots, st'.heap, st.hn + widths ops.toList⟩) = some r := by simpa [region] using h
    obtain ⟨recs, st', htr, hlen, hkk, hsl, hhp⟩ := regK_tr _ _ _ _ h'
    rw [number_length] at hlen
    refine wp_region_list ?_
    have hstart : Stands w M G st.heap st.hn (st.hn + (ops.toList.map fun o => width o.op).sum) n (fun j => st.hn ≤ j ∧ j < st.hn + (ops.toList.map fun o => width o.op).sum) a w (sget st.slots) (· = st.heap) :=
      ⟨⟨M, G, st.heap, rfl, h1, h2, Step.refl _ _ _ _, fun _ _ => rfl, fun j hj => h4 j hj.1⟩, h5, h6⟩
    have := seq_sound (Q := Q) hT hC ops.toList 0 st.hn [] (sget st.slots) st.heap recs a w htr hd (Nat.le_refl _) rfl hstart (fun a' w' hst => ?_)
    · simpa using this
    · obtain ⟨⟨M', G', H, g1, g2, g3, g4, g5, g6⟩, g7⟩ := hst
      rw [← hsl] at g2
      subst g1
      refine hk _ a' w' hkk ⟨⟨M', G', g2, by rw [hhp]; exact g3, by rw [hhp]; exact h3.trans g4, fun j hj => ?_⟩, g7⟩
      have hj' : st.hn + widths ops.toList ≤ j := hj
      rw [widths_sum] at hj'
      rw [g5 j (.inr hj'), h4 j (by omega)]
  | true =>
    have hall : pairs ops.toList (Region.before ops).toList = true ∧ befOk ops.toList (Region.before ops).toList = true ∧ regK T C ops.toList true (Region.before ops).toList (number 0 st.hn ops.toList) [] st (fun st' => k ⟨st'.slots, st'.heap, st.hn + widths ops.toList⟩) = some r := by
      unfold region at h
      simp only [if_true, Bool.not_true, Bool.false_or, Array.toArray_toList] at h
      split at h
      · rename_i hc
        simp only [Bool.and_eq_true] at hc
        exact ⟨hc.1.1, hc.1.2, h⟩
      · cases h
    obtain ⟨hp, hb, h'⟩ := hall
    obtain ⟨recs, st', htr, hlen, hkk, hsl, hhp⟩ := regK_tr _ _ _ _ h'
    rw [number_length] at hlen
    have hdr := cs_drawn (⟨⟨M, G, h1, h2, h3, h4⟩, h5, h6⟩ : CS w0 M0 G0 H0 n st a w)
    obtain ⟨M1, G1, k1, k2, k3, k4⟩ := hdr.1
    refine wp_region_any hm ?_
    have hok : DrawOk T C ops.toList (Region.before ops).toList recs (sget st.slots) st.heap st.hn n := ⟨htr, hlen, hp, hb, hd⟩
    have hrep : ∀ j, inS (Array.replicate ops.size false) j = false := by
      intro j
      unfold inS
      by_cases h : j < ops.size <;> simp [Array.getD, h]
    have hF : FS ops.toList recs (sget st.slots) (inS (Array.replicate ops.size false)) ops.toList.length = sget st.slots := by
      funext t
      exact FS_stop ops.toList recs (sget st.slots) (i := 0) ops.toList.length (Nat.zero_le _) (fun j _ _ _ => hrep j)
    have hG : GS recs (hget st.heap) (inS (Array.replicate ops.size false)) ops.toList.length = hget st.heap := by
      funext t
      exact GS_stop recs (hget st.heap) (i := 0) ops.toList.length (Nat.zero_le _) (fun j _ _ _ => hrep j)
    have hbase : ∀ j o, ops.toList[j]? = some o → st.hn ≤ baseOf ops.toList st.hn j := fun j o _ => Nat.le_add_right _ _
    have := draw_sound (Q := Q) (w0 := { w with drawn := w.drawn + 1 }) (M0 := M1) (G0 := G1) (H0 := st.heap) hT hC hok (fun a' w' hst => ?_) ops.size (Array.replicate ops.size false) a { w with drawn := w.drawn + 1 } (by simp) (fun j hj => by rw [hrep j] at hj; cases hj) (by rw [cnt_none _ hrep]; simp)
      ⟨⟨M1, G1, st.heap, by rw [hG], by rw [hF]; exact k1, k2, Step.refl _ _ _ _, fun _ _ => rfl, fun k hk => by obtain ⟨j, o, q1, _, q3, _⟩ := hk; exact k4 k (Nat.le_trans (hbase j o q1) q3)⟩, h5, h6⟩
    · simpa using this
    · obtain ⟨⟨M', G', H, g1, g2, g3, g4, g5, g6⟩, g7⟩ := hst
      rw [← hsl] at g2
      rw [← hhp] at g1
      refine hk _ a' w' hkk ⟨⟨M', G', g2, g3.congr (fun k => by rw [g1]), k3.trans (g4.weaken (fun k c hkc _ => by rw [g1]; exact hkc)), fun j hj => ?_⟩, g7⟩
      have hj' : st.hn + widths ops.toList ≤ j := hj
      rw [widths_sum] at hj'
      rw [g5 j (.inr hj'), k4 j (by omega)]

end
end Go.AM
end

section
/-
AM: frames, returns, code, functions: what the machine computes the model does. No condition.
-/
namespace Go.AM
open Go
variable [Inhabited ZMem]

def labs : ACode → List Nat
  | .seq a b => labs a ++ labs b
  | .cond _ a b => labs a ++ labs b
  | .seqJ l a b => l :: (labs a ++ labs b)
  | .block _ c => labs c
  | .scope c => labs c
  | .loop l c => l :: labs c
  | _ => []

def dstC (n : Nat) : Code → Bool
  | .region _ ops _ => ops.toList.all fun o => match o.dst with
    | some d => decide (d < n)
    | none => true
  | .seq a b => dstC n a && dstC n b
  | .cond _ a b => dstC n a && dstC n b
  | .block _ c => dstC n c
  | .loop c => dstC n c
  | .scope c => dstC n c
  | _ => true

section
variable {P : Program} {T : TT} {C : CT} {w0 : World} {M0 : Mem} {G0 : Gh} {H0 : HL} {n m : Nat} {R : Type} {r : R} {a : Act} {w : World} {st : St} {Q : Exit → Act → World → Prop}

theorem slots_list {M : Mem} {G : Gh} (h : ∀ t, AVR M G (a.tmps.getD t undef) (sget st.slots t)) : ∀ (ts : List Nat) (xs : List SV), toSVs (ts.map fun t => st.get t) = some xs → SVRs M G (ts.map fun t => a.tmps.getD t undef) xs
  | [], xs, e => by simp [toSVs] at e; subst e; trivial
  | t :: ts, xs, e => by
    simp only [List.map_cons] at e
    have ht : AVR M G (a.tmps.getD t undef) (st.get t) := h t
    generalize st.get t = v at e ht
    cases v with
    | tup _ => simp [toSVs] at e
    | sv s =>
      simp only [toSVs] at e
      split at e
      · rename_i l hl
        cases e
        exact ⟨ht, slots_list h ts l hl⟩
      · cases e

theorem putAll_sound {M : Mem} {G : Gh} (f : Nat → Value) : ∀ (ts : List Nat) (ss : List SV), SVRs M G (ts.map f) ss → ∀ t, AVR M G (f t) (sget (putAll ts ss) t)
  | [], [], _, t => trivial
  | t0 :: ts, s :: ss, h, t => by
    simp only [putAll, sget]
    split
    · rename_i e; subst e; exact h.1
    · exact putAll_sound f ts ss h.2 t
  | [], _ :: _, h, _ => h.elim
  | _ :: _, [], h, _ => h.elim

theorem keys_range (i k : Nat) : ((List.range m).map some)[i]? = some (some k) → i = k ∧ k < m := by
  intro h
  rw [List.getElem?_map] at h
  cases e : (List.range m)[i]? with
  | none => rw [e] at h; cases h
  | some j =>
    rw [e] at h
    simp at h
    subst h
    have := List.getElem?_eq_some_iff.1 e
    obtain ⟨h1, h2⟩ := this
    simp at h1 h2
    exact ⟨h2, by omega⟩

theorem get_range {i : Nat} (h : i < m) : ((List.range m).map some)[i]? = some (some i) := by
  rw [List.getElem?_map, List.getElem?_range h]
  rfl

theorem KOK_range {G : Gh} (hg : GLe G0 G) (h0 : ∀ j, j < m → ∃ v, G0 j = some v) : KOK G ((List.range m).map some) := by
  intro i k h
  obtain ⟨_, h2⟩ := keys_range i k h
  obtain ⟨v, hv⟩ := h0 k h2
  exact ⟨v, hg k v hv⟩

/-- Keys numbered anew, those of the arguments staying. -/
theorem matched_step {G : Gh} {M : Mem} {vs : List Value} {sh : Shape} {y : sh.Ty} {m' : MS} {M' : Mem} {H : HL} (h0 : ∀ j, j < m → ∃ v, G0 j = some v) (h1 : ∀ j, m ≤ j → G0 j = none) (hst : Step w0 M0 G0 H0 w M G H)
    (mt : Matched w G ⟨H, [], (List.range m).map some⟩ M vs sh y m' M') : Step w0 M0 G0 H0 w M' (Gk G m'.κ) (encHs id 0 sh.heap y.2) := by
  have s : Step w0 M0 G0 H0 w M' G m'.h := hst.trans mt.go.step
  refine ⟨s.os, s.tape, s.output, s.size, s.mle, fun j q hq => ?_, s.keep, s.mnew, fun k c b hk hl hb => ?_⟩
  · have hj : j < m := by
      rcases Nat.lt_or_ge j m with h | h
      · exact h
      · rw [h1 j h] at hq; cases hq
    have := prefix_get mt.go.pre (get_range hj)
    rw [Gk_some this]
    exact s.gle j q hq
  · rcases mt.live k c hk hl with h | ⟨k', c', h2, h3, h4⟩
    · rw [blk_of (Gk_none h)] at hb; cases hb
    · refine s.bl k' c' b h3 h4 ?_
      rw [← hb]
      simp [blk, Gk_some h2]

theorem frame_sound (h0 : ∀ j, j < m → ∃ v, G0 j = some v) (h1 : ∀ j, m ≤ j → G0 j = none) (hs : CS w0 M0 G0 H0 n st a w) {F : FSh} {x : F.sh.Ty} (hm : matchFr m F st = some x) : CS w0 M0 G0 H0 n (encFr F x) a w := by
  obtain ⟨⟨M, G, k1, k2, k3, k4⟩, k5⟩ := hs
  unfold matchFr at hm
  split at hm
  · rename_i xs hxs
    split at hm
    · rename_i x' m' hma
      cases hm
      have hv := slots_list k1 (F.live.map (·.1)) xs (by rw [List.map_map]; exact hxs)
      obtain ⟨M', mt⟩ := matchAll_sound (m := ⟨st.heap, [], (List.range m).map some⟩) (M := M) k2 (KOK_range k3.gle h0) hma hv
      refine ⟨⟨M', Gk G m'.κ, putAll_sound (fun t => a.tmps.getD t undef) _ _ mt.vals, mt.inv, matched_step h0 h1 k3 mt, fun j hj => ?_⟩, k5⟩
      have := mt.len
      have hj' : m'.κ.length ≤ j := by rw [← this]; exact hj
      simp only [Gk]
      rw [List.getElem?_eq_none hj']
    · cases hm
  · cases hm

/-! ### the results -/
theorem ld_run (hT : TOK P T) {G : Gh} {M : Mem} (hI : Inv w M G st.heap) {t : TypeId} {b off : Nat} {cs : List LV} {v : Value} (hv : LVR M G v (.ptr b off)) {tb : TypeId} (hb : hget st.heap b = some (.box tb cs)) {k : SV → Option R} (h : ld T t cs off k = some r) :
    ∃ s val, k s = some r ∧ (do loadVar t (← asAddr v) : Sem Value).run P w = .ok val w ∧ SVR M G val s := by
  obtain ⟨d, s, hd, hl, hk', hs⟩ := ld_sound hT h
  obtain ⟨bk, hg, rfl⟩ := hv
  obtain ⟨b', vs, hg', hheap, hc, _⟩ := hI.cells _ _ hb
  rw [hg] at hg'
  cases hg'
  obtain ⟨val, hr, hvr⟩ := load_run hT hd (ad := ⟨bk, 0, none⟩) (by simpa using box_part (off := 0) hheap) hc hl hs
  refine ⟨s, val, hk', ?_, hvr⟩
  rw [add_pt] at hr
  simp only [Nat.zero_add] at hr
  simp [asAddr, hr]

def resAt (tmps : Array Value) : ResultVar → Sem Value
  | .tmp t => pure (tmps.getD t undef)
  | .cell c t => do loadVar t (← asAddr (tmps.getD c undef))

theorem results_at (fn : Func) (tmps : Array Value) : results fn tmps = (do let vs ← fn.results.mapM (resAt tmps); pure (if h : vs.size = 1 then vs[0] else .tuple vs)) := by
  unfold results
  congr

theorem res_sound (hT : TOK P T) {G : Gh} {M : Mem} (h : ∀ t, AVR M G (a.tmps.getD t undef) (sget st.slots t)) (hI : Inv w M G st.heap) : ∀ (l : List ResultVar) (xs : List SV), resSVs T st l = some xs →
    ∃ vs, (l.mapM (resAt a.tmps)).run P w = .ok vs w ∧ SVRs M G vs xs
  | [], xs, e => by
    simp [resSVs] at e
    subst e
    exact ⟨[], by simp, trivial⟩
  | .tmp t :: l, xs, e => by
    simp only [resSVs] at e
    split at e
    · rename_i s l' hs hl
      cases e
      obtain ⟨vs, h1, h2⟩ := res_sound hT h hI l l' hl
      have ht := h t
      have hs' : sget st.slots t = .sv s := hs
      rw [hs'] at ht
      refine ⟨a.tmps.getD t undef :: vs, ?_, ht, h2⟩
      rw [List.mapM_cons]
      simp only [resAt, Sem.run_bind, Sem.run_pure, Result.andThen_ok, h1]
    · cases e
  | .cell c t :: l, xs, e => by
    simp only [resSVs] at e
    split at e
    · rename_i b off l' hs hl
      split at e
      · rename_i cs hb
        obtain ⟨vs, h1, h2⟩ := res_sound hT h hI l l' hl
        have ht := h c
        have hs' : sget st.slots c = .sv (.one (.ptr b off)) := hs
        rw [hs'] at ht
        obtain ⟨s, val, h3, h4, h5⟩ := ld_run hT hI ht hb e
        cases h3
        refine ⟨val :: vs, ?_, h5, h2⟩
        have h4' : (resAt a.tmps (.cell c t)).run P w = .ok val w := h4
        rw [List.mapM_cons]
        rw [Sem.run_bind]
        simp only [h4', Result.andThen_ok, Sem.run_bind, h1, Sem.run_pure]
      · cases e
    · cases e

theorem SVRs.len {M : Mem} {G : Gh} : ∀ {vs : List Value} {xs : List SV}, SVRs M G vs xs → vs.length = xs.length
  | [], [], _ => rfl
  | _ :: _, _ :: _, h => by simp [h.2.len]

theorem ret_sound (hT : TOK P T) {fn : Func} {sr : Shape} {fin : sr.Ty → Option R} (h0 : ∀ j, j < m → ∃ v, G0 j = some v) (h1 : ∀ j, m ≤ j → G0 j = none) (hs : CS w0 M0 G0 H0 n st a w) (h : retK T m fn.results.toList sr fin st = some r) :
    ∃ y v, fin y = some r ∧ (results fn a.tmps).run P w = .ok v w ∧ Ret w0 M0 G0 H0 sr y v w := by
  obtain ⟨⟨M, G, k1, k2, k3, k4⟩, k5⟩ := hs
  unfold retK at h
  split at h
  · rename_i xs hxs
    split at h
    · rename_i y m' hma
      obtain ⟨vs, h2, h3⟩ := res_sound hT k1 k2 _ xs hxs
      obtain ⟨M', mt⟩ := matchAll_sound (m := ⟨st.heap, [], (List.range m).map some⟩) (M := M) k2 (KOK_range k3.gle h0) hma h3
      have hl := mt.vals.len
      have fr : ∀ j, sr.heap.length ≤ j → Gk G m'.κ j = none := by
        intro j hj
        have := mt.len
        have hj' : m'.κ.length ≤ j := by rw [← this]; exact hj
        simp only [Gk]
        rw [List.getElem?_eq_none hj']
      refine ⟨y, if h : vs.toArray.size = 1 then vs.toArray[0] else .tuple vs.toArray, h, ?_, M', Gk G m'.κ, ?_, mt.inv, matched_step h0 h1 k3 mt, fr⟩
      · rw [results_at, Array.mapM_eq_mapM_toList]
        simp only [Sem.run_bind, map_eq_pure_bind, bind_assoc, h2, Result.andThen_ok, pure_bind, Sem.run_pure]
      · have hv := mt.vals
        cases hss : encSs id sr.slots y.1 with
        | nil =>
          rw [hss] at hv
          match vs, hv with
          | [], _ => exact ⟨#[], by simp, trivial⟩
        | cons s ss =>
          rw [hss] at hv
          cases ss with
          | nil =>
            match vs, hv with
            | [v], hv => exact hv.1
            | v :: v' :: vs', hv => exact hv.2.elim
          | cons s' ss' =>
            match vs, hv with
            | v :: v' :: vs', hv => exact ⟨(v :: v' :: vs').toArray, by simp, hv⟩
            | [v], hv => exact hv.2.elim
    · cases h
  · cases h

/-! ### labels -/
theorem locate_some {J : Nat → St → Option R} {l : Nat} : ∀ (c : ACode) (K : Kont R), l ∈ labs c → ∃ z, locate T C J l c K = some z
  | .seq a b, K, h => by
    simp only [labs, List.mem_append] at h
    simp only [locate]
    rcases h with h | h
    · obtain ⟨z, hz⟩ := locate_some a { K with norm := fun st => codeK T C J b st K } h
      rw [hz]; exact ⟨z, rfl⟩
    · split
      · exact ⟨_, rfl⟩
      · exact locate_some b K h
  | .cond c a b, K, h => by
    simp only [labs, List.mem_append] at h
    simp only [locate]
    rcases h with h | h
    · obtain ⟨z, hz⟩ := locate_some a K h
      rw [hz]; exact ⟨z, rfl⟩
    · split
      · exact ⟨_, rfl⟩
      · exact locate_some b K h
  | .seqJ k a b, K, h => by
    simp only [labs, List.mem_cons, List.mem_append] at h
    simp only [locate]
    split
    · exact ⟨_, rfl⟩
    · rename_i hne
      rcases h with h | h | h
      · exact absurd h.symm hne
      · obtain ⟨z, hz⟩ := locate_some a { K with norm := J k } h
        rw [hz]; exact ⟨z, rfl⟩
      · split
        · exact ⟨_, rfl⟩
        · exact locate_some b K h
  | .block id c, K, h => by simp only [locate]; exact locate_some c _ (by simpa [labs] using h)
  | .scope c, K, h => by simp only [locate]; exact locate_some c _ (by simpa [labs] using h)
  | .loop k c, K, h => by
    simp only [labs, List.mem_cons] at h
    simp only [locate]
    split
    · exact ⟨_, rfl⟩
    · rename_i hne
      rcases h with h | h
      · exact absurd h.symm hne
      · exact locate_some c _ h
  | .skip, _, h => by simp [labs] at h
  | .region _ _, _, h => by simp [labs] at h
  | .exit _, _, h => by simp [labs] at h
  | .ret, _, h => by simp [labs] at h
  | .bad, _, h => by simp [labs] at h

theorem locate_none {J : Nat → St → Option R} {l : Nat} : ∀ (c : ACode) (K : Kont R), l ∉ labs c → locate T C J l c K = none
  | .seq a b, K, h => by
    simp only [labs, List.mem_append, not_or] at h
    simp only [locate]
    rw [locate_none a _ h.1]
    exact locate_none b K h.2
  | .cond c a b, K, h => by
    simp only [labs, List.mem_append, not_or] at h
    simp only [locate]
    rw [locate_none a _ h.1]
    exact locate_none b K h.2
  | .seqJ k a b, K, h => by
    simp only [labs, List.mem_cons, List.mem_append, not_or] at h
    simp only [locate]
    rw [if_neg (fun e => h.1 e.symm), locate_none a _ h.2.1]
    exact locate_none b K h.2.2
  | .block id c, K, h => by simp only [locate]; exact locate_none c _ (by simpa [labs] using h)
  | .scope c, K, h => by simp only [locate]; exact locate_none c _ (by simpa [labs] using h)
  | .loop k c, K, h => by
    simp only [labs, List.mem_cons, not_or] at h
    simp only [locate]
    rw [if_neg (fun e => h.1 e.symm)]
    exact locate_none c _ h.2
  | .skip, _, _ => rfl
  | .region _ _, _, _ => rfl
  | .exit _, _, _ => rfl
  | .ret, _, _ => rfl
  | .bad, _, _ => rfl

end
end Go.AM
end

section
/-
AM: code, functions: what the machine computes the model does. No condition.
-/
namespace Go.AM
open Go
variable [Inhabited ZMem]

/-- A way on is kept by a condition. -/
structure KS (w0 : World) (M0 : Mem) (G0 : Gh) (H0 : HL) (n : Nat) {R : Type} (r : R) (K : Kont R) (Q : Exit → Act → World → Prop) : Prop where
  norm : ∀ st a w, CS w0 M0 G0 H0 n st a w → K.norm st = some r → Q .normal a w
  exit : ∀ id st a w, CS w0 M0 G0 H0 n st a w → K.exit id st = some r → Q (.exit id) a w
  ret : ∀ st a w, CS w0 M0 G0 H0 n st a w → K.ret st = some r → Q .ret a w

theorem rounds_mono {P : Program} {c : Code} {Q : Exit → Act → World → Prop} : ∀ (k k' : Nat), k ≤ k' → ∀ a w, Code.rounds P c Q k a w → Code.rounds P c Q k' a w
  | 0, _, _, _, _, h => h.elim
  | k + 1, 0, h, _, _, _ => by omega
  | k + 1, k' + 1, h, a, w, hr => by
    rw [rounds_succ] at hr ⊢
    refine wp_mono hr fun e a w q => ?_
    cases e with
    | normal => exact rounds_mono k k' (by omega) a w q
    | _ => exact q

section
variable {P : Program} {T : TT} {C : CT} {w0 : World} {M0 : Mem} {G0 : Gh} {H0 : HL} {n m : Nat} {R : Type} {r : R}

/-- What a label's way on comes to. -/
def OB (T : TT) (C : CT) (J : Nat → Nat → St → Option R) (m : Nat) (whole : ACode) (K0 : Nat → Kont R) : Prop :=
  ∀ n l st r, J n l st = some r → ∃ n' F x, n = n' + 1 ∧ matchFr m F st = some x ∧ ∃ c K, locate T C (J n') l whole (K0 n') = some (c, K) ∧ codeK T C (J n') c (encFr F x) K = some r

theorem code_sound (hT : TOK P T) (hC : COK P C) (hm : P.follows .mixedOrders = true) {J : Nat → Nat → St → Option R} {whole : ACode} {K0 : Nat → Kont R} (hOB : OB T C J m whole K0) (h0 : ∀ j, j < m → ∃ v, G0 j = some v) (h1 : ∀ j, m ≤ j → G0 j = none) (js : List Nat) :
    ∀ (c : Code) (i : Nat) (K : Nat → Kont R) (Q : Exit → Act → World → Prop) (N : Nat), dstC n c = true → (labs (ann js c i).1).Nodup →
      (∀ l ∈ labs (ann js c i).1, ∀ k, locate T C (J k) l whole (K0 k) = locate T C (J k) l (ann js c i).1 (K k)) → (∀ k, k ≤ N → KS w0 M0 G0 H0 n r (K k) Q) →
      ∀ k, k ≤ N → ∀ st a w, codeK T C (J k) (ann js c i).1 st (K k) = some r → CS w0 M0 G0 H0 n st a w → c.wp P Q a w := by
  intro c
  induction c with
  | skip => intro i K Q N _ _ _ hK k hk st a w h hs; exact wp_skip ((hK k hk).norm st a w hs h)
  | label l => intro i K Q N _ _ _ hK k hk st a w h hs; exact wp_label ((hK k hk).norm st a w hs h)
  | exit id => intro i K Q N _ _ _ hK k hk st a w h hs; exact wp_exit ((hK k hk).exit id st a w hs h)
  | ret => intro i K Q N _ _ _ hK k hk st a w h hs; exact wp_ret ((hK k hk).ret st a w hs h)
  | region id ops d =>
    intro i K Q N hd _ _ hK k hk st a w h hs
    refine region_sound hT hC hm h (fun o ho dd hdd => ?_) hs (fun st' a' w' h2 h3 => (hK k hk).norm st' a' w' h3 h2)
    have := List.all_eq_true.1 hd o ho
    rw [hdd] at this
    simpa using this
  | seq x y ihx ihy =>
    intro i K Q N hd hn hl hK k hk st a w h hs
    simp only [dstC, Bool.and_eq_true] at hd
    by_cases hj : js.contains i = true
    · have e : (ann js (.seq x y) i).1 = .seqJ i (ann js x (i + 1)).1 (ann js y (ann js x (i + 1)).2).1 := by simp only [ann, hj, if_true]
      rw [e] at hn hl h
      simp only [labs, List.nodup_cons, List.mem_append, not_or, List.nodup_append] at hn
      obtain ⟨⟨hnx, hny⟩, hx, hy, hxy⟩ := hn
      have ky : ∀ k, k ≤ N → ∀ st a w, codeK T C (J k) (ann js y (ann js x (i + 1)).2).1 st (K k) = some r → CS w0 M0 G0 H0 n st a w → y.wp P Q a w :=
        ihy _ K Q N hd.2 hy (fun l hlm k => by
          rw [hl l (by simp [labs, hlm]) k]
          have hne : i ≠ l := fun q => by subst q; exact hny hlm
          simp only [locate, if_neg hne]
          rw [locate_none _ _ (fun q => hxy l q l hlm rfl)]) hK
      refine wp_seq (ihx (i + 1) (fun k => { K k with norm := J k i }) (Exit.then (y.wp P Q) Q) N hd.1 hx (fun l hlm k => ?_) (fun k hk => ⟨fun st a w hs h => ?_, (hK k hk).exit, (hK k hk).ret⟩) k hk st a w h hs)
      · rw [hl l (by simp [labs, hlm]) k]
        have hne : i ≠ l := fun q => by subst q; exact hnx hlm
        simp only [locate, if_neg hne]
        obtain ⟨z, hz⟩ := locate_some (T := T) (C := C) (J := J k) _ { K k with norm := J k i } hlm
        rw [hz]
      · obtain ⟨k', F, z, e1, e2, c, K', e3, e4⟩ := hOB k i st r h
        rw [hl i (by simp [labs]) k'] at e3
        simp only [locate, if_true, Option.some.injEq, Prod.mk.injEq] at e3
        obtain ⟨rfl, rfl⟩ := e3
        exact ky k' (by omega) _ a w e4 (frame_sound h0 h1 hs e2)
    · have e : (ann js (.seq x y) i).1 = .seq (ann js x (i + 1)).1 (ann js y (ann js x (i + 1)).2).1 := by simp only [ann, hj]; rfl
      rw [e] at hn hl h
      simp only [labs, List.nodup_append] at hn
      obtain ⟨hx, hy, hxy⟩ := hn
      have ky : ∀ k, k ≤ N → ∀ st a w, codeK T C (J k) (ann js y (ann js x (i + 1)).2).1 st (K k) = some r → CS w0 M0 G0 H0 n st a w → y.wp P Q a w :=
        ihy _ K Q N hd.2 hy (fun l hlm k => by
          rw [hl l (by simp [labs, hlm]) k]
          simp only [locate]
          rw [locate_none _ _ (fun q => hxy l q l hlm rfl)]) hK
      refine wp_seq (ihx (i + 1) (fun k => { K k with norm := fun st => codeK T C (J k) (ann js y (ann js x (i + 1)).2).1 st (K k) }) (Exit.then (y.wp P Q) Q) N hd.1 hx (fun l hlm k => ?_) (fun k hk => ⟨fun st a w hs h => ky k hk st a w h hs, (hK k hk).exit, (hK k hk).ret⟩) k hk st a w h hs)
      rw [hl l (by simp [labs, hlm]) k]
      simp only [locate]
      obtain ⟨z, hz⟩ := locate_some (T := T) (C := C) (J := J k) _ { K k with norm := fun st => codeK T C (J k) (ann js y (ann js x (i + 1)).2).1 st (K k) } hlm
      rw [hz]
  | cond c x y ihx ihy =>
    intro i K Q N hd hn hl hK k hk st a w h hs
    simp only [dstC, Bool.and_eq_true] at hd
    simp only [ann, labs, List.nodup_append] at hn hl h
    obtain ⟨hx, hy, hxy⟩ := hn
    simp only [codeK] at h
    split at h
    · rename_i q hq
      refine wp_cond (cs_bool hs hq) ?_
      cases q with
      | true =>
        simp only [if_true] at h ⊢
        refine ihx i K Q N hd.1 hx (fun l hlm k => ?_) hK k hk _ a w h (cs_know hs hq)
        rw [hl l (by simp [hlm]) k]
        simp only [locate]
        obtain ⟨z, hz⟩ := locate_some (T := T) (C := C) (J := J k) _ (K k) hlm
        rw [hz]
      | false =>
        simp only [Bool.false_eq_true, if_false] at h ⊢
        refine ihy _ K Q N hd.2 hy (fun l hlm k => ?_) hK k hk _ a w h (cs_know hs hq)
        rw [hl l (by simp [hlm]) k]
        simp only [locate]
        rw [locate_none _ _ (fun q => hxy l q l hlm rfl)]
    · cases h
  | block id c ih =>
    intro i K Q N hd hn hl hK k hk st a w h hs
    refine wp_block (ih i (fun k => { K k with exit := fun j st => if j = id then (K k).norm st else (K k).exit j st }) (Exit.inBlock id Q) N hd hn (fun l hlm k => ?_) (fun k hk => ⟨(hK k hk).norm, fun j st a w hs h => ?_, (hK k hk).ret⟩) k hk st a w h hs)
    · rw [hl l hlm k]; simp only [ann, locate]
    · simp only at h
      simp only [Exit.inBlock]
      split
      · rename_i e
        rw [if_pos e] at h
        exact (hK k hk).norm st a w hs h
      · rename_i e
        rw [if_neg e] at h
        exact (hK k hk).exit j st a w hs h
  | loop c ih =>
    intro i K Q N hd hn hl hK k hk st a w h hs
    have e : (ann js (.loop c) i).1 = .loop i (ann js c (i + 1)).1 := rfl
    rw [e] at hn hl h
    simp only [labs, List.nodup_cons] at hn
    have key : ∀ k, k ≤ N → ∀ st a w, J k i st = some r → CS w0 M0 G0 H0 n st a w → Code.rounds P c Q k a w := by
      intro k
      induction k using Nat.strongRecOn with
      | _ k ihk =>
        intro hk st a w h hs
        obtain ⟨k', F, z, e1, e2, c', K', e3, e4⟩ := hOB k i st r h
        subst e1
        rw [hl i (by simp [labs]) k'] at e3
        simp only [locate, if_true, Option.some.injEq, Prod.mk.injEq] at e3
        obtain ⟨rfl, rfl⟩ := e3
        rw [rounds_succ]
        refine ih (i + 1) (fun k => { K k with norm := J k i }) (Exit.then (Code.rounds P c Q k') Q) k' hd hn.2 (fun l hlm k => ?_) (fun kk hkk => ⟨fun st a w hs h => ?_, (hK kk (by omega)).exit, (hK kk (by omega)).ret⟩) k' (Nat.le_refl _) _ a w e4 (frame_sound h0 h1 hs e2)
        · rw [hl l (by simp [labs, hlm]) k]
          have hne : i ≠ l := fun q => by subst q; exact hn.1 hlm
          simp only [locate, if_neg hne]
        · exact rounds_mono kk k' hkk a w (ihk kk (by omega) (by omega) st a w h hs)
    exact wp_loop_rounds k (key k hk st a w h hs)
  | scope c ih =>
    intro i K Q N hd hn hl hK k hk st a w h hs
    refine wp_scope_straight (ih i K (Exit.noGoto Q) N hd hn (fun l hlm k => ?_) (fun k hk => ⟨(hK k hk).norm, (hK k hk).exit, (hK k hk).ret⟩) k hk st a w h hs)
    rw [hl l hlm k]; simp only [ann, locate]
  | _ => intro i K Q N hd hn hl hK k hk st a w h hs; simp [ann, codeK] at h


/-- A label's shape, and what is computed from there on, by fuel. -/
structure Lab (R : Type) where
  l : Nat
  F : FSh
  j : Nat → F.sh.Ty → Option R

def labAt {R : Type} (m : Nat) (k : Nat) (st : St) : List (Lab R) → Nat → Option R
  | [], _ => none
  | b :: r, l => if b.l = l then atFr m b.F st (b.j k) else labAt m k st r l

/-- The labels' ways on, as the machine asks for them. -/
def JJ {R : Type} (m : Nat) (ls : List (Lab R)) (k : Nat) (l : Nat) (st : St) : Option R := labAt m k st ls l

theorem labAt_some {m k : Nat} {st : St} {l : Nat} {r : R} : ∀ {ls : List (Lab R)}, labAt m k st ls l = some r → ∃ b ∈ ls, b.l = l ∧ atFr m b.F st (b.j k) = some r
  | [], h => by cases h
  | b :: ls, h => by
    simp only [labAt] at h
    split at h
    · rename_i e; exact ⟨b, by simp, e, h⟩
    · obtain ⟨b', h1, h2⟩ := labAt_some h
      exact ⟨b', by simp [h1], h2⟩

structure FnOk (P : Program) (T : TT) (C : CT) (f : Nat) (fn : Func) (c : Code) (js : List Nat) (sa sr : Shape) (ls : List (Lab sr.Ty)) (g : Nat → sa.Ty → Option sr.Ty) : Prop where
  at_ : P.funcs[f]? = some fn
  body : fn.body = some c
  name : (fn.name == "runtime.NumGoroutine") = false
  dst : dstC fn.ntmps c = true
  nodup : (labs (ann js c 0).1).Nodup
  args : sa.slots.length ≤ fn.ntmps
  len : sa.heap.length ≤ sr.heap.length
  zero : ∀ b ∈ ls, ∀ x, b.j 0 x = none
  succ : ∀ b ∈ ls, ∀ k x, labK T C js (JJ sa.heap.length ls k) c fn.results.toList sa.heap.length sr some b.l b.F x = b.j (k + 1) x
  all : ∀ k x, funK T C js (JJ sa.heap.length ls k) c fn.results.toList sa sr x some = g k x

theorem encSs_length (ρ : Nat → Nat) : ∀ (sh : List SSh) (x : TyS sh), (encSs ρ sh x).length = sh.length
  | [], _ => rfl
  | _ :: ss, x => by simp [encSs, encSs_length ρ ss]

theorem args_slots {M : Mem} {G : Gh} {vals : Array Value} : ∀ {xs : List SV}, SVRs M G vals.toList xs → ∀ (k : Nat), SVRs M G ((List.range xs.length).map fun t => (vals ++ Array.replicate k undef).getD t undef) xs := by
  intro xs h k
  have hl := h.len
  have e : (List.range xs.length).map (fun t => (vals ++ Array.replicate k undef).getD t undef) = vals.toList := by
    apply List.ext_getElem
    · simp [hl.symm]
    · intro i h1 h2
      have hi : i < vals.size := by simpa using h2
      simp [Array.getD, Array.getElem_append_left, hi, show i < vals.size + k by omega]
  rw [e]
  exact h

theorem fun_contract (hT : TOK P T) (hC : COK P C) (hm : P.follows .mixedOrders = true) {f : Nat} {fn : Func} {c : Code} {js : List Nat} {sa sr : Shape} {ls : List (Lab sr.Ty)} {g : Nat → sa.Ty → Option sr.Ty} (h : FnOk P T C f fn c js sa sr ls g) (fuel : sa.Ty → Nat) :
    Contract P f ⟨sa, sr, fun x => g (fuel x) x⟩ := by
  refine ⟨h.len, fun w M G x vals hI hv h1 h0 y hy => ?_⟩
  have hy' : g (fuel x) x = some y := hy
  rw [← h.all] at hy'
  have hsz : vals.size = sa.slots.length := by
    have := hv.len
    rw [encSs_length] at this
    simpa using this
  have hrun : (callFunc f vals).run P w = .ok (.enter f vals) w := by
    have hn := h.name
    simp only [beq_eq_false_iff_ne, ne_eq] at hn
    simp [callFunc, h.at_, h.body, hn]
  refine .inr ⟨hrun, calls_of_wp h.at_ h.body ?_⟩
  let K0 : Nat → Kont sr.Ty := fun _ => ⟨retK T sa.heap.length fn.results.toList sr some, fun _ _ => none, retK T sa.heap.length fn.results.toList sr some⟩
  have hOB : OB T C (JJ sa.heap.length ls) sa.heap.length (ann js c 0).1 K0 := by
    intro n l st r hr
    obtain ⟨b, hb, rfl, h2⟩ := labAt_some hr
    unfold atFr at h2
    split at h2
    · rename_i z hz
      cases n with
      | zero => rw [h.zero b hb] at h2; cases h2
      | succ n =>
        rw [← h.succ b hb] at h2
        unfold labK at h2
        split at h2
        · rename_i c' K' hloc
          exact ⟨n, b.F, z, rfl, hz, c', K', hloc, h2⟩
        · cases h2
    · cases h2
  have hret : ∀ st a w', CS w M G (encHs id 0 sa.heap x.2) fn.ntmps st a w' → retK T sa.heap.length fn.results.toList sr some st = some y → a.defers = [] ∧ ∃ v, (results fn a.tmps).run P w' = .ok v w' ∧ Ret w M G (encHs id 0 sa.heap x.2) sr y v w' := by
    intro st a w' hs hr
    obtain ⟨y', v, e, h3, h4⟩ := ret_sound hT h0 h1 hs hr
    cases e
    exact ⟨hs.2.2, v, h3, h4⟩
  refine code_sound hT hC hm hOB h0 h1 js c 0 K0 _ (fuel x) h.dst h.nodup (fun l _ k => rfl) (fun k _ => ⟨fun st a w' hs hr => hret st a w' hs hr, (fun id st a w' hs hr => nomatch hr), fun st a w' hs hr => hret st a w' hs hr⟩) (fuel x) (Nat.le_refl _) (start sa x) _ w hy' ?_
  refine ⟨⟨M, G, ?_, hI, Step.refl _ _ _ _, fun j hj => h1 j hj⟩, ?_, rfl⟩
  · have := args_slots hv (fn.ntmps - vals.size)
    rw [encSs_length] at this
    exact putAll_sound (fun t => (vals ++ Array.replicate (fn.ntmps - vals.size) undef).getD t undef) _ _ this
  · have := h.args
    simp
    omega

end
end Go.AM
end

section
/-
AM: tables of types, of callees, of labels: forms for a program's texts. No condition.
-/
namespace Go.AM
open Go
variable [Inhabited ZMem]

/-- A string by its bytes. -/
def strB (l : List UInt8) : ByteArray := ⟨l.toArray⟩

def lookT : List (Nat × TD) → TT
  | [], _ => none
  | (j, d) :: r, t => if j = t then some d else lookT r t

def AllT (P : Program) : List (Nat × TD) → Prop
  | [] => True
  | p :: r => TOk P p.1 p.2 ∧ AllT P r

theorem tok_of {P : Program} : ∀ {l : List (Nat × TD)}, AllT P l → TOK P (lookT l)
  | [], _, t, d, h => by cases h
  | (j, d') :: r, ha, t, d, h => by
    simp only [lookT] at h
    split at h
    · rename_i e; cases h; subst e; exact ha.1
    · exact tok_of ha.2 t d h

def uok (d : TD) (z : Value) : Bool := match d.u with
  | some u => decide (u.size = d.size) && decide (0 < d.size) && dzero u z.cells.toList
  | none => true

theorem TOk.of {P : Program} {t : TypeId} {d : TD} (i : TypeInfo) (z : Value) (h1 : P.underlying t = some d.desc) (h2 : P.info? t = some i) (h3 : i.zero = some z) (h4 : (i.size, i.bytes) = (d.size, d.bytes))
    (h5 : z.cells.toList.map LV.val = d.zero) (h6 : (z.cells.toList.all scal && decide (z.cells.size = d.size) && uok d z) = true)
    (h7 : ∀ fs, d.desc = .struct fs → fs.toList.mapM (fun f => (P.info? f.type).map fun i => (f.offset, i.size)) = some d.places)
    (h8 : d.eqok = true → ∀ (u : U), d.u = some u → ∀ (w : World) (M : Mem) (x y : Array Value) (a b : El u), DV M u x.toList a → DV M u y.toList b →
      P.eqGuardType P.depth t = false ∧ (Op.equal t (.agg x) (.agg y)).run P w = .ok (eqU u a b) w) : TOk P t d := by
  simp only [Bool.and_eq_true, decide_eq_true_eq] at h6
  simp only [Prod.mk.injEq] at h4
  refine ⟨h1, ⟨i, z, h2, h3, h4.1, h4.2, h5, h6.1.1, h6.1.2, fun u hu => ?_⟩, h7, h8⟩
  have := h6.2
  unfold uok at this
  rw [hu] at this
  simp only [Bool.and_eq_true, decide_eq_true_eq] at this
  exact ⟨this.1.1, this.1.2, this.2⟩

def lookC : List (Nat × FC) → CT
  | [], _ => []
  | (j, c) :: r, f => if j = f then c :: lookC r f else lookC r f

def AllC (P : Program) : List (Nat × FC) → Prop
  | [] => True
  | p :: r => Contract P p.1 p.2 ∧ AllC P r

/-- A mark in the table of contracts: it says nothing. -/
def fcMark : FC := ⟨⟨[], []⟩, ⟨[], []⟩, fun _ => none⟩
theorem conMark (P : Program) (f : Nat) : Contract P f fcMark := ⟨Nat.le_refl _, fun _ _ _ _ _ _ _ _ _ y h => by cases h⟩

theorem cok_of {P : Program} : ∀ {l : List (Nat × FC)}, AllC P l → COK P (lookC l)
  | [], _, f, fc, h => by simp [lookC] at h
  | (j, c) :: r, ha, f, fc, h => by
    simp only [lookC] at h
    split at h
    · rename_i e
      subst e
      rcases List.mem_cons.1 h with rfl | h
      · exact ha.1
      · exact cok_of ha.2 j fc h
    · exact cok_of ha.2 f fc h

def AllL {R : Type} (p : Lab R → Prop) : List (Lab R) → Prop
  | [] => True
  | b :: r => p b ∧ AllL p r

theorem allL {R : Type} {p : Lab R → Prop} : ∀ {l : List (Lab R)}, AllL p l → ∀ b ∈ l, p b
  | [], _, b, h => by simp at h
  | c :: r, ha, b, h => by
    rcases List.mem_cons.1 h with rfl | h
    · exact ha.1
    · exact allL ha.2 b h

def nodupB : List Nat → Bool
  | [] => true
  | x :: r => !r.contains x && nodupB r

theorem nodup_of : ∀ {l : List Nat}, nodupB l = true → l.Nodup
  | [], _ => List.nodup_nil
  | x :: r, h => by
    simp only [nodupB, Bool.and_eq_true, Bool.not_eq_true'] at h
    exact List.nodup_cons.2 ⟨by simpa using h.1, nodup_of h.2⟩

/-- The form for a function's equations. -/
theorem FnOk.of {P : Program} {T : TT} {C : CT} {f : Nat} {fn : Func} {js : List Nat} {sa sr : Shape} {ls : List (Lab sr.Ty)} {g : Nat → sa.Ty → Option sr.Ty} (h1 : P.funcs[f]? = some fn) {c : Code} (h2 : fn.body = some c)
    (h3 : (!(fn.name == "runtime.NumGoroutine") && dstC fn.ntmps c && nodupB (labs (ann js c 0).1) && decide (sa.slots.length ≤ fn.ntmps) && decide (sa.heap.length ≤ sr.heap.length)) = true)
    (h4 : AllL (fun b => ∀ x, b.j 0 x = none) ls) (h5 : AllL (fun b => ∀ k x, labK T C js (JJ sa.heap.length ls k) c fn.results.toList sa.heap.length sr some b.l b.F x = b.j (k + 1) x) ls)
    (h6 : ∀ k x, funK T C js (JJ sa.heap.length ls k) c fn.results.toList sa sr x some = g k x) : FnOk P T C f fn c js sa sr ls g := by
  simp only [Bool.and_eq_true, decide_eq_true_eq, Bool.not_eq_true'] at h3
  exact ⟨h1, h2, h3.1.1.1.1, h3.1.1.1.2, nodup_of h3.1.1.2, h3.1.2, h3.2, allL h4, allL h5, h6⟩

end Go.AM
end

section
/-
AM: rows: a law's arguments as data of the machine; from a contract of a law's function to what its row asks. No condition.
-/
namespace Go.AM
open Go Go.ChangeShapes
variable [Inhabited ZMem]

/-- Data as a row's arguments bear them: numbers fit, lengths are an int's. -/
def Wf : (u : U) → El u → Prop
  | .int k, x => k.min ≤ x ∧ x ≤ k.max
  | .bool, _ => True
  | .str, s => s.size ≤ maxLen
  | .sl e, l => l.length ≤ maxLen ∧ ∀ x ∈ l, Wf e x
  | .nil, _ => True
  | .cons a b, x => Wf a x.1 ∧ Wf b x.2
  | .any, _ => True

/-- How many values and letters data hold. -/
def bk : (u : U) → El u → Nat
  | .int _, _ => 1
  | .bool, _ => 1
  | .str, s => s.size + 1
  | .sl e, l => (l.map (bk e)).sum + 1
  | .nil, _ => 0
  | .cons a b, x => bk a x.1 + bk b x.2
  | .any, _ => 1

mutual
def bulkW {H : Type} : DataW H → Nat
  | .lit (.string bytes) => bytes.length + 1
  | .lit _ => 1
  | .nil => 1
  | .ptr d => bulkW d + 1
  | .slice elems spare => bulkAll elems + bulkAll spare + 1
  | .agg parts => bulkAll parts + 1
  | .iface _ d => bulkW d + 1
  | .map entries => bulkEntries entries + 1
  | .held _ => 1
def bulkAll {H : Type} : List (DataW H) → Nat
  | [] => 0
  | d :: r => bulkW d + bulkAll r
def bulkEntries {H : Type} : List (Lit × DataW H) → Nat
  | [] => 0
  | x :: r => bulkEntry x + bulkEntries r
def bulkEntry {H : Type} : Lit × DataW H → Nat
  | (.string bytes, d) => bytes.length + bulkW d + 1
  | (_, d) => bulkW d + 1
end

/-- A type's values read as data of this kind. -/
def tyB (P : Program) : Nat → U → TypeId ⊕ (Nat × List (Nat × TypeId)) → Bool
  | 0, _, _ => false
  | n + 1, u, .inl t => match P.underlying t with
    | some (.int k) => decide (u = .int k)
    | some .bool => decide (u = .bool)
    | some .string => decide (u = .str)
    | some (.slice e) => match u with
      | .sl u' => decide (P.cellsOf e = u'.size) && tyB P n u' (.inl e)
      | _ => false
    | some (.struct fs) => decide (P.cellsOf t = u.size) && tyB P n u (.inr (0, fs.toList.map fun f => (f.offset, f.type)))
    | some (.array m e) => decide (P.cellsOf t = u.size) && tyB P n u (.inr (0, (List.range m).map fun i => (i * P.cellsOf e, e)))
    | _ => false
  | n + 1, u, .inr (off, [(o, t)]) => decide (o = off) && decide (P.cellsOf t = u.size) && tyB P n u (.inl t)
  | n + 1, .cons a b, .inr (off, (o, t) :: p :: r) => decide (o = off) && decide (P.cellsOf t = a.size) && tyB P n a (.inl t) && tyB P n b (.inr (off + a.size, p :: r))
  | _, _, _ => false

section
variable {H : Type} {enc : TypeId × Value → H} {P : Program} {w : World} {base : Nat} {spare : Nat → Bool} {held : Bool}

theorem sum_le_bulk {e : U} : ∀ (l : List (El e)) (m : List (DataW H)), l.length = m.length → (∀ (i : Nat) (h : i < l.length) (h' : i < m.length), bk e l[i] ≤ bulkW m[i]) → (l.map (bk e)).sum ≤ bulkAll m
  | [], [], _, _ => by simp [bulkAll]
  | [], _ :: _, h, _ => by simp at h
  | _ :: _, [], h, _ => by simp at h
  | x :: l, y :: m, h, k => by
    have h1 := k 0 (by simp) (by simp)
    have h2 := sum_le_bulk l m (by simpa using h) (fun i hi hi' => by
      have := k (i + 1) (by simpa using hi) (by simpa using hi')
      simpa using this)
    simp only [List.getElem_cons_zero] at h1
    simp only [List.map_cons, List.sum_cons, bulkAll]
    omega

theorem mapM_some {α β : Type} {f : α → Option β} : ∀ {l : List α} {ys : List β}, l.mapM f = some ys → ys.length = l.length ∧ ∀ (i : Nat) (h : i < l.length) (h' : i < ys.length), f l[i] = some ys[i]
  | [], ys, h => by
    simp at h
    subst h
    exact ⟨rfl, fun i h => by simp at h⟩
  | x :: l, ys, h => by
    rw [List.mapM_cons] at h
    cases hx : f x with
    | none => rw [hx] at h; cases h
    | some y =>
      rw [hx] at h
      cases hl : l.mapM f with
      | none => rw [hl] at h; cases h
      | some zs =>
        rw [hl] at h
        cases h
        obtain ⟨h1, h2⟩ := mapM_some hl
        refine ⟨by simp [h1], fun i hi hi' => ?_⟩
        cases i with
        | zero => exact hx
        | succ i => exact h2 i (by simpa using hi) (by simpa using hi')

theorem mapM_map' {α β γ : Type} (f : β → Option γ) (g : α → β) : ∀ (l : List α), (l.map g).mapM f = l.mapM fun x => f (g x)
  | [] => rfl
  | x :: l => by simp only [List.map_cons, List.mapM_cons, mapM_map' f g l]

theorem add_add (a : Addr) (m n : Nat) : (a.add m).add n = a.add (m + n) := by
  unfold Addr.add
  by_cases h : m = 0
  · subst h; simp
  · by_cases k : n = 0
    · subst k; simp [h]
    · rw [if_neg h, if_neg k, if_neg (by omega)]
      simp [Nat.add_assoc]

theorem cells?_get {a : Addr} {n : Nat} {cs : List Value} (h : w.cells? base a n = some cs) : cs.length = n ∧ ∀ (i : Nat) (h : i < cs.length), w.cell? (a.add i) = some cs[i] := by
  unfold World.cells? at h
  split at h
  · obtain ⟨h1, h2⟩ := mapM_some h
    rw [List.length_range] at h1
    refine ⟨h1, fun i hi => ?_⟩
    have := h2 i (by simp; omega) hi
    simpa using this
  · cases h

/-- The cells of a row of elements, read one by one, as one row. -/
theorem row_at {e : U} {a : Addr} {n : Nat} (F : Nat → List Value × El e) (hF : ∀ i, i < n → (∀ (j : Nat) (h : j < (F i).1.length), w.cell? (a.add (i * e.size + j)) = some (F i).1[j]) ∧ DV w.cell? e (F i).1 (F i).2) :
    ∃ xs : List Value, At w.cell? a xs ∧ xs.length = n * e.size ∧ ∀ i, i < n → DV w.cell? e ((xs.drop (i * e.size)).take e.size) (F i).2 := by
  let xs : List Value := (List.range (n * e.size)).map fun j => (w.cell? (a.add j)).getD undef
  have hlen : ∀ i, i < n → (F i).1.length = e.size := fun i hi => DV.len _ _ _ (hF i hi).2
  have hcell : ∀ j, j < n * e.size → ∃ v, w.cell? (a.add j) = some v := by
    intro j hj
    have hs : 0 < e.size := by
      rcases Nat.eq_zero_or_pos e.size with h | h
      · rw [h, Nat.mul_zero] at hj; omega
      · exact h
    have h1 : j / e.size < n := Nat.div_lt_of_lt_mul (by rw [Nat.mul_comm]; exact hj)
    have h2 : j % e.size < e.size := Nat.mod_lt _ hs
    have h3 := (hF _ h1).1 (j % e.size) (by rw [hlen _ h1]; exact h2)
    rw [show j / e.size * e.size + j % e.size = j by rw [Nat.mul_comm]; exact Nat.div_add_mod j e.size] at h3
    exact ⟨_, h3⟩
  refine ⟨xs, fun j v hv => ?_, by simp [xs], fun i hi => ?_⟩
  · have hj : j < n * e.size := by
      have := (List.getElem?_eq_some_iff.1 hv).1
      simpa [xs] using this
    obtain ⟨v', h1⟩ := hcell j hj
    simp only [xs, List.getElem?_map, List.getElem?_range hj, Option.map_some, h1, Option.getD_some] at hv
    rw [h1]
    exact hv
  · have hs : (i + 1) * e.size ≤ n * e.size := Nat.mul_le_mul_right _ hi
    rw [Nat.succ_mul] at hs
    have e1 : (xs.drop (i * e.size)).take e.size = (F i).1 := by
      apply List.ext_getElem
      · simp only [List.length_take, List.length_drop, xs, List.length_map, List.length_range, hlen i hi]
        omega
      · intro j h1 h2
        have h3 := (hF i hi).1 j h2
        simp only [List.getElem_take, List.getElem_drop, xs, List.getElem_map, List.getElem_range, h3, Option.getD_some]
    rw [e1]
    exact (hF i hi).2

theorem trodS {fuel : Nat} {t : TypeId} {cs : List Value} {d : DataW H × List MemPlace} {fs : Array Field} (ht : P.underlying t = some (.struct fs)) (h : DataW.trod enc P w base spare held (fuel + 1) t cs = some d) :
    cs.length = P.cellsOf t ∧ ∃ xs, (fs.toList.mapM fun f => DataW.trod enc P w base spare held fuel f.type ((cs.drop f.offset).take (P.cellsOf f.type))) = some xs ∧ (.agg (xs.map (·.1)), xs.flatMap (·.2)) = d := by
  unfold DataW.trod at h
  rw [ht] at h
  split at h <;> simp_all

theorem trodA {fuel : Nat} {t : TypeId} {cs : List Value} {d : DataW H × List MemPlace} {n : Nat} {e : TypeId} (ht : P.underlying t = some (.array n e)) (h : DataW.trod enc P w base spare held (fuel + 1) t cs = some d) :
    cs.length = P.cellsOf t ∧ ∃ xs, ((List.range n).mapM fun i => DataW.trod enc P w base spare held fuel e ((cs.drop (i * P.cellsOf e)).take (P.cellsOf e))) = some xs ∧ (.agg (xs.map (·.1)), xs.flatMap (·.2)) = d := by
  unfold DataW.trod at h
  rw [ht] at h
  split at h <;> simp_all

theorem reads (fuel : Nat) : ∀ (n : Nat),
    (∀ (fuel : Nat) (u : U) (t : TypeId) (cs : List Value) (d : DataW H × List MemPlace), tyB P n u (.inl t) = true → DataW.trod enc P w base spare held fuel t cs = some d → ∃ x : El u, DV w.cell? u cs x ∧ Wf u x ∧ bk u x ≤ bulkW d.1) ∧
    (∀ (fuel : Nat) (u : U) (off : Nat) (fs : List (Nat × TypeId)) (cs : List Value) (xs : List (DataW H × List MemPlace)), tyB P n u (.inr (off, fs)) = true →
      (fs.mapM fun p => DataW.trod enc P w base spare held fuel p.2 ((cs.drop p.1).take (P.cellsOf p.2))) = some xs → cs.length = off + u.size →
      ∃ x : El u, DV w.cell? u (cs.drop off) x ∧ Wf u x ∧ bk u x ≤ bulkAll (xs.map (·.1)))
  | 0 => ⟨fun _ _ _ _ _ h => by simp [tyB] at h, fun _ _ _ _ _ _ h => by simp [tyB] at h⟩
  | n + 1 => by
    obtain ⟨ihA, ihB⟩ := reads fuel n
    constructor
    · intro fuel u t cs d h k
      simp only [tyB] at h
      cases fuel with
      | zero => simp [DataW.trod] at k
      | succ fuel =>
        split at h
        · rename_i kk ht
          have := of_decide_eq_true h
          subst this
          unfold DataW.trod at k
          rw [ht] at k
          split at k <;> try (first | (rename_i e; cases e; done) | cases k; done)
          rename_i e
          cases e
          split at k
          · rename_i hk
            obtain ⟨rfl, hw⟩ := hk
            cases k
            simp only [Lit.wf, Bool.and_eq_true, decide_eq_true_eq] at hw
            exact ⟨_, rfl, hw, by simp [bk, bulkW]⟩
          · cases k
        · rename_i ht
          have := of_decide_eq_true h
          subst this
          unfold DataW.trod at k
          rw [ht] at k
          split at k <;> try (first | (rename_i e; cases e; done) | cases k; done)
          cases k
          exact ⟨_, rfl, trivial, by simp [bk, bulkW]⟩
        · rename_i ht
          have := of_decide_eq_true h
          subst this
          unfold DataW.trod at k
          rw [ht] at k
          split at k <;> try (first | (rename_i e; cases e; done) | cases k; done)
          split at k
          · rename_i hs
            cases k
            exact ⟨_, rfl, hs, by simp [bk, bulkW]⟩
          · cases k
        · rename_i e ht
          unfold DataW.trod at k
          rw [ht] at k
          cases u with
          | sl u' =>
            simp only [Bool.and_eq_true, decide_eq_true_eq] at h
            obtain ⟨hsz, hty⟩ := h
            split at k <;> try (first | (rename_i e; cases e; done) | cases k; done)
            · cases k
              exact ⟨([] : List (El u')), DV.nilSlice _ _, ⟨by simp [maxLen], by simp⟩, by simp [bk, bulkW]⟩
            · rename_i e' a len cap e1
              cases e1
              split at k
              · rename_i hb
                obtain ⟨hb1, hb2, hb3⟩ := hb
                simp only [Option.bind_eq_some_iff, Option.map_eq_some_iff] at k
                obtain ⟨elems, k1, rest, k2, rfl⟩ := k
                obtain ⟨k3, k4⟩ := mapM_some k1
                rw [List.length_range] at k3
                have key : ∀ i, i < len → ∃ p : List Value × El u', (∀ (j : Nat) (h : j < p.1.length), w.cell? (a.add (i * u'.size + j)) = some p.1[j]) ∧ DV w.cell? u' p.1 p.2 ∧ Wf u' p.2 ∧ (∀ (h : i < elems.length), bk u' p.2 ≤ bulkW elems[i].1) := by
                  intro i hi
                  have k5 := k4 i (by simpa using hi) (by omega)
                  simp only [List.getElem_range, Option.bind_eq_some_iff] at k5
                  obtain ⟨cs, k6, k7⟩ := k5
                  obtain ⟨k8, k9⟩ := cells?_get k6
                  obtain ⟨x, x1, x2, x3⟩ := ihA fuel u' _ cs _ hty k7
                  refine ⟨(cs, x), fun j hj => ?_, x1, x2, fun _ => x3⟩
                  have := k9 j hj
                  rw [add_add, hsz] at this
                  exact this
                haveI : Inhabited (El u') := ⟨dflt u'⟩
                obtain ⟨F, hF⟩ := Deep.choose_lt key
                obtain ⟨xs, x1, x2, x3⟩ := row_at (e := u') (a := a) (n := len) F (fun i hi => ⟨(hF i hi).1, (hF i hi).2.1⟩)
                have hl : ((List.range len).map fun i => (F i).2).length = len := by simp
                refine ⟨(List.range len).map fun i => (F i).2, ⟨some a, cap, xs, by rw [hl], by rw [hl]; exact hb2, fun h => (by cases h), fun ad e => by cases e; exact x1, by rw [hl]; exact x2, fun i hi => ?_⟩, ⟨by rw [hl]; omega, fun x hx => ?_⟩, ?_⟩
                · have := x3 i (by simpa using hi)
                  simpa using this
                · simp only [List.mem_map, List.mem_range] at hx
                  obtain ⟨i, hi, rfl⟩ := hx
                  exact (hF i hi).2.2.1
                · have := sum_le_bulk ((List.range len).map fun i => (F i).2) (elems.map (·.1)) (by simp [k3]) (fun i hi hi' => by
                    simp only [List.length_map, List.length_range] at hi hi'
                    have := (hF i hi).2.2.2 hi'
                    simpa using this)
                  simp only [bk, bulkW]
                  omega
              · cases k
          | _ => cases h
        · rename_i fs ht
          simp only [Bool.and_eq_true, decide_eq_true_eq] at h
          obtain ⟨hl, xs, k1, rfl⟩ := trodS ht k
          obtain ⟨x, x1, x2, x3⟩ := ihB fuel u 0 _ _ xs h.2 (by rw [mapM_map']; exact k1) (by omega)
          exact ⟨x, by simpa using x1, x2, by simp only [bulkW]; omega⟩
        · rename_i m e ht
          simp only [Bool.and_eq_true, decide_eq_true_eq] at h
          obtain ⟨hl, xs, k1, rfl⟩ := trodA ht k
          obtain ⟨x, x1, x2, x3⟩ := ihB fuel u 0 _ _ xs h.2 (by rw [mapM_map']; exact k1) (by omega)
          exact ⟨x, by simpa using x1, x2, by simp only [bulkW]; omega⟩
        · cases h
    · intro fuel u off fs cs xs h k hl
      match fs, u, h with
      | [(o, t)], u, h =>
        have h : (decide (o = off) && decide (P.cellsOf t = u.size) && tyB P n u (.inl t)) = true := by
          cases u <;> exact h
        simp only [Bool.and_eq_true, decide_eq_true_eq] at h
        obtain ⟨⟨rfl, h2⟩, h3⟩ := h
        obtain ⟨k1, k2⟩ := mapM_some k
        match xs, k1 with
        | [x], _ =>
          have k3 := k2 0 (by simp) (by simp)
          simp only [List.getElem_cons_zero] at k3
          rw [List.take_of_length_le (by simp; omega)] at k3
          obtain ⟨y, y1, y2, y3⟩ := ihA fuel u t _ _ h3 k3
          exact ⟨y, y1, y2, by simpa [bulkAll] using y3⟩
      | (o, t) :: p :: r, .cons a b, h =>
        simp only [tyB, Bool.and_eq_true, decide_eq_true_eq] at h
        obtain ⟨⟨⟨rfl, h2⟩, h3⟩, h4⟩ := h
        rw [List.mapM_cons] at k
        simp only [U.size] at hl
        cases k1 : DataW.trod enc P w base spare held fuel t ((cs.drop o).take (P.cellsOf t)) with
        | none => rw [k1] at k; cases k
        | some d =>
          rw [k1] at k
          cases k2 : (p :: r).mapM fun p => DataW.trod enc P w base spare held fuel p.2 ((cs.drop p.1).take (P.cellsOf p.2)) with
          | none => simp only [k2] at k; cases k
          | some ds =>
            simp only [k2] at k
            cases k
            obtain ⟨y, y1, y2, y3⟩ := ihA fuel a t _ _ h3 k1
            obtain ⟨z, z1, z2, z3⟩ := ihB fuel b (o + a.size) _ cs ds h4 k2 (by omega)
            refine ⟨(y, z), ⟨?_, ?_⟩, ⟨y2, z2⟩, ?_⟩
            · rw [h2] at y1; exact y1
            · rw [List.drop_drop]; exact z1
            · simp only [bk, List.map_cons, bulkAll]; omega

/-- A parameter's shape. -/
def slB (P : Program) (t : TypeId) : SSh → Bool
  | .one (.int k) => match P.underlying t with
    | some (.int k') => decide (k = k')
    | _ => false
  | .one .bool => match P.underlying t with
    | some .bool => true
    | _ => false
  | .one .str => match P.underlying t with
    | some .string => true
    | _ => false
  | .one (.sl e) => match P.underlying t with
    | some (.slice _) => tyB P 100 (.sl e) (.inl t)
    | _ => false
  | .row u => match P.underlying t with
    | some (.struct _) => tyB P 100 u (.inl t)
    | some (.array _ _) => tyB P 100 u (.inl t)
    | _ => false
  | _ => false

def WfS : (s : SSh) → s.Ty → Prop
  | .one (.int k), x => k.min ≤ x ∧ x ≤ k.max
  | .one .str, s => s.size ≤ maxLen
  | .one (.sl e), l => Wf (.sl e) l
  | .row u, x => Wf u x
  | _, _ => True

def bkS : (s : SSh) → s.Ty → Nat
  | .one (.int _), _ => 1
  | .one .bool, _ => 1
  | .one .str, s => s.size + 1
  | .one (.sl e), l => bk (.sl e) l
  | .row u, x => bk u x
  | _, _ => 0

def WfSs : (l : List SSh) → TyS l → Prop
  | [], _ => True
  | s :: r, x => WfS s x.1 ∧ WfSs r x.2

def bkSs : (l : List SSh) → TyS l → Nat
  | [], _ => 0
  | s :: r, x => bkS s x.1 + bkSs r x.2

def slAll (P : Program) : List TypeId → List SSh → Bool
  | [], [] => true
  | t :: ts, s :: ss => slB P t s && slAll P ts ss
  | _, _ => false

theorem one_of_okWide {t : TypeId} {v : Value} {r : Reach} (h : Value.okWide P w r base t v) (hn : ∀ fs, P.underlying t ≠ some (.struct fs)) (hm : ∀ n e, P.underlying t ≠ some (.array n e)) : ∃ c, v.cells.toList = [c] ∧ v = c := by
  have h' : Cell.okWide P w r base t v := by
    unfold Value.okWide at h
    split at h
    · rename_i e; exact absurd e (hn _)
    · rename_i e; exact absurd e (hm _ _)
    · exact h
  cases v with
  | agg cs =>
    exfalso
    unfold Cell.okWide at h'
    split at h' <;> try (rename_i e; cases e; done)
    unfold Cell.ok at h'
    split at h' <;> first | (rename_i e; cases e; done) | exact h'
  | _ => exact ⟨_, rfl, rfl⟩

theorem agg_of_okWide {t : TypeId} {v : Value} {r : Reach} (h : Value.okWide P w r base t v) (hn : (∃ fs, P.underlying t = some (.struct fs)) ∨ ∃ n e, P.underlying t = some (.array n e)) : ∃ cs, v = .agg cs := by
  unfold Value.okWide at h
  rcases hn with ⟨fs, e⟩ | ⟨n, el, e⟩ <;> rw [e] at h <;> exact ⟨_, h.choose_spec.1⟩

theorem slot_read {t : TypeId} {s : SSh} {v : Value} {d : DataW H} {ps : List MemPlace} {r : Reach} {b' : Nat} (hs : slB P t s = true) (ht : DataW.Trod enc P w base spare held t v d ps) (hv : Value.okWide P w r b' t v) (G : Gh) :
    ∃ x : s.Ty, SVR w.cell? G v (encS id s x) ∧ WfS s x ∧ bkS s x ≤ bulkW d := by
  obtain ⟨fuel, hf⟩ := ht
  match s, hs with
  | .one (.int k), hs =>
    simp only [slB] at hs
    split at hs
    · rename_i k' hu
      have := of_decide_eq_true hs
      subst this
      obtain ⟨x, x1, x2, x3⟩ := (reads (P := P) fuel 1).1 fuel (.int k) t _ _ (by simp [tyB, hu]) hf
      obtain ⟨c, c1, rfl⟩ := one_of_okWide hv (by rw [hu]; simp) (by rw [hu]; simp)
      rw [c1] at x1
      cases x1
      exact ⟨x, ⟨rfl, rfl⟩, x2, x3⟩
    · cases hs
  | .one .bool, hs =>
    simp only [slB] at hs
    split at hs
    · rename_i hu
      obtain ⟨x, x1, x2, x3⟩ := (reads (P := P) fuel 1).1 fuel .bool t _ _ (by simp [tyB, hu]) hf
      obtain ⟨c, c1, rfl⟩ := one_of_okWide hv (by rw [hu]; simp) (by rw [hu]; simp)
      rw [c1] at x1
      cases x1
      exact ⟨x, ⟨rfl, rfl⟩, trivial, x3⟩
    · cases hs
  | .one .str, hs =>
    simp only [slB] at hs
    split at hs
    · rename_i hu
      obtain ⟨x, x1, x2, x3⟩ := (reads (P := P) fuel 1).1 fuel .str t _ _ (by simp [tyB, hu]) hf
      obtain ⟨c, c1, rfl⟩ := one_of_okWide hv (by rw [hu]; simp) (by rw [hu]; simp)
      rw [c1] at x1
      cases x1
      exact ⟨x, ⟨rfl, rfl⟩, x2, x3⟩
    · cases hs
  | .one (.sl e), hs =>
    simp only [slB] at hs
    split at hs
    · rename_i hu
      obtain ⟨x, x1, x2, x3⟩ := (reads (P := P) fuel 100).1 fuel (.sl e) t _ _ hs hf
      obtain ⟨c, c1, rfl⟩ := one_of_okWide hv (by rw [hu]; simp) (by rw [hu]; simp)
      rw [c1] at x1
      exact ⟨x, x1, x2, x3⟩
    · cases hs
  | .row u, hs =>
    simp only [slB] at hs
    have go : tyB P 100 u (.inl t) = true → (∃ cs, v = .agg cs) → ∃ x : (SSh.row u).Ty, SVR w.cell? G v (encS id (.row u) x) ∧ WfS (.row u) x ∧ bkS (.row u) x ≤ bulkW d := by
      intro hs ⟨cs, e⟩
      subst e
      obtain ⟨x, x1, x2, x3⟩ := (reads (P := P) fuel 100).1 fuel u t _ _ hs hf
      exact ⟨x, ⟨cs, rfl, DV.cr G u _ _ x1⟩, x2, x3⟩
    split at hs
    · rename_i hu; exact go hs (agg_of_okWide hv (.inl ⟨_, hu⟩))
    · rename_i hu; exact go hs (agg_of_okWide hv (.inr ⟨_, _, hu⟩))
    · cases hs

theorem args_read (G : Gh) {r : Reach} {b' : Nat} : ∀ (ts : List TypeId) (ss : List SSh) (vs : List Value) (ds : List (DataW H)) (ps : List MemPlace), slAll P ts ss = true → DataW.TrodAll enc P w base spare held ts vs ds ps →
    (∀ (j : Nat) t v, ts[j]? = some t → vs[j]? = some v → Value.okWide P w r b' t v) → ∃ x : TyS ss, SVRs w.cell? G vs (encSs id ss x) ∧ WfSs ss x ∧ bkSs ss x ≤ bulkAll ds
  | [], [], [], [], _, _, _, _ => ⟨(), trivial, trivial, Nat.zero_le _⟩
  | t :: ts, s :: ss, v :: vs, d :: ds, ps, hs, ht, hv => by
    simp only [slAll, Bool.and_eq_true] at hs
    obtain ⟨p, q, h1, h2, rfl⟩ := ht
    obtain ⟨x, x1, x2, x3⟩ := slot_read hs.1 h1 (hv 0 t v rfl rfl) G
    obtain ⟨y, y1, y2, y3⟩ := args_read G ts ss vs ds q hs.2 h2 (fun j t v a b => hv (j + 1) t v (by simpa using a) (by simpa using b))
    exact ⟨(x, y), ⟨x1, y1⟩, ⟨x2, y2⟩, by simp only [bkSs, bulkAll]; omega⟩
  | [], [], _ :: _, _, _, _, ht, _ => by simp [DataW.TrodAll] at ht
  | [], [], [], _ :: _, _, _, ht, _ => by simp [DataW.TrodAll] at ht
  | _ :: _, _ :: _, [], _, _, _, ht, _ => by simp [DataW.TrodAll] at ht
  | _ :: _, _ :: _, _ :: _, [], _, _, ht, _ => by simp [DataW.TrodAll] at ht
  | [], _ :: _, _, _, _, hs, _, _ => by simp [slAll] at hs
  | _ :: _, [], _, _, _, hs, _, _ => by simp [slAll] at hs

theorem args_again {W W' : World} (hl : laidOutB P = true) (hb : RowKit.Below W.heap.size W W') : ∀ (ts : List TypeId) (vs : List Value) (ds : List (DataW H)) (ps : List MemPlace), (ts.all fun t => P.readableRec t && decide (t < P.types.size)) = true →
    DataW.TrodAll enc P W 0 (fun _ => true) true ts vs ds ps → DataW.TrodAll enc P W' 0 (fun b => decide (b < W.heap.size)) true ts vs ds ps
  | [], [], [], _, _, h => h
  | t :: ts, v :: vs, d :: ds, _, ha, ⟨p, q, h1, h2, e⟩ => by
    simp only [List.all_cons, Bool.and_eq_true, decide_eq_true_eq] at ha
    exact ⟨p, q, RowKit.Below.trod hl ha.1.1 ha.1.2 h1 hb (by obtain ⟨m, hm⟩ := h1; exact DataW.trod_lt m _ _ _ hm), args_again hl hb ts vs ds q ha.2 h2, e⟩
  | [], _ :: _, _, _, _, h => by simp [DataW.TrodAll] at h
  | [], [], _ :: _, _, _, h => by simp [DataW.TrodAll] at h
  | _ :: _, [], _, _, _, h => by simp [DataW.TrodAll] at h
  | _ :: _, _ :: _, [], _, _, h => by simp [DataW.TrodAll] at h

theorem trodAll_length {W : World} : ∀ (ts : List TypeId) (vs : List Value) (ds : List (DataW H)) (ps : List MemPlace), DataW.TrodAll enc P W base spare held ts vs ds ps → ds.length = ts.length
  | [], [], [], _, _ => rfl
  | _ :: ts, _ :: vs, _ :: ds, _, ⟨_, q, _, h2, _⟩ => by simp [trodAll_length ts vs ds q h2]
  | [], _ :: _, _, _, h => by simp [DataW.TrodAll] at h
  | [], [], _ :: _, _, h => by simp [DataW.TrodAll] at h
  | _ :: _, [], _, _, h => by simp [DataW.TrodAll] at h
  | _ :: _, _ :: _, [], _, h => by simp [DataW.TrodAll] at h

/-- A law's row: out of its function's contract, and of the plain law. -/
theorem row_calls {f : FuncId} {fn : Func} {c : Code} {ss : List SSh} {g : (Shape.mk ss []).Ty → Option (Shape.mk [.one .bool] []).Ty} (hc : Contract P f ⟨⟨ss, []⟩, ⟨[.one .bool], []⟩, g⟩) (hf : P.funcs[f]? = some fn) (hbody : fn.body = some c) (hname : (fn.name == "runtime.NumGoroutine") = false)
    (hl : laidOutB P = true) (hsl : slAll P fn.params.toList ss = true) (hrr : (fn.params.toList.all fun t => P.readableRec t && decide (t < P.types.size)) = true) {tb : TypeId} (hres : fn.resultTypes = #[tb]) (htb : P.underlying tb = some .bool)
    {s : ChangeSpec} (hvars : s.vars = []) (hs : ∀ (H : Type) (ds : List (DataW H)), ds.length = fn.params.toList.length → s.fn H ds = { results := [.lit (.bool true)], args := ds })
    (pure : ∀ x : TyS ss, WfSs ss x → bkSs ss x ≤ 1048576 → g (x, ()) = some ((true, ()), ()))
    (W : World) (hz : ∀ (b : Nat) (o : Array Value), Zone b = some o → HoldsB W b o) (b' : Nat) (args : Array Value) (ds gs : List (DataW H)) (before : List MemPlace) (hval : ∀ (j : Nat) t v, fn.params[j]? = some t → args[j]? = some v → Value.okWide P W .any b' t v)
    (hW : DataW.Whole enc P fn.params.toList s.vars false W args.toList ds gs before) (hk : bulkAll (ds ++ gs) ≤ 1048576) : Calls P f args W fun e W' => ∃ v, e = .returned v ∧ s.post enc P fn false true false false W args v W' := by
  have hW' := hW
  obtain ⟨p, q, hA, hV, rfl, hfz, hnd⟩ := hW
  rw [hvars] at hV
  obtain ⟨rfl, rfl⟩ := trodVars_none hV
  rw [List.append_nil] at hk
  obtain ⟨x, x1, x2, x3⟩ := args_read (fun _ => none) fn.params.toList ss args.toList ds p hsl hA (fun j t v h1 h2 => hval j t v (by simpa using h1) (by simpa using h2))
  have hI : Inv W W.cell? (fun _ => none) (encHs id 0 ([] : List HSh) ()) := ⟨fun _ _ h => h, fun k c h => by simp [encHs, hget] at h, fun k k' c c' b h => by simp [encHs, hget] at h, hz, fun k c b h => by simp [encHs, hget] at h⟩
  have hcall := hc.calls W W.cell? (fun _ => none) (x, ()) args hI x1 (fun _ _ => rfl) (fun j h => by simp at h) _ (pure x x2 (by omega))
  have hrun : (callFunc f args).run P W = .ok (.enter f args) W := by
    simp only [beq_eq_false_iff_ne, ne_eq] at hname
    simp [callFunc, hf, hbody, hname]
  rcases hcall with ⟨v, w', h1, _⟩ | ⟨_, h2⟩
  · rw [hrun] at h1; cases h1
  · refine h2.mono fun e W' he => ?_
    cases e with
    | returned v =>
      obtain ⟨M', G', hav, hinv, hst, _⟩ := he
      have bel : RowKit.Below W.heap.size W W' := ⟨hst.os, hst.tape, hst.output, hst.size, fun k hk => hst.keep k hk (fun k c h => by simp [encHs, hget] at h)⟩
      obtain ⟨rfl, _⟩ := hav
      refine ⟨_, rfl, ds, [], _, [], p, [], hW', ?_, ?_, ?_, bel.frame _, fun h => by cases h⟩
      · rw [List.append_nil, hs H ds (trodAll_length _ _ _ _ hA), hres]
        exact trodAll_mk1 (RowKit.shut_bool htb true)
      · rw [List.append_nil, hs H ds (trodAll_length _ _ _ _ hA)]
        exact args_again hl bel _ _ _ _ hrr hA
      · rw [hvars, List.append_nil, hs H ds (trodAll_length _ _ _ _ hA)]
        exact rfl
    | panicked _ => exact he.elim
    | outgrown => exact he.elim

end
end Go.AM
end

section
/-
AM: '==' of structs of numbers, bools and strings. No condition.
-/
namespace Go.AM
open Go
variable [Inhabited ZMem]

def flat1 (P : Program) (t : TypeId) : U → Bool
  | .int k => match P.underlying t with
    | some (.int k') => decide (k = k')
    | _ => false
  | .bool => match P.underlying t with
    | some .bool => true
    | _ => false
  | .str => match P.underlying t with
    | some .string => true
    | _ => false
  | _ => false

/-- Fields in a row, none blank, each of which may be compared. -/
def flatF (q : TypeId → U → Bool) : U → List Field → Nat → Bool
  | .cons a b, f :: g :: r, i => decide (f.offset = i) && (f.name != "_") && q f.type a && flatF q b (g :: r) (i + a.size)
  | u, [f], i => decide (f.offset = i) && (f.name != "_") && q f.type u
  | _, _, _ => false

/-- Values of one cell, or structs of these. -/
def eqT (P : Program) : Nat → TypeId → U → Bool
  | 0, t, u => flat1 P t u
  | n + 1, t, u => flat1 P t u || (match P.underlying t with
    | some (.struct fs) => !P.stoodInHeld t && decide (P.cellsOf t = u.size) && flatF (eqT P n) u fs.toList 0
    | _ => false)

section
variable {P : Program} {w : World} {M : Mem}

theorem eq_one {d : Nat} {t : TypeId} {u : U} (h : flat1 P t u = true) {xs ys : Array Value} {i : Nat} {a b : El u} (ha : DV M u ((xs.toList.drop i).take 1) a) (hb : DV M u ((ys.toList.drop i).take 1) b) :
    ∃ v v', (part t xs i).run P w = .ok v w ∧ (part t ys i).run P w = .ok v' w ∧ (Op.equalIn (d + 1) t v v').run P w = .ok (eqU u a b) w := by
  have get : ∀ (zs : Array Value) (v : Value), (zs.toList.drop i).take 1 = [v] → zs[i]? = some v := by
    intro zs v h
    have : ((zs.toList.drop i).take 1)[0]? = some v := by rw [h]; rfl
    simpa [List.getElem?_take, List.getElem?_drop] using this
  have key : P.plainKey t = true := by
    unfold Program.plainKey
    cases u <;> simp only [flat1] at h <;> (try cases h) <;> split at h <;> simp_all
  cases u with
  | int k =>
    simp only [flat1] at h
    split at h
    · rename_i k' hu
      have := of_decide_eq_true h
      subst this
      exact ⟨_, _, run_part_plain w key (get xs _ ha), run_part_plain w key (get ys _ hb), run_equalIn_int w d t _ _ _ _ hu⟩
    · cases h
  | bool =>
    simp only [flat1] at h
    split at h
    · rename_i hu
      exact ⟨_, _, run_part_plain w key (get xs _ ha), run_part_plain w key (get ys _ hb), run_equalIn_bool' w d t _ _ hu⟩
    · cases h
  | str =>
    simp only [flat1] at h
    split at h
    · rename_i hu
      exact ⟨_, _, run_part_plain w key (get xs _ ha), run_part_plain w key (get ys _ hb), run_equalIn_string w d t _ _ hu⟩
    · cases h
  | _ => cases h

theorem flat1_size {t : TypeId} {u : U} (h : flat1 P t u = true) : u.size = 1 := by
  cases u <;> simp [flat1] at h <;> rfl

/-- Parts of two rows that may be compared. -/
def EqQ (P : Program) (w : World) (M : Mem) (D : Nat) (t : TypeId) (u : U) : Prop := ∀ (xs ys : Array Value) (i : Nat) (a b : El u), DV M u ((xs.toList.drop i).take u.size) a → DV M u ((ys.toList.drop i).take u.size) b →
    ∃ v v', (part t xs i).run P w = .ok v w ∧ (part t ys i).run P w = .ok v' w ∧ (Op.equalIn D t v v').run P w = .ok (eqU u a b) w

theorem eq_fields {D : Nat} {q : TypeId → U → Bool} (Q : ∀ t u, q t u = true → EqQ P w M D t u) {xs ys : Array Value} : ∀ (u : U) (fs : List Field) (i : Nat) (a b : El u), flatF q u fs i = true → DV M u (xs.toList.drop i) a → DV M u (ys.toList.drop i) b →
    (Op.eqFields D xs ys fs).run P w = .ok (eqU u a b) w := by
  have one : ∀ (u : U) (f : Field) (i : Nat) (a b : El u), (decide (f.offset = i) && (f.name != "_") && q f.type u) = true → DV M u (xs.toList.drop i) a → DV M u (ys.toList.drop i) b → (Op.eqFields D xs ys [f]).run P w = .ok (eqU u a b) w := by
    intro u f i a b h ha hb
    simp only [Bool.and_eq_true, decide_eq_true_eq] at h
    obtain ⟨⟨rfl, h2⟩, h3⟩ := h
    have la := DV.len _ _ _ ha
    have lb := DV.len _ _ _ hb
    obtain ⟨v, v', p1, p2, p3⟩ := Q _ _ h3 xs ys f.offset a b (by rw [List.take_of_length_le (by omega)]; exact ha) (by rw [List.take_of_length_le (by omega)]; exact hb)
    have hn : f.name ≠ "_" := by simpa using h2
    simp only [Op.eqFields, if_pos hn, Sem.run_bind, p1, p2, p3, Result.andThen_ok]
    cases eqU u a b <;> simp
  intro u
  induction u with
  | cons u1 u2 ih1 ih2 =>
    intro fs i a b h ha hb
    match fs, h with
    | [f], h => exact one _ f i a b h ha hb
    | f :: g :: r, h =>
      simp only [flatF, Bool.and_eq_true, decide_eq_true_eq] at h
      obtain ⟨⟨⟨rfl, h2⟩, h3⟩, h4⟩ := h
      have ha1 := ha.1
      have hb1 := hb.1
      have ha2 := ha.2
      have hb2 := hb.2
      rw [List.drop_drop] at ha2 hb2
      obtain ⟨v, v', p1, p2, p3⟩ := Q _ _ h3 xs ys _ _ _ ha1 hb1
      have hn : f.name ≠ "_" := by simpa using h2
      have hr := ih2 (g :: r) (f.offset + u1.size) a.2 b.2 h4 ha2 hb2
      rw [Op.eqFields]
      simp only [if_pos hn, Sem.run_bind, p1, p2, p3, Result.andThen_ok, eqU]
      cases eqU u1 a.1 b.1
      · simp
      · simpa using hr
  | _ =>
    intro fs i a b h ha hb
    match fs, h with
    | [f], h => exact one _ f i a b h ha hb
    | [], h => simp [flatF] at h
    | _ :: _ :: _, h => simp [flatF] at h

theorem eq_flat1 {d : Nat} {t : TypeId} {u : U} (h : flat1 P t u = true) : EqQ P w M (d + 1) t u := by
  intro xs ys i a b ha hb
  have hs := flat1_size h
  rw [hs] at ha hb
  exact eq_one h ha hb

theorem cells_info {t : TypeId} {n : Nat} (h : P.cellsOf t = n) (hn : 0 < n) : ∃ i, P.info? t = some i := by
  cases hi : P.info? t with
  | none => simp [Program.cellsOf, hi] at h; omega
  | some i => exact ⟨i, rfl⟩

theorem flatF_pos {q : TypeId → U → Bool} (hq : ∀ t u, q t u = true → 0 < u.size) : ∀ (u : U) (fs : List Field) (i : Nat), flatF q u fs i = true → 0 < u.size
  | .cons a b, f :: g :: r, i, h => by
    simp only [flatF, Bool.and_eq_true] at h
    have := hq _ _ h.1.2
    simp only [U.size]; omega
  | .cons a b, [f], i, h => by simp only [flatF, Bool.and_eq_true] at h; exact hq _ _ h.2
  | .int _, [f], i, h => by simp only [flatF, Bool.and_eq_true] at h; exact hq _ _ h.2
  | .bool, [f], i, h => by simp only [flatF, Bool.and_eq_true] at h; exact hq _ _ h.2
  | .str, [f], i, h => by simp only [flatF, Bool.and_eq_true] at h; exact hq _ _ h.2
  | .sl _, [f], i, h => by simp only [flatF, Bool.and_eq_true] at h; exact hq _ _ h.2
  | .nil, [f], i, h => by simp only [flatF, Bool.and_eq_true] at h; exact hq _ _ h.2
  | .any, [f], i, h => by simp only [flatF, Bool.and_eq_true] at h; exact hq _ _ h.2

theorem eqT_pos : ∀ (n : Nat) (t : TypeId) (u : U), eqT P n t u = true → 0 < u.size
  | 0, t, u, h => by have := flat1_size (P := P) (t := t) h; omega
  | n + 1, t, u, h => by
    unfold eqT at h
    rw [Bool.or_eq_true] at h
    rcases h with h | h
    · have := flat1_size h; omega
    · split at h
      · simp only [Bool.and_eq_true] at h
        exact flatF_pos (eqT_pos n) _ _ _ h.2
      · cases h

theorem eq_val {d : Nat} : ∀ (n : Nat) (t : TypeId) (u : U), eqT P n t u = true → EqQ P w M (d + n + 1) t u
  | 0, t, u, h => eq_flat1 h
  | n + 1, t, u, h => by
    have hpos := eqT_pos _ _ _ h
    unfold eqT at h
    rw [Bool.or_eq_true] at h
    rcases h with h | h
    · exact eq_flat1 h
    · split at h
      · rename_i fs hu
        simp only [Bool.and_eq_true, decide_eq_true_eq, Bool.not_eq_true'] at h
        obtain ⟨⟨h1, h2⟩, h3⟩ := h
        obtain ⟨inf, hi⟩ := cells_info h2 hpos
        intro xs ys i a b ha hb
        have hp : ∀ zs : Array Value, (part t zs i).run P w = .ok (.agg (zs.extract i (i + u.size))) w := fun zs => by
          simp [part, isAgg, run_underlying hu, run_sizeOf w hi, h2]
        have he : ∀ zs : Array Value, (zs.extract i (i + u.size)).toList.drop 0 = (zs.toList.drop i).take u.size := fun zs => by
          rw [List.drop_zero, Array.toList_extract, List.extract_eq_take_drop]
          congr 1
          omega
        refine ⟨_, _, hp xs, hp ys, ?_⟩
        have hfs : P.fieldsOf t = fs := by simp [Program.fieldsOf, hu]
        rw [run_equalIn_struct (P := P) w (d + (n + 1)) t _ _ (by rw [hfs]; exact hu) h1, hfs]
        exact eq_fields (fun t' u' h' => eq_val n t' u' h') u fs.toList 0 a b h3 (by rw [he]; exact ha) (by rw [he]; exact hb)
      · cases h

/-- The form for a type's row. -/
theorem eq_ok {t : TypeId} {fs : Array Field} {d : TD} {u0 : U} (hd : d.u = some u0) (hu : P.underlying t = some (.struct fs)) (hp : P.stoodInHeld t = false) (hg : P.eqGuardType P.depth t = false) (hf : flatF (eqT P 3) u0 fs.toList 0 = true) :
    d.eqok = true → ∀ (u : U), d.u = some u → ∀ (w : World) (M : Mem) (x y : Array Value) (a b : El u), DV M u x.toList a → DV M u y.toList b →
      P.eqGuardType P.depth t = false ∧ (Op.equal t (.agg x) (.agg y)).run P w = .ok (eqU u a b) w := by
  intro _ u hu' w M x y a b ha hb
  rw [hd] at hu'
  cases hu'
  refine ⟨hg, ?_⟩
  have hfs : P.fieldsOf t = fs := by simp [Program.fieldsOf, hu]
  show (Op.equalIn (9999 + 1) t (.agg x) (.agg y)).run P w = _
  rw [run_equalIn_struct (P := P) w 9999 t x y (by rw [hfs]; exact hu) hp, hfs]
  exact eq_fields (fun t' u' h' => eq_val (d := 9995) 3 t' u' h') u0 fs.toList 0 a b hf (by simpa using ha) (by simpa using hb)

end

/-- Rows without slices are equal or not. -/
def noSl : U → Bool
  | .sl _ => false
  | .any => false
  | .cons a b => noSl a && noSl b
  | _ => true

theorem bytes_ext {a b : ByteArray} : a.toList = b.toList ↔ a = b := by
  rw [ByteArray.toList_eq, ByteArray.toList_eq]
  constructor
  · intro h
    obtain ⟨⟨x⟩⟩ := a
    obtain ⟨⟨y⟩⟩ := b
    simp at h
    rw [h]
  · intro h; rw [h]

theorem eqU_iff : ∀ (u : U), noSl u = true → ∀ (x y : El u), eqU u x y = true ↔ x = y
  | .int _, _, x, y => by simp [eqU]
  | .bool, _, x, y => by simp [eqU]
  | .str, _, x, y => by simp only [eqU, beq_iff_eq]; exact bytes_ext
  | .nil, _, x, y => by simp [eqU]
  | .any, h, x, y => by simp [noSl] at h
  | .cons a b, h, x, y => by
    simp only [noSl, Bool.and_eq_true] at h
    simp only [eqU, Bool.and_eq_true, eqU_iff a h.1, eqU_iff b h.2]
    exact ⟨fun ⟨h1, h2⟩ => Prod.ext h1 h2, fun h => by rw [h]; exact ⟨rfl, rfl⟩⟩

end Go.AM
end

section
/-
AM: functions without fuel: what the rounds come to, by its equations; its contract. No condition.
-/
namespace Go.AM
open Go
variable [Inhabited ZMem]

section
variable {R : Type}

theorem least {p : Nat → Prop} (h : ∃ k, p k) : ∃ k, p k ∧ ∀ j, j < k → ¬ p j := by
  obtain ⟨k, hk⟩ := h
  induction k using Nat.strongRecOn with
  | _ k ih =>
    by_cases e : ∃ j, j < k ∧ p j
    · obtain ⟨j, h1, h2⟩ := e
      exact ih j h1 h2
    · exact ⟨k, hk, fun j hj hp => e ⟨j, hj, hp⟩⟩

open Classical in
/-- What comes of a row of tries: that of the first one that comes to something. -/
noncomputable def lim (h : Nat → Option R) : Option R :=
  if e : ∃ k, (h k).isSome = true then h (Classical.choose (least e)) else none

theorem lim_some {h : Nat → Option R} {r : R} : lim h = some r ↔ ∃ k, h k = some r ∧ ∀ j, j < k → h j = none := by
  unfold lim
  constructor
  · intro e
    split at e
    · rename_i q
      have hs := Classical.choose_spec (least q)
      refine ⟨_, e, fun j hj => ?_⟩
      have := hs.2 j hj
      cases hj' : h j with
      | none => rfl
      | some x => rw [hj'] at this; exact absurd rfl this
    · cases e
  · intro ⟨k, hk, hn⟩
    have q : ∃ k, (h k).isSome = true := ⟨k, by rw [hk]; rfl⟩
    rw [dif_pos q]
    have hs := Classical.choose_spec (least q)
    have : Classical.choose (least q) = k := by
      rcases Nat.lt_trichotomy (Classical.choose (least q)) k with h1 | h1 | h1
      · have := hs.1
        rw [hn _ h1] at this
        cases this
      · exact h1
      · exact absurd (by rw [hk]; rfl) (hs.2 k h1)
    rw [this]
    exact hk

theorem lim_eq {h : Nat → Option R} {o : Option R} (e : ∀ r, lim h = some r ↔ o = some r) : lim h = o := by
  cases ho : o with
  | some r => exact (e r).2 ho
  | none =>
    cases hl : lim h with
    | none => rfl
    | some r => rw [ho] at e; exact absurd ((e r).1 hl) (by simp)

theorem lim_const (o : Option R) : lim (fun _ => o) = o :=
  lim_eq fun r => by
    rw [lim_some]
    exact ⟨fun ⟨_, h, _⟩ => h, fun h => ⟨0, h, fun j hj => by omega⟩⟩

theorem lim_bind {A : Type} (o : Option A) (h : Nat → A → Option R) : lim (fun k => o.bind (h k)) = o.bind fun a => lim fun k => h k a := by
  cases o with
  | none => exact lim_const none
  | some a => rfl

theorem lim_succ {h : Nat → Option R} (h0 : h 0 = none) : lim (fun k => h (k + 1)) = lim h :=
  lim_eq fun r => by
    rw [lim_some, lim_some]
    constructor
    · intro ⟨k, h1, h2⟩
      refine ⟨k + 1, h1, fun j hj => ?_⟩
      cases j with
      | zero => exact h0
      | succ j => exact h2 j (by omega)
    · intro ⟨k, h1, h2⟩
      cases k with
      | zero => rw [h0] at h1; cases h1
      | succ k => exact ⟨k, h1, fun j hj => h2 (j + 1) (by omega)⟩

noncomputable def limK (K : Nat → Kont R) : Kont R := ⟨fun st => lim fun k => (K k).norm st, fun i st => lim fun k => (K k).exit i st, fun st => lim fun k => (K k).ret st⟩

variable {T : TT} {C : CT}

theorem regK_lim (all : List Oper) (draw : Bool) (b : List Nat) (h : Nat → St → Option R) : ∀ (l : List (Nat × Nat × Oper)) (fps : List (Nat × List Nat × List Nat)) (st : St),
    regK T C all draw b l fps st (fun st => lim fun k => h k st) = lim fun k => regK T C all draw b l fps st (h k)
  | [], fps, st => rfl
  | (i, base, o) :: l, fps, st => by
    have go : ∀ st1 : St, (act T C o base (ev st1) st.heap fun v u =>
        if (!draw || (okFp b i (rkeys o (ev st1) st.heap) (u.map (·.1)) fps && rok o (ev st1) st.heap)) = true then
          regK T C all draw b l ((i, rkeys o (ev st1) st.heap, u.map (·.1)) :: fps) ⟨put st1.slots o.dst v, u ++ st.heap, st.hn⟩ (fun st => lim fun k => h k st)
        else none) = lim fun k => act T C o base (ev st1) st.heap fun v u =>
        if (!draw || (okFp b i (rkeys o (ev st1) st.heap) (u.map (·.1)) fps && rok o (ev st1) st.heap)) = true then
          regK T C all draw b l ((i, rkeys o (ev st1) st.heap, u.map (·.1)) :: fps) ⟨put st1.slots o.dst v, u ++ st.heap, st.hn⟩ (h k)
        else none := by
      intro st1
      rw [act_nat]
      rw [show (fun k => act T C o base (ev st1) st.heap fun v u =>
          if (!draw || (okFp b i (rkeys o (ev st1) st.heap) (u.map (·.1)) fps && rok o (ev st1) st.heap)) = true then
            regK T C all draw b l ((i, rkeys o (ev st1) st.heap, u.map (·.1)) :: fps) ⟨put st1.slots o.dst v, u ++ st.heap, st.hn⟩ (h k)
          else none) = fun k => (act T C o base (ev st1) st.heap fun v u => some (v, u)).bind fun p =>
            if (!draw || (okFp b i (rkeys o (ev st1) st.heap) (p.2.map (·.1)) fps && rok o (ev st1) st.heap)) = true then
              regK T C all draw b l ((i, rkeys o (ev st1) st.heap, p.2.map (·.1)) :: fps) ⟨put st1.slots o.dst p.1, p.2 ++ st.heap, st.hn⟩ (h k)
            else none from funext fun k => act_nat]
      rw [lim_bind]
      congr 1
      funext p
      split
      · exact regK_lim all draw b h l _ _
      · exact (lim_const none).symm
    simp only [regK]
    split
    · exact go st
    · split
      · exact regK_lim all draw b h l _ _
      · split
        · exact go _
        · exact regK_lim all draw b h l _ _
      · exact (lim_const none).symm
    · split
      · exact regK_lim all draw b h l _ _
      · split
        · exact regK_lim all draw b h l _ _
        · exact go _
      · exact (lim_const none).symm

theorem region_lim (ops : List Oper) (draw : Bool) (h : Nat → St → Option R) (st : St) : region T C ops draw st (fun st => lim fun k => h k st) = lim fun k => region T C ops draw st (h k) := by
  simp only [region]
  generalize (if draw = true then (Region.before ops.toArray).toList else []) = b
  split
  · exact regK_lim _ _ _ (fun k st' => h k ⟨st'.slots, st'.heap, st.hn + widths ops⟩) _ _ _
  · exact (lim_const none).symm

theorem codeK_lim (J : Nat → Nat → St → Option R) : ∀ (c : ACode) (st : St) (K : Nat → Kont R),
    codeK T C (fun l st => lim fun k => J k l st) c st (limK K) = lim fun k => codeK T C (J k) c st (K k) := by
  intro c
  induction c with
  | skip => intro st K; rfl
  | region ops d => intro st K; exact region_lim ops d (fun k => (K k).norm) st
  | seq a b iha ihb =>
    intro st K
    simp only [codeK]
    rw [← iha st fun k => { K k with norm := fun st => codeK T C (J k) b st (K k) }]
    congr 1
    simp only [limK, Kont.mk.injEq, and_self, and_true]
    funext st'
    exact ihb st' K
  | seqJ l a b iha ihb =>
    intro st K
    simp only [codeK]
    exact iha st fun k => { K k with norm := J k l }
  | cond c a b iha ihb =>
    intro st K
    simp only [codeK]
    split
    · split
      · exact iha _ K
      · exact ihb _ K
    · exact (lim_const none).symm
  | block id c ih =>
    intro st K
    simp only [codeK]
    rw [← ih st fun k => { K k with exit := fun i st => if i = id then (K k).norm st else (K k).exit i st }]
    congr 1
    simp only [limK, Kont.mk.injEq, true_and, and_true]
    funext i st'
    split <;> rfl
  | loop l c ih => intro st K; rfl
  | scope c ih => intro st K; exact ih st K
  | exit id => intro st K; rfl
  | ret => intro st K; rfl
  | bad => intro st K; exact (lim_const none).symm

theorem locate_lim (J : Nat → Nat → St → Option R) (l : Nat) : ∀ (c : ACode) (K : Nat → Kont R), ∃ o : Option (ACode × (Nat → Kont R)),
    (∀ k, locate T C (J k) l c (K k) = o.map fun p => (p.1, p.2 k)) ∧ locate T C (fun l st => lim fun k => J k l st) l c (limK K) = o.map fun p => (p.1, limK p.2) := by
  intro c
  induction c with
  | seq a b iha ihb =>
    intro K
    obtain ⟨o1, h1, h2⟩ := iha fun k => { K k with norm := fun st => codeK T C (J k) b st (K k) }
    have e : limK (fun k => { K k with norm := fun st => codeK T C (J k) b st (K k) }) = { limK K with norm := fun st => codeK T C (fun l st => lim fun k => J k l st) b st (limK K) } := by
      simp only [limK, Kont.mk.injEq, and_self, and_true]
      funext st
      exact (codeK_lim J b st K).symm
    rw [e] at h2
    cases o1 with
    | some p =>
      refine ⟨some p, fun k => ?_, ?_⟩
      · simp only [locate, h1 k, Option.map_some]
      · simp only [locate, h2, Option.map_some]
    | none =>
      obtain ⟨o2, h3, h4⟩ := ihb K
      refine ⟨o2, fun k => ?_, ?_⟩
      · simp only [locate, h1 k, Option.map_none]; exact h3 k
      · simp only [locate, h2, Option.map_none]; exact h4
  | seqJ m a b iha ihb =>
    intro K
    by_cases e : m = l
    · exact ⟨some (b, K), fun k => by simp only [locate, if_pos e, Option.map_some], by simp only [locate, if_pos e, Option.map_some]⟩
    · obtain ⟨o1, h1, h2⟩ := iha fun k => { K k with norm := J k m }
      cases o1 with
      | some p =>
        refine ⟨some p, fun k => ?_, ?_⟩
        · simp only [locate, if_neg e, h1 k, Option.map_some]
        · have := h2
          simp only [limK] at this ⊢
          simp only [locate, if_neg e, this, Option.map_some]
      | none =>
        obtain ⟨o2, h3, h4⟩ := ihb K
        refine ⟨o2, fun k => ?_, ?_⟩
        · simp only [locate, if_neg e, h1 k, Option.map_none]; exact h3 k
        · have := h2
          simp only [limK] at this h4 ⊢
          simp only [locate, if_neg e, this, Option.map_none]; exact h4
  | cond c a b iha ihb =>
    intro K
    obtain ⟨o1, h1, h2⟩ := iha K
    cases o1 with
    | some p => exact ⟨some p, fun k => by simp only [locate, h1 k, Option.map_some], by simp only [locate, h2, Option.map_some]⟩
    | none =>
      obtain ⟨o2, h3, h4⟩ := ihb K
      exact ⟨o2, fun k => by simp only [locate, h1 k, Option.map_none]; exact h3 k, by simp only [locate, h2, Option.map_none]; exact h4⟩
  | block id c ih =>
    intro K
    obtain ⟨o, h1, h2⟩ := ih fun k => { K k with exit := fun i st => if i = id then (K k).norm st else (K k).exit i st }
    refine ⟨o, fun k => by simp only [locate]; exact h1 k, ?_⟩
    simp only [locate]
    rw [← h2]
    congr 1
    simp only [limK, Kont.mk.injEq, true_and, and_true]
    funext i st'
    split <;> rfl
  | loop m c ih =>
    intro K
    by_cases e : m = l
    · exact ⟨some (c, fun k => { K k with norm := J k m }), fun k => by simp only [locate, if_pos e, Option.map_some], by simp only [locate, if_pos e, Option.map_some, limK]⟩
    · obtain ⟨o, h1, h2⟩ := ih fun k => { K k with norm := J k m }
      exact ⟨o, fun k => by simp only [locate, if_neg e]; exact h1 k, by simp only [locate, if_neg e]; exact h2⟩
  | scope c ih =>
    intro K
    obtain ⟨o, h1, h2⟩ := ih K
    exact ⟨o, fun k => by simp only [locate]; exact h1 k, by simp only [locate]; exact h2⟩
  | _ => intro K; exact ⟨none, fun k => rfl, rfl⟩

theorem labK_lim (js : List Nat) (J : Nat → Nat → St → Option R) (body : Code) (res : List ResultVar) (m : Nat) (sr : Shape) (fin : sr.Ty → Option R) (l : Nat) (F : FSh) (x : F.sh.Ty) :
    labK T C js (fun l st => lim fun k => J k l st) body res m sr fin l F x = lim fun k => labK T C js (J k) body res m sr fin l F x := by
  let K0 : Kont R := ⟨retK T m res sr fin, fun _ _ => none, retK T m res sr fin⟩
  have e : limK (fun _ => K0) = K0 := by simp only [limK, lim_const]
  obtain ⟨o, h1, h2⟩ := locate_lim (T := T) (C := C) J l (ann js body 0).1 (fun _ => K0)
  rw [e] at h2
  simp only [labK]
  rw [show locate T C (fun l st => lim fun k => J k l st) l (ann js body 0).1 ⟨retK T m res sr fin, fun _ _ => none, retK T m res sr fin⟩ = _ from h2]
  have h3 : ∀ k, locate T C (J k) l (ann js body 0).1 ⟨retK T m res sr fin, fun _ _ => none, retK T m res sr fin⟩ = o.map fun p => (p.1, p.2 k) := h1
  simp only [h3]
  cases o with
  | none => exact (lim_const none).symm
  | some p => exact codeK_lim J p.1 (encFr F x) p.2

theorem funK_lim (js : List Nat) (J : Nat → Nat → St → Option R) (body : Code) (res : List ResultVar) (sa sr : Shape) (x : sa.Ty) (fin : sr.Ty → Option R) :
    funK T C js (fun l st => lim fun k => J k l st) body res sa sr x fin = lim fun k => funK T C js (J k) body res sa sr x fin := by
  let K0 : Kont R := ⟨retK T sa.heap.length res sr fin, fun _ _ => none, retK T sa.heap.length res sr fin⟩
  have e : limK (fun _ => K0) = K0 := by simp only [limK, lim_const]
  have := codeK_lim (T := T) (C := C) J (ann js body 0).1 (start sa x) (fun _ => K0)
  rw [e] at this
  exact this

def atL (m : Nat) (l : Nat) (st : St) : List (Nat × FSh) → ((l : Nat) → (F : FSh) → F.sh.Ty → Option R) → Option R
  | [], _ => none
  | p :: r, j => if p.1 = l then atFr m p.2 st (j p.1 p.2) else atL m l st r j

theorem atL_lim (m l : Nat) (st : St) (j : Nat → (l : Nat) → (F : FSh) → F.sh.Ty → Option R) : ∀ ls : List (Nat × FSh), (atL m l st ls fun l F x => lim fun k => j k l F x) = lim fun k => atL m l st ls (j k)
  | [] => (lim_const none).symm
  | p :: r => by
    simp only [atL]
    split
    · simp only [atFr]
      split
      · rfl
      · exact (lim_const none).symm
    · exact atL_lim m l st j r

end

/-- A function's data: the tables, its text, its shapes, its labels' shapes. -/
structure FD where
  T : TT
  C : CT
  js : List Nat
  body : Code
  res : List ResultVar
  sa : Shape
  sr : Shape
  ls : List (Nat × FSh)

namespace FD
variable (D : FD)

def lk : Nat → (l : Nat) → (F : FSh) → F.sh.Ty → Option D.sr.Ty
  | 0, _, _, _ => none
  | k + 1, l, F, x => labK D.T D.C D.js (fun l' st => atL D.sa.heap.length l' st D.ls (lk k)) D.body D.res D.sa.heap.length D.sr some l F x

/-- What comes of a state at a label. -/
noncomputable def lab (l : Nat) (F : FSh) (x : F.sh.Ty) : Option D.sr.Ty := lim fun k => D.lk k l F x

theorem lab_eq (l : Nat) (F : FSh) (x : F.sh.Ty) : D.lab l F x = labK D.T D.C D.js (fun l' st => atL D.sa.heap.length l' st D.ls D.lab) D.body D.res D.sa.heap.length D.sr some l F x := by
  have e : (fun l' st => atL D.sa.heap.length l' st D.ls D.lab) = fun l' st => lim fun k => atL D.sa.heap.length l' st D.ls (D.lk k) := by
    funext l' st
    exact atL_lim _ _ _ (fun k => D.lk k) _
  rw [e, labK_lim]
  unfold lab
  rw [← lim_succ (h := fun k => D.lk k l F x) rfl]
  rfl

noncomputable def fn (x : D.sa.Ty) : Option D.sr.Ty := lim fun k => funK D.T D.C D.js (fun l' st => atL D.sa.heap.length l' st D.ls (D.lk k)) D.body D.res D.sa D.sr x some

theorem fn_eq (x : D.sa.Ty) : D.fn x = funK D.T D.C D.js (fun l' st => atL D.sa.heap.length l' st D.ls D.lab) D.body D.res D.sa D.sr x some := by
  have e : (fun l' st => atL D.sa.heap.length l' st D.ls D.lab) = fun l' st => lim fun k => atL D.sa.heap.length l' st D.ls (D.lk k) := by
    funext l' st
    exact atL_lim _ _ _ (fun k => D.lk k) _
  rw [e, funK_lim]
  rfl

def labs' : List (Lab D.sr.Ty) := D.ls.map fun p => ⟨p.1, p.2, fun k x => D.lk k p.1 p.2 x⟩

theorem JJ_atL (m k l : Nat) (st : St) : ∀ ls : List (Nat × FSh), JJ m (ls.map fun p => (⟨p.1, p.2, fun k x => D.lk k p.1 p.2 x⟩ : Lab D.sr.Ty)) k l st = atL m l st ls (D.lk k)
  | [] => rfl
  | p :: r => by
    simp only [JJ, List.map_cons, labAt, atL]
    split
    · rfl
    · exact JJ_atL m k l st r

theorem contract {P : Program} (hT : TOK P D.T) (hC : COK P D.C) (hm : P.follows .mixedOrders = true) {f : Nat} {fn' : Func} (h1 : P.funcs[f]? = some fn') (h2 : fn'.body = some D.body) (h2' : fn'.results.toList = D.res)
    (h3 : (!(fn'.name == "runtime.NumGoroutine") && dstC fn'.ntmps D.body && nodupB (labs (ann D.js D.body 0).1) && decide (D.sa.slots.length ≤ fn'.ntmps) && decide (D.sa.heap.length ≤ D.sr.heap.length)) = true)
    {F : D.sa.Ty → Option D.sr.Ty} (hF : ∀ x, D.fn x = F x) : Contract P f ⟨D.sa, D.sr, F⟩ := by
  obtain rfl : D.fn = F := funext hF
  simp only [Bool.and_eq_true, decide_eq_true_eq, Bool.not_eq_true'] at h3
  have ok : FnOk P D.T D.C f fn' D.body D.js D.sa D.sr D.labs' (fun k x => funK D.T D.C D.js (JJ D.sa.heap.length D.labs' k) D.body D.res D.sa D.sr x some) := by
    refine ⟨h1, h2, h3.1.1.1.1, h3.1.1.1.2, nodup_of h3.1.1.2, h3.1.2, h3.2, fun b hb x => ?_, fun b hb k x => ?_, fun k x => by rw [h2']⟩
    · obtain ⟨p, _, rfl⟩ := List.mem_map.1 hb
      rfl
    · obtain ⟨p, _, rfl⟩ := List.mem_map.1 hb
      rw [h2']
      show labK D.T D.C D.js (JJ D.sa.heap.length D.labs' k) D.body D.res D.sa.heap.length D.sr some p.1 p.2 x = D.lk (k + 1) p.1 p.2 x
      rw [show JJ D.sa.heap.length D.labs' k = fun l' st => atL D.sa.heap.length l' st D.ls (D.lk k) from funext fun l => funext fun st => D.JJ_atL _ _ _ _ _]
      rfl
  refine ⟨h3.2, fun w M G x vals hI hv hg h0 y hy => ?_⟩
  obtain ⟨k, hk, _⟩ := lim_some.1 hy
  refine (fun_contract hT hC hm ok (fun _ => k)).calls w M G x vals hI hv hg h0 y ?_
  show funK D.T D.C D.js (JJ D.sa.heap.length D.labs' k) D.body D.res D.sa D.sr x some = some y
  rw [show JJ D.sa.heap.length D.labs' k = fun l' st => atL D.sa.heap.length l' st D.ls (D.lk k) from funext fun l => funext fun st => D.JJ_atL _ _ _ _ _]
  exact hk

end FD
end Go.AM
end

section
/-
AM: small laws for the plain functions: bytes, numbers that fit, lists. No condition.
-/
namespace Go.AM
open Go

/-- A string's bytes. -/
def L (s : ByteArray) : List UInt8 := s.data.toList

theorem L_len (s : ByteArray) : (L s).length = s.size := Array.length_toList
theorem L_strB (l : List UInt8) : L (strB l) = l := rfl
theorem strB_size (l : List UInt8) : (strB l).size = l.length := rfl
theorem L_app (a b : ByteArray) : L (a ++ b) = L a ++ L b := by simp [L]
theorem L_inj {a b : ByteArray} (h : L a = L b) : a = b := by
  obtain ⟨⟨x⟩⟩ := a
  obtain ⟨⟨y⟩⟩ := b
  simp [L] at h
  rw [h]
theorem L_iff {a b : ByteArray} : a = b ↔ L a = L b := ⟨fun h => by rw [h], L_inj⟩
theorem L_ext (s : ByteArray) (a b : Nat) : L (s.extract a b) = ((L s).take b).drop a := by
  unfold L
  rw [ByteArray.data_extract, Array.toList_extract, List.extract_eq_take_drop, List.drop_take]
theorem L_ext' (s : ByteArray) (a : Nat) : L (s.extract a s.size) = (L s).drop a := by
  rw [L_ext, List.take_of_length_le (by rw [L_len]; exact Nat.le_refl _)]
theorem toL (s : ByteArray) : s.toList = L s := ByteArray.toList_eq s
theorem size_app (a b : ByteArray) : (a ++ b).size = a.size + b.size := by
  rw [← L_len, ← L_len, ← L_len, L_app, List.length_append]
theorem strB_L (s : ByteArray) : strB (L s) = s := rfl
theorem size_ext (s : ByteArray) (a b : Nat) (h : b ≤ s.size) : (s.extract a b).size = b - a := by
  rw [← L_len, L_ext, List.length_drop, List.length_take, L_len]
  omega

theorem size_drop (s : ByteArray) (a : Nat) : (s.extract a s.size).size = s.size - a := by
  rw [← L_len, L_ext', List.length_drop, L_len]
theorem size_take (s : ByteArray) (b : Nat) (h : b ≤ s.size) : (s.extract 0 b).size = b := by
  rw [size_ext s 0 b h]; omega
theorem L_take (s : ByteArray) (b : Nat) : L (s.extract 0 b) = (L s).take b := by rw [L_ext]; rfl
theorem size_of {s : ByteArray} {l : List UInt8} (h : L s = l) : s.size = l.length := by rw [← h, L_len]
theorem cond_not_nil {s : ByteArray} {c : UInt8} {r : List UInt8} (h : L s = c :: r) : (!(s.toList == (strB []).toList)) = true := by
  rw [toL, toL, h, L_strB]; rfl
theorem cond_nil {s : ByteArray} (h : L s = []) : ¬ (!(s.toList == (strB []).toList)) = true := by
  rw [toL, toL, h, L_strB]; simp
theorem is_nil {s : ByteArray} (h : L s = []) : (s.toList == (strB []).toList) = true := by
  rw [toL, toL, h, L_strB]; rfl
theorem not_nil {s : ByteArray} {c : UInt8} {r : List UInt8} (h : L s = c :: r) : ¬ (s.toList == (strB []).toList) = true := by
  rw [toL, toL, h, L_strB]; simp

theorem bt_get (s : ByteArray) (n : Nat) (h : n < (L s).length) : bt s n = ((L s)[n].toNat : Int) := by
  show (((L s).getD (n : Int).toNat 0).toNat : Int) = _
  simp [List.getD, List.getElem?_eq_getElem h]
theorem bt_get' (s : ByteArray) (i : Int) (n : Nat) (hi : i = n) (h : n < (L s).length) : bt s i = ((L s)[n].toNat : Int) := by
  subst hi; exact bt_get s n h
theorem bt_cons {s : ByteArray} {c : UInt8} {r : List UInt8} (h : L s = c :: r) : bt s 0 = (c.toNat : Int) := by
  rw [show bt s 0 = (((L s).getD (0 : Int).toNat 0).toNat : Int) from rfl, h]
  rfl
theorem bt_drop {s : ByteArray} {n : Nat} {c : UInt8} {r : List UInt8} (h : (L s).drop n = c :: r) : bt s n = (c.toNat : Int) := by
  have h1 : n < (L s).length := by
    rcases Nat.lt_or_ge n (L s).length with q | q
    · exact q
    · rw [List.drop_of_length_le q] at h; cases h
  rw [List.drop_eq_getElem_cons h1] at h
  cases h
  exact bt_get s n h1
theorem drop_succ {l : List UInt8} {n : Nat} {c : UInt8} {r : List UInt8} (h : l.drop n = c :: r) : l.drop (n + 1) = r := by
  rw [← List.drop_drop, h]; rfl
theorem drop_lt {α : Type} {l : List α} {n : Nat} {c : α} {r : List α} (h : l.drop n = c :: r) : n < l.length := by
  rcases Nat.lt_or_ge n l.length with q | q
  · exact q
  · rw [List.drop_of_length_le q] at h; cases h
theorem drop_nil {α : Type} {l : List α} {n : Nat} (h : l.drop n = []) : l.length ≤ n := by
  simpa using h

theorem w64 {x : Int} (h : -9223372036854775808 ≤ x) (h' : x ≤ 9223372036854775807) : IntKind.i64.wrap x = x := IntWalk.i64_in x ⟨h, h'⟩
theorem w32 {x : Int} (h : -2147483648 ≤ x) (h' : x ≤ 2147483647) : IntKind.i32.wrap x = x := IntWalk.i32_in x ⟨h, h'⟩
theorem w8 {x : Int} (h : 0 ≤ x) (h' : x ≤ 255) : IntKind.u8.wrap x = x := IntWalk.u8_in x ⟨h, h'⟩
theorem w64n (i k : Nat) (h : i + k ≤ 9223372036854775807) : IntKind.i64.wrap ((i : Int) + (k : Int)) = ((i + k : Nat) : Int) := by
  rw [← Int.natCast_add]; exact w64 (by omega) (by omega)
theorem w64a (i : Nat) (h : i + 1 ≤ 9223372036854775807) : IntKind.i64.wrap ((i : Int) + 1) = ((i + 1 : Nat) : Int) := w64n i 1 h
theorem w64b (i : Nat) (h : i + 2 ≤ 9223372036854775807) : IntKind.i64.wrap ((i : Int) + 2) = ((i + 2 : Nat) : Int) := w64n i 2 h
theorem w64c (i : Nat) (h : i + 3 ≤ 9223372036854775807) : IntKind.i64.wrap ((i : Int) + 3) = ((i + 3 : Nat) : Int) := w64n i 3 h
theorem w64d (i : Nat) (h : i + 4 ≤ 9223372036854775807) : IntKind.i64.wrap ((i : Int) + 4) = ((i + 4 : Nat) : Int) := w64n i 4 h
theorem w32c (c : UInt8) : IntKind.i32.wrap (c.toNat : Int) = c.toNat := w32 (by omega) (by have := c.toNat_lt; omega)
theorem dT {p : Prop} [Decidable p] (h : p) : decide p = true := decide_eq_true h
theorem dF {p : Prop} [Decidable p] (h : ¬ p) : ¬ decide p = true := by simpa using h
theorem eT {a b : Int} (h : a = b) : (a == b) = true := beq_iff_eq.2 h
theorem eF {a b : Int} (h : a ≠ b) : ¬ (a == b) = true := fun q => h (beq_iff_eq.1 q)
theorem nT {a b : Int} (h : a ≠ b) : (a != b) = true := bne_iff_ne.2 h
theorem nF {a b : Int} (h : a = b) : ¬ (a != b) = true := fun q => (bne_iff_ne.1 q) h
theorem bT {c : UInt8} {n : Int} (h : (c.toNat : Int) = n) : ((c.toNat : Int) == n) = true := eT h
theorem u8_eq {c d : UInt8} : ((c.toNat : Int) = (d.toNat : Int)) ↔ c = d := by
  rw [Int.ofNat_inj, UInt8.toNat_inj]
theorem byte_ne {c d : UInt8} (h : c ≠ d) : ¬ ((c.toNat : Int) == (d.toNat : Int)) = true := fun q => h (u8_eq.1 (beq_iff_eq.1 q))
theorem byte_bne {c d : UInt8} (h : c ≠ d) : ((c.toNat : Int) != (d.toNat : Int)) = true := bne_iff_ne.2 fun q => h (u8_eq.1 q)
theorem u8_lt (c : UInt8) : (c.toNat : Int) ≤ 255 := by have := c.toNat_lt; omega

/-- Bytes as numbers. -/
def bI (l : List UInt8) : List Int := l.map fun b => (b.toNat : Int)
theorem strOf_bI (l : List UInt8) : strOfBytes (bI l) = strB l := by
  unfold strOfBytes bI strB
  rw [List.map_map]
  congr 2
  conv => rhs; rw [← List.map_id l]
  apply List.map_congr_left
  intro b _
  simp
theorem bI_snoc (l : List UInt8) (c : UInt8) : bI l ++ [(c.toNat : Int)] = bI (l ++ [c]) := by simp [bI]
theorem bI_len (l : List UInt8) : (bI l).length = l.length := by simp [bI]
theorem bI_app (l m : List UInt8) : bI l ++ bI m = bI (l ++ m) := by simp [bI]
theorem bytesOf_bI (s : ByteArray) : bytesOfStr s = bI (L s) := rfl

end Go.AM
end

section
/-
AM: what a text's tokens are, over lists of bytes. No condition.
-/
namespace Go.AM
open Go

def letterB (c : UInt8) : Bool := decide (97 ≤ c.toNat) && decide (c.toNat ≤ 122)
def digitB (c : UInt8) : Bool := decide (48 ≤ c.toNat) && decide (c.toNat ≤ 57)
def wordB (c : UInt8) : Bool := letterB c || digitB c || c == 95
def plainB (c : UInt8) : Bool := decide (32 ≤ c.toNat) && decide (c.toNat ≤ 126) && c != 34 && c != 92
def hexv (c : UInt8) : Option Nat := if 48 ≤ c.toNat ∧ c.toNat ≤ 57 then some (c.toNat - 48) else if 97 ≤ c.toNat ∧ c.toNat ≤ 102 then some (c.toNat - 87) else none
def hexI (c : UInt8) : Int := match hexv c with
  | some d => d
  | none => -1
def marks : List UInt8 := [40, 41, 91, 93, 123, 125, 60, 62, 61, 44, 59, 58, 46, 47, 42, 43, 33, 38, 124]
def markB (c : UInt8) : Bool := marks.contains c
def nameB : List UInt8 → Bool
  | [] => false
  | c :: r => decide (r.length + 1 ≤ 16) && letterB c && (c :: r).all wordB

theorem nameB_cons (c : UInt8) (r : List UInt8) : nameB (c :: r) = (decide (r.length + 1 ≤ 16) && letterB c && (c :: r).all wordB) := rfl

/-- The value of digits. -/
def digs (base : Nat) : List UInt8 → Nat → Option Nat
  | [], n => some n
  | c :: r, n => match hexv c with
    | some d => if d < base then digs base r (min (base * n + d) 9007199254740993) else none
    | none => none

/-- Digits of a base, no zero in front. -/
def natV (l : List UInt8) (base : Nat) : Option Nat := match l with
  | [] => none
  | c :: r => if c = 48 ∧ r ≠ [] then none else digs base (c :: r) 0

/-- A number's digits, without its sign. -/
def bodyV : List UInt8 → Option Nat
  | 48 :: 120 :: c :: r => natV (c :: r) 16
  | l => natV l 10

/-- A number out of its digits' value, and the error. -/
def numN (neg : Bool) : Option Nat → Int × Int
  | none => (0, 4)
  | some n => if neg = true ∧ n = 0 then (0, 4) else if n > 9007199254740992 then (0, 2) else (if neg = true then -(n : Int) else n, 0)

/-- The number with this text, and the error. -/
def numV : List UInt8 → Int × Int
  | 45 :: r => numN true (bodyV r)
  | l => numN false (bodyV l)

theorem numV_minus (r : List UInt8) : numV (45 :: r) = numN true (bodyV r) := rfl
theorem numV_nil : numV [] = numN false (bodyV []) := rfl
theorem numV_other {c : UInt8} {r : List UInt8} (h : c ≠ 45) : numV (c :: r) = numN false (bodyV (c :: r)) := by
  unfold numV
  split
  · rename_i e; cases e; exact absurd rfl h
  · rfl

theorem hexv_lt {c : UInt8} {d : Nat} (h : hexv c = some d) : d < 16 := by
  unfold hexv at h
  split at h
  · cases h; omega
  · split at h
    · cases h; omega
    · cases h

theorem digs_le {base : Nat} : ∀ (l : List UInt8) (n m : Nat), digs base l n = some m → n ≤ 9007199254740993 → m ≤ 9007199254740993
  | [], n, m, h, hn => by cases h; exact hn
  | c :: r, n, m, h, hn => by
    unfold digs at h
    split at h
    · split at h
      · exact digs_le r _ m h (by omega)
      · cases h
    · cases h

/-- What stands behind a backslash: the byte, and the length of the whole. -/
def escV : List UInt8 → Option (UInt8 × Nat)
  | [] => none
  | e :: r => if e = 34 ∨ e = 92 then some (e, 2) else if e = 110 then some (10, 2) else if e = 120 then
      match r with
      | a :: b :: _ => match hexv a, hexv b with
        | some x, some y => some (UInt8.ofNat (16 * x + y), 4)
        | _, _ => none
      | _ => none
    else none

/-- The contents of a quoted string, between its quotes. -/
def unqI : Nat → List UInt8 → Option (List UInt8)
  | _, [] => some []
  | 0, _ => none
  | k + 1, c :: r => if plainB c = true then (unqI k r).map (c :: ·) else if c = 92 then
      match escV r with
      | some (b, n) => (unqI k (r.drop (n - 1))).map (b :: ·)
      | none => none
    else none

/-- The contents of a quoted string behind its first quote, and what follows it. -/
def unqL : Nat → List UInt8 → Option (List UInt8 × List UInt8)
  | _, [] => none
  | 0, _ => none
  | k + 1, c :: r => if c = 34 then some ([], r) else if c.toNat < 32 ∨ 126 < c.toNat then none else if c ≠ 92 then (unqL k r).map fun p => (c :: p.1, p.2) else
      match escV r with
      | some (b, n) => (unqL k (r.drop (n - 1))).map fun p => (b :: p.1, p.2)
      | none => none

/-- How many bytes stand before the closing quote. -/
def scanQ : List UInt8 → Option Nat
  | [] => none
  | c :: r => if c = 34 then some 0 else if c = 92 then (match r with
      | [] => none
      | _ :: r' => (scanQ r').map (· + 2)) else (scanQ r).map (· + 1)

theorem scanQ_cons (c : UInt8) (r : List UInt8) : scanQ (c :: r) = if c = 34 then some 0 else if c = 92 then (match r with
      | [] => none
      | _ :: r' => (scanQ r').map (· + 2)) else (scanQ r).map (· + 1) := by
  cases r <;> rfl

theorem plainB_iff {c : UInt8} : plainB c = true ↔ 32 ≤ c.toNat ∧ c.toNat ≤ 126 ∧ c ≠ 34 ∧ c ≠ 92 := by
  simp [plainB, and_assoc]

theorem hexv_ne {c : UInt8} {d : Nat} (h : hexv c = some d) : c ≠ 34 ∧ c ≠ 92 := by
  constructor <;> (intro e; subst e; simp [hexv] at h)

theorem scanQ_plain {c : UInt8} {r : List UInt8} (h1 : c ≠ 34) (h2 : c ≠ 92) : scanQ (c :: r) = (scanQ r).map (· + 1) := by
  rw [scanQ_cons, if_neg h1, if_neg h2]

theorem escV_len {r : List UInt8} {b : UInt8} {n : Nat} (h : escV r = some (b, n)) : 2 ≤ n ∧ n ≤ r.length + 1 := by
  cases r with
  | nil => cases h
  | cons e r =>
    simp only [escV] at h
    split at h
    · cases h; simp
    · split at h
      · cases h; simp
      · split at h
        · split at h
          · split at h
            · cases h; simp
            · cases h
          · cases h
        · cases h

theorem unqL_scan : ∀ (k : Nat) (l : List UInt8), l.length ≤ k → unqL k l = match scanQ l with
    | none => none
    | some m => (unqI k (l.take m)).map fun o => (o, l.drop (m + 1)) := by
  intro k
  induction k using Nat.strongRecOn with
  | _ k ih =>
    intro l hl
    cases l with
    | nil => cases k <;> rfl
    | cons c r =>
      simp only [List.length_cons] at hl
      obtain ⟨k, rfl⟩ : ∃ j, k = j + 1 := ⟨k - 1, by omega⟩
      by_cases h1 : c = 34
      · subst h1
        simp [unqL, scanQ_cons, unqI]
      · by_cases h2 : c = 92
        · subst h2
          cases r with
          | nil => simp [unqL, scanQ_cons, escV]
          | cons e r =>
            have es : scanQ (92 :: e :: r) = (scanQ r).map (· + 2) := by simp [scanQ_cons]
            rw [es]
            have eu : unqL (k + 1) (92 :: e :: r) = match escV (e :: r) with
                | some (b, n) => (unqL k ((e :: r).drop (n - 1))).map fun p => (b :: p.1, p.2)
                | none => none := by simp [unqL]
            rw [eu]
            have ei : ∀ t, unqI (k + 1) (92 :: t) = match escV t with
                | some (b, n) => (unqI k (t.drop (n - 1))).map (b :: ·)
                | none => none := by intro t; simp [unqI, plainB]
            simp only [List.length_cons] at hl
            -- the sequences of two bytes
            have two : ∀ b, escV (e :: r) = some (b, 2) → (∀ t, escV (e :: t) = some (b, 2)) → (match escV (e :: r) with
                | some (b, n) => (unqL k ((e :: r).drop (n - 1))).map fun p => (b :: p.1, p.2)
                | none => none) = match (scanQ r).map (· + 2) with
                | none => none
                | some m => (unqI (k + 1) ((92 :: e :: r).take m)).map fun o => (o, (92 :: e :: r).drop (m + 1)) := by
              intro b h ht
              rw [h]
              simp only [Nat.add_one_sub_one, List.drop_succ_cons, List.drop_zero]
              rw [ih k (by omega) r (by omega)]
              cases hs : scanQ r with
              | none => rfl
              | some m =>
                simp only [Option.map_some, List.take_succ_cons]
                rw [ei, ht]
                simp only [Nat.add_one_sub_one, List.drop_succ_cons, List.drop_zero]
                cases unqI k (r.take m) <;> rfl
            by_cases h3 : e = 34 ∨ e = 92
            · exact two e (by simp [escV, h3]) (fun t => by simp [escV, h3])
            · by_cases h4 : e = 110
              · subst h4
                exact two 10 (by simp [escV]) (fun t => by simp [escV])
              · by_cases h5 : e = 120
                · subst h5
                  -- none on the right, too
                  have no : (∀ m, escV (120 :: r.take m) = none) → (match (scanQ r).map (· + 2) with
                      | none => (none : Option (List UInt8 × List UInt8))
                      | some m => (unqI (k + 1) ((92 :: 120 :: r).take m)).map fun o => (o, (92 :: 120 :: r).drop (m + 1))) = none := by
                    intro hn
                    cases hs : scanQ r with
                    | none => rfl
                    | some m =>
                      simp only [Option.map_some, List.take_succ_cons]
                      rw [ei, hn]
                      rfl
                  match r, hl, no with
                  | [], _, no =>
                    rw [no (fun m => by simp [escV])]
                    simp [escV]
                  | [a], _, no =>
                    rw [no (fun m => by cases m <;> simp [escV])]
                    simp [escV]
                  | a :: b :: r', hl, no =>
                    cases ha : hexv a with
                    | none =>
                      rw [no (fun m => by cases m with
                        | zero => simp [escV]
                        | succ m => cases m <;> simp [escV, ha])]
                      simp [escV, ha]
                    | some x =>
                      cases hb : hexv b with
                      | none =>
                        rw [no (fun m => by cases m with
                          | zero => simp [escV]
                          | succ m => cases m <;> simp [escV, ha, hb])]
                        simp [escV, ha, hb]
                      | some y =>
                        have e1 : escV (120 :: a :: b :: r') = some (UInt8.ofNat (16 * x + y), 4) := by simp [escV, ha, hb]
                        rw [e1, scanQ_plain (hexv_ne ha).1 (hexv_ne ha).2, scanQ_plain (hexv_ne hb).1 (hexv_ne hb).2]
                        simp only [List.length_cons] at hl
                        simp only [Nat.add_one_sub_one, List.drop_succ_cons, List.drop_zero]
                        rw [ih k (by omega) r' (by omega)]
                        cases hs : scanQ r' with
                        | none => rfl
                        | some m =>
                          simp only [Option.map_some, List.take_succ_cons]
                          rw [ei]
                          have e2 : escV (120 :: a :: b :: r'.take m) = some (UInt8.ofNat (16 * x + y), 4) := by simp [escV, ha, hb]
                          rw [e2]
                          simp only [Nat.add_one_sub_one, List.drop_succ_cons, List.drop_zero]
                          cases unqI k (r'.take m) <;> rfl
                · have e1 : ∀ t, escV (e :: t) = none := fun t => by simp [escV, h3, h4, h5]
                  rw [e1]
                  cases hs : scanQ r with
                  | none => rfl
                  | some m =>
                    simp only [Option.map_some, List.take_succ_cons]
                    rw [ei, e1]
                    rfl
        · rw [scanQ_plain h1 h2]
          by_cases h3 : c.toNat < 32 ∨ 126 < c.toNat
          · have : plainB c = false := by
              rw [Bool.eq_false_iff]
              intro h
              have := plainB_iff.1 h
              omega
            have e1 : unqL (k + 1) (c :: r) = none := by simp [unqL, h1, h3]
            rw [e1]
            cases scanQ r with
            | none => rfl
            | some m => simp [unqI, this, h2]
          · have hp : plainB c = true := plainB_iff.2 ⟨by omega, by omega, h1, h2⟩
            have e1 : unqL (k + 1) (c :: r) = (unqL k r).map fun p => (c :: p.1, p.2) := by rw [unqL, if_neg h1, if_neg h3, if_pos h2]
            rw [e1, ih k (by omega) r (by omega)]
            cases hs : scanQ r with
            | none => rfl
            | some m =>
              simp only [Option.map_some, List.take_succ_cons]
              have e2 : unqI (k + 1) (c :: r.take m) = (unqI k (r.take m)).map (c :: ·) := by rw [unqI, if_pos hp]
              rw [e2]
              cases unqI k (r.take m) <;> rfl

theorem unqI_fuel : ∀ (k : Nat) (l : List UInt8), l.length ≤ k → unqI k l = unqI l.length l := by
  intro k
  induction k using Nat.strongRecOn with
  | _ k ih =>
    intro l hl
    cases l with
    | nil => cases k <;> rfl
    | cons c r =>
      simp only [List.length_cons] at hl ⊢
      obtain ⟨k, rfl⟩ : ∃ j, k = j + 1 := ⟨k - 1, by omega⟩
      rw [unqI, unqI, ih k (by omega) r (by omega)]
      split
      · rfl
      · split
        · split
          · rename_i b n he
            have := escV_len he
            have hd : (r.drop (n - 1)).length ≤ r.length := by rw [List.length_drop]; omega
            rw [ih k (by omega) _ (by omega)]
            rw [← ih r.length (by omega) _ hd]
          · rfl
        · rfl

/-- The contents of a quoted string. -/
def unqV (l : List UInt8) : Option (List UInt8) := match l with
  | 34 :: r => if r.getLast? = some 34 then unqI r.length r.dropLast else none
  | _ => none

/-- The token at the beginning: its kind, text and value, and its length; or an error. -/
def takeV (l : List UInt8) : Except Int ((Int × List UInt8 × Int) × Nat) := match l with
  | [] => .error 4
  | c :: r => if letterB c = true then
      let n := ((c :: r).takeWhile wordB).length
      if nameB ((c :: r).take n) = true then .ok ((1, (c :: r).take n, 0), n) else .error 4
    else if digitB c = true ∨ c = 45 then
      let n := 1 + (r.takeWhile wordB).length
      let v := numV ((c :: r).take n)
      if v.2 = 0 then .ok ((2, (c :: r).take n, v.1), n) else .error v.2
    else if c = 34 then match unqL r.length r with
      | some (o, rest) => .ok ((3, o, 0), (c :: r).length - rest.length)
      | none => .error 4
    else if markB c = true then .ok ((4, [c], 0), 1) else .error 4

def tokF : Nat → Int → List UInt8 → Except (Int × Int) (List (Int × ByteArray × Int × Int))
  | _, _, [] => .ok []
  | 0, _, _ => .ok []
  | k + 1, line, c :: r => if c = 10 then tokF k (line + 1) r else if c = 32 ∨ c = 9 then tokF k line r else if c = 35 then tokF k line (r.dropWhile (· ≠ 10)) else
      match takeV (c :: r) with
      | .error e => .error (line, e)
      | .ok (t, n) => match tokF k line ((c :: r).drop n) with
        | .ok ts => .ok ((t.1, strB t.2.1, t.2.2, line) :: ts)
        | .error e => .error e

/-- The tokens of a text, or the line and the error. -/
def tokV (l : List UInt8) : Except (Int × Int) (List (Int × ByteArray × Int × Int)) := if l.length > 1048576 then .error (0, 6) else tokF l.length 1 l

end Go.AM
end

section
/-
AM: more on quoted strings and numbers, over lists of bytes. No condition.
-/
namespace Go.AM
open Go

theorem scanQ_lt : ∀ (k : Nat) (r : List UInt8), r.length ≤ k → ∀ m, scanQ r = some m → m < r.length ∧ r[m]? = some 34 := by
  intro k
  induction k using Nat.strongRecOn with
  | _ k ih =>
    intro r hl m h
    cases r with
    | nil => cases h
    | cons c r =>
      simp only [List.length_cons] at hl
      rw [scanQ_cons] at h
      split at h
      · rename_i e
        cases h
        simp [e]
      · split at h
        · cases r with
          | nil => cases h
          | cons d r =>
            simp only [List.length_cons] at hl
            simp only at h
            cases hs : scanQ r with
            | none => rw [hs] at h; cases h
            | some j =>
              rw [hs] at h
              cases h
              have := ih (k - 1) (by omega) r (by omega) j hs
              simp only [List.length_cons]
              exact ⟨by omega, this.2⟩
        · cases hs : scanQ r with
          | none => rw [hs] at h; cases h
          | some j =>
            rw [hs] at h
            cases h
            have := ih (k - 1) (by omega) r (by omega) j hs
            simp only [List.length_cons]
            exact ⟨by omega, this.2⟩

theorem unqI_scan (t : List UInt8) : ∀ (k : Nat) (l o : List UInt8), l.length ≤ k → unqI k l = some o → scanQ (l ++ 34 :: t) = some l.length := by
  intro k
  induction k using Nat.strongRecOn with
  | _ k ih =>
    intro l o hl h
    cases l with
    | nil => simp [scanQ_cons]
    | cons c r =>
      simp only [List.length_cons] at hl
      obtain ⟨k, rfl⟩ : ∃ j, k = j + 1 := ⟨k - 1, by omega⟩
      simp only [unqI] at h
      rw [List.cons_append]
      split at h
      · rename_i hp
        have hp := plainB_iff.1 hp
        rw [scanQ_plain hp.2.2.1 hp.2.2.2]
        cases hu : unqI k r with
        | none => rw [hu] at h; cases h
        | some o' => rw [ih k (by omega) r o' (by omega) hu]; rfl
      · split at h
        · rename_i hc
          subst hc
          cases r with
          | nil => simp [escV] at h
          | cons e r =>
            simp only [List.length_cons] at hl
            have es : ∀ r', scanQ (92 :: e :: r') = (scanQ r').map (· + 2) := fun r' => by simp [scanQ_cons]
            rw [List.cons_append, es]
            split at h
            · rename_i b n he
              cases hu : unqI k ((e :: r).drop (n - 1)) with
              | none => rw [hu] at h; cases h
              | some o' =>
                have two : n = 2 → (scanQ (r ++ 34 :: t)).map (· + 2) = some (r.length + 1 + 1) := by
                  intro hn
                  subst hn
                  rw [ih k (by omega) r o' (by omega) (by simpa using hu)]
                  rfl
                simp only [escV] at he
                split at he
                · cases he; exact two rfl
                · split at he
                  · cases he; exact two rfl
                  · split at he
                    · split at he
                      · rename_i a b' r'
                        split at he
                        · rename_i x y hx hy
                          cases he
                          simp only [List.length_cons] at hl
                          rw [List.cons_append, List.cons_append, scanQ_plain (hexv_ne hx).1 (hexv_ne hx).2, scanQ_plain (hexv_ne hy).1 (hexv_ne hy).2, ih k (by omega) r' o' (by omega) (by simpa using hu)]
                          rfl
                        · cases he
                      · cases he
                    · cases he
            · cases h
        · cases h

/-- A quoted string is the whole of what is scanned. -/
theorem unqV_eq (r : List UInt8) : unqV (34 :: r) = match unqL r.length r with
    | some (o, []) => some o
    | _ => none := by
  unfold unqV
  simp only
  rw [unqL_scan r.length r (Nat.le_refl _)]
  by_cases hg : r.getLast? = some 34
  · rw [if_pos hg]
    obtain ⟨i, hi⟩ : ∃ i, r = i ++ [34] := by
      rw [List.getLast?_eq_some_iff] at hg
      exact hg
    subst hi
    rw [List.dropLast_concat]
    cases hu : unqI (i ++ [34]).length i with
    | some o =>
      rw [unqI_scan [] _ i o (by simp) hu]
      simp only [List.take_left]
      rw [hu]
      simp
    | none =>
      cases hs : scanQ (i ++ [34]) with
      | none => rfl
      | some m =>
        simp only
        have := scanQ_lt _ _ (Nat.le_refl _) m hs
        cases hm : unqI (i ++ [34]).length ((i ++ [34]).take m) with
        | none => rfl
        | some o =>
          simp only [Option.map_some]
          have hlt : m < i.length := by
            rcases Nat.lt_or_ge m i.length with q | q
            · exact q
            · have : m = i.length := by simp at this; omega
              subst this
              rw [List.take_left, hu] at hm
              cases hm
          split
          · rename_i e
            simp only [Option.some.injEq, Prod.mk.injEq] at e
            have := congrArg List.length e.2
            simp at this
            omega
          · rfl
  · rw [if_neg hg]
    cases hs : scanQ r with
    | none => rfl
    | some m =>
      simp only
      have h1 := scanQ_lt _ _ (Nat.le_refl _) m hs
      cases unqI r.length (r.take m) with
      | none => rfl
      | some o =>
        simp only [Option.map_some]
        split
        · rename_i e
          simp only [Option.some.injEq, Prod.mk.injEq] at e
          have h2 := congrArg List.length e.2
          simp at h2
          have h3 : m = r.length - 1 := by omega
          rw [List.getLast?_eq_getElem?, ← h3] at hg
          exact absurd h1.2 hg
        · rfl

theorem digs_pos {base : Nat} (hb : 0 < base) : ∀ (l : List UInt8) (n m : Nat), digs base l n = some m → 0 < n → 0 < m
  | [], n, m, h, hn => by cases h; exact hn
  | c :: r, n, m, h, hn => by
    unfold digs at h
    split at h
    · split at h
      · have : 0 < base * n := Nat.mul_pos hb hn
        exact digs_pos hb r _ m h (by omega)
      · cases h
    · cases h

theorem hexv_zero {c : UInt8} (h : hexv c = some 0) : c = 48 := by
  unfold hexv at h
  split at h
  · cases h' : c.toNat - 48 with
    | zero =>
      have : c.toNat = (48 : UInt8).toNat := by show c.toNat = 48; omega
      exact UInt8.toNat_inj.1 this
    | succ n => rw [h'] at h; cases h
  · split at h
    · simp at h; omega
    · cases h

/-- The first digit is not 0: the number is not 0. -/
theorem digs_first {base : Nat} (hb : 0 < base) {c : UInt8} {r : List UInt8} {m : Nat} (h : digs base (c :: r) 0 = some m) (hc : c ≠ 48) : 0 < m := by
  unfold digs at h
  split at h
  · rename_i d hd
    split at h
    · have : d ≠ 0 := fun e => hc (hexv_zero (by rw [hd, e]))
      exact digs_pos hb r _ m h (by omega)
    · cases h
  · cases h

end Go.AM
end

section
/-
AM: comments and line feeds behind a text change nothing of its tokens. No condition.
-/
namespace Go.AM
open Go

theorem unqL_append (t : List UInt8) : ∀ (k : Nat) (r : List UInt8) (K : Nat), r.length ≤ k → r.length + 1 + t.length ≤ K → unqL K (r ++ 10 :: t) = (unqL k r).map fun p => (p.1, p.2 ++ 10 :: t) := by
  intro k
  induction k using Nat.strongRecOn with
  | _ k ih =>
    intro r K hk hK
    obtain ⟨K, rfl⟩ : ∃ j, K = j + 1 := ⟨K - 1, by omega⟩
    cases r with
    | nil =>
      have : unqL k [] = none := by cases k <;> rfl
      rw [this]
      rfl
    | cons c r =>
      simp only [List.length_cons] at hk hK
      obtain ⟨k, rfl⟩ : ∃ j, k = j + 1 := ⟨k - 1, by omega⟩
      rw [List.cons_append, unqL, unqL]
      split
      · rfl
      · split
        · rfl
        · split
          · rw [ih k (by omega) r K (by omega) (by omega)]
            cases unqL k r <;> rfl
          · -- a sequence
            cases r with
            | nil => rfl
            | cons e r =>
              simp only [List.length_cons] at hk hK
              have two : ∀ b, (unqL K (r ++ 10 :: t)).map (fun p => (b :: p.1, p.2)) = ((unqL k r).map fun p => (b :: p.1, p.2)).map fun p => (p.1, p.2 ++ 10 :: t) := by
                intro b
                rw [ih k (by omega) r K (by omega) (by omega)]
                cases unqL k r <;> rfl
              simp only [List.cons_append, escV]
              by_cases h3 : e = 34 ∨ e = 92
              · rw [if_pos h3, if_pos h3]
                exact two e
              · rw [if_neg h3, if_neg h3]
                by_cases h4 : e = 110
                · rw [if_pos h4, if_pos h4]
                  exact two 10
                · rw [if_neg h4, if_neg h4]
                  by_cases h5 : e = 120
                  · rw [if_pos h5, if_pos h5]
                    match r, hk, hK with
                    | [], _, _ =>
                      have : hexv 10 = none := by decide
                      cases t with
                      | nil => rfl
                      | cons u t => simp [this]
                    | [a], _, _ =>
                      have : hexv 10 = none := by decide
                      cases ha : hexv a <;> simp [this, ha]
                    | a :: b :: r, hk, hK =>
                      simp only [List.length_cons] at hk hK
                      simp only [List.cons_append]
                      cases ha : hexv a with
                      | none => simp
                      | some x =>
                        cases hb : hexv b with
                        | none => simp
                        | some y =>
                          simp only [Nat.add_one_sub_one, List.drop_succ_cons, List.drop_zero]
                          rw [ih k (by omega) r K (by omega) (by omega)]
                          cases unqL k r <;> rfl
                  · rw [if_neg h5, if_neg h5]
                    rfl

theorem unqL_fuel (r : List UInt8) (k : Nat) (hk : r.length ≤ k) : unqL k r = unqL r.length r := by
  rw [unqL_scan k r hk, unqL_scan r.length r (Nat.le_refl _)]
  cases scanQ r with
  | none => rfl
  | some m => simp only; rw [unqI_fuel k _ (by rw [List.length_take]; omega), unqI_fuel r.length _ (by rw [List.length_take]; omega)]

theorem unqL_rest {k : Nat} {r o rest : List UInt8} (hk : r.length ≤ k) (h : unqL k r = some (o, rest)) : rest.length < r.length := by
  rw [unqL_scan k r hk] at h
  cases hs : scanQ r with
  | none => rw [hs] at h; cases h
  | some m =>
    rw [hs] at h
    simp only at h
    have := scanQ_lt _ _ (Nat.le_refl _) m hs
    cases hu : unqI k (r.take m) with
    | none => rw [hu] at h; cases h
    | some o' =>
      rw [hu] at h
      cases h
      rw [List.length_drop]; omega

theorem takeWhile_nl (t : List UInt8) : ∀ r : List UInt8, (r ++ 10 :: t).takeWhile wordB = r.takeWhile wordB
  | [] => by
    have : wordB 10 = false := by decide
    simp [this]
  | c :: r => by
    simp only [List.cons_append, List.takeWhile_cons, takeWhile_nl t r]

theorem takeWhile_len_le (p : UInt8 → Bool) (l : List UInt8) : (l.takeWhile p).length ≤ l.length := (List.takeWhile_sublist p).length_le

theorem takeV_nl (c : UInt8) (r t : List UInt8) : takeV (c :: r ++ 10 :: t) = takeV (c :: r) := by
  simp only [List.cons_append, takeV]
  rw [takeWhile_nl]
  have e0 : (c :: (r ++ 10 :: t)).takeWhile wordB = (c :: r).takeWhile wordB := takeWhile_nl t (c :: r)
  rw [e0]
  have e1 : ∀ n, n ≤ r.length + 1 → (c :: (r ++ 10 :: t)).take n = (c :: r).take n := by
    intro n hn
    rw [← List.cons_append, List.take_append_of_le_length (by simpa using hn)]
  rw [e1 _ (takeWhile_len_le wordB (c :: r)), e1 _ (by have := takeWhile_len_le wordB r; omega)]
  have e2 : unqL (r ++ 10 :: t).length (r ++ 10 :: t) = (unqL r.length r).map fun p => (p.1, p.2 ++ 10 :: t) := unqL_append t r.length r _ (Nat.le_refl _) (by simp; omega)
  rw [e2]
  cases hu : unqL r.length r with
  | none => rfl
  | some p =>
    have := unqL_rest (Nat.le_refl _) (show unqL r.length r = some (p.1, p.2) from hu)
    simp only [Option.map_some, List.length_cons, List.length_append]
    rw [show r.length + (t.length + 1) + 1 - (p.2.length + (t.length + 1)) = r.length + 1 - p.2.length by omega]

theorem takeV_pos {c : UInt8} {r : List UInt8} {t : Int × List UInt8 × Int} {n : Nat} (h : takeV (c :: r) = .ok (t, n)) : 1 ≤ n ∧ n ≤ r.length + 1 := by
  simp only [takeV] at h
  split at h
  · rename_i hc
    split at h
    · cases h
      have hw : wordB c = true := by simp [wordB, hc]
      rw [List.takeWhile_cons, if_pos hw]
      have := takeWhile_len_le wordB r
      simp only [List.length_cons]
      omega
    · cases h
  · split at h
    · split at h
      · cases h
        have := takeWhile_len_le wordB r
        omega
      · cases h
    · split at h
      · split at h
        · rename_i o rest hu
          have := unqL_rest (Nat.le_refl _) hu
          cases h
          simp only [List.length_cons]
          omega
        · cases h
      · split at h
        · cases h; omega
        · cases h

theorem dropWhile_nl (t : List UInt8) : ∀ r : List UInt8, (r ++ 10 :: t).dropWhile (· ≠ 10) = r.dropWhile (· ≠ 10) ++ 10 :: t
  | [] => by simp
  | c :: r => by
    by_cases h : c = 10
    · subst h; simp
    · have := dropWhile_nl t r
      simp only [List.cons_append, List.dropWhile_cons, ne_eq, h, not_false_eq_true, decide_true, if_true]
      exact this

theorem dropWhile_len_le (p : UInt8 → Bool) (l : List UInt8) : (l.dropWhile p).length ≤ l.length := (List.dropWhile_sublist p).length_le

/-- A line feed, a blank and a comment behind a text. -/
theorem tokF_tail (x : List UInt8) (hx : ∀ b ∈ x, b ≠ 10) : ∀ (k : Nat) (l : List UInt8) (line : Int) (K : Nat), l.length ≤ k → l.length + 3 + x.length ≤ K → tokF K line (l ++ 10 :: 32 :: 35 :: x) = tokF k line l := by
  intro k
  induction k using Nat.strongRecOn with
  | _ k ih =>
    intro l line K hk hK
    cases l with
    | nil =>
      obtain ⟨K, rfl⟩ : ∃ j, K = j + 3 := ⟨K - 3, by simp only [List.length_nil] at hK; omega⟩
      have e : x.dropWhile (· ≠ 10) = [] := by
        clear hK ih
        induction x with
        | nil => rfl
        | cons b x ihx =>
          have hb := hx b (by simp)
          simp only [List.dropWhile_cons, ne_eq, hb, not_false_eq_true, decide_true, if_true]
          exact ihx (fun b hb => hx b (by simp [hb]))
      have e1 : tokF (K + 3) line ([] ++ 10 :: 32 :: 35 :: x) = tokF K (line + 1) (x.dropWhile (· ≠ 10)) := by rfl
      rw [e1, e]
      cases k <;> cases K <;> rfl
    | cons c r =>
      simp only [List.length_cons] at hk hK
      obtain ⟨k, rfl⟩ : ∃ j, k = j + 1 := ⟨k - 1, by omega⟩
      obtain ⟨K, rfl⟩ : ∃ j, K = j + 1 := ⟨K - 1, by omega⟩
      have ht := takeV_nl c r (32 :: 35 :: x)
      rw [List.cons_append] at ht ⊢
      rw [tokF, tokF]
      split
      · exact ih k (by omega) r _ K (by omega) (by omega)
      · split
        · exact ih k (by omega) r _ K (by omega) (by omega)
        · split
          · rw [dropWhile_nl]
            have := dropWhile_len_le (· ≠ 10) r
            exact ih k (by omega) _ _ K (by omega) (by omega)
          · rw [ht]
            cases hv : takeV (c :: r) with
            | error e => rfl
            | ok p =>
              obtain ⟨t, n⟩ := p
              have hn := takeV_pos hv
              simp only
              have e2 : (c :: (r ++ 10 :: 32 :: 35 :: x)).drop n = (c :: r).drop n ++ 10 :: 32 :: 35 :: x := by
                rw [← List.cons_append, List.drop_append_of_le_length (by simp; omega)]
              rw [e2, ih k (by omega) _ line K (by rw [List.length_drop, List.length_cons]; omega) (by rw [List.length_drop, List.length_cons]; omega)]

def up1 (t : Int × ByteArray × Int × Int) : Int × ByteArray × Int × Int := (t.1, t.2.1, t.2.2.1, t.2.2.2 + 1)

theorem tokF_up : ∀ (k : Nat) (l : List UInt8) (line : Int), tokF k (line + 1) l = match tokF k line l with
    | .ok ts => .ok (ts.map up1)
    | .error e => .error (e.1 + 1, e.2) := by
  intro k
  induction k with
  | zero => intro l line; cases l <;> rfl
  | succ k ih =>
    intro l line
    cases l with
    | nil => rfl
    | cons c r =>
      rw [tokF, tokF]
      split
      · exact ih _ _
      · split
        · exact ih _ _
        · split
          · exact ih _ _
          · cases takeV (c :: r) with
            | error e => rfl
            | ok p =>
              obtain ⟨t, n⟩ := p
              simp only
              rw [ih]
              cases tokF k line ((c :: r).drop n) <;> rfl

theorem tokF_lines : ∀ (k : Nat) (l : List UInt8) (line : Int) (ts : List (Int × ByteArray × Int × Int)), tokF k line l = .ok ts → ∀ t ∈ ts, line ≤ t.2.2.2 ∧ t.2.2.2 ≤ line + l.length := by
  intro k
  induction k with
  | zero => intro l line ts h t ht; cases l <;> cases h <;> cases ht
  | succ k ih =>
    intro l line ts h t ht
    cases l with
    | nil => cases h; cases ht
    | cons c r =>
      rw [tokF] at h
      simp only [List.length_cons]
      split at h
      · have := ih _ _ _ h t ht; omega
      · split at h
        · have := ih _ _ _ h t ht; omega
        · split at h
          · have := ih _ _ _ h t ht
            have := dropWhile_len_le (· ≠ 10) r
            omega
          · split at h
            · cases h
            · rename_i t' n hv
              split at h
              · rename_i ts' hts
                cases h
                rcases List.mem_cons.1 ht with rfl | ht
                · simp only; omega
                · have := ih _ _ _ hts t ht
                  rw [List.length_drop, List.length_cons] at this
                  omega
              · cases h

end Go.AM
end

section
/-
AM: quoted strings in plain Lean: what is quoted is read back. No condition.
-/
namespace Go.AM
open Go

def hexD (n : Nat) : UInt8 := if n < 10 then UInt8.ofNat (48 + n) else UInt8.ofNat (87 + n)
def quoteC (c : UInt8) : List UInt8 := if plainB c = true then [c] else if c = 34 ∨ c = 92 then [92, c] else if c = 10 then [92, 110] else [92, 120, hexD (c.toNat / 16), hexD (c.toNat % 16)]
def quoteL (l : List UInt8) : List UInt8 := l.flatMap quoteC
def quoteV (l : List UInt8) : List UInt8 := 34 :: (quoteL l ++ [34])

theorem quoteL_cons (c : UInt8) (l : List UInt8) : quoteL (c :: l) = quoteC c ++ quoteL l := rfl

theorem quoteC_len (c : UInt8) : 1 ≤ (quoteC c).length ∧ (quoteC c).length ≤ 4 := by
  unfold quoteC
  repeat' split
  all_goals simp

theorem quoteL_len : ∀ l : List UInt8, (quoteL l).length ≤ 4 * l.length
  | [] => by simp [quoteL]
  | c :: l => by
    have h1 := quoteC_len c
    have h2 := quoteL_len l
    rw [quoteL_cons, List.length_append, List.length_cons]; omega

theorem hexv_hexD : ∀ n : Nat, n < 16 → hexv (hexD n) = some n := by decide +kernel

theorem hexD_back (c : UInt8) : UInt8.ofNat (16 * (c.toNat / 16) + c.toNat % 16) = c := by
  rw [show 16 * (c.toNat / 16) + c.toNat % 16 = c.toNat by omega]
  simp

theorem plain_not92 : plainB 92 = false := by decide

theorem unqI_quote : ∀ (l : List UInt8) (k : Nat), (quoteL l).length ≤ k → unqI k (quoteL l) = some l
  | [], k, _ => by
    have e : quoteL [] = [] := rfl
    rw [e]
    cases k <;> rfl
  | c :: l, k, h => by
    rw [quoteL_cons, List.length_append] at h
    have h1 := quoteC_len c
    obtain ⟨k, rfl⟩ : ∃ j, k = j + 1 := ⟨k - 1, by omega⟩
    have ih := unqI_quote l k (by omega)
    rw [quoteL_cons]
    unfold quoteC
    by_cases hp : plainB c = true
    · rw [if_pos hp]
      show unqI (k + 1) (c :: quoteL l) = _
      unfold unqI
      rw [if_pos hp, ih]
      rfl
    · rw [if_neg hp]
      have esc : ∀ (x : List UInt8) (n : Nat), escV x = some (c, n) → x.drop (n - 1) = quoteL l → unqI (k + 1) (92 :: x) = some (c :: l) := by
        intro x n h2 h3
        unfold unqI
        rw [if_neg (by rw [plain_not92]; simp), if_pos rfl, h2]
        simp only
        rw [h3, ih]
        rfl
      by_cases h2 : c = 34 ∨ c = 92
      · rw [if_pos h2]
        exact esc (c :: quoteL l) 2 (if_pos h2) rfl
      · rw [if_neg h2]
        by_cases h3 : c = 10
        · subst h3
          rw [if_pos rfl]
          exact esc (110 :: quoteL l) 2 rfl rfl
        · rw [if_neg h3]
          refine esc (120 :: hexD (c.toNat / 16) :: hexD (c.toNat % 16) :: quoteL l) 4 ?_ rfl
          have hc := c.toNat_lt
          show (match hexv (hexD (c.toNat / 16)), hexv (hexD (c.toNat % 16)) with
            | some x, some y => some (UInt8.ofNat (16 * x + y), 4)
            | _, _ => none) = some (c, 4)
          rw [hexv_hexD _ (by omega), hexv_hexD _ (by omega)]
          simp only
          rw [hexD_back]

theorem unqV_quote (l : List UInt8) : unqV (quoteV l) = some l := by
  have h : (quoteL l ++ [34]).getLast? = some 34 := by simp
  have e : (quoteL l ++ [34]).dropLast = quoteL l := by simp
  show (if (quoteL l ++ [34]).getLast? = some 34 then unqI (quoteL l ++ [34]).length (quoteL l ++ [34]).dropLast else none) = _
  rw [if_pos h, e]
  exact unqI_quote l _ (by simp)

/-! ### digits -/
def digsB : ByteArray := strB [48, 49, 50, 51, 52, 53, 54, 55, 56, 57, 97, 98, 99, 100, 101, 102]

theorem dig_hi : ∀ n : Nat, n < 256 → 0 ≤ (n : Int).fdiv 16 ∧ (n : Int).fdiv 16 < 16 ∧ bt digsB ((n : Int).fdiv 16) = ((hexD (n / 16)).toNat : Int) := by decide +kernel
theorem dig_lo : ∀ n : Nat, n < 256 → 0 ≤ IntKind.u8.wrap (BitVec.ofInt 8 (n : Int) &&& BitVec.ofInt 8 15).toNat ∧ IntKind.u8.wrap (BitVec.ofInt 8 (n : Int) &&& BitVec.ofInt 8 15).toNat < 16 ∧
    bt digsB (IntKind.u8.wrap (BitVec.ofInt 8 (n : Int) &&& BitVec.ofInt 8 15).toNat) = ((hexD (n % 16)).toNat : Int) := by decide +kernel
theorem dig_hi2 : ∀ n : Nat, n < 256 → 0 ≤ IntKind.u8.wrap ((n : Int).tdiv 16) ∧ IntKind.u8.wrap ((n : Int).tdiv 16) < 16 ∧ bt digsB (IntKind.u8.wrap ((n : Int).tdiv 16)) = ((hexD (n / 16)).toNat : Int) := by decide +kernel
theorem dig_lo2 : ∀ n : Nat, n < 256 → 0 ≤ (n : Int).tmod 16 ∧ (n : Int).tmod 16 < 16 ∧ bt digsB ((n : Int).tmod 16) = ((hexD (n % 16)).toNat : Int) := by decide +kernel

end Go.AM
end

section
/-
AM: contracts by hand, of callees that leave memory alone. No condition.
-/
namespace Go.AM
open Go
variable [Inhabited ZMem]

theorem Contract.still {P : Program} {f : FuncId} {fn : Func} {c : Code} (hf : P.funcs[f]? = some fn) (hb : fn.body = some c) (hn : (fn.name == "runtime.NumGoroutine") = false) {sa sr : List SSh} {g : TyS sa → Option (TyS sr)}
    (h : ∀ (w : World) (M : Mem) (G : Gh) (x : TyS sa) (y : TyS sr) (vals : Array Value), Inv w M G [] → SVRs M G vals.toList (encSs id sa x) → g x = some y → Calls P f vals w fun e w' => ∃ v, e = .returned v ∧ w' = w ∧ AVR M G v (retAV (encSs id sr y))) :
    Contract P f ⟨⟨sa, []⟩, ⟨sr, []⟩, fun x => (g x.1).bind fun y => some (y, ())⟩ := by
  refine ⟨Nat.le_refl _, fun w M G x vals hI hv h1 h0 y hy => ?_⟩
  have hrun : (callFunc f vals).run P w = .ok (.enter f vals) w := by
    simp only [beq_eq_false_iff_ne, ne_eq] at hn
    simp [callFunc, hf, hb, hn]
  refine .inr ⟨hrun, ?_⟩
  have hy' : ((g x.1).bind fun y => some (y, ())) = some y := hy
  cases hg : g x.1 with
  | none => rw [hg] at hy'; cases hy'
  | some z =>
    rw [hg] at hy'
    cases hy'
    refine (h w M G x.1 z vals hI hv hg).mono fun e w' he => ?_
    obtain ⟨v, rfl, rfl, ha⟩ := he
    exact ⟨M, G, ha, hI, Step.refl _ _ _ _, fun j hj => h1 j hj⟩

theorem Contract.below {P : Program} {f : FuncId} {fn : Func} {c : Code} (hf : P.funcs[f]? = some fn) (hb : fn.body = some c) (hn : (fn.name == "runtime.NumGoroutine") = false) {sa sr : List SSh} {g : TyS sa → Option (TyS sr)}
    (h : ∀ (w : World) (M : Mem) (G : Gh) (x : TyS sa) (y : TyS sr) (vals : Array Value), Inv w M G [] → SVRs M G vals.toList (encSs id sa x) → g x = some y →
      Calls P f vals w fun e w' => ∃ v, e = .returned v ∧ RowKit.Below w.heap.size w w' ∧ AVR M G v (retAV (encSs id sr y))) :
    Contract P f ⟨⟨sa, []⟩, ⟨sr, []⟩, fun x => (g x.1).bind fun y => some (y, ())⟩ := by
  refine ⟨Nat.le_refl _, fun w M G x vals hI hv h1 h0 y hy => ?_⟩
  have hrun : (callFunc f vals).run P w = .ok (.enter f vals) w := by
    simp only [beq_eq_false_iff_ne, ne_eq] at hn
    simp [callFunc, hf, hb, hn]
  refine .inr ⟨hrun, ?_⟩
  have hy' : ((g x.1).bind fun y => some (y, ())) = some y := hy
  cases hg : g x.1 with
  | none => rw [hg] at hy'; cases hy'
  | some z =>
    rw [hg] at hy'
    cases hy'
    refine (h w M G x.1 z vals hI hv hg).mono fun e w' he => ?_
    obtain ⟨v, rfl, hbl, ha⟩ := he
    refine ⟨M, G, ha, ⟨fun a q hq => ?_, (fun k c hk => by simp [encHs, hget] at hk), (fun k k' c c' b hk => by simp [encHs, hget] at hk), (fun b o h => by
      have h1 := hI.zone b o h
      exact h1.same (hbl.block b h1.lt)), (fun k c b hk => by simp [encHs, hget] at hk)⟩, ⟨hbl.os, hbl.tape, hbl.output, hbl.size, MLe.refl _, GLe.refl _, fun b hb _ => hbl.block b hb, fun _ _ h => .inl h, fun k c b hk _ _ => ?_⟩, fun j hj => h1 j hj⟩
    · have hc := hI.sub a q hq
      have hlt : a.block < w.heap.size := by
        rcases Nat.lt_or_ge a.block w.heap.size with h | h
        · exact h
        · unfold World.cell? at hc
          rw [Array.getElem?_eq_none h] at hc
          cases hc
      rw [← hc]
      exact hbl.cell hlt
    · simp [encHs, hget] at hk

end Go.AM
end
