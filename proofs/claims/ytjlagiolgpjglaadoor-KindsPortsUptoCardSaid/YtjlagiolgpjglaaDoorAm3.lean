/-
An abstract machine over plain values, and that what it computes is what the translated program does; rows out of it. No condition.
-/
import Derived.Lib.UnsafeStr
import Derived.Lib.AtoiAll
import Derived.Laws.OwnMore
import Derived.Test.YtjlagiolgpjglaaDoorAm1
import Derived.Test.YtjlagiolgpjglaaDoorAm2
set_option linter.unusedVariables false
set_option linter.unusedSimpArgs false
set_option linter.unusedSectionVars false

section
/-
AM: the contracts of strings.Builder's copyCheck and String, out of what walks say of worlds. No condition.
-/
namespace Go.AM
open Go
variable [Inhabited ZMem]

theorem liesAt_bytes_at {P : Program} {e : TypeId} (hc : P.cellsOf e = 1) (count p n : Nat) (hn : p + n ≤ count) (hp : n = 0 ∨ p < count) : liesAt P P.depth e count p e n = true := by
  have hd : P.depth = (2 * (P.types.size + Made.depth) + 1) + 1 := rfl
  rw [hd]
  simp only [liesAt, Bool.or_eq_true]
  left
  rw [hd]
  simp [rowAt, hc, sameLayout]
  omega

/-- unsafe.String over a stretch of a row of bytes. -/
theorem run_unsafeString_at {P : Program} (w : World) (pt it ty e : TypeId) (hp : P.underlying pt = some (.pointer e)) (hc : P.cellsOf e = 1) (g p cells : Nat) (hsh : w.shape? g = some (e, cells)) (l : List UInt8) (h0 : l ≠ []) (hn : p + l.length ≤ cells) (h63 : l.length ≤ 9223372036854775807)
    (hcell : ∀ j x, l[j]? = some x → w.cell? ((⟨g, p, none⟩ : Addr).add j) = some (.int .u8 x.toNat)) :
    (Builtin.unsafeString_ #[pt, it] ty #[.pointer (some ⟨g, p, none⟩), .int .i64 l.length]).run P w = .ok (.string ⟨l.toArray⟩) (w.freeze ⟨g, p, none⟩ l.length) := by
  have hl : l.length ≠ 0 := by simpa using h0
  have hlb := Lib.run_loadBytes (P := P) w l ⟨g, p, none⟩ .empty hcell
  have hlies := liesAt_bytes_at (P := P) hc (cells / P.cellsOf e) p l.length (by rw [hc]; simpa using hn) (.inr (by rw [hc]; simp; omega))
  have h63' : ¬ (9223372036854775807 : Int) < (l.length : Int) := by omega
  have hdef : Builtin.unsafeString_ #[pt, it] ty #[.pointer (some ⟨g, p, none⟩), .int .i64 l.length] =
      (do
        let n ← asInt (.int .i64 l.length)
        if n < 0 then runtimePanic (.error "unsafe.String: len out of range")
        if n > IntKind.i64.max then unsupported (.unsafePointer "String: a length above the largest int")
        if n = 0 then pure (.string .empty)
        else if ← variablesAt ⟨g, p, none⟩ (← elemOf pt) n.toNat then do
          let s ← loadBytes ⟨g, p, none⟩ .empty n.toNat
          freeze ⟨g, p, none⟩ n.toNat
          pure (.string s)
        else unsupported (.unsafePointer "String: not so many bytes at ptr")) := rfl
  rw [hdef]
  have hmax : IntKind.i64.max = 9223372036854775807 := rfl
  have hneg : ¬ (l.length : Int) < 0 := by omega
  simp [asInt, asIntOf, hmax, h63', hneg, hl, variablesAt, hsh, elemOf, run_underlying hp, hlies, hlb]

/-- A builder: its variable, and the row that it has for itself. -/
def bShape (TB TU : TypeId) : List HSh := [.box TB [.oself 0, .own 1], .arr TU (.int .u8) true]

theorem Step.congr {w w' : World} {M M' : Mem} {G G' : Gh} {H H1 H' : HL} (s : Step w M G H w' M' G' H1) (h : ∀ k, hget H' k = hget H1 k) : Step w M G H w' M' G' H' :=
  ⟨s.os, s.tape, s.output, s.size, s.mle, s.gle, s.keep, s.mnew, fun k c b hk hl hb => s.bl k c b (by rw [← h]; exact hk) hl hb⟩

theorem one_val {M : Mem} {G : Gh} {vals : Array Value} {s : SV} (h : SVRs M G vals.toList [s]) : ∃ v, vals = #[v] ∧ SVR M G v s := by
  obtain ⟨l⟩ := vals
  match l, h with
  | [v], h => exact ⟨v, rfl, h.1⟩
  | [], h => exact h.elim
  | _ :: _ :: _, h => exact h.2.elim

theorem enters {P : Program} {f : FuncId} {fn : Func} {c : Code} (hf : P.funcs[f]? = some fn) (hb : fn.body = some c) (hn : (fn.name == "runtime.NumGoroutine") = false) (vals : Array Value) (w : World) :
    (callFunc f vals).run P w = .ok (.enter f vals) w := by
  simp only [beq_eq_false_iff_ne, ne_eq] at hn
  simp [callFunc, hf, hb, hn]

section
variable {w : World} {M : Mem} {G : Gh} {TB TU : TypeId} {l : List Int}

abbrev bHeap (TB TU : TypeId) (l : List Int) : HL := [(0, .box TB [.oself 0, .own 1]), (1, .arr TU (.int .u8) l true)]

theorem builder_open (hI : Inv w M G (bHeap TB TU l)) : ∃ (b : Nat) (a0 v1 : Value), G 0 = some (.pointer (some ⟨b, 0, none⟩)) ∧ w.heap[b]? = some (.cells #[a0, v1] TB (0, 0)) ∧ (a0 = .pointer none ∨ a0 = .pointer (some ⟨b, 0, none⟩)) ∧ G 1 = some v1 ∧ (∃ a n c, v1 = .slice a n c) ∧ ∀ a : Addr, a.block = b → M a = none := by
  obtain ⟨b, vs, hg, hheap, hc, hm⟩ := hI.cells 0 _ rfl
  obtain ⟨vl⟩ := vs
  match vl, hc with
  | [a0, v1], ⟨⟨b', hg', ha⟩, ⟨hg1, hs⟩, _⟩ =>
    rw [hg] at hg'
    cases hg'
    exact ⟨b, a0, v1, hg, hheap, ha, hg1, hs, hm⟩
  | [], hc => exact hc.elim
  | [_], hc => exact hc.2.elim
  | _ :: _ :: _ :: _, hc => exact hc.2.2.elim

theorem cell_of {b j : Nat} {cs : Array Value} {t : TypeId} {fr : Nat × Nat} (h : w.heap[b]? = some (.cells cs t fr)) : w.cell? ⟨b, j, none⟩ = cs[j]? := by simp [World.cell?, h]

end

theorem Contract.copyCheck {P : Program} {f : FuncId} {fn : Func} {c : Code} (hf : P.funcs[f]? = some fn) (hb : fn.body = some c) (hn : (fn.name == "runtime.NumGoroutine") = false) {TB TU : TypeId}
    (used : ∀ (b : Nat) (w : World), w.cell? ⟨b, 0, none⟩ = some (.pointer (some ⟨b, 0, none⟩)) → Calls P f #[.pointer (some ⟨b, 0, none⟩)] w fun e w' => e = .returned (.tuple #[]) ∧ w' = w)
    (fresh : ∀ (b : Nat) (w : World), w.cell? ⟨b, 0, none⟩ = some (.pointer none) → w.shape? b = some (TB, 2) → w.frozen? ⟨b, 0, none⟩ = false →
      Calls P f #[.pointer (some ⟨b, 0, none⟩)] w fun e w' => e = .returned (.tuple #[]) ∧ w' = w.setCell ⟨b, 0, none⟩ (.pointer (some ⟨b, 0, none⟩))) :
    Contract P f ⟨⟨[.one (.ptr 0 0)], bShape TB TU⟩, ⟨[], bShape TB TU⟩, fun x => some ((), x.2)⟩ := by
  refine ⟨Nat.le_refl _, fun w M G x vals hI hv h1 h0 y hy => ?_⟩
  have hrun := enters hf hb hn vals w
  obtain ⟨v, rfl, hvv⟩ := one_val hv
  obtain ⟨_, ⟨_, _, _⟩, l, _⟩ := x
  have hI' : Inv w M G (bHeap TB TU l) := hI
  obtain ⟨b, a0, v1, hg, hheap, ha, hg1, hs1, hm⟩ := builder_open hI'
  obtain ⟨b', hg', rfl⟩ := hvv
  have hg0 : G 0 = some (.pointer (some ⟨b', 0, none⟩)) := hg'
  rw [hg] at hg0
  cases hg0
  cases hy
  refine .inr ⟨hrun, ?_⟩
  have c0 : w.cell? ⟨b, 0, none⟩ = some a0 := by rw [cell_of hheap]; rfl
  rcases ha with rfl | rfl
  · refine (fresh b w c0 (by simp [World.shape?, hheap]) (by simp [World.frozen?, hheap])).mono fun e w' he => ?_
    obtain ⟨rfl, rfl⟩ := he
    have hgr : w.grownBy (w.setCell ⟨b, 0, none⟩ (.pointer (some ⟨b, 0, none⟩))) (some b) := ⟨rfl, rfl, rfl, by simp [World.setCell], fun k _ hk => RowKit.Below.heap_setCell _ _ _ _ (fun e => hk (by simp [e]))⟩
    have hsub : ∀ (a : Addr) (q : Value), M a = some q → (w.setCell ⟨b, 0, none⟩ (.pointer (some ⟨b, 0, none⟩))).cell? a = some q := by
      intro a q h
      have hne : a.block ≠ b := fun e => by rw [hm a e] at h; cases h
      have h2 := hI'.sub a q h
      unfold World.cell? at h2 ⊢
      rw [RowKit.Below.heap_setCell _ _ _ _ hne]
      exact h2
    have hheap' : (w.setCell ⟨b, 0, none⟩ (.pointer (some ⟨b, 0, none⟩))).heap[b]? = some (.cells #[.pointer (some ⟨b, 0, none⟩), v1] TB (0, 0)) := by
      simp [World.setCell, Array.getElem?_modify, hheap]
    have hk : HCR (w.setCell ⟨b, 0, none⟩ (.pointer (some ⟨b, 0, none⟩))) M G 0 (.box TB [.oself 0, .own 1]) :=
      ⟨b, _, hg, hheap', ⟨⟨b, hg, .inr rfl⟩, ⟨hg1, hs1⟩, trivial⟩, hm⟩
    have hbb : ∀ b', (HC.box TB [.oself 0, .own 1]).live → blk G 0 = some b' → w.heap.size ≤ b' ∨ some b = some b' := by
      intro b' _ h
      rw [blk_of hg] at h
      exact .inr h
    have i1 := hI'.put 0 _ hgr (MLe.refl _) (GLe.refl _) (fun _ _ h => .inl h) hsub (fun k' c' b1 hne hk' hl' e => by
      cases e
      exact hI'.sep 0 k' _ c' b rfl hk' trivial hl' (fun q => hne q.symm) (by rw [blk_of hg]; rfl)) hk hbb (fun b1 e => by cases e; exact hI'.zsep 0 _ b rfl trivial (by rw [blk_of hg]; rfl))
    have s1 := Step.put (k := 0) (c := .box TB [.oself 0, .own 1]) hI' hgr (MLe.refl _) (GLe.refl _) (fun _ _ h => .inl h) (fun b1 h => by cases h; exact ⟨0, _, rfl, trivial, by rw [blk_of hg]; rfl⟩) hbb
    have hcg : ∀ k, hget (bHeap TB TU l) k = hget ((0, .box TB [.oself 0, .own 1]) :: bHeap TB TU l) k := fun k => by
      by_cases e : 0 = k
      · subst e; rfl
      · simp [bHeap, hget, e]
    exact ⟨M, G, ⟨#[], rfl, trivial⟩, i1.congr hcg, s1.congr hcg, fun j hj => h1 j hj⟩
  · refine (used b w c0).mono fun e w' he => ?_
    obtain ⟨rfl, rfl⟩ := he
    exact ⟨M, G, ⟨#[], rfl, trivial⟩, hI', Step.refl _ _ _ _, fun j hj => h1 j hj⟩

theorem heap_freeze_other (w : World) (p : Addr) (n k : Nat) (h : k ≠ p.block) : (w.freeze p n).heap[k]? = w.heap[k]? := by
  unfold World.freeze
  split
  · rfl
  · simp only [Array.getElem?_modify]
    rw [if_neg (fun e => h e.symm)]

theorem cell_freeze (w : World) (p : Addr) (n : Nat) (a : Addr) : (w.freeze p n).cell? a = w.cell? a := by
  by_cases h : a.block = p.block
  · unfold World.freeze
    split
    · rfl
    · unfold World.cell?
      simp only [Array.getElem?_modify, h, if_pos]
      cases e : w.heap[p.block]? with
      | none => simp
      | some o =>
        simp only [Option.map_some]
        cases o with
        | cells c t fr => obtain ⟨lo, hi⟩ := fr; rfl
        | _ => rfl
  · unfold World.cell?
    rw [heap_freeze_other w p n _ h]

def byteL (l : List Int) : Bool := l.all fun n => decide (0 ≤ n ∧ n ≤ 255)

theorem byte_back (m : Int) (h1 : 0 ≤ m) (h2 : m ≤ 255) : (((UInt8.ofNat m.toNat).toNat : Nat) : Int) = m := by
  rw [UInt8.toNat_ofNat_of_lt' (by show m.toNat < 256; omega)]
  omega

theorem Contract.bString {P : Program} {f : FuncId} {fn : Func} {c : Code} (hf : P.funcs[f]? = some fn) (hb : fn.body = some c) (hn : (fn.name == "runtime.NumGoroutine") = false) {TB TU : TypeId}
    (nilw : ∀ (b : Nat) (w : World) (cs : Array Value), w.heap[b]? = some (.cells cs TB (0, 0)) → cs[1]? = some (.slice none 0 0) → Calls P f #[.pointer (some ⟨b, 0, none⟩)] w fun e w' => e = .returned (.string .empty) ∧ w' = w.drew)
    (room : ∀ (b g p cap : Nat), cap ≠ 0 → ∀ (w : World) (cs : Array Value), w.heap[b]? = some (.cells cs TB (0, 0)) → cs[1]? = some (.slice (some ⟨g, p, none⟩) 0 cap) → Calls P f #[.pointer (some ⟨b, 0, none⟩)] w fun e w' => e = .returned (.string .empty) ∧ w' = w.drew)
    (noroom : ∀ (b g p : Nat) (w : World) (cs cur : Array Value), w.heap[b]? = some (.cells cs TB (0, 0)) → cs[1]? = some (.slice (some ⟨g, p, none⟩) 0 0) → w.heap[g]? = some (.cells cur TU (0, 0)) →
      Calls P f #[.pointer (some ⟨b, 0, none⟩)] w fun e w' => e = .returned (.string .empty) ∧ w' = w.drew.alloc (.view ⟨g, p, none⟩ TU))
    (row : ∀ (b g p cap : Nat) (w : World) (cs cur : Array Value) (l : List UInt8), l ≠ [] → w.heap[b]? = some (.cells cs TB (0, 0)) → cs[1]? = some (.slice (some ⟨g, p, none⟩) l.length cap) → w.heap[g]? = some (.cells cur TU (0, 0)) →
      l.length ≤ cap → p + cap ≤ cur.size → cap ≤ maxLen → (∀ j x, l[j]? = some x → w.cell? ((⟨g, p, none⟩ : Addr).add j) = some (.int .u8 x.toNat)) →
      Calls P f #[.pointer (some ⟨b, 0, none⟩)] w fun e w' => e = .returned (.string ⟨l.toArray⟩) ∧ w' = w.drew.freeze ⟨g, p, none⟩ l.length) :
    Contract P f ⟨⟨[.one (.ptr 0 0)], bShape TB TU⟩, ⟨[.one .str], [.dead, .dead]⟩, fun x => if byteL x.2.2.1 = true then some ((strOfBytes x.2.2.1, ()), ((), (), ())) else none⟩ := by
  refine ⟨Nat.le_refl _, fun w M G x vals hI hv h1 h0 y hy => ?_⟩
  have hrun := enters hf hb hn vals w
  obtain ⟨v, rfl, hvv⟩ := one_val hv
  obtain ⟨_, ⟨_, _, _⟩, l, _⟩ := x
  have hI' : Inv w M G (bHeap TB TU l) := hI
  obtain ⟨b, a0, v1, hg, hheap, ha, hg1, hs1, hm⟩ := builder_open hI'
  obtain ⟨b', hg', rfl⟩ := hvv
  have hg0 : G 0 = some (.pointer (some ⟨b', 0, none⟩)) := hg'
  rw [hg] at hg0
  cases hg0
  have hy' : (if byteL l = true then some ((strOfBytes l, ()), ((), (), ())) else none) = some y := hy
  have hbl : byteL l = true := by
    by_cases q : byteL l = true
    · exact q
    · rw [if_neg q] at hy'; cases hy'
  rw [if_pos hbl] at hy'
  cases hy'
  obtain ⟨v1', xs, hg1', hown, hrow, hmm⟩ := hI'.cells 1 _ rfl
  rw [hg1] at hg1'
  cases hg1'
  refine .inr ⟨hrun, ?_⟩
  have hc1 : (#[a0, v1] : Array Value)[1]? = some v1 := rfl
  -- what is left where no cell turns, and no block but the row's
  have fin : ∀ (w' : World), w'.os = w.os → w'.tape = w.tape → w'.output = w.output → w.heap.size ≤ w'.heap.size → (∀ a q, w.cell? a = some q → w'.cell? a = some q) →
      (∀ k, k < w.heap.size → some k ≠ blkV v1 → w'.heap[k]? = w.heap[k]?) → Ret w M G (bHeap TB TU l) ⟨[.one .str], [.dead, .dead]⟩ ((strOfBytes l, ()), ((), (), ())) (.string (strOfBytes l)) w' := by
    intro w' q1 q2 q3 q4 q5 q6
    have dead : ∀ k c, hget [(0, HC.dead), (1, HC.dead)] k = some c → ¬ c.live := by
      intro k c hk
      simp only [hget] at hk
      split at hk
      · cases hk; exact id
      · split at hk
        · cases hk; exact id
        · cases hk
    refine ⟨M, G, ⟨rfl, rfl⟩, ⟨fun a q h => q5 a q (hI'.sub a q h), fun k c hk => ?_, fun k k' c c' b1 hk _ hl _ => absurd hl (dead k c hk), fun bz o hz => ?_, fun k c b1 hk hl => absurd hl (dead k c hk)⟩, ⟨q1, q2, q3, q4, MLe.refl _, GLe.refl _, fun k hk hne => q6 k hk (fun e => ?_), fun _ _ h => .inl h, fun k c b1 hk hl => absurd hl (dead k c hk)⟩, fun j hj => h1 j hj⟩
    · have := dead k c hk
      cases c with
      | dead => trivial
      | box _ _ => exact absurd trivial this
      | arr _ _ _ _ => exact absurd trivial this
    · have hz1 := hI'.zone bz o hz
      exact hz1.same (q6 bz hz1.lt (fun e => by rw [hI'.zsep 1 _ bz rfl trivial (by rw [blk_of hg1]; exact e.symm)] at hz; cases hz))
    · exact hne 1 _ rfl trivial (by rw [blk_of hg1]; exact e.symm)
  rcases hown.2 with ⟨rfl, hz⟩ | ⟨g, p, cap, cur, rfl, hgg, hnc, hcm, hcs, htake⟩
  · have hl : l = [] := List.eq_nil_of_length_eq_zero hz
    subst hl
    refine (nilw b w _ hheap hc1).mono fun e w' he => ?_
    obtain ⟨rfl, rfl⟩ := he
    exact fin w.drew rfl rfl rfl (Nat.le_refl _) (fun _ _ h => h) (fun _ _ _ => rfl)
  · simp only [U.size, Nat.mul_one] at hcs htake
    cases l with
    | nil =>
      by_cases hc : cap = 0
      · subst hc
        refine (noroom b g p w _ cur hheap hc1 hgg).mono fun e w' he => ?_
        obtain ⟨rfl, rfl⟩ := he
        refine fin _ rfl rfl rfl (by show w.heap.size ≤ (w.heap.push _).size; simp) (fun a q h => ?_) (fun k hk _ => ?_)
        · show (w.drew.alloc _).cell? a = some q
          rw [World.cell?_alloc_lt]
          · exact h
          · exact World.block_lt_of_cell? w a h
        · show (w.heap.push _)[k]? = _
          rw [Array.getElem?_push, if_neg (by omega)]
      · refine (room b g p cap hc w _ hheap hc1).mono fun e w' he => ?_
        obtain ⟨rfl, rfl⟩ := he
        exact fin w.drew rfl rfl rfl (Nat.le_refl _) (fun _ _ h => h) (fun _ _ _ => rfl)
    | cons n0 l0 =>
      have hlen : ((n0 :: l0).map fun n => UInt8.ofNat n.toNat).length = (n0 :: l0).length := by simp
      have hcell : ∀ j x, ((n0 :: l0).map fun n => UInt8.ofNat n.toNat)[j]? = some x → w.cell? ((⟨g, p, none⟩ : Addr).add j) = some (.int .u8 x.toNat) := by
        intro j x hx
        have hj : j < (n0 :: l0).length := by have := (List.getElem?_eq_some_iff.1 hx).1; simpa using this
        have hx' : UInt8.ofNat ((n0 :: l0)[j]).toNat = x := by
          rw [List.getElem?_map, List.getElem?_eq_getElem hj] at hx
          simpa using hx
        have hd := hrow.2 j hj
        have hxs : xs[j]? = some (.int .u8 (n0 :: l0)[j]) := by
          have h2 : (xs.drop (j * 1)).take 1 = [.int .u8 (n0 :: l0)[j]] := hd
          rw [Nat.mul_one] at h2
          have h3 : xs.length = (n0 :: l0).length := by have := hrow.1; simpa [U.size] using this
          rw [List.drop_eq_getElem_cons (by omega)] at h2
          simp only [List.take_succ_cons, List.take_zero, List.cons.injEq, and_true] at h2
          rw [List.getElem?_eq_getElem (by omega), h2]
        have hc := hown.cells (g := g) rfl j _ hxs
        have hr := List.all_eq_true.1 hbl _ (List.getElem_mem hj)
        have hr2 := of_decide_eq_true hr
        have e1 : ((x.toNat : Nat) : Int) = (n0 :: l0)[j] := by
          rw [← hx']
          exact byte_back _ hr2.1 hr2.2
        rw [e1]
        exact hc
      have hr := row b g p cap w _ cur ((n0 :: l0).map fun n => UInt8.ofNat n.toNat) (by simp) hheap (by rw [hlen]; exact hc1) hgg (by rw [hlen]; exact hnc) hcs hcm hcell
      refine hr.mono fun e w' he => ?_
      obtain ⟨rfl, rfl⟩ := he
      refine fin _ ?_ ?_ ?_ ?_ (fun a q h => ?_) (fun k hk hne => ?_)
      · unfold World.freeze; split <;> rfl
      · unfold World.freeze; split <;> rfl
      · unfold World.freeze; split <;> rfl
      · unfold World.freeze; split
        · exact Nat.le_refl _
        · simp
      · rw [cell_freeze]; exact h
      · rw [heap_freeze_other _ _ _ _ (fun e => hne (by rw [e]; rfl))]
        rfl

end Go.AM
end

section
/-
AM: declared decoders in plain Lean: which rule a symbol has, which state a name has; the first pair of a kind; walks that end or do not. No condition.
-/
namespace Go.AM
open Go

abbrev RuleT : Type := Int × Int × ByteArray × Bool × List (Int × Int)
abbrev StateT : Type := ByteArray × List RuleT × Bool × RuleT
abbrev DeclT : Type := ByteArray × Int × Int × List StateT

def noRule : RuleT := (0, 0, strB [], false, [])

def hitB (x : Int) (r : RuleT) : Bool := decide (r.1 ≤ x) && decide (x ≤ r.2.1)

def ruleR (s : StateT) (x : Int) (rs : List RuleT) : RuleT × Bool := match rs.find? (hitB x) with
  | some r => (r, true)
  | none => if s.2.2.1 = true then (s.2.2.2, true) else (noRule, false)

def matchV (ss : List StateT) (i x : Int) : RuleT × Bool := if i < 0 then (noRule, false) else match ss[i.toNat]? with
  | some s => ruleR s x s.2.1
  | none => (noRule, false)

/-- The number of the state of this name. -/
def findN (ss : List StateT) (b : ByteArray) : Option Nat := ss.findIdx? fun s => L s.1 == L b

def optI : Option Nat → Int
  | some i => i
  | none => -1

def topV (d : DeclT) : Nat := if d.2.1 = 2 then 1 else 255

def okRule (r : RuleT) : Prop := r.2.2.2.2.length ≤ 1048576
def okState (s : StateT) : Prop := s.2.1.length ≤ 1048576 ∧ (∀ r ∈ s.2.1, okRule r) ∧ okRule s.2.2.2
def okDecl (d : DeclT) : Prop := d.2.2.2.length ≤ 1048576 ∧ ∀ s ∈ d.2.2.2, okState s

/-! ### lists by index -/
theorem dropS {α : Type} {l : List α} {n : Nat} {c : α} {r : List α} (h : l.drop n = c :: r) : l.drop (n + 1) = r := by
  rw [← List.drop_drop, h]; rfl

theorem getD_drop {α : Type} {l : List α} {k : Nat} {c d : α} {r : List α} (h : l.drop k = c :: r) : l.getD k d = c := by
  have h1 := drop_lt h
  rw [List.drop_eq_getElem_cons h1] at h
  cases h
  simp [List.getD, List.getElem?_eq_getElem h1]

theorem getD_in {α : Type} {l : List α} {k : Nat} (d : α) (h : k < l.length) : l.getD k d = l[k] := by
  simp [List.getD, List.getElem?_eq_getElem h]

theorem mem_drop {α : Type} {l : List α} {k : Nat} {c : α} {r : List α} (h : l.drop k = c :: r) : c ∈ l := List.mem_of_mem_drop (i := k) (by rw [h]; exact List.mem_cons_self)

/-! ### the first pair -/
def firstV (n m : Nat) (p : Nat → Nat → Bool) : Option (Nat × Nat) := (List.range n).findSome? fun i => ((List.range (m + 1)).find? (p i)).map fun x => (i, x)

def resV : Option (Nat × Nat) → Option ((Int × Int × Bool × Unit) × Unit)
  | some (i, x) => some (((i : Int), (x : Int), true, ()), ())
  | none => some ((0, 0, false, ()), ())

theorem findSome_congr {α β : Type} {f g : α → Option β} : ∀ {l : List α}, (∀ a ∈ l, f a = g a) → l.findSome? f = l.findSome? g
  | [], _ => rfl
  | a :: l, h => by
    rw [List.findSome?_cons, List.findSome?_cons, h a (by simp), findSome_congr (fun b hb => h b (by simp [hb]))]

theorem find_congr {α : Type} {f g : α → Bool} : ∀ {l : List α}, (∀ a ∈ l, f a = g a) → l.find? f = l.find? g
  | [], _ => rfl
  | a :: l, h => by
    rw [List.find?_cons, List.find?_cons, h a (by simp), find_congr (fun b hb => h b (by simp [hb]))]

theorem firstV_congr {n m : Nat} {p q : Nat → Nat → Bool} (h : ∀ i x, i < n → x ≤ m → p i x = q i x) : firstV n m p = firstV n m q := by
  unfold firstV
  refine findSome_congr (fun i hi => ?_)
  have hi' : i < n := by simpa using hi
  rw [find_congr (g := q i) (fun x hx => h i x hi' (Nat.le_of_lt_succ (List.mem_range.1 hx)))]

theorem range_drop (n i : Nat) : (List.range n).drop i = List.range' i (n - i) := by
  rw [List.range_eq_range', List.drop_range']; simp

theorem first_loop {R : Type} (n m : Nat) (p : Nat → Nat → Bool) (G : Nat → R) (F : Nat → Nat → R) (res : Option (Nat × Nat) → R)
    (hG : ∀ i, i < n → G i = F i 0) (hGn : G n = res none)
    (hF : ∀ i x, i < n → x ≤ m → F i x = if p i x = true then res (some (i, x)) else F i (x + 1))
    (hFm : ∀ i, i < n → F i (m + 1) = G (i + 1)) : G 0 = res (firstV n m p) := by
  have inner : ∀ (i : Nat), i < n → ∀ (c x : Nat), c = m + 1 - x → x ≤ m + 1 → F i x = match (List.range' x (m + 1 - x)).find? (p i) with
      | some y => res (some (i, y))
      | none => G (i + 1) := by
    intro i hi c
    induction c with
    | zero =>
      intro x hc hx
      have : x = m + 1 := by omega
      subst this
      simp [hFm i hi]
    | succ c ih =>
      intro x hc hx
      rw [hF i x hi (by omega)]
      have e : m + 1 - x = (m + 1 - (x + 1)) + 1 := by omega
      rw [e, List.range'_succ, List.find?_cons]
      by_cases hp : p i x = true
      · rw [if_pos hp, hp]
      · rw [if_neg hp, ih (x + 1) (by omega) (by omega)]
        simp at hp
        rw [hp]
  have outer : ∀ (c i : Nat), c = n - i → i ≤ n → G i = res ((List.range' i (n - i)).findSome? fun i => ((List.range (m + 1)).find? (p i)).map fun x => (i, x)) := by
    intro c
    induction c with
    | zero =>
      intro i hc hi
      have : i = n := by omega
      subst this
      simp [hGn]
    | succ c ih =>
      intro i hc hi
      have hi' : i < n := by omega
      rw [hG i hi', inner i hi' (m + 1) 0 (by omega) (by omega)]
      have e : n - i = (n - (i + 1)) + 1 := by omega
      rw [e, List.range'_succ, List.findSome?_cons, List.range_eq_range']
      simp only [Nat.sub_zero]
      cases (List.range' 0 (m + 1)).find? (p i) with
      | some y => rfl
      | none => simpa [List.range_eq_range'] using ih (i + 1) (by omega) (by omega)
  have := outer n 0 (by omega) (by omega)
  simpa [firstV, List.range_eq_range'] using this

/-! ### walks -/
def iter (g : Nat → Option Nat) : Nat → Nat → Option Nat
  | 0, i => some i
  | k + 1, i => (g i).bind (iter g k)

theorem iter_add (g : Nat → Option Nat) : ∀ (a b i : Nat), iter g (a + b) i = (iter g a i).bind (iter g b)
  | 0, b, i => by simp [iter]
  | a + 1, b, i => by
    rw [Nat.succ_add]
    simp only [iter]
    cases g i with
    | none => rfl
    | some j => exact iter_add g a b j

theorem iter_some_le {g : Nat → Option Nat} {a b i : Nat} (h : a ≤ b) (hb : (iter g b i).isSome = true) : (iter g a i).isSome = true := by
  have e : b = a + (b - a) := by omega
  rw [e, iter_add] at hb
  cases q : iter g a i with
  | none => rw [q] at hb; cases hb
  | some _ => rfl

/-- A walk that comes back never ends. -/
theorem iter_cycle {g : Nat → Option Nat} {j s : Nat} (hj : 1 ≤ j) (h : iter g j s = some s) : ∀ k, (iter g k s).isSome = true := by
  have rep : ∀ n, iter g (n * j) s = some s := by
    intro n
    induction n with
    | zero => simp [iter]
    | succ n ih => rw [Nat.succ_mul, iter_add, ih]; exact h
  intro k
  refine iter_some_le (b := k * j) ?_ (by rw [rep k]; rfl)
  exact Nat.le_mul_of_pos_right k hj

def stepV (ss : List StateT) (x : Int) (i : Nat) : Option Nat :=
  if (matchV ss i x).2 = true then if (matchV ss i x).1.2.2.2.1 = true then findN ss (matchV ss i x).1.2.2.1 else none else none

/-- The symbol is read again forever. -/
def endlessV (ss : List StateT) (i : Nat) (x : Int) : Bool := (iter (stepV ss x) (ss.length + 1) i).isSome

theorem findN_lt {ss : List StateT} {b : ByteArray} {i : Nat} (h : findN ss b = some i) : i < ss.length := by
  unfold findN at h
  rw [List.findIdx?_eq_some_iff_getElem] at h
  exact h.1

theorem stepV_lt {ss : List StateT} {x : Int} {i j : Nat} (h : stepV ss x i = some j) : j < ss.length := by
  unfold stepV at h
  split at h
  · split at h
    · exact findN_lt h
    · cases h
  · cases h

/-! ### lists of marks -/
def falses (l : List Bool) : Nat := l.countP fun b => !b

theorem falses_set : ∀ (l : List Bool) (i : Nat), l[i]? = some false → falses (l.set i true) + 1 = falses l
  | [], _, h => by simp at h
  | b :: l, 0, h => by simp at h; subst h; simp [falses]
  | b :: l, i + 1, h => by
    have ih := falses_set l i (by simpa using h)
    unfold falses at ih ⊢
    rw [List.set_cons_succ, List.countP_cons, List.countP_cons]
    omega

theorem falses_pos {l : List Bool} {i : Nat} (h : l[i]? = some false) : 1 ≤ falses l := by
  have := falses_set l i h
  omega

theorem falses_rep (n : Nat) : falses (List.replicate n false) = n := by
  unfold falses
  rw [List.countP_replicate]
  simp

theorem set_get {l : List Bool} {i t : Nat} (h : (l.set i true)[t]? = some true) : t = i ∨ l[t]? = some true := by
  by_cases e : i = t
  · exact .inl e.symm
  · rw [List.getElem?_set_ne e] at h; exact .inr h

end Go.AM
end

section
/-
AM: the table of kinds, their ports and their parameters, in plain Lean; which parameters are valid. No condition.
-/
namespace Go.AM
open Go

abbrev ParT : Type := ByteArray × Int
abbrev SpecT : Type := ByteArray × Int × Int × Int

def kt : List (ByteArray × List ByteArray) := [
  (strB [115, 97, 109, 112, 108, 101, 114], [strB [49], strB [50], strB [49], strB [110, 117, 109], strB [49], strB [49, 48, 52, 56, 53, 55, 54], strB [49, 54], strB [100, 101, 110], strB [49], strB [49, 48, 50, 52], strB [49]]),
  (strB [110, 114, 122, 105], [strB [50], strB [50], strB [48], strB [122, 101, 114, 111], strB [48], strB [49], strB [48]]),
  (strB [109, 97, 110, 99, 104, 101, 115, 116, 101, 114], [strB [49], strB [50], strB [49], strB [110, 117, 109], strB [49], strB [49, 48, 52, 56, 53, 55, 54], strB [49, 54], strB [100, 101, 110], strB [49], strB [49, 48, 50, 52], strB [49], strB [105, 101, 101, 101], strB [48], strB [49], strB [48]]),
  (strB [99, 111, 100, 101, 103, 114, 111, 117, 112], [strB [50], strB [51], strB [48], strB [109, 115, 98], strB [48], strB [49], strB [48]]),
  (strB [115, 116, 117, 102, 102], [strB [50], strB [50], strB [48], strB [114, 117, 110], strB [50], strB [49, 54], strB [53], strB [111, 110, 101, 115], strB [48], strB [49], strB [49]]),
  (strB [115, 99, 114, 97, 109, 98, 108, 101], [strB [50], strB [50], strB [48], strB [119, 105, 100, 116, 104], strB [50], strB [51, 49], strB [55], strB [116, 97, 112, 115], strB [49], strB [50, 49, 52, 55, 52, 56, 51, 54, 52, 55], strB [55, 50]]),
  (strB [115, 121, 110, 99], [strB [50], strB [53], strB [48], strB [119, 111, 114, 100], strB [48], strB [52, 50, 57, 52, 57, 54, 55, 50, 57, 53], strB [50, 49, 51], strB [108, 101, 110, 103, 116, 104], strB [56], strB [51, 50], strB [56], strB [98, 121, 116, 101, 115], strB [49], strB [50, 53, 54], strB [52], strB [109, 115, 98], strB [48], strB [49], strB [49]]),
  (strB [117, 97, 114, 116], [strB [49], strB [51], strB [49], strB [110, 117, 109], strB [49], strB [49, 48, 52, 56, 53, 55, 54], strB [49, 54], strB [100, 101, 110], strB [49], strB [49, 48, 50, 52], strB [49], strB [98, 105, 116, 115], strB [53], strB [57], strB [56], strB [112, 97, 114, 105, 116, 121], strB [48], strB [50], strB [48], strB [115, 116, 111, 112], strB [49], strB [50], strB [49]]),
  (strB [105, 50, 99], [strB [49], strB [53], strB [50], strB [116], strB [49], strB [54, 53, 53, 51, 54], strB [52]]),
  (strB [115, 112, 105], [strB [49], strB [53], strB [51], strB [116], strB [49], strB [54, 53, 53, 51, 54], strB [52], strB [109, 111, 100, 101], strB [48], strB [51], strB [48], strB [98, 105, 116, 115], strB [49], strB [56], strB [56], strB [109, 115, 98], strB [48], strB [49], strB [49]]),
  (strB [111, 110, 101, 119, 105, 114, 101], [strB [49], strB [51], strB [49], strB [116], strB [49], strB [54, 53, 53, 51, 54], strB [52]]),
  (strB [99, 97, 110], [strB [49], strB [53], strB [49], strB [110, 117, 109], strB [49], strB [49, 48, 52, 56, 53, 55, 54], strB [49, 54], strB [100, 101, 110], strB [49], strB [49, 48, 50, 52], strB [49]]),
  (strB [108, 105, 110], [strB [51], strB [53], strB [48], strB [99, 108, 97, 115, 115, 105, 99], strB [48], strB [49], strB [48]]),
  (strB [106, 116, 97, 103], [strB [49], strB [53], strB [52], strB [116], strB [49], strB [54, 53, 53, 51, 54], strB [52]]),
  (strB [115, 108, 105, 112], [strB [51], strB [54], strB [48], strB [109, 111, 115, 116], strB [49], strB [52, 48, 57, 54], strB [50, 53, 54]]),
  (strB [109, 111, 100, 98, 117, 115], [strB [51], strB [53], strB [48], strB [103, 97, 112], strB [48], strB [49, 48, 48, 48, 48, 48, 48], strB [53, 54, 48]]),
  (strB [101, 101, 112, 114, 111, 109], [strB [53], strB [55], strB [48], strB [97, 100, 100, 114, 101, 115, 115], strB [48], strB [49, 50, 55], strB [56, 48], strB [112, 111, 105, 110, 116, 101, 114], strB [49], strB [50], strB [49]]),
  (strB [105, 115, 111, 116, 112], [strB [53], strB [54], strB [48], strB [105, 100], strB [48], strB [53, 51, 54, 56, 55, 48, 57, 49, 49], strB [50, 48, 49, 54]]),
  (strB [112, 97, 105, 114], [strB [54], strB [56], strB [48], strB [116, 105, 109, 101, 111, 117, 116], strB [49], strB [49, 48, 57, 57, 53, 49, 49, 54, 50, 55, 55, 55, 54], strB [49, 48, 52, 56, 53, 55, 54]])]
def tableB : ByteArray := strB [115, 97, 109, 112, 108, 101, 114, 32, 49, 32, 50, 32, 49, 32, 110, 117, 109, 32, 49, 32, 49, 48, 52, 56, 53, 55, 54, 32, 49, 54, 32, 100, 101, 110, 32, 49, 32, 49, 48, 50, 52, 32, 49, 10, 110, 114, 122, 105, 32, 50, 32, 50, 32, 48, 32, 122, 101, 114, 111, 32, 48, 32, 49, 32, 48, 10, 109, 97, 110, 99, 104, 101, 115, 116, 101, 114, 32, 49, 32, 50, 32, 49, 32, 110, 117, 109, 32, 49, 32, 49, 48, 52, 56, 53, 55, 54, 32, 49, 54, 32, 100, 101, 110, 32, 49, 32, 49, 48, 50, 52, 32, 49, 32, 105, 101, 101, 101, 32, 48, 32, 49, 32, 48, 10, 99, 111, 100, 101, 103, 114, 111, 117, 112, 32, 50, 32, 51, 32, 48, 32, 109, 115, 98, 32, 48, 32, 49, 32, 48, 10, 115, 116, 117, 102, 102, 32, 50, 32, 50, 32, 48, 32, 114, 117, 110, 32, 50, 32, 49, 54, 32, 53, 32, 111, 110, 101, 115, 32, 48, 32, 49, 32, 49, 10, 115, 99, 114, 97, 109, 98, 108, 101, 32, 50, 32, 50, 32, 48, 32, 119, 105, 100, 116, 104, 32, 50, 32, 51, 49, 32, 55, 32, 116, 97, 112, 115, 32, 49, 32, 50, 49, 52, 55, 52, 56, 51, 54, 52, 55, 32, 55, 50, 10, 115, 121, 110, 99, 32, 50, 32, 53, 32, 48, 32, 119, 111, 114, 100, 32, 48, 32, 52, 50, 57, 52, 57, 54, 55, 50, 57, 53, 32, 50, 49, 51, 32, 108, 101, 110, 103, 116, 104, 32, 56, 32, 51, 50, 32, 56, 32, 98, 121, 116, 101, 115, 32, 49, 32, 50, 53, 54, 32, 52, 32, 109, 115, 98, 32, 48, 32, 49, 32, 49, 10, 117, 97, 114, 116, 32, 49, 32, 51, 32, 49, 32, 110, 117, 109, 32, 49, 32, 49, 48, 52, 56, 53, 55, 54, 32, 49, 54, 32, 100, 101, 110, 32, 49, 32, 49, 48, 50, 52, 32, 49, 32, 98, 105, 116, 115, 32, 53, 32, 57, 32, 56, 32, 112, 97, 114, 105, 116, 121, 32, 48, 32, 50, 32, 48, 32, 115, 116, 111, 112, 32, 49, 32, 50, 32, 49, 10, 105, 50, 99, 32, 49, 32, 53, 32, 50, 32, 116, 32, 49, 32, 54, 53, 53, 51, 54, 32, 52, 10, 115, 112, 105, 32, 49, 32, 53, 32, 51, 32, 116, 32, 49, 32, 54, 53, 53, 51, 54, 32, 52, 32, 109, 111, 100, 101, 32, 48, 32, 51, 32, 48, 32, 98, 105, 116, 115, 32, 49, 32, 56, 32, 56, 32, 109, 115, 98, 32, 48, 32, 49, 32, 49, 10, 111, 110, 101, 119, 105, 114, 101, 32, 49, 32, 51, 32, 49, 32, 116, 32, 49, 32, 54, 53, 53, 51, 54, 32, 52, 10, 99, 97, 110, 32, 49, 32, 53, 32, 49, 32, 110, 117, 109, 32, 49, 32, 49, 48, 52, 56, 53, 55, 54, 32, 49, 54, 32, 100, 101, 110, 32, 49, 32, 49, 48, 50, 52, 32, 49, 10, 108, 105, 110, 32, 51, 32, 53, 32, 48, 32, 99, 108, 97, 115, 115, 105, 99, 32, 48, 32, 49, 32, 48, 10, 106, 116, 97, 103, 32, 49, 32, 53, 32, 52, 32, 116, 32, 49, 32, 54, 53, 53, 51, 54, 32, 52, 10, 115, 108, 105, 112, 32, 51, 32, 54, 32, 48, 32, 109, 111, 115, 116, 32, 49, 32, 52, 48, 57, 54, 32, 50, 53, 54, 10, 109, 111, 100, 98, 117, 115, 32, 51, 32, 53, 32, 48, 32, 103, 97, 112, 32, 48, 32, 49, 48, 48, 48, 48, 48, 48, 32, 53, 54, 48, 10, 101, 101, 112, 114, 111, 109, 32, 53, 32, 55, 32, 48, 32, 97, 100, 100, 114, 101, 115, 115, 32, 48, 32, 49, 50, 55, 32, 56, 48, 32, 112, 111, 105, 110, 116, 101, 114, 32, 49, 32, 50, 32, 49, 10, 105, 115, 111, 116, 112, 32, 53, 32, 54, 32, 48, 32, 105, 100, 32, 48, 32, 53, 51, 54, 56, 55, 48, 57, 49, 49, 32, 50, 48, 49, 54, 10, 112, 97, 105, 114, 32, 54, 32, 56, 32, 48, 32, 116, 105, 109, 101, 111, 117, 116, 32, 49, 32, 49, 48, 57, 57, 53, 49, 49, 54, 50, 55, 55, 55, 54, 32, 49, 48, 52, 56, 53, 55, 54]

def wordsV (kind : ByteArray) : List ByteArray := match kt.find? (fun p => L p.1 == L kind) with
  | some p => p.2
  | none => []
/-- The number that decimal digits write. -/
def digI (l : List UInt8) : Int := l.foldl (fun n c => 10 * n + ((c.toNat : Int) - 48)) 0
def numK (l : List ByteArray) (i : Nat) : Int := match l[i]? with
  | some b => digI (L b)
  | none => 0
def specsF : Nat → List ByteArray → List SpecT
  | 0, _ => []
  | k + 1, n :: a :: b :: c :: r => (n, digI (L a), digI (L b), digI (L c)) :: specsF k r
  | _, _ => []
def specsW (l : List ByteArray) : List SpecT := specsF l.length (l.drop 3)
def specsV (kind : ByteArray) : List SpecT := specsW (wordsV kind)
def inK (kind : ByteArray) : Int := numK (wordsV kind) 0
def outK (kind : ByteArray) : Int := numK (wordsV kind) 1
def chanK (kind : ByteArray) : Int := numK (wordsV kind) 2

/-- A kind of the table, or none. -/
theorem kind_cases (kind : ByteArray) : (∃ p ∈ kt, p.1 = kind) ∨ ((∀ p ∈ kt, L p.1 ≠ L kind) ∧ wordsV kind = []) := by
  unfold wordsV
  cases h : kt.find? (fun p => L p.1 == L kind) with
  | some p =>
    have h1 := List.find?_some h
    exact .inl ⟨p, List.mem_of_find?_eq_some h, L_inj (by simpa using h1)⟩
  | none =>
    refine .inr ⟨fun p hp => ?_, rfl⟩
    have := List.find?_eq_none.1 h p hp
    simpa using this

/-! ### parameters -/
def specOf (s : List SpecT) (n : ByteArray) : Option SpecT := s.find? fun x => L x.1 == L n
def parOf (l : List ParT) (n : ByteArray) : Option ParT := l.find? fun x => L x.1 == L n
def valueK (s : List SpecT) (l : List ParT) (n : ByteArray) : Int × Int := match specOf s n with
  | none => (0, 8)
  | some x => match parOf l n with
    | some p => (p.2, 0)
    | none => (x.2.2.2, 0)
def chkP (s : List SpecT) : List ParT → List ParT → Int
  | _, [] => 0
  | seen, p :: r => match specOf s p.1 with
    | none => 8
    | some x => if (seen.any fun q => L q.1 == L p.1) = true then 9 else if p.2 < x.2.1 ∨ x.2.2.1 < p.2 then 2 else chkP s (seen ++ [p]) r
def checkK (kind : ByteArray) (l : List ParT) : Int := if inK kind = 0 then 8 else chkP (specsV kind) [] l

def okPar (s : List SpecT) (p : ParT) : Prop := ∃ x, specOf s p.1 = some x ∧ x.2.1 ≤ p.2 ∧ p.2 ≤ x.2.2.1

theorem chkP_zero (s : List SpecT) : ∀ (l seen : List ParT), (seen.map fun p => L p.1).Nodup → (chkP s seen l = 0 ↔ (∀ p ∈ l, okPar s p) ∧ ((seen ++ l).map fun p => L p.1).Nodup)
  | [], seen, hn => by simp [chkP]; simpa using hn
  | p :: r, seen, hn => by
    unfold chkP
    cases hx : specOf s p.1 with
    | none =>
      constructor
      · intro h; cases h
      · intro h
        obtain ⟨x, h1, _⟩ := h.1 p (by simp)
        rw [hx] at h1
        cases h1
    | some x =>
      simp only
      have hd : ((seen ++ p :: r).map fun p => L p.1) = ((seen ++ [p] ++ r).map fun p => L p.1) := by simp
      by_cases h1 : (seen.any fun q => L q.1 == L p.1) = true
      · rw [if_pos h1]
        obtain ⟨q, hq, he⟩ := List.any_eq_true.1 h1
        constructor
        · intro h; cases h
        · intro h
          have h2 := h.2
          rw [List.map_append, List.map_cons, List.nodup_append] at h2
          exact absurd (by simpa using he) (h2.2.2 (L q.1) (List.mem_map.2 ⟨q, hq, rfl⟩) (L p.1) (by simp))
      · rw [if_neg h1]
        have hn2 : ((seen ++ [p]).map fun p => L p.1).Nodup := by
          rw [List.map_append, List.nodup_append]
          refine ⟨hn, by simp, fun a ha b hb => ?_⟩
          obtain ⟨q, hq, rfl⟩ := List.mem_map.1 ha
          simp only [List.map_cons, List.map_nil, List.mem_singleton] at hb
          subst hb
          intro e
          exact h1 (List.any_eq_true.2 ⟨q, hq, by simpa using e⟩)
        have ih := chkP_zero s r (seen ++ [p]) hn2
        by_cases h2 : p.2 < x.2.1 ∨ x.2.2.1 < p.2
        · rw [if_pos h2]
          constructor
          · intro h; cases h
          · intro h
            obtain ⟨y, hy, h3⟩ := h.1 p (by simp)
            rw [hx] at hy
            cases hy
            omega
        · rw [if_neg h2, ih, hd]
          constructor
          · intro h
            refine ⟨fun q hq => ?_, h.2⟩
            rcases List.mem_cons.1 hq with rfl | hq
            · exact ⟨x, hx, by omega, by omega⟩
            · exact h.1 q hq
          · intro h
            exact ⟨fun q hq => h.1 q (by simp [hq]), h.2⟩

theorem chkP_zero' {s : List SpecT} {l : List ParT} : chkP s [] l = 0 ↔ (∀ p ∈ l, okPar s p) ∧ (l.map fun p => L p.1).Nodup := by
  have := chkP_zero s l [] (by simp)
  simpa using this

theorem chk_rev {s : List SpecT} {l : List ParT} (h : chkP s [] l = 0) : chkP s [] l.reverse = 0 := by
  rw [chkP_zero'] at h ⊢
  refine ⟨fun p hp => h.1 p (by simpa using hp), ?_⟩
  rw [List.map_reverse]
  have h2 : List.Pairwise (· ≠ ·) (l.map fun p => L p.1) := h.2
  exact List.pairwise_reverse.2 (h2.imp fun q => q.symm)

theorem find_rev (n : ByteArray) : ∀ (l : List ParT), (l.map fun p => L p.1).Nodup → parOf l.reverse n = parOf l n
  | [], _ => rfl
  | p :: r, h => by
    simp only [List.map_cons, List.nodup_cons] at h
    have ih := find_rev n r h.2
    unfold parOf at ih ⊢
    rw [List.reverse_cons, List.find?_append, ih]
    by_cases he : L p.1 = L n
    · have hn : r.find? (fun x => L x.1 == L n) = none := by
        rw [List.find?_eq_none]
        intro q hq hc
        apply h.1
        rw [he]
        exact List.mem_map.2 ⟨q, hq, by simpa using hc⟩
      simp [List.find?_cons, hn, he]
    · have hf : (L p.1 == L n) = false := beq_eq_false_iff_ne.2 he
      simp only [List.find?_cons, hf]
      cases r.find? (fun x => L x.1 == L n) <;> rfl

theorem value_rev {s : List SpecT} {l : List ParT} (h : chkP s [] l = 0) (n : ByteArray) : valueK s l.reverse n = valueK s l n := by
  unfold valueK
  rw [find_rev n l (chkP_zero'.1 h).2]

theorem nodup_len {α : Type} [DecidableEq α] : ∀ (l s : List α), l.Nodup → (∀ a ∈ l, a ∈ s) → l.length ≤ s.length
  | [], _, _, _ => Nat.zero_le _
  | a :: r, s, h, hs => by
    simp only [List.nodup_cons] at h
    have hm := hs a (by simp)
    have ih := nodup_len r (s.erase a) h.2 (fun b hb => by
      have hne : b ≠ a := fun e => h.1 (by rw [← e]; exact hb)
      exact (List.mem_erase_of_ne hne).2 (hs b (by simp [hb])))
    rw [List.length_erase_of_mem hm] at ih
    have := List.length_pos_of_mem hm
    simp only [List.length_cons]
    omega

theorem par_len {s : List SpecT} {l : List ParT} (h : chkP s [] l = 0) : l.length ≤ s.length := by
  obtain ⟨h1, h2⟩ := chkP_zero'.1 h
  have := nodup_len (l.map fun p => L p.1) (s.map fun x => L x.1) h2 (fun a ha => by
    obtain ⟨p, hp, rfl⟩ := List.mem_map.1 ha
    obtain ⟨x, hx, _⟩ := h1 p hp
    have e := List.find?_some hx
    exact List.mem_map.2 ⟨x, List.mem_of_find?_eq_some hx, by simpa using e⟩)
  simpa using this

/-- Specs whose defaults are in their bounds, of different names. -/
def goodSpecs (s : List SpecT) : Bool := s.all (fun x => decide (x.2.1 ≤ x.2.2.2 ∧ x.2.2.2 ≤ x.2.2.1)) && decide ((s.map fun x => L x.1).Nodup)
theorem kt_good : (kt.all fun p => goodSpecs (specsW p.2)) = true := by decide +kernel
theorem specs_good (kind : ByteArray) : goodSpecs (specsV kind) = true := by
  unfold specsV
  rcases kind_cases kind with ⟨p, hp, rfl⟩ | ⟨_, h⟩
  · unfold wordsV
    cases hq : kt.find? (fun q => L q.1 == L p.1) with
    | none => rfl
    | some q => exact List.all_eq_true.1 kt_good q (List.mem_of_find?_eq_some hq)
  · rw [h]; rfl

theorem specOf_self {s : List SpecT} (h : goodSpecs s = true) {x : SpecT} (hx : x ∈ s) : specOf s x.1 = some x := by
  unfold goodSpecs at h
  simp only [Bool.and_eq_true, decide_eq_true_eq] at h
  have key : ∀ (l : List SpecT), (l.map fun x => L x.1).Nodup → x ∈ l → l.find? (fun y => L y.1 == L x.1) = some x := by
    intro l
    induction l with
    | nil => intro _ h; cases h
    | cons a r ih =>
      intro hn hm
      simp only [List.map_cons, List.nodup_cons] at hn
      rw [List.find?_cons]
      rcases List.mem_cons.1 hm with rfl | hm
      · simp
      · have hne : ¬ L a.1 = L x.1 := fun e => hn.1 (by rw [e]; exact List.mem_map.2 ⟨x, hm, rfl⟩)
        rw [show (L a.1 == L x.1) = false from beq_eq_false_iff_ne.2 hne]
        exact ih hn.2 hm
  exact key s h.2 hx

theorem inside {kind : ByteArray} {l : List ParT} (h : chkP (specsV kind) [] l = 0) {x : SpecT} (hx : x ∈ specsV kind) : (valueK (specsV kind) l x.1).2 = 0 ∧ x.2.1 ≤ (valueK (specsV kind) l x.1).1 ∧ (valueK (specsV kind) l x.1).1 ≤ x.2.2.1 := by
  have hg := specs_good kind
  have hs := specOf_self hg hx
  unfold valueK
  rw [hs]
  simp only
  cases hp : parOf l x.1 with
  | none =>
    unfold goodSpecs at hg
    simp only [Bool.and_eq_true] at hg
    have := List.all_eq_true.1 hg.1 x hx
    simp only [decide_eq_true_eq] at this
    exact ⟨rfl, this.1, this.2⟩
  | some p =>
    have hm := List.mem_of_find?_eq_some hp
    have he := List.find?_some hp
    obtain ⟨y, hy, h1, h2⟩ := (chkP_zero'.1 h).1 p hm
    have : specOf (specsV kind) p.1 = specOf (specsV kind) x.1 := by
      unfold specOf
      rw [show L p.1 = L x.1 by simpa using he]
    rw [this, hs] at hy
    cases hy
    exact ⟨rfl, h1, h2⟩

end Go.AM
end

section
/-
AM: contracts by hand, of callees that return a new list of strings. No condition.
-/
namespace Go.AM
open Go
variable [Inhabited ZMem]

theorem row_strs (M : Mem) (l : List ByteArray) : RowV M .str (l.map Value.string) l := by
  refine ⟨by simp [U.size], fun i hi => ?_⟩
  show DV M .str _ _
  have : ((l.map Value.string).drop (i * U.str.size)).take U.str.size = [Value.string l[i]] := by
    rw [show U.str.size = 1 from rfl, Nat.mul_one, List.drop_eq_getElem_cons (by simpa using hi)]
    simp
  rw [this]
  rfl

theorem Contract.made {P : Program} {f : FuncId} {fn : Func} {c : Code} (hf : P.funcs[f]? = some fn) (hb : fn.body = some c) (hn : (fn.name == "runtime.NumGoroutine") = false) {sa : List SSh} {te : TypeId} {g : TyS sa → Option (List ByteArray)}
    (hs : ∀ x y, g x = some y → y.length ≤ maxLen)
    (h : ∀ (w : World) (M : Mem) (G : Gh) (x : TyS sa) (y : List ByteArray) (vals : Array Value), Inv w M G [] → SVRs M G vals.toList (encSs id sa x) → g x = some y →
      Calls P f vals w fun e w' => e = .returned (.slice (some ⟨w.heap.size, 0, none⟩) y.length y.length) ∧ w' = w.alloc (.cells (y.map Value.string).toArray te)) :
    Contract P f ⟨⟨sa, []⟩, ⟨[.one (.own 0)], [.arr te .str true]⟩, fun x => (g x.1).bind fun y => some (((), ()), (y, ()))⟩ := by
  refine ⟨Nat.zero_le _, fun w M G x vals hI hv h1 h0 y hy => ?_⟩
  have hrun : (callFunc f vals).run P w = .ok (.enter f vals) w := by
    simp only [beq_eq_false_iff_ne, ne_eq] at hn
    simp [callFunc, hf, hb, hn]
  refine .inr ⟨hrun, ?_⟩
  have hy' : ((g x.1).bind fun y => some (((), ()), (y, ()))) = some y := hy
  cases hg : g x.1 with
  | none => rw [hg] at hy'; cases hy'
  | some l =>
    rw [hg] at hy'
    cases hy'
    refine (h w M G x.1 l vals hI hv hg).mono fun e w' he => ?_
    obtain ⟨rfl, rfl⟩ := he
    have hown : (w.alloc (.cells (l.map Value.string).toArray te)).ownsRow 0 te U.str.size (.slice (some ⟨w.heap.size, 0, none⟩) l.length l.length) l.length (l.map Value.string) := by
      have := World.ownsRow_lit (base := 0) (e := te) (size := U.str.size) w (l.map Value.string).toArray l.length (Nat.zero_le _) (hs _ _ hg) (by simp [U.size])
      simpa using this
    obtain ⟨M', G', a1, a2, a3, a4⟩ := own_fresh (base := 0) hI (row_strs M l) hown rfl (World.grownBy_alloc w _ none) (h1 0 (Nat.zero_le _))
    refine ⟨M', G', a1, a2, a3, fun j hj => ?_⟩
    rw [a4 j (.inr (by simpa using hj))]
    exact h1 j (Nat.zero_le _)

end Go.AM
end
