/-
An abstract machine over plain values, and that what it computes is what the translated program does; rows out of it. No condition.
-/
import Derived.Lib.UnsafeStr
import Derived.Lib.ItoaNum
import Derived.Test.YtejehchbflmofaaGreatDoorAm1
import Derived.Test.YtejehchbflmofaaGreatDoorAm2
set_option linter.unusedVariables false
set_option linter.unusedSimpArgs false
set_option linter.unusedSectionVars false

section
/-
AM: the contracts of strings.Builder's copyCheck and String, out of what walks say of worlds. No condition.
-/
namespace Go.AM
open Go
variable [Inhabited ZMem]

theorem liesAt_bytes_at {P : Program} {e : TypeId} (hc : P.cellsOf e = 1) (count p n : Nat) (hn : p + n ≤ count) (hp : n = 0 ∨ p < count) : liesAt P P.depth e count p e n = true := by
  have hd : P.depth = (2 * (P.types.size + Made.depth) + 1) + 1 := rfl
  rw [hd]
  simp only [liesAt, Bool.or_eq_true]
  left
  rw [hd]
  simp [rowAt, hc, sameLayout]
  omega

/-- unsafe.String over a stretch of a row of bytes. -/
theorem run_unsafeString_at {P : Program} (w : World) (pt it ty e : TypeId) (hp : P.underlying pt = some (.pointer e)) (hc : P.cellsOf e = 1) (g p cells : Nat) (hsh : w.shape? g = some (e, cells)) (l : List UInt8) (h0 : l ≠ []) (hn : p + l.length ≤ cells) (h63 : l.length ≤ 9223372036854775807)
    (hcell : ∀ j x, l[j]? = some x → w.cell? ((⟨g, p, none⟩ : Addr).add j) = some (.int .u8 x.toNat)) :
    (Builtin.unsafeString_ #[pt, it] ty #[.pointer (some ⟨g, p, none⟩), .int .i64 l.length]).run P w = .ok (.string ⟨l.toArray⟩) (w.freeze ⟨g, p, none⟩ l.length) := by
  have hl : l.length ≠ 0 := by simpa using h0
  have hlb := Lib.run_loadBytes (P := P) w l ⟨g, p, none⟩ .empty hcell
  have hlies := liesAt_bytes_at (P := P) hc (cells / P.cellsOf e) p l.length (by rw [hc]; simpa using hn) (.inr (by rw [hc]; simp; omega))
  have h63' : ¬ (9223372036854775807 : Int) < (l.length : Int) := by omega
  have hdef : Builtin.unsafeString_ #[pt, it] ty #[.pointer (some ⟨g, p, none⟩), .int .i64 l.length] =
      (do
        let n ← asInt (.int .i64 l.length)
        if n < 0 then runtimePanic (.error "unsafe.String: len out of range")
        if n > IntKind.i64.max then unsupported (.unsafePointer "String: a length above the largest int")
        if n = 0 then pure (.string .empty)
        else if ← variablesAt ⟨g, p, none⟩ (← elemOf pt) n.toNat then do
          let s ← loadBytes ⟨g, p, none⟩ .empty n.toNat
          freeze ⟨g, p, none⟩ n.toNat
          pure (.string s)
        else unsupported (.unsafePointer "String: not so many bytes at ptr")) := rfl
  rw [hdef]
  have hmax : IntKind.i64.max = 9223372036854775807 := rfl
  have hneg : ¬ (l.length : Int) < 0 := by omega
  simp [asInt, asIntOf, hmax, h63', hneg, hl, variablesAt, hsh, elemOf, run_underlying hp, hlies, hlb]

/-- A builder: its variable, and the row that it has for itself. -/
def bShape (TB TU : TypeId) : List HSh := [.box TB [.oself 0, .own 1], .arr TU (.int .u8) true]

theorem Step.congr {w w' : World} {M M' : Mem} {G G' : Gh} {H H1 H' : HL} (s : Step w M G H w' M' G' H1) (h : ∀ k, hget H' k = hget H1 k) : Step w M G H w' M' G' H' :=
  ⟨s.os, s.tape, s.output, s.size, s.mle, s.gle, s.keep, s.mnew, fun k c b hk hl hb => s.bl k c b (by rw [← h]; exact hk) hl hb⟩

theorem one_val {M : Mem} {G : Gh} {vals : Array Value} {s : SV} (h : SVRs M G vals.toList [s]) : ∃ v, vals = #[v] ∧ SVR M G v s := by
  obtain ⟨l⟩ := vals
  match l, h with
  | [v], h => exact ⟨v, rfl, h.1⟩
  | [], h => exact h.elim
  | _ :: _ :: _, h => exact h.2.elim

theorem enters {P : Program} {f : FuncId} {fn : Func} {c : Code} (hf : P.funcs[f]? = some fn) (hb : fn.body = some c) (hn : (fn.name == "runtime.NumGoroutine") = false) (vals : Array Value) (w : World) :
    (callFunc f vals).run P w = .ok (.enter f vals) w := by
  simp only [beq_eq_false_iff_ne, ne_eq] at hn
  simp [callFunc, hf, hb, hn]

section
variable {w : World} {M : Mem} {G : Gh} {TB TU : TypeId} {l : List Int}

abbrev bHeap (TB TU : TypeId) (l : List Int) : HL := [(0, .box TB [.oself 0, .own 1]), (1, .arr TU (.int .u8) l true)]

theorem builder_open (hI : Inv w M G (bHeap TB TU l)) : ∃ (b : Nat) (a0 v1 : Value), G 0 = some (.pointer (some ⟨b, 0, none⟩)) ∧ w.heap[b]? = some (.cells #[a0, v1] TB (0, 0)) ∧ (a0 = .pointer none ∨ a0 = .pointer (some ⟨b, 0, none⟩)) ∧ G 1 = some v1 ∧ (∃ a n c, v1 = .slice a n c) ∧ ∀ a : Addr, a.block = b → M a = none := by
  obtain ⟨b, vs, hg, hheap, hc, hm⟩ := hI.cells 0 _ rfl
  obtain ⟨vl⟩ := vs
  match vl, hc with
  | [a0, v1], ⟨⟨b', hg', ha⟩, ⟨hg1, hs⟩, _⟩ =>
    rw [hg] at hg'
    cases hg'
    exact ⟨b, a0, v1, hg, hheap, ha, hg1, hs, hm⟩
  | [], hc => exact hc.elim
  | [_], hc => exact hc.2.elim
  | _ :: _ :: _ :: _, hc => exact hc.2.2.elim

theorem cell_of {b j : Nat} {cs : Array Value} {t : TypeId} {fr : Nat × Nat} (h : w.heap[b]? = some (.cells cs t fr)) : w.cell? ⟨b, j, none⟩ = cs[j]? := by simp [World.cell?, h]

end

theorem Contract.copyCheck {P : Program} {f : FuncId} {fn : Func} {c : Code} (hf : P.funcs[f]? = some fn) (hb : fn.body = some c) (hn : (fn.name == "runtime.NumGoroutine") = false) {TB TU : TypeId}
    (used : ∀ (b : Nat) (w : World), w.cell? ⟨b, 0, none⟩ = some (.pointer (some ⟨b, 0, none⟩)) → Calls P f #[.pointer (some ⟨b, 0, none⟩)] w fun e w' => e = .returned (.tuple #[]) ∧ w' = w)
    (fresh : ∀ (b : Nat) (w : World), w.cell? ⟨b, 0, none⟩ = some (.pointer none) → w.shape? b = some (TB, 2) → w.frozen? ⟨b, 0, none⟩ = false →
      Calls P f #[.pointer (some ⟨b, 0, none⟩)] w fun e w' => e = .returned (.tuple #[]) ∧ w' = w.setCell ⟨b, 0, none⟩ (.pointer (some ⟨b, 0, none⟩))) :
    Contract P f ⟨⟨[.one (.ptr 0 0)], bShape TB TU⟩, ⟨[], bShape TB TU⟩, fun x => some ((), x.2)⟩ := by
  refine ⟨Nat.le_refl _, fun w M G x vals hI hv h1 h0 y hy => ?_⟩
  have hrun := enters hf hb hn vals w
  obtain ⟨v, rfl, hvv⟩ := one_val hv
  obtain ⟨_, ⟨_, _, _⟩, l, _⟩ := x
  have hI' : Inv w M G (bHeap TB TU l) := hI
  obtain ⟨b, a0, v1, hg, hheap, ha, hg1, hs1, hm⟩ := builder_open hI'
  obtain ⟨b', hg', rfl⟩ := hvv
  have hg0 : G 0 = some (.pointer (some ⟨b', 0, none⟩)) := hg'
  rw [hg] at hg0
  cases hg0
  cases hy
  refine .inr ⟨hrun, ?_⟩
  have c0 : w.cell? ⟨b, 0, none⟩ = some a0 := by rw [cell_of hheap]; rfl
  rcases ha with rfl | rfl
  · refine (fresh b w c0 (by simp [World.shape?, hheap]) (by simp [World.frozen?, hheap])).mono fun e w' he => ?_
    obtain ⟨rfl, rfl⟩ := he
    have hgr : w.grownBy (w.setCell ⟨b, 0, none⟩ (.pointer (some ⟨b, 0, none⟩))) (some b) := ⟨rfl, rfl, rfl, by simp [World.setCell], fun k _ hk => RowKit.Below.heap_setCell _ _ _ _ (fun e => hk (by simp [e]))⟩
    have hsub : ∀ (a : Addr) (q : Value), M a = some q → (w.setCell ⟨b, 0, none⟩ (.pointer (some ⟨b, 0, none⟩))).cell? a = some q := by
      intro a q h
      have hne : a.block ≠ b := fun e => by rw [hm a e] at h; cases h
      have h2 := hI'.sub a q h
      unfold World.cell? at h2 ⊢
      rw [RowKit.Below.heap_setCell _ _ _ _ hne]
      exact h2
    have hheap' : (w.setCell ⟨b, 0, none⟩ (.pointer (some ⟨b, 0, none⟩))).heap[b]? = some (.cells #[.pointer (some ⟨b, 0, none⟩), v1] TB (0, 0)) := by
      simp [World.setCell, Array.getElem?_modify, hheap]
    have hk : HCR (w.setCell ⟨b, 0, none⟩ (.pointer (some ⟨b, 0, none⟩))) M G 0 (.box TB [.oself 0, .own 1]) :=
      ⟨b, _, hg, hheap', ⟨⟨b, hg, .inr rfl⟩, ⟨hg1, hs1⟩, trivial⟩, hm⟩
    have hbb : ∀ b', (HC.box TB [.oself 0, .own 1]).live → blk G 0 = some b' → w.heap.size ≤ b' ∨ some b = some b' := by
      intro b' _ h
      rw [blk_of hg] at h
      exact .inr h
    have i1 := hI'.put 0 _ hgr (MLe.refl _) (GLe.refl _) (fun _ _ h => .inl h) hsub (fun k' c' b1 hne hk' hl' e => by
      cases e
      exact hI'.sep 0 k' _ c' b rfl hk' trivial hl' (fun q => hne q.symm) (by rw [blk_of hg]; rfl)) hk hbb (fun b1 e => by cases e; exact hI'.zsep 0 _ b rfl trivial (by rw [blk_of hg]; rfl))
    have s1 := Step.put (k := 0) (c := .box TB [.oself 0, .own 1]) hI' hgr (MLe.refl _) (GLe.refl _) (fun _ _ h => .inl h) (fun b1 h => by cases h; exact ⟨0, _, rfl, trivial, by rw [blk_of hg]; rfl⟩) hbb
    have hcg : ∀ k, hget (bHeap TB TU l) k = hget ((0, .box TB [.oself 0, .own 1]) :: bHeap TB TU l) k := fun k => by
      by_cases e : 0 = k
      · subst e; rfl
      · simp [bHeap, hget, e]
    exact ⟨M, G, ⟨#[], rfl, trivial⟩, i1.congr hcg, s1.congr hcg, fun j hj => h1 j hj⟩
  · refine (used b w c0).mono fun e w' he => ?_
    obtain ⟨rfl, rfl⟩ := he
    exact ⟨M, G, ⟨#[], rfl, trivial⟩, hI', Step.refl _ _ _ _, fun j hj => h1 j hj⟩

theorem heap_freeze_other (w : World) (p : Addr) (n k : Nat) (h : k ≠ p.block) : (w.freeze p n).heap[k]? = w.heap[k]? := by
  unfold World.freeze
  split
  · rfl
  · simp only [Array.getElem?_modify]
    rw [if_neg (fun e => h e.symm)]

theorem cell_freeze (w : World) (p : Addr) (n : Nat) (a : Addr) : (w.freeze p n).cell? a = w.cell? a := by
  by_cases h : a.block = p.block
  · unfold World.freeze
    split
    · rfl
    · unfold World.cell?
      simp only [Array.getElem?_modify, h, if_pos]
      cases e : w.heap[p.block]? with
      | none => simp
      | some o =>
        simp only [Option.map_some]
        cases o with
        | cells c t fr => obtain ⟨lo, hi⟩ := fr; rfl
        | _ => rfl
  · unfold World.cell?
    rw [heap_freeze_other w p n _ h]

def byteL (l : List Int) : Bool := l.all fun n => decide (0 ≤ n ∧ n ≤ 255)

theorem byte_back (m : Int) (h1 : 0 ≤ m) (h2 : m ≤ 255) : (((UInt8.ofNat m.toNat).toNat : Nat) : Int) = m := by
  rw [UInt8.toNat_ofNat_of_lt' (by show m.toNat < 256; omega)]
  omega

theorem Contract.bString {P : Program} {f : FuncId} {fn : Func} {c : Code} (hf : P.funcs[f]? = some fn) (hb : fn.body = some c) (hn : (fn.name == "runtime.NumGoroutine") = false) {TB TU : TypeId}
    (nilw : ∀ (b : Nat) (w : World) (cs : Array Value), w.heap[b]? = some (.cells cs TB (0, 0)) → cs[1]? = some (.slice none 0 0) → Calls P f #[.pointer (some ⟨b, 0, none⟩)] w fun e w' => e = .returned (.string .empty) ∧ w' = w.drew)
    (room : ∀ (b g p cap : Nat), cap ≠ 0 → ∀ (w : World) (cs : Array Value), w.heap[b]? = some (.cells cs TB (0, 0)) → cs[1]? = some (.slice (some ⟨g, p, none⟩) 0 cap) → Calls P f #[.pointer (some ⟨b, 0, none⟩)] w fun e w' => e = .returned (.string .empty) ∧ w' = w.drew)
    (noroom : ∀ (b g p : Nat) (w : World) (cs cur : Array Value), w.heap[b]? = some (.cells cs TB (0, 0)) → cs[1]? = some (.slice (some ⟨g, p, none⟩) 0 0) → w.heap[g]? = some (.cells cur TU (0, 0)) →
      Calls P f #[.pointer (some ⟨b, 0, none⟩)] w fun e w' => e = .returned (.string .empty) ∧ w' = w.drew.alloc (.view ⟨g, p, none⟩ TU))
    (row : ∀ (b g p cap : Nat) (w : World) (cs cur : Array Value) (l : List UInt8), l ≠ [] → w.heap[b]? = some (.cells cs TB (0, 0)) → cs[1]? = some (.slice (some ⟨g, p, none⟩) l.length cap) → w.heap[g]? = some (.cells cur TU (0, 0)) →
      l.length ≤ cap → p + cap ≤ cur.size → cap ≤ maxLen → (∀ j x, l[j]? = some x → w.cell? ((⟨g, p, none⟩ : Addr).add j) = some (.int .u8 x.toNat)) →
      Calls P f #[.pointer (some ⟨b, 0, none⟩)] w fun e w' => e = .returned (.string ⟨l.toArray⟩) ∧ w' = w.drew.freeze ⟨g, p, none⟩ l.length) :
    Contract P f ⟨⟨[.one (.ptr 0 0)], bShape TB TU⟩, ⟨[.one .str], [.dead, .dead]⟩, fun x => if byteL x.2.2.1 = true then some ((strOfBytes x.2.2.1, ()), ((), (), ())) else none⟩ := by
  refine ⟨Nat.le_refl _, fun w M G x vals hI hv h1 h0 y hy => ?_⟩
  have hrun := enters hf hb hn vals w
  obtain ⟨v, rfl, hvv⟩ := one_val hv
  obtain ⟨_, ⟨_, _, _⟩, l, _⟩ := x
  have hI' : Inv w M G (bHeap TB TU l) := hI
  obtain ⟨b, a0, v1, hg, hheap, ha, hg1, hs1, hm⟩ := builder_open hI'
  obtain ⟨b', hg', rfl⟩ := hvv
  have hg0 : G 0 = some (.pointer (some ⟨b', 0, none⟩)) := hg'
  rw [hg] at hg0
  cases hg0
  have hy' : (if byteL l = true then some ((strOfBytes l, ()), ((), (), ())) else none) = some y := hy
  have hbl : byteL l = true := by
    by_cases q : byteL l = true
    · exact q
    · rw [if_neg q] at hy'; cases hy'
  rw [if_pos hbl] at hy'
  cases hy'
  obtain ⟨v1', xs, hg1', hown, hrow, hmm⟩ := hI'.cells 1 _ rfl
  rw [hg1] at hg1'
  cases hg1'
  refine .inr ⟨hrun, ?_⟩
  have hc1 : (#[a0, v1] : Array Value)[1]? = some v1 := rfl
  -- what is left where no cell turns, and no block but the row's
  have fin : ∀ (w' : World), w'.os = w.os → w'.tape = w.tape → w'.output = w.output → w.heap.size ≤ w'.heap.size → (∀ a q, w.cell? a = some q → w'.cell? a = some q) →
      (∀ k, k < w.heap.size → some k ≠ blkV v1 → w'.heap[k]? = w.heap[k]?) → Ret w M G (bHeap TB TU l) ⟨[.one .str], [.dead, .dead]⟩ ((strOfBytes l, ()), ((), (), ())) (.string (strOfBytes l)) w' := by
    intro w' q1 q2 q3 q4 q5 q6
    have dead : ∀ k c, hget [(0, HC.dead), (1, HC.dead)] k = some c → ¬ c.live := by
      intro k c hk
      simp only [hget] at hk
      split at hk
      · cases hk; exact id
      · split at hk
        · cases hk; exact id
        · cases hk
    refine ⟨M, G, ⟨rfl, rfl⟩, ⟨fun a q h => q5 a q (hI'.sub a q h), fun k c hk => ?_, fun k k' c c' b1 hk _ hl _ => absurd hl (dead k c hk), fun bz o hz => ?_, fun k c b1 hk hl => absurd hl (dead k c hk)⟩, ⟨q1, q2, q3, q4, MLe.refl _, GLe.refl _, fun k hk hne => q6 k hk (fun e => ?_), fun _ _ h => .inl h, fun k c b1 hk hl => absurd hl (dead k c hk)⟩, fun j hj => h1 j hj⟩
    · have := dead k c hk
      cases c with
      | dead => trivial
      | box _ _ => exact absurd trivial this
      | arr _ _ _ _ => exact absurd trivial this
    · have hz1 := hI'.zone bz o hz
      exact hz1.same (q6 bz hz1.lt (fun e => by rw [hI'.zsep 1 _ bz rfl trivial (by rw [blk_of hg1]; exact e.symm)] at hz; cases hz))
    · exact hne 1 _ rfl trivial (by rw [blk_of hg1]; exact e.symm)
  rcases hown.2 with ⟨rfl, hz⟩ | ⟨g, p, cap, cur, rfl, hgg, hnc, hcm, hcs, htake⟩
  · have hl : l = [] := List.eq_nil_of_length_eq_zero hz
    subst hl
    refine (nilw b w _ hheap hc1).mono fun e w' he => ?_
    obtain ⟨rfl, rfl⟩ := he
    exact fin w.drew rfl rfl rfl (Nat.le_refl _) (fun _ _ h => h) (fun _ _ _ => rfl)
  · simp only [U.size, Nat.mul_one] at hcs htake
    cases l with
    | nil =>
      by_cases hc : cap = 0
      · subst hc
        refine (noroom b g p w _ cur hheap hc1 hgg).mono fun e w' he => ?_
        obtain ⟨rfl, rfl⟩ := he
        refine fin _ rfl rfl rfl (by show w.heap.size ≤ (w.heap.push _).size; simp) (fun a q h => ?_) (fun k hk _ => ?_)
        · show (w.drew.alloc _).cell? a = some q
          rw [World.cell?_alloc_lt]
          · exact h
          · exact World.block_lt_of_cell? w a h
        · show (w.heap.push _)[k]? = _
          rw [Array.getElem?_push, if_neg (by omega)]
      · refine (room b g p cap hc w _ hheap hc1).mono fun e w' he => ?_
        obtain ⟨rfl, rfl⟩ := he
        exact fin w.drew rfl rfl rfl (Nat.le_refl _) (fun _ _ h => h) (fun _ _ _ => rfl)
    | cons n0 l0 =>
      have hlen : ((n0 :: l0).map fun n => UInt8.ofNat n.toNat).length = (n0 :: l0).length := by simp
      have hcell : ∀ j x, ((n0 :: l0).map fun n => UInt8.ofNat n.toNat)[j]? = some x → w.cell? ((⟨g, p, none⟩ : Addr).add j) = some (.int .u8 x.toNat) := by
        intro j x hx
        have hj : j < (n0 :: l0).length := by have := (List.getElem?_eq_some_iff.1 hx).1; simpa using this
        have hx' : UInt8.ofNat ((n0 :: l0)[j]).toNat = x := by
          rw [List.getElem?_map, List.getElem?_eq_getElem hj] at hx
          simpa using hx
        have hd := hrow.2 j hj
        have hxs : xs[j]? = some (.int .u8 (n0 :: l0)[j]) := by
          have h2 : (xs.drop (j * 1)).take 1 = [.int .u8 (n0 :: l0)[j]] := hd
          rw [Nat.mul_one] at h2
          have h3 : xs.length = (n0 :: l0).length := by have := hrow.1; simpa [U.size] using this
          rw [List.drop_eq_getElem_cons (by omega)] at h2
          simp only [List.take_succ_cons, List.take_zero, List.cons.injEq, and_true] at h2
          rw [List.getElem?_eq_getElem (by omega), h2]
        have hc := hown.cells (g := g) rfl j _ hxs
        have hr := List.all_eq_true.1 hbl _ (List.getElem_mem hj)
        have hr2 := of_decide_eq_true hr
        have e1 : ((x.toNat : Nat) : Int) = (n0 :: l0)[j] := by
          rw [← hx']
          exact byte_back _ hr2.1 hr2.2
        rw [e1]
        exact hc
      have hr := row b g p cap w _ cur ((n0 :: l0).map fun n => UInt8.ofNat n.toNat) (by simp) hheap (by rw [hlen]; exact hc1) hgg (by rw [hlen]; exact hnc) hcs hcm hcell
      refine hr.mono fun e w' he => ?_
      obtain ⟨rfl, rfl⟩ := he
      refine fin _ ?_ ?_ ?_ ?_ (fun a q h => ?_) (fun k hk hne => ?_)
      · unfold World.freeze; split <;> rfl
      · unfold World.freeze; split <;> rfl
      · unfold World.freeze; split <;> rfl
      · unfold World.freeze; split
        · exact Nat.le_refl _
        · simp
      · rw [cell_freeze]; exact h
      · rw [heap_freeze_other _ _ _ _ (fun e => hne (by rw [e]; rfl))]
        rfl

end Go.AM
end

section
/-
AM: the text of tokens in plain Lean. No condition.
-/
namespace Go.AM
open Go

abbrev TokT : Type := Int × ByteArray × Int × Int

def markL : List UInt8 → Bool
  | [c] => markB c
  | _ => false

/-- How a token is written, apart from whether it is valid. -/
def formB (t : TokT) : List UInt8 := if t.1 = 2 then Lib.itoa t.2.2.1 else if t.1 = 3 then quoteV (L t.2.1) else L t.2.1

def formOk (t : TokT) : Bool :=
  if t.1 = 1 then nameB (L t.2.1) && decide (t.2.2.1 = 0)
  else if t.1 = 2 then decide ((numV (L t.2.1)).2 = 0) && decide ((numV (L t.2.1)).1 = t.2.2.1)
  else if t.1 = 3 then decide (t.2.2.1 = 0)
  else if t.1 = 4 then markL (L t.2.1) && decide (t.2.2.1 = 0)
  else false

/-- Tokens with a blank ahead of each but the first. -/
def joinB : Bool → List TokT → List UInt8
  | _, [] => []
  | true, t :: r => formB t ++ joinB false r
  | false, t :: r => 32 :: (formB t ++ joinB false r)

def textV (l : List TokT) : List UInt8 × Int := if l.all formOk = true then (if 1048576 < (joinB true l).length then ([], 6) else (joinB true l, 0)) else ([], 1)

def wt (t : TokT) : Nat := 4 * t.2.1.size + 64

theorem numN_ok {neg : Bool} {o : Option Nat} (h : (numN neg o).2 = 0) : -9007199254740992 ≤ (numN neg o).1 ∧ (numN neg o).1 ≤ 9007199254740992 := by
  unfold numN at h ⊢
  split
  · simp at h
  · split
    · simp
    · split
      · rename_i h1 h2; simp only at h; rw [if_neg h1, if_pos h2] at h; simp at h
      · simp only
        split <;> omega

theorem numV_ok {l : List UInt8} (h : (numV l).2 = 0) : -9007199254740992 ≤ (numV l).1 ∧ (numV l).1 ≤ 9007199254740992 := by
  unfold numV at h ⊢
  split
  · exact numN_ok h
  · rename_i hn
    split at h
    · rename_i r; exact absurd rfl (hn r)
    · exact numN_ok h

theorem decDigits_len : ∀ (k u : Nat), u < 10 ^ (k + 1) → (Lib.decDigits u).length ≤ k + 1
  | 0, u, h => by
    rw [Lib.decDigits, dif_pos (by simpa using h)]
    simp
  | k + 1, u, h => by
    rw [Lib.decDigits]
    split
    · simp
    · have := decDigits_len k (u / 10) (by rw [Nat.div_lt_iff_lt_mul (by omega)]; rw [Nat.pow_succ] at h; exact h)
      simp only [List.length_append, List.length_cons, List.length_nil]
      omega

theorem itoa_len {v : Int} (h1 : -9007199254740992 ≤ v) (h2 : v ≤ 9007199254740992) : (Lib.itoa v).length ≤ 17 := by
  unfold Lib.itoa
  split
  · have := decDigits_len 15 v.natAbs (by show _ < 10000000000000000; omega)
    simp only [List.length_cons]
    omega
  · have := decDigits_len 15 v.toNat (by show _ < 10000000000000000; omega)
    omega

theorem formB_len {t : TokT} (h : formOk t = true) : (formB t).length + 1 ≤ wt t := by
  unfold formOk at h
  unfold formB wt
  by_cases h2 : t.1 = 2
  · rw [if_neg (by omega), if_pos h2] at h
    simp only [Bool.and_eq_true, decide_eq_true_eq] at h
    have hr := numV_ok h.1
    rw [h.2] at hr
    have := itoa_len hr.1 hr.2
    rw [if_pos h2]
    omega
  · rw [if_neg h2]
    split
    · have := quoteL_len (L t.2.1)
      rw [L_len] at this
      unfold quoteV
      simp only [List.length_cons, List.length_append, List.length_nil]
      omega
    · rw [L_len]; omega

theorem joinB_len : ∀ (l : List TokT) (b : Bool), l.all formOk = true → (joinB b l).length ≤ (l.map wt).sum
  | [], b, _ => by cases b <;> simp [joinB]
  | t :: r, b, h => by
    simp only [List.all_cons, Bool.and_eq_true] at h
    have h1 := formB_len h.1
    have h2 := joinB_len r false h.2
    cases b <;> simp only [joinB, List.length_append, List.length_cons, List.map_cons, List.sum_cons] <;> omega

end Go.AM
end

section
/-
AM: the tokens of the text of tokens are these tokens. No condition.
-/
namespace Go.AM
open Go

/-! ### numbers -/
theorem digs_app (base : Nat) : ∀ (a b : List UInt8) (n : Nat), digs base (a ++ b) n = (digs base a n).bind (digs base b)
  | [], b, n => rfl
  | c :: a, b, n => by
    simp only [List.cons_append, digs]
    cases hexv c with
    | none => rfl
    | some d =>
      simp only
      split
      · exact digs_app base a b _
      · rfl

theorem hexv_dig : ∀ u : Nat, u < 10 → hexv (UInt8.ofNat (48 + u)) = some u := by decide +kernel
theorem dig_ne : ∀ u : Nat, u < 10 → 0 < u → UInt8.ofNat (48 + u) ≠ 48 := by decide +kernel
theorem dig_digit : ∀ u : Nat, u < 10 → digitB (UInt8.ofNat (48 + u)) = true := by decide +kernel

theorem dec_cut {u : Nat} (h : ¬ u < 10) : Lib.decDigits u = Lib.decDigits (u / 10) ++ [UInt8.ofNat (48 + u % 10)] := by rw [Lib.decDigits, dif_neg h]
theorem dec_one {u : Nat} (h : u < 10) : Lib.decDigits u = [UInt8.ofNat (48 + u)] := by rw [Lib.decDigits, dif_pos h]

theorem digs_dec : ∀ (k u : Nat), u ≤ k → u ≤ 9007199254740992 → digs 10 (Lib.decDigits u) 0 = some u := by
  intro k
  induction k with
  | zero =>
    intro u hk hu
    have : u = 0 := by omega
    subst this
    rw [dec_one (by omega)]
    decide
  | succ k ih =>
    intro u hk hu
    by_cases h : u < 10
    · rw [dec_one h]
      simp only [digs, hexv_dig u h, if_pos h]
      congr 1
      omega
    · rw [dec_cut h, digs_app, ih (u / 10) (by omega) (by omega)]
      have hm : u % 10 < 10 := Nat.mod_lt _ (by omega)
      simp only [Option.bind_some, digs, hexv_dig _ hm, if_pos hm]
      congr 1
      omega

theorem dec_head : ∀ (k u : Nat), u ≤ k → 0 < u → ∃ c r, Lib.decDigits u = c :: r ∧ c ≠ 48 := by
  intro k
  induction k with
  | zero => intro u hk h0; omega
  | succ k ih =>
    intro u hk h0
    by_cases h : u < 10
    · exact ⟨_, [], dec_one h, dig_ne u h h0⟩
    · obtain ⟨c, r, e, hc⟩ := ih (u / 10) (by omega) (by omega)
      exact ⟨c, r ++ [UInt8.ofNat (48 + u % 10)], by rw [dec_cut h, e]; rfl, hc⟩

theorem dec_digits : ∀ (k u : Nat), u ≤ k → ∀ c ∈ Lib.decDigits u, digitB c = true := by
  intro k
  induction k with
  | zero =>
    intro u hk c hc
    rw [dec_one (by omega)] at hc
    simp only [List.mem_singleton] at hc
    subst hc
    exact dig_digit u (by omega)
  | succ k ih =>
    intro u hk c hc
    by_cases h : u < 10
    · rw [dec_one h] at hc
      simp only [List.mem_singleton] at hc
      subst hc
      exact dig_digit u h
    · rw [dec_cut h] at hc
      rcases List.mem_append.1 hc with q | q
      · exact ih (u / 10) (by omega) c q
      · simp only [List.mem_singleton] at q
        subst q
        exact dig_digit _ (Nat.mod_lt _ (by omega))

theorem dec_cons (u : Nat) : ∃ c r, Lib.decDigits u = c :: r ∧ (c ≠ 48 ∨ r = []) := by
  by_cases h : u = 0
  · subst h
    exact ⟨_, [], dec_one (by omega), .inr rfl⟩
  · obtain ⟨c, r, e, hc⟩ := dec_head u u (Nat.le_refl _) (by omega)
    exact ⟨c, r, e, .inl hc⟩

theorem body_dec {u : Nat} (hu : u ≤ 9007199254740992) : bodyV (Lib.decDigits u) = some u := by
  have hd := dec_digits u u (Nat.le_refl _)
  have hn : natV (Lib.decDigits u) 10 = some u := by
    obtain ⟨c, r, e, hc⟩ := dec_cons u
    have hg := digs_dec u u (Nat.le_refl _) hu
    rw [e] at hg ⊢
    unfold natV
    simp only
    rw [if_neg (fun q => by rcases hc with h | h; exact h q.1; exact q.2 h)]
    exact hg
  unfold bodyV
  split
  · rename_i c r e
    have := hd 120 (by rw [e]; simp)
    exact absurd this (by decide)
  · exact hn

theorem numV_itoa {v : Int} (h1 : -9007199254740992 ≤ v) (h2 : v ≤ 9007199254740992) : numV (Lib.itoa v) = (v, 0) := by
  unfold Lib.itoa
  by_cases hn : v < 0
  · rw [if_pos hn, numV_minus, body_dec (by omega)]
    unfold numN
    simp only
    rw [if_neg (by omega), if_neg (by omega), if_pos trivial]
    congr 1
    omega
  · rw [if_neg hn]
    obtain ⟨c, r, e, _⟩ := dec_cons v.toNat
    have hc : c ≠ 45 := by
      intro q
      have := dec_digits v.toNat v.toNat (Nat.le_refl _) c (by rw [e]; simp)
      rw [q] at this
      exact absurd this (by decide)
    have hb := body_dec (u := v.toNat) (by omega)
    rw [e] at hb ⊢
    rw [numV_other hc, hb]
    unfold numN
    simp only
    rw [if_neg (by simp), if_neg (by omega), if_neg (by simp)]
    congr 1
    omega

theorem digit_word {c : UInt8} (h : digitB c = true) : wordB c = true := by
  unfold wordB
  rw [h]
  simp

theorem itoa_cons (v : Int) : ∃ c r, Lib.itoa v = c :: r ∧ (digitB c = true ∨ c = 45) ∧ ∀ x ∈ r, wordB x = true := by
  unfold Lib.itoa
  split
  · exact ⟨45, _, rfl, .inr rfl, fun x hx => digit_word (dec_digits _ _ (Nat.le_refl _) x hx)⟩
  · obtain ⟨c, r, e, _⟩ := dec_cons v.toNat
    have hd := dec_digits v.toNat v.toNat (Nat.le_refl _)
    rw [e] at hd ⊢
    exact ⟨c, r, rfl, .inl (hd c (by simp)), fun x hx => digit_word (hd x (by simp [hx]))⟩

/-! ### quoted strings -/
theorem unqL_quote (rest : List UInt8) : ∀ (l : List UInt8) (k : Nat), (quoteL l).length + 1 ≤ k → unqL k (quoteL l ++ 34 :: rest) = some (l, rest)
  | [], k, h => by
    obtain ⟨k, rfl⟩ : ∃ j, k = j + 1 := ⟨k - 1, by omega⟩
    show unqL (k + 1) (34 :: rest) = _
    rw [unqL, if_pos rfl]
  | c :: l, k, h => by
    rw [quoteL_cons, List.length_append] at h
    have h1 := quoteC_len c
    obtain ⟨k, rfl⟩ : ∃ j, k = j + 1 := ⟨k - 1, by omega⟩
    have ih := unqL_quote rest l k (by omega)
    rw [quoteL_cons]
    unfold quoteC
    by_cases hp : plainB c = true
    · rw [if_pos hp]
      have hq := plainB_iff.1 hp
      show unqL (k + 1) (c :: (quoteL l ++ 34 :: rest)) = _
      rw [unqL, if_neg hq.2.2.1, if_neg (by omega), if_pos hq.2.2.2, ih]
      rfl
    · rw [if_neg hp]
      have esc : ∀ (x : List UInt8) (n : Nat), escV x = some (c, n) → x.drop (n - 1) = quoteL l ++ 34 :: rest → unqL (k + 1) (92 :: x) = some (c :: l, rest) := by
        intro x n h2 h3
        rw [unqL, if_neg (by decide), if_neg (by decide), if_neg (by simp), h2]
        simp only
        rw [h3, ih]
        rfl
      by_cases h2 : c = 34 ∨ c = 92
      · rw [if_pos h2]
        exact esc (c :: (quoteL l ++ 34 :: rest)) 2 (if_pos h2) rfl
      · rw [if_neg h2]
        by_cases h3 : c = 10
        · subst h3
          rw [if_pos rfl]
          exact esc (110 :: (quoteL l ++ 34 :: rest)) 2 rfl rfl
        · rw [if_neg h3]
          refine esc (120 :: hexD (c.toNat / 16) :: hexD (c.toNat % 16) :: (quoteL l ++ 34 :: rest)) 4 ?_ rfl
          have hc := c.toNat_lt
          show (match hexv (hexD (c.toNat / 16)), hexv (hexD (c.toNat % 16)) with
            | some x, some y => some (UInt8.ofNat (16 * x + y), 4)
            | _, _ => none) = some (c, 4)
          rw [hexv_hexD _ (by omega), hexv_hexD _ (by omega)]
          simp only
          rw [hexD_back]

/-! ### one token -/
def Stop (rest : List UInt8) : Prop := rest = [] ∨ ∃ r, rest = 32 :: r

theorem take_stop {p : UInt8 → Bool} (h32 : p 32 = false) : ∀ {a rest : List UInt8}, (∀ x ∈ a, p x = true) → Stop rest → (a ++ rest).takeWhile p = a
  | [], rest, _, h => by
    rcases h with rfl | ⟨r, rfl⟩
    · rfl
    · simp [h32]
  | x :: a, rest, ha, h => by
    rw [List.cons_append, List.takeWhile_cons, ha x (by simp), take_stop h32 (fun y hy => ha y (by simp [hy])) h]
    rfl

def txtB (t : TokT) : List UInt8 := if t.1 = 2 then Lib.itoa t.2.2.1 else L t.2.1
def tokOf (t : TokT) : TokT := (t.1, strB (txtB t), t.2.2.1, 1)

theorem letter_facts : ∀ c : UInt8, letterB c = true → c ≠ 10 ∧ c ≠ 32 ∧ c ≠ 9 ∧ c ≠ 35 := by
  intro c h
  refine ⟨?_, ?_, ?_, ?_⟩ <;> (rintro rfl; exact absurd h (by decide))
theorem digit_facts : ∀ c : UInt8, (digitB c = true ∨ c = 45) → letterB c = false ∧ c ≠ 10 ∧ c ≠ 32 ∧ c ≠ 9 ∧ c ≠ 35 := by
  intro c h
  rcases h with h | rfl
  · refine ⟨?_, ?_, ?_, ?_, ?_⟩
    · unfold digitB at h
      simp only [Bool.and_eq_true, decide_eq_true_eq] at h
      unfold letterB
      rw [decide_eq_false (show ¬ 97 ≤ c.toNat by omega)]
      rfl
    all_goals (rintro rfl; exact absurd h (by decide))
  · decide
theorem mark_facts : ∀ c : UInt8, markB c = true → letterB c = false ∧ ¬ (digitB c = true ∨ c = 45) ∧ c ≠ 34 ∧ c ≠ 10 ∧ c ≠ 32 ∧ c ≠ 9 ∧ c ≠ 35 := by
  have key : ∀ c ∈ marks, letterB c = false ∧ ¬ (digitB c = true ∨ c = 45) ∧ c ≠ 34 ∧ c ≠ 10 ∧ c ≠ 32 ∧ c ≠ 9 ∧ c ≠ 35 := by decide +kernel
  intro c h
  exact key c (by unfold markB at h; simpa using h)

theorem tok_one {t : TokT} (h : formOk t = true) {rest : List UInt8} (hr : Stop rest) :
    takeV (formB t ++ rest) = .ok ((t.1, txtB t, t.2.2.1), (formB t).length) ∧ ∃ c r, formB t = c :: r ∧ c ≠ 10 ∧ c ≠ 32 ∧ c ≠ 9 ∧ c ≠ 35 := by
  have w32 : wordB 32 = false := by decide
  unfold formOk at h
  unfold formB txtB
  by_cases h1 : t.1 = 1
  · rw [if_pos h1] at h
    simp only [Bool.and_eq_true, decide_eq_true_eq] at h
    rw [if_neg (by omega), if_neg (by omega), if_neg (by omega)]
    cases hL : L t.2.1 with
    | nil => rw [hL] at h; cases h.1
    | cons c r =>
      rw [hL] at h
      have hn := h.1
      have hn2 := h.1
      rw [nameB_cons] at hn2
      simp only [Bool.and_eq_true] at hn2
      have hall := List.all_eq_true.1 hn2.2
      refine ⟨?_, c, r, rfl, letter_facts c hn2.1.2⟩
      have e := take_stop w32 hall hr
      rw [List.cons_append] at e
      unfold takeV
      rw [List.cons_append]
      simp only
      rw [if_pos hn2.1.2, e, show ((c :: (r ++ rest)).take (c :: r).length) = c :: r by simp, if_pos hn, h1, h.2]
  rw [if_neg h1] at h
  by_cases h2 : t.1 = 2
  · rw [if_pos h2] at h
    simp only [Bool.and_eq_true, decide_eq_true_eq] at h
    have hv := numV_ok h.1
    rw [h.2] at hv
    rw [if_pos h2, if_pos h2]
    obtain ⟨c, r, e, hc, hw⟩ := itoa_cons t.2.2.1
    have hnum := numV_itoa hv.1 hv.2
    rw [e] at hnum ⊢
    have hf := digit_facts c hc
    refine ⟨?_, c, r, rfl, hf.2⟩
    unfold takeV
    rw [List.cons_append]
    simp only
    rw [if_neg (by rw [hf.1]; simp), if_pos hc, take_stop w32 hw hr, show (c :: (r ++ rest)).take (1 + r.length) = c :: r by rw [Nat.add_comm]; simp, hnum, if_pos rfl, h2]
    rw [List.length_cons, Nat.add_comm]
  rw [if_neg h2] at h
  rw [if_neg h2, if_neg h2]
  by_cases h3 : t.1 = 3
  · rw [if_pos h3] at h
    simp only [decide_eq_true_eq] at h
    rw [if_pos h3]
    refine ⟨?_, 34, quoteL (L t.2.1) ++ [34], rfl, by decide⟩
    have e : quoteV (L t.2.1) ++ rest = 34 :: (quoteL (L t.2.1) ++ 34 :: rest) := by simp [quoteV]
    rw [e]
    unfold takeV
    simp only
    rw [if_neg (by decide), if_neg (by decide), if_pos trivial, unqL_quote rest (L t.2.1) _ (by simp)]
    simp only
    rw [h3, h]
    congr 2
    simp [quoteV]
    omega
  rw [if_neg h3] at h
  rw [if_neg h3]
  by_cases h4 : t.1 = 4
  · rw [if_pos h4] at h
    simp only [Bool.and_eq_true, decide_eq_true_eq] at h
    obtain ⟨c, hc⟩ : ∃ c, L t.2.1 = [c] := by
      have := h.1
      unfold markL at this
      split at this
      · rename_i c e; exact ⟨c, e⟩
      · cases this
    rw [hc] at h ⊢
    have hm : markB c = true := h.1
    have hf := mark_facts c hm
    refine ⟨?_, c, [], rfl, hf.2.2.2⟩
    unfold takeV
    rw [List.cons_append]
    simp only
    rw [if_neg (by rw [hf.1]; simp), if_neg hf.2.1, if_neg hf.2.2.1, if_pos hm, h4, h.2]
    rfl
  · rw [if_neg h4] at h; cases h

theorem join_stop (l : List TokT) : Stop (joinB false l) := by
  cases l with
  | nil => exact .inl rfl
  | cons t r => exact .inr ⟨_, rfl⟩

theorem tokF_join : ∀ (l : List TokT) (k : Nat), l.all formOk = true → (joinB true l).length ≤ k → tokF k 1 (joinB true l) = .ok (l.map tokOf)
  | [], k, _, _ => by cases k <;> rfl
  | t :: r, k, h, hk => by
    simp only [List.all_cons, Bool.and_eq_true] at h
    obtain ⟨h1, c, q, h2, h3, h4, h5, h6⟩ := tok_one h.1 (join_stop r)
    have hj : joinB true (t :: r) = formB t ++ joinB false r := rfl
    rw [hj] at hk ⊢
    rw [h2] at h1 hk ⊢
    simp only [List.cons_append, List.length_cons, List.length_append] at h1 hk ⊢
    obtain ⟨k, rfl⟩ : ∃ j, k = j + 1 := ⟨k - 1, by omega⟩
    have hd : (c :: (q ++ joinB false r)).drop (q.length + 1) = joinB false r := by simp
    have hrest : tokF k 1 (joinB false r) = .ok (r.map tokOf) := by
      cases r with
      | nil => cases k <;> rfl
      | cons t2 r2 =>
        have e : joinB false (t2 :: r2) = 32 :: joinB true (t2 :: r2) := rfl
        rw [e] at hk ⊢
        simp only [List.length_cons] at hk
        obtain ⟨k, rfl⟩ : ∃ j, k = j + 1 := ⟨k - 1, by omega⟩
        rw [tokF, if_neg (by decide), if_pos (.inl rfl)]
        exact tokF_join (t2 :: r2) k h.2 (by omega)
    rw [tokF, if_neg h3, if_neg (by simp [h4, h5]), if_neg h6, h1]
    simp only
    rw [hd, hrest]
    rfl

theorem tokV_join {l : List TokT} (h : l.all formOk = true) (hl : (joinB true l).length ≤ 1048576) : tokV (joinB true l) = .ok (l.map tokOf) := by
  unfold tokV
  rw [if_neg (by omega)]
  exact tokF_join l _ h (Nat.le_refl _)

theorem formB_tokOf {t : TokT} (h : formOk t = true) : formOk (tokOf t) = true ∧ formB (tokOf t) = formB t := by
  unfold formOk at h
  unfold tokOf formOk formB txtB
  simp only [L_strB]
  by_cases h1 : t.1 = 1
  · simp only [h1, if_true] at h ⊢
    exact ⟨by simpa using h, by simp⟩
  by_cases h2 : t.1 = 2
  · rw [if_neg h1, if_pos h2] at h
    simp only [Bool.and_eq_true, decide_eq_true_eq] at h
    have hv := numV_ok h.1
    rw [h.2] at hv
    simp only [h2, if_true]
    rw [numV_itoa hv.1 hv.2]
    simp
  simp only [if_neg h2, if_neg h1] at h ⊢
  exact ⟨h, trivial⟩

theorem join_tokOf : ∀ (l : List TokT) (b : Bool), l.all formOk = true → joinB b (l.map tokOf) = joinB b l ∧ (l.map tokOf).all formOk = true
  | [], b, _ => by cases b <;> exact ⟨rfl, rfl⟩
  | t :: r, b, h => by
    simp only [List.all_cons, Bool.and_eq_true] at h
    obtain ⟨h1, h2⟩ := formB_tokOf h.1
    obtain ⟨h3, h4⟩ := join_tokOf r false h.2
    refine ⟨?_, by simp only [List.map_cons, List.all_cons, Bool.and_eq_true]; exact ⟨h1, h4⟩⟩
    cases b <;> simp only [List.map_cons, joinB, h2, h3]

theorem textV_tokOf {l : List TokT} (h : l.all formOk = true) : textV (l.map tokOf) = textV l := by
  obtain ⟨h1, h2⟩ := join_tokOf l true h
  unfold textV
  rw [if_pos h2, if_pos h, h1]

end Go.AM
end

section
/-
AM: declared decoders in plain Lean: which rule a symbol has, which state a name has; the first pair of a kind; walks that end or do not. No condition.
-/
namespace Go.AM
open Go

abbrev RuleT : Type := Int × Int × ByteArray × Bool × List (Int × Int)
abbrev StateT : Type := ByteArray × List RuleT × Bool × RuleT
abbrev DeclT : Type := ByteArray × Int × Int × List StateT

def noRule : RuleT := (0, 0, strB [], false, [])

def hitB (x : Int) (r : RuleT) : Bool := decide (r.1 ≤ x) && decide (x ≤ r.2.1)

def ruleR (s : StateT) (x : Int) (rs : List RuleT) : RuleT × Bool := match rs.find? (hitB x) with
  | some r => (r, true)
  | none => if s.2.2.1 = true then (s.2.2.2, true) else (noRule, false)

def matchV (ss : List StateT) (i x : Int) : RuleT × Bool := if i < 0 then (noRule, false) else match ss[i.toNat]? with
  | some s => ruleR s x s.2.1
  | none => (noRule, false)

/-- The number of the state of this name. -/
def findN (ss : List StateT) (b : ByteArray) : Option Nat := ss.findIdx? fun s => L s.1 == L b

def optI : Option Nat → Int
  | some i => i
  | none => -1

def topV (d : DeclT) : Nat := if d.2.1 = 2 then 1 else 255

def okRule (r : RuleT) : Prop := r.2.2.2.2.length ≤ 1048576
def okState (s : StateT) : Prop := s.2.1.length ≤ 1048576 ∧ (∀ r ∈ s.2.1, okRule r) ∧ okRule s.2.2.2
def okDecl (d : DeclT) : Prop := d.2.2.2.length ≤ 1048576 ∧ ∀ s ∈ d.2.2.2, okState s

/-! ### lists by index -/
theorem dropS {α : Type} {l : List α} {n : Nat} {c : α} {r : List α} (h : l.drop n = c :: r) : l.drop (n + 1) = r := by
  rw [← List.drop_drop, h]; rfl

theorem getD_drop {α : Type} {l : List α} {k : Nat} {c d : α} {r : List α} (h : l.drop k = c :: r) : l.getD k d = c := by
  have h1 := drop_lt h
  rw [List.drop_eq_getElem_cons h1] at h
  cases h
  simp [List.getD, List.getElem?_eq_getElem h1]

theorem getD_in {α : Type} {l : List α} {k : Nat} (d : α) (h : k < l.length) : l.getD k d = l[k] := by
  simp [List.getD, List.getElem?_eq_getElem h]

theorem mem_drop {α : Type} {l : List α} {k : Nat} {c : α} {r : List α} (h : l.drop k = c :: r) : c ∈ l := List.mem_of_mem_drop (i := k) (by rw [h]; exact List.mem_cons_self)

/-! ### the first pair -/
def firstV (n m : Nat) (p : Nat → Nat → Bool) : Option (Nat × Nat) := (List.range n).findSome? fun i => ((List.range (m + 1)).find? (p i)).map fun x => (i, x)

def resV : Option (Nat × Nat) → Option ((Int × Int × Bool × Unit) × Unit)
  | some (i, x) => some (((i : Int), (x : Int), true, ()), ())
  | none => some ((0, 0, false, ()), ())

theorem findSome_congr {α β : Type} {f g : α → Option β} : ∀ {l : List α}, (∀ a ∈ l, f a = g a) → l.findSome? f = l.findSome? g
  | [], _ => rfl
  | a :: l, h => by
    rw [List.findSome?_cons, List.findSome?_cons, h a (by simp), findSome_congr (fun b hb => h b (by simp [hb]))]

theorem find_congr {α : Type} {f g : α → Bool} : ∀ {l : List α}, (∀ a ∈ l, f a = g a) → l.find? f = l.find? g
  | [], _ => rfl
  | a :: l, h => by
    rw [List.find?_cons, List.find?_cons, h a (by simp), find_congr (fun b hb => h b (by simp [hb]))]

theorem firstV_congr {n m : Nat} {p q : Nat → Nat → Bool} (h : ∀ i x, i < n → x ≤ m → p i x = q i x) : firstV n m p = firstV n m q := by
  unfold firstV
  refine findSome_congr (fun i hi => ?_)
  have hi' : i < n := by simpa using hi
  rw [find_congr (g := q i) (fun x hx => h i x hi' (Nat.le_of_lt_succ (List.mem_range.1 hx)))]

theorem range_drop (n i : Nat) : (List.range n).drop i = List.range' i (n - i) := by
  rw [List.range_eq_range', List.drop_range']; simp

theorem first_loop {R : Type} (n m : Nat) (p : Nat → Nat → Bool) (G : Nat → R) (F : Nat → Nat → R) (res : Option (Nat × Nat) → R)
    (hG : ∀ i, i < n → G i = F i 0) (hGn : G n = res none)
    (hF : ∀ i x, i < n → x ≤ m → F i x = if p i x = true then res (some (i, x)) else F i (x + 1))
    (hFm : ∀ i, i < n → F i (m + 1) = G (i + 1)) : G 0 = res (firstV n m p) := by
  have inner : ∀ (i : Nat), i < n → ∀ (c x : Nat), c = m + 1 - x → x ≤ m + 1 → F i x = match (List.range' x (m + 1 - x)).find? (p i) with
      | some y => res (some (i, y))
      | none => G (i + 1) := by
    intro i hi c
    induction c with
    | zero =>
      intro x hc hx
      have : x = m + 1 := by omega
      subst this
      simp [hFm i hi]
    | succ c ih =>
      intro x hc hx
      rw [hF i x hi (by omega)]
      have e : m + 1 - x = (m + 1 - (x + 1)) + 1 := by omega
      rw [e, List.range'_succ, List.find?_cons]
      by_cases hp : p i x = true
      · rw [if_pos hp, hp]
      · rw [if_neg hp, ih (x + 1) (by omega) (by omega)]
        simp at hp
        rw [hp]
  have outer : ∀ (c i : Nat), c = n - i → i ≤ n → G i = res ((List.range' i (n - i)).findSome? fun i => ((List.range (m + 1)).find? (p i)).map fun x => (i, x)) := by
    intro c
    induction c with
    | zero =>
      intro i hc hi
      have : i = n := by omega
      subst this
      simp [hGn]
    | succ c ih =>
      intro i hc hi
      have hi' : i < n := by omega
      rw [hG i hi', inner i hi' (m + 1) 0 (by omega) (by omega)]
      have e : n - i = (n - (i + 1)) + 1 := by omega
      rw [e, List.range'_succ, List.findSome?_cons, List.range_eq_range']
      simp only [Nat.sub_zero]
      cases (List.range' 0 (m + 1)).find? (p i) with
      | some y => rfl
      | none => simpa [List.range_eq_range'] using ih (i + 1) (by omega) (by omega)
  have := outer n 0 (by omega) (by omega)
  simpa [firstV, List.range_eq_range'] using this

/-! ### walks -/
def iter (g : Nat → Option Nat) : Nat → Nat → Option Nat
  | 0, i => some i
  | k + 1, i => (g i).bind (iter g k)

theorem iter_add (g : Nat → Option Nat) : ∀ (a b i : Nat), iter g (a + b) i = (iter g a i).bind (iter g b)
  | 0, b, i => by simp [iter]
  | a + 1, b, i => by
    rw [Nat.succ_add]
    simp only [iter]
    cases g i with
    | none => rfl
    | some j => exact iter_add g a b j

theorem iter_some_le {g : Nat → Option Nat} {a b i : Nat} (h : a ≤ b) (hb : (iter g b i).isSome = true) : (iter g a i).isSome = true := by
  have e : b = a + (b - a) := by omega
  rw [e, iter_add] at hb
  cases q : iter g a i with
  | none => rw [q] at hb; cases hb
  | some _ => rfl

/-- A walk that comes back never ends. -/
theorem iter_cycle {g : Nat → Option Nat} {j s : Nat} (hj : 1 ≤ j) (h : iter g j s = some s) : ∀ k, (iter g k s).isSome = true := by
  have rep : ∀ n, iter g (n * j) s = some s := by
    intro n
    induction n with
    | zero => simp [iter]
    | succ n ih => rw [Nat.succ_mul, iter_add, ih]; exact h
  intro k
  refine iter_some_le (b := k * j) ?_ (by rw [rep k]; rfl)
  exact Nat.le_mul_of_pos_right k hj

def stepV (ss : List StateT) (x : Int) (i : Nat) : Option Nat :=
  if (matchV ss i x).2 = true then if (matchV ss i x).1.2.2.2.1 = true then findN ss (matchV ss i x).1.2.2.1 else none else none

/-- The symbol is read again forever. -/
def endlessV (ss : List StateT) (i : Nat) (x : Int) : Bool := (iter (stepV ss x) (ss.length + 1) i).isSome

theorem findN_lt {ss : List StateT} {b : ByteArray} {i : Nat} (h : findN ss b = some i) : i < ss.length := by
  unfold findN at h
  rw [List.findIdx?_eq_some_iff_getElem] at h
  exact h.1

theorem stepV_lt {ss : List StateT} {x : Int} {i j : Nat} (h : stepV ss x i = some j) : j < ss.length := by
  unfold stepV at h
  split at h
  · split at h
    · exact findN_lt h
    · cases h
  · cases h

/-! ### lists of marks -/
def falses (l : List Bool) : Nat := l.countP fun b => !b

theorem falses_set : ∀ (l : List Bool) (i : Nat), l[i]? = some false → falses (l.set i true) + 1 = falses l
  | [], _, h => by simp at h
  | b :: l, 0, h => by simp at h; subst h; simp [falses]
  | b :: l, i + 1, h => by
    have ih := falses_set l i (by simpa using h)
    unfold falses at ih ⊢
    rw [List.set_cons_succ, List.countP_cons, List.countP_cons]
    omega

theorem falses_pos {l : List Bool} {i : Nat} (h : l[i]? = some false) : 1 ≤ falses l := by
  have := falses_set l i h
  omega

theorem falses_rep (n : Nat) : falses (List.replicate n false) = n := by
  unfold falses
  rw [List.countP_replicate]
  simp

theorem set_get {l : List Bool} {i t : Nat} (h : (l.set i true)[t]? = some true) : t = i ∨ l[t]? = some true := by
  by_cases e : i = t
  · exact .inl e.symm
  · rw [List.getElem?_set_ne e] at h; exact .inr h

end Go.AM
end

section
/-
AM: the states that are reached. No condition.
-/
namespace Go.AM
open Go

def targets (s : StateT) : List RuleT := s.2.1 ++ (if s.2.2.1 = true then [s.2.2.2] else [])

/-- j comes after i. -/
def SuccS (ss : List StateT) (i j : Nat) : Prop := ∃ s, ss[i]? = some s ∧ ∃ r ∈ targets s, findN ss r.2.2.1 = some j

inductive ReachS (ss : List StateT) : Nat → Prop
  | zero : 0 < ss.length → ReachS ss 0
  | step {i j : Nat} : ReachS ss i → SuccS ss i j → ReachS ss j

noncomputable def reachV (ss : List StateT) : List Bool := (List.range ss.length).map fun j => open Classical in decide (ReachS ss j)

theorem reachV_len (ss : List StateT) : (reachV ss).length = ss.length := by simp [reachV]

theorem reachV_get (ss : List StateT) (j : Nat) : (reachV ss)[j]? = some true ↔ (j < ss.length ∧ ReachS ss j) := by
  unfold reachV
  rw [List.getElem?_map]
  by_cases h : j < ss.length
  · rw [List.getElem?_range h]; simp [h]
  · rw [List.getElem?_eq_none (by simpa using h)]; simp [h]

theorem bools_ext : ∀ {a b : List Bool}, a.length = b.length → (∀ j : Nat, a[j]? = some true ↔ b[j]? = some true) → a = b
  | [], [], _, _ => rfl
  | x :: a, y :: b, hl, h => by
    have h0 := h 0
    simp at h0
    have : x = y := by cases x <;> cases y <;> simp_all
    subst this
    rw [bools_ext (a := a) (b := b) (by simpa using hl) (fun j => by simpa using h (j + 1))]
  | [], _ :: _, hl, _ => by simp at hl
  | _ :: _, [], hl, _ => by simp at hl

theorem reachV_eq {ss : List StateT} {out : List Bool} (hl : out.length = ss.length) (h : ∀ j : Nat, out[j]? = some true ↔ (j < ss.length ∧ ReachS ss j)) : out = reachV ss :=
  bools_ext (by rw [hl, reachV_len]) (fun j => by rw [h j, reachV_get])

theorem falses_mono : ∀ {a b : List Bool}, a.length = b.length → (∀ j : Nat, a[j]? = some true → b[j]? = some true) → falses b ≤ falses a ∧ (falses b = falses a → a = b)
  | [], [], _, _ => ⟨Nat.le_refl _, fun _ => rfl⟩
  | x :: a, y :: b, hl, h => by
    obtain ⟨h1, h2⟩ := falses_mono (a := a) (b := b) (by simpa using hl) (fun j hj => by simpa using h (j + 1) (by simpa using hj))
    have h0 := h 0
    simp at h0
    unfold falses at h1 h2 ⊢
    rw [List.countP_cons, List.countP_cons]
    cases x with
    | true =>
      rw [h0 rfl]
      exact ⟨by simpa using h1, fun q => by rw [h2 (by simpa using q)]⟩
    | false =>
      cases y with
      | true => simp; omega
      | false => exact ⟨by simpa using h1, fun q => by rw [h2 (by simpa using q)]⟩
  | [], _ :: _, hl, _ => by simp at hl
  | _ :: _, [], hl, _ => by simp at hl

theorem get_true_lt {l : List Bool} {j : Nat} {b : Bool} (h : l[j]? = some b) : j < l.length := (List.getElem?_eq_some_iff.1 h).1

/-- What is marked is reached. -/
structure BaseS (ss : List StateT) (out : List Bool) : Prop where
  len : out.length = ss.length
  sound : ∀ j : Nat, out[j]? = some true → ReachS ss j

def DoneS (ss : List StateT) (out : List Bool) (i : Nat) : Prop := ∀ k, SuccS ss i k → out[k]? = some true

def MonoS (a b : List Bool) : Prop := ∀ j : Nat, a[j]? = some true → b[j]? = some true

theorem DoneS.mono {ss : List StateT} {a b : List Bool} {i : Nat} (h : DoneS ss a i) (m : MonoS a b) : DoneS ss b i := fun k hk => m k (h k hk)

theorem reach_closed {ss : List StateT} {out : List Bool} (hb : BaseS ss out) (h0 : 0 < ss.length → out[0]? = some true) (hc : ∀ i : Nat, out[i]? = some true → DoneS ss out i) : out = reachV ss := by
  refine reachV_eq hb.len (fun j => ⟨fun h => ⟨by have := get_true_lt h; rw [hb.len] at this; exact this, hb.sound j h⟩, fun h => ?_⟩)
  have hr := h.2
  clear h
  induction hr with
  | zero h => exact h0 h
  | step _ hs ih => exact hc _ ih _ hs

theorem BaseS.set {ss : List StateT} {out : List Bool} (hb : BaseS ss out) {j : Nat} (hj : ReachS ss j) : BaseS ss (out.set j true) :=
  ⟨by simpa using hb.len, fun t ht => by
    rcases set_get ht with rfl | h
    · exact hj
    · exact hb.sound t h⟩

theorem MonoS.set (out : List Bool) (j : Nat) : MonoS out (out.set j true) := fun t ht => by
  by_cases e : j = t
  · subst e
    rw [List.getElem?_set_self (get_true_lt ht)]
  · rw [List.getElem?_set_ne e]; exact ht

theorem MonoS.refl (a : List Bool) : MonoS a a := fun _ h => h
theorem MonoS.trans {a b c : List Bool} (h : MonoS a b) (k : MonoS b c) : MonoS a c := fun j q => k j (h j q)

/-- The queue: what is in it is marked; each state is in it once. -/
structure QueueS (ss : List StateT) (out : List Bool) (q : List Int) : Prop where
  base : BaseS ss out
  mem : ∀ o ∈ q, ∃ j : Nat, o = j ∧ out[j]? = some true
  len : q.length + falses out ≤ ss.length

structure GrowS (out : List Bool) (q : List Int) (out' : List Bool) (q' : List Int) : Prop where
  mono : MonoS out out'
  keep : ∀ o ∈ q, o ∈ q'
  new : ∀ j : Nat, out'[j]? = some true → out[j]? = some true ∨ (j : Int) ∈ q'
  size : 2 * falses out' + q'.length ≤ 2 * falses out + q.length

theorem GrowS.refl (out : List Bool) (q : List Int) : GrowS out q out q := ⟨MonoS.refl _, fun _ h => h, fun _ h => .inl h, Nat.le_refl _⟩
theorem GrowS.trans {a b c : List Bool} {p q r : List Int} (h : GrowS a p b q) (k : GrowS b q c r) : GrowS a p c r :=
  ⟨h.mono.trans k.mono, fun o ho => k.keep o (h.keep o ho), fun j hj => by
    rcases k.new j hj with h1 | h1
    · rcases h.new j h1 with h2 | h2
      · exact .inl h2
      · exact .inr (k.keep _ h2)
    · exact .inr h1, Nat.le_trans k.size h.size⟩

end Go.AM
end

section
/-
AM: the error of a badly formed declaration. No condition.
-/
namespace Go.AM
open Go

def actV (a : Int × Int) : Int :=
  if a.1 = 1 ∨ a.1 = 2 then if a.2 = 0 then 0 else 1
  else if a.1 = 3 ∨ a.1 = 4 ∨ a.1 = 5 then if 0 ≤ a.2 ∧ a.2 ≤ 255 then 0 else 2
  else if a.1 = 6 then if 1 ≤ a.2 ∧ a.2 ≤ 12 then 0 else 2
  else 1

def errL : List Int → Int
  | [] => 0
  | e :: r => if e = 0 then errL r else e

def targetV (ss : List StateT) (r : RuleT) : Int := match findN ss r.2.2.1 with
  | none => 8
  | some _ => if 8 < r.2.2.2.2.length then 6 else errL (r.2.2.2.2.map actV)

def ruleE (ss : List StateT) (top : Int) (r : RuleT) : Int := if 0 ≤ r.1 ∧ r.1 ≤ r.2.1 ∧ r.2.1 ≤ top then targetV ss r else 2

def elseE (ss : List StateT) (s : StateT) : Int :=
  if s.2.2.2.1 = 0 ∧ s.2.2.2.2.1 = 0 then
    if s.2.2.1 = true then targetV ss s.2.2.2
    else if L s.2.2.2.2.2.1 = [] ∧ s.2.2.2.2.2.2.1 = false ∧ s.2.2.2.2.2.2.2.length = 0 then 0 else 1
  else 1

def stateE (ss : List StateT) (top : Int) (i : Nat) (s : StateT) : Int :=
  if nameB (L s.1) = true then
    if optI (findN ss s.1) < i then 9
    else if 64 < s.2.1.length then 6
    else if errL (s.2.1.map (ruleE ss top)) = 0 then elseE ss s else errL (s.2.1.map (ruleE ss top))
  else 4

def statesE (ss : List StateT) (top : Int) : Nat → List StateT → Int
  | _, [] => 0
  | i, s :: r => if stateE ss top i s = 0 then statesE ss top (i + 1) r else stateE ss top i s

def checkV (d : DeclT) : Int :=
  if nameB (L d.1) = true then
    if (d.2.1 = 2 ∨ d.2.1 = 3) ∧ (d.2.2.1 = 5 ∨ d.2.2.1 = 6) ∧ d.2.2.2.length ≠ 0 then
      if 32 < d.2.2.2.length then 6 else statesE d.2.2.2 (topV d) 0 d.2.2.2
    else 1
  else 4

end Go.AM
end

section
/-
AM: the error of a declaration, by all checks; a declaration of a small bulk is short in all its parts. No condition.
-/
namespace Go.AM
open Go

theorem len_le_bk {e : U} (hp : ∀ x : El e, 1 ≤ bk e x) : ∀ l : List (El e), l.length ≤ (l.map (bk e)).sum
  | [] => by simp
  | x :: l => by
    have h1 := len_le_bk hp l
    have h2 := hp x
    simp only [List.length_cons, List.map_cons, List.sum_cons]
    omega

theorem mem_le_bk {e : U} {x : El e} : ∀ {l : List (El e)}, x ∈ l → bk e x ≤ (l.map (bk e)).sum
  | y :: l, h => by
    simp only [List.map_cons, List.sum_cons]
    rcases List.mem_cons.1 h with rfl | h
    · omega
    · have := mem_le_bk h; omega

abbrev kAct : U := .cons (.int .i64) (.int .i64)
abbrev kRule : U := .cons (.int .i64) (.cons (.int .i64) (.cons .str (.cons .bool (.sl kAct))))
abbrev kState : U := .cons .str (.cons (.sl kRule) (.cons .bool kRule))
abbrev kDecl : U := .cons .str (.cons (.int .i64) (.cons (.int .i64) (.sl kState)))

theorem okRule_bk (r : RuleT) (h : bk kRule r ≤ 1048576) : okRule r := by
  obtain ⟨a, b, c, e, l⟩ := r
  have h1 := len_le_bk (e := kAct) (fun x => by simp only [bk]; omega) l
  have e1 : bk kRule (a, b, c, e, l) = 1 + (1 + (c.size + 1 + (1 + ((l.map (bk kAct)).sum + 1)))) := rfl
  rw [e1] at h
  unfold okRule
  simp only
  omega

theorem okState_bk (s : StateT) (h : bk kState s ≤ 1048576) : okState s := by
  obtain ⟨a, l, e, r⟩ := s
  have h1 := len_le_bk (e := kRule) (fun x => by simp only [bk]; omega) l
  have e1 : bk kState (a, l, e, r) = a.size + 1 + ((l.map (bk kRule)).sum + 1 + (1 + bk kRule r)) := rfl
  rw [e1] at h
  refine ⟨by simp only; omega, fun x hx => okRule_bk x ?_, okRule_bk r (by omega)⟩
  have h2 := mem_le_bk (e := kRule) hx
  simp only at h2
  omega

theorem okDecl_bk (d : DeclT) (h : bk kDecl d ≤ 1048576) : okDecl d := by
  obtain ⟨a, i, o, l⟩ := d
  have h1 := len_le_bk (e := kState) (fun x => by simp only [bk]; omega) l
  have e1 : bk kDecl (a, i, o, l) = a.size + 1 + (1 + (1 + ((l.map (bk kState)).sum + 1))) := rfl
  rw [e1] at h
  refine ⟨by simp only; omega, fun x hx => okState_bk x ?_⟩
  have h2 := mem_le_bk (e := kState) hx
  simp only at h2
  omega

def ambP (ss : List StateT) (i x : Nat) : Bool := match ss[i]? with
  | some s => decide (1 < s.2.1.countP (hitB x))
  | none => false
def misP (ss : List StateT) (i x : Nat) : Bool := !(matchV ss i x).2
def cycP (ss : List StateT) (i x : Nat) : Bool := endlessV ss i x

noncomputable def ccheckV (d : DeclT) : Int :=
  if checkV d ≠ 0 then checkV d
  else if (firstV d.2.2.2.length (topV d) (ambP d.2.2.2)).isSome = true then 13
  else if (firstV d.2.2.2.length (topV d) (misP d.2.2.2)).isSome = true then 14
  else if (firstV d.2.2.2.length (topV d) (cycP d.2.2.2)).isSome = true then 15
  else if (reachV d.2.2.2).all id = true then 0 else 16

end Go.AM
end

section
/-
AM: correct declarations: each symbol has one rule, and reading it ends; the order of rules does not matter. No condition.
-/
namespace Go.AM
open Go

theorem firstV_none {n m : Nat} {p : Nat → Nat → Bool} : firstV n m p = none ↔ ∀ i x, i < n → x ≤ m → p i x = false := by
  unfold firstV
  rw [List.findSome?_eq_none_iff]
  constructor
  · intro h i x hi hx
    have h1 := h i (List.mem_range.2 hi)
    rw [Option.map_eq_none_iff, List.find?_eq_none] at h1
    have h2 := h1 x (List.mem_range.2 (by omega))
    simpa using h2
  · intro h i hi
    rw [Option.map_eq_none_iff, List.find?_eq_none]
    intro x hx
    rw [h i x (List.mem_range.1 hi) (by have := List.mem_range.1 hx; omega)]
    simp

theorem errL_zero : ∀ {l : List Int}, errL l = 0 ↔ ∀ e ∈ l, e = 0
  | [] => by simp [errL]
  | e :: r => by
    unfold errL
    by_cases h : e = 0
    · rw [if_pos h, errL_zero]; simp [h]
    · rw [if_neg h]; simp [h]

theorem statesE_zero {ss : List StateT} {top : Int} : ∀ {l : List StateT} {i : Nat}, statesE ss top i l = 0 ↔ ∀ (j : Nat) (s : StateT), l[j]? = some s → stateE ss top (i + j) s = 0
  | [], i => by simp [statesE]
  | s :: r, i => by
    unfold statesE
    by_cases h : stateE ss top i s = 0
    · rw [if_pos h, statesE_zero]
      constructor
      · intro q j t ht
        cases j with
        | zero => simp at ht; subst ht; exact h
        | succ j =>
          have := q j t (by simpa using ht)
          rwa [show i + 1 + j = i + (j + 1) by omega] at this
      · intro q j t ht
        have := q (j + 1) t (by simpa using ht)
        rwa [show i + (j + 1) = i + 1 + j by omega] at this
    · rw [if_neg h]
      constructor
      · intro q; exact absurd q h
      · intro q; exact absurd (q 0 s (by simp)) h

structure GoodD (d : DeclT) : Prop where
  check : checkV d = 0
  amb : ∀ i x, i < d.2.2.2.length → x ≤ topV d → ambP d.2.2.2 i x = false
  mis : ∀ i x, i < d.2.2.2.length → x ≤ topV d → misP d.2.2.2 i x = false
  cyc : ∀ i x, i < d.2.2.2.length → x ≤ topV d → cycP d.2.2.2 i x = false
  reach : (reachV d.2.2.2).all id = true

theorem isSome_not {α : Type} {o : Option α} : ¬ o.isSome = true ↔ o = none := by cases o <;> simp

theorem ccheck_zero {d : DeclT} : ccheckV d = 0 ↔ GoodD d := by
  unfold ccheckV
  constructor
  · intro h
    by_cases h0 : checkV d = 0
    · rw [if_neg (show ¬ checkV d ≠ 0 from fun q => q h0)] at h
      split at h
      · cases h
      · rename_i h1
        split at h
        · cases h
        · rename_i h2
          split at h
          · cases h
          · rename_i h3
            split at h
            · rename_i h4
              exact ⟨h0, firstV_none.1 (isSome_not.1 h1), firstV_none.1 (isSome_not.1 h2), firstV_none.1 (isSome_not.1 h3), h4⟩
            · cases h
    · rw [if_pos h0] at h; exact absurd h h0
  · rintro ⟨h0, h1, h2, h3, h4⟩
    rw [if_neg (show ¬ checkV d ≠ 0 from fun q => q h0), firstV_none.2 h1, firstV_none.2 h2, firstV_none.2 h3, if_pos h4]
    rfl

theorem checkV_zero {d : DeclT} : checkV d = 0 ↔ nameB (L d.1) = true ∧ ((d.2.1 = 2 ∨ d.2.1 = 3) ∧ (d.2.2.1 = 5 ∨ d.2.2.1 = 6) ∧ d.2.2.2.length ≠ 0) ∧ d.2.2.2.length ≤ 32 ∧ ∀ (j : Nat) (s : StateT), d.2.2.2[j]? = some s → stateE d.2.2.2 (topV d) j s = 0 := by
  unfold checkV
  by_cases h1 : nameB (L d.1) = true
  · rw [if_pos h1]
    by_cases h2 : (d.2.1 = 2 ∨ d.2.1 = 3) ∧ (d.2.2.1 = 5 ∨ d.2.2.1 = 6) ∧ d.2.2.2.length ≠ 0
    · rw [if_pos h2]
      by_cases h3 : 32 < d.2.2.2.length
      · rw [if_pos h3]
        constructor
        · intro q; cases q
        · rintro ⟨_, _, q, _⟩; omega
      · rw [if_neg h3, statesE_zero]
        simp only [Nat.zero_add]
        exact ⟨fun q => ⟨h1, h2, by omega, q⟩, fun q => q.2.2.2⟩
    · rw [if_neg h2]
      constructor
      · intro q; cases q
      · rintro ⟨_, q, _⟩; exact absurd q h2
  · rw [if_neg h1]
    constructor
    · intro q; cases q
    · rintro ⟨q, _⟩; exact absurd q h1

theorem stateE_zero {ss : List StateT} {top : Int} {i : Nat} {s : StateT} : stateE ss top i s = 0 ↔ nameB (L s.1) = true ∧ ¬ optI (findN ss s.1) < i ∧ s.2.1.length ≤ 64 ∧ (∀ r ∈ s.2.1, ruleE ss top r = 0) ∧ elseE ss s = 0 := by
  unfold stateE
  by_cases h1 : nameB (L s.1) = true
  · rw [if_pos h1]
    by_cases h2 : optI (findN ss s.1) < (i : Int)
    · rw [if_pos h2]
      constructor
      · intro q; cases q
      · rintro ⟨_, q, _⟩; exact absurd h2 q
    · rw [if_neg h2]
      by_cases h3 : 64 < s.2.1.length
      · rw [if_pos h3]
        constructor
        · intro q; cases q
        · rintro ⟨_, _, q, _⟩; omega
      · rw [if_neg h3]
        have e : errL (s.2.1.map (ruleE ss top)) = 0 ↔ ∀ r ∈ s.2.1, ruleE ss top r = 0 := by rw [errL_zero, List.forall_mem_map]
        by_cases h4 : errL (s.2.1.map (ruleE ss top)) = 0
        · rw [if_pos h4]
          exact ⟨fun q => ⟨h1, h2, by omega, e.1 h4, q⟩, fun q => q.2.2.2.2⟩
        · rw [if_neg h4]
          constructor
          · intro q; exact absurd q h4
          · rintro ⟨_, _, _, q, _⟩; exact absurd (e.2 q) h4
  · rw [if_neg h1]
    constructor
    · intro q; cases q
    · rintro ⟨q, _⟩; exact absurd q h1

theorem target_found {ss : List StateT} {r : RuleT} (h : targetV ss r = 0) : ∃ j, findN ss r.2.2.1 = some j := by
  unfold targetV at h
  split at h
  · cases h
  · rename_i j hj; exact ⟨j, hj⟩

theorem ruleE_target {ss : List StateT} {top : Int} {r : RuleT} (h : ruleE ss top r = 0) : targetV ss r = 0 := by
  unfold ruleE at h
  split at h
  · exact h
  · cases h

theorem elseE_target {ss : List StateT} {s : StateT} (h : elseE ss s = 0) (he : s.2.2.1 = true) : targetV ss s.2.2.2 = 0 := by
  unfold elseE at h
  rw [if_pos he] at h
  split at h
  · exact h
  · cases h

/-- The rule that is found leads to a state. -/
theorem match_found {d : DeclT} (h : checkV d = 0) {i : Nat} {x : Int} (hm : (matchV d.2.2.2 i x).2 = true) : ∃ j, findN d.2.2.2 (matchV d.2.2.2 i x).1.2.2.1 = some j := by
  obtain ⟨_, _, _, hs⟩ := checkV_zero.1 h
  unfold matchV at hm ⊢
  rw [if_neg (by omega)] at hm ⊢
  cases e : d.2.2.2[(i : Int).toNat]? with
  | none => rw [e] at hm; simp at hm
  | some s =>
    rw [e] at hm
    simp only at hm ⊢
    have e' : d.2.2.2[i]? = some s := e
    obtain ⟨_, _, _, hr, he⟩ := stateE_zero.1 (hs i s e')
    unfold ruleR at hm ⊢
    cases f : s.2.1.find? (hitB x) with
    | some r =>
      simp only
      exact target_found (ruleE_target (hr r (List.mem_of_find?_eq_some f)))
    | none =>
      rw [f] at hm
      simp only at hm ⊢
      by_cases q : s.2.2.1 = true
      · rw [if_pos q]; exact target_found (elseE_target he q)
      · rw [if_neg q] at hm; simp at hm

/-- A walk as long as there are states never ends. -/
theorem walk_inf {g : Nat → Option Nat} {n : Nat} (hg : ∀ i j, g i = some j → j < n) : ∀ (c : Nat) (V : List Bool) (s : Nat), V.length = n → falses V = c → V[s]? = some false → (∀ t, V[t]? = some true → ∃ j, 1 ≤ j ∧ iter g j t = some s) → (iter g c s).isSome = true →
    ∀ k, (iter g k s).isSome = true := by
  intro c
  induction c with
  | zero => intro V s _ hc hs _ _; have := falses_pos hs; omega
  | succ c ih =>
    intro V s hl hc hs hinv hi
    cases e : g s with
    | none => simp [iter, e] at hi
    | some j =>
      have hi' : (iter g c j).isSome = true := by simpa [iter, e] using hi
      have hj := hg s j e
      have hf := falses_set V s hs
      have one : iter g 1 s = some j := by simp [iter, e]
      have hinv' : ∀ t, (V.set s true)[t]? = some true → ∃ q, 1 ≤ q ∧ iter g q t = some j := by
        intro t ht
        rcases set_get ht with rfl | ht
        · exact ⟨1, Nat.le_refl _, one⟩
        · obtain ⟨q, _, hq⟩ := hinv t ht
          exact ⟨q + 1, by omega, by rw [iter_add, hq]; exact one⟩
      have inf : ∀ k, (iter g k j).isSome = true := by
        cases b : (V.set s true)[j]? with
        | none => rw [List.getElem?_eq_getElem (by simpa [hl] using hj)] at b; cases b
        | some b' =>
          cases b' with
          | true =>
            obtain ⟨q, hq1, hq2⟩ := hinv' j b
            exact iter_cycle hq1 hq2
          | false => exact ih (V.set s true) j (by simpa using hl) (by omega) b hinv' hi'
      intro k
      cases k with
      | zero => rfl
      | succ k => simpa [iter, e] using inf k

theorem walk_ends {ss : List StateT} {x : Int} {i : Nat} (hi : i < ss.length) (h : endlessV ss i x = false) : (iter (stepV ss x) ss.length i).isSome = false := by
  cases e : (iter (stepV ss x) ss.length i).isSome with
  | false => rfl
  | true =>
    have := walk_inf (fun a b => stepV_lt) ss.length (List.replicate ss.length false) i (by simp) (falses_rep _) (by rw [List.getElem?_replicate, if_pos hi]) (fun t ht => by
      rw [List.getElem?_replicate] at ht
      split at ht <;> simp at ht) e (ss.length + 1)
    unfold endlessV at h
    rw [h] at this
    cases this

end Go.AM
end

section
/-
AM: the tokens of a declaration, its text, and that the text of a correct one is short. No condition.
-/
namespace Go.AM
open Go

def opTab : List ByteArray := [strB [], strB [99, 108, 101, 97, 114], strB [112, 117, 115, 104], strB [120, 111, 114], strB [112, 117, 116], strB [101, 109, 105, 116], strB [102, 97, 105, 108]]
def opW (n : Int) : ByteArray := opTab.getD n.toNat (strB [])

def wTok (b : ByteArray) : TokT := (1, b, 0, 0)
def mTok (c : UInt8) : TokT := (4, strB [c], 0, 0)
def nTok (n : Int) : TokT := (2, strB (Lib.itoa n), n, 0)

def actT (i : Nat) (a : Int × Int) : List TokT := mTok (if i = 0 then 58 else 44) :: wTok (opW a.1) :: (if a.1 > 2 then [nTok a.2] else [])
def actsT : Nat → List (Int × Int) → List TokT
  | _, [] => []
  | i, a :: r => actT i a ++ actsT (i + 1) r
def sAgain : ByteArray := strB [97, 103, 97, 105, 110]
def targetT (r : RuleT) : List TokT := mTok 62 :: wTok r.2.2.1 :: ((if r.2.2.2.1 = true then [wTok sAgain] else []) ++ (actsT 0 r.2.2.2.2 ++ [mTok 59]))
def ruleT (r : RuleT) : List TokT := nTok r.1 :: ((if r.2.1 = r.1 then [] else [mTok 46, mTok 46, nTok r.2.1]) ++ targetT r)
def rulesT : List RuleT → List TokT
  | [] => []
  | r :: l => ruleT r ++ rulesT l
def elseT (s : StateT) : List TokT := if s.2.2.1 = true then mTok 42 :: targetT s.2.2.2 else []
def sState : ByteArray := strB [115, 116, 97, 116, 101]
def stateT (s : StateT) : List TokT := wTok sState :: wTok s.1 :: mTok 123 :: (rulesT s.2.1 ++ (elseT s ++ [mTok 125]))
def statesT : List StateT → List TokT
  | [] => []
  | s :: l => stateT s ++ statesT l
def sDecoder : ByteArray := strB [100, 101, 99, 111, 100, 101, 114]
def sInput : ByteArray := strB [105, 110, 112, 117, 116]
def sOutput : ByteArray := strB [111, 117, 116, 112, 117, 116]
def sBit : ByteArray := strB [98, 105, 116]
def sByte : ByteArray := strB [98, 121, 116, 101]
def sFrame : ByteArray := strB [102, 114, 97, 109, 101]
def sPacket : ByteArray := strB [112, 97, 99, 107, 101, 116]
def headT (d : DeclT) : List TokT := [wTok sDecoder, wTok d.1, wTok sInput, wTok (if d.2.1 = 2 then sBit else sByte), wTok sOutput, wTok (if d.2.2.1 = 5 then sFrame else sPacket), mTok 123]
def declT (d : DeclT) : List TokT := headT d ++ (statesT d.2.2.2 ++ [mTok 125])

def printV (d : DeclT) : List UInt8 × Int := if checkV d = 0 then textV (declT d) else ([], checkV d)

/-! ### correct declarations -/
def OkAct (a : Int × Int) : Prop := 1 ≤ a.1 ∧ a.1 ≤ 6 ∧ 0 ≤ a.2 ∧ a.2 ≤ 255 ∧ (a.1 ≤ 2 → a.2 = 0)
structure OkTarget (r : RuleT) : Prop where
  next : nameB (L r.2.2.1) = true
  few : r.2.2.2.2.length ≤ 8
  acts : ∀ a ∈ r.2.2.2.2, OkAct a
structure OkRange (r : RuleT) : Prop where
  lo : 0 ≤ r.1
  le : r.1 ≤ r.2.1
  hi : r.2.1 ≤ 255
structure OkState (s : StateT) : Prop where
  name : nameB (L s.1) = true
  few : s.2.1.length ≤ 64
  rules : ∀ r ∈ s.2.1, OkRange r ∧ OkTarget r
  els : s.2.2.2.1 = 0 ∧ s.2.2.2.2.1 = 0
  some : s.2.2.1 = true → OkTarget s.2.2.2
  none : s.2.2.1 = false → s.2.2.2 = noRule
structure OkDecl (d : DeclT) : Prop where
  name : nameB (L d.1) = true
  input : d.2.1 = 2 ∨ d.2.1 = 3
  output : d.2.2.1 = 5 ∨ d.2.2.1 = 6
  few : d.2.2.2.length ≤ 32
  states : ∀ s ∈ d.2.2.2, OkState s

theorem actV_zero {a : Int × Int} (h : actV a = 0) : OkAct a := by
  unfold actV at h
  unfold OkAct
  split at h
  · split at h
    · omega
    · omega
  · split at h
    · split at h
      · omega
      · omega
    · split at h
      · split at h
        · omega
        · omega
      · omega

theorem findN_name {ss : List StateT} {b : ByteArray} {j : Nat} (h : findN ss b = some j) (hn : ∀ s ∈ ss, nameB (L s.1) = true) : nameB (L b) = true := by
  obtain ⟨hj, hp⟩ := List.findIdx?_eq_some_iff_getElem.1 h
  have h1 := hp.1
  simp only [beq_iff_eq] at h1
  rw [← h1]
  exact hn _ (List.getElem_mem hj)

theorem targetV_zero {ss : List StateT} {r : RuleT} (h : targetV ss r = 0) (hn : ∀ s ∈ ss, nameB (L s.1) = true) : OkTarget r := by
  unfold targetV at h
  split at h
  · omega
  · rename_i j hj
    split at h
    · omega
    · refine ⟨findN_name hj hn, by omega, fun a ha => actV_zero (errL_zero.1 h _ (List.mem_map_of_mem ha))⟩

theorem ok_decl {d : DeclT} (h : checkV d = 0) : OkDecl d := by
  obtain ⟨h1, h2, h3, hs⟩ := checkV_zero.1 h
  have hs' : ∀ s ∈ d.2.2.2, ∃ j, stateE d.2.2.2 (topV d) j s = 0 := fun s hm => by
    obtain ⟨j, hj, e⟩ := List.mem_iff_getElem.1 hm
    exact ⟨j, hs j s (by rw [List.getElem?_eq_getElem hj, e])⟩
  have hn : ∀ s ∈ d.2.2.2, nameB (L s.1) = true := fun s hm => by
    obtain ⟨j, hj⟩ := hs' s hm
    exact (stateE_zero.1 hj).1
  refine ⟨h1, h2.1, h2.2.1, h3, fun s hm => ?_⟩
  obtain ⟨j, hj⟩ := hs' s hm
  obtain ⟨a1, _, a3, a4, a5⟩ := stateE_zero.1 hj
  have ht : (topV d : Int) ≤ 255 := by unfold topV; split <;> decide
  unfold elseE at a5
  split at a5
  · rename_i a6
    refine ⟨a1, a3, fun r hr => ?_, a6, fun he => ?_, fun he => ?_⟩
    · have := a4 r hr
      unfold ruleE at this
      split at this
      · rename_i a7
        exact ⟨⟨a7.1, a7.2.1, by omega⟩, targetV_zero this hn⟩
      · omega
    · rw [if_pos he] at a5
      exact targetV_zero a5 hn
    · rw [if_neg (by rw [he]; simp)] at a5
      split at a5
      · rename_i a8
        obtain ⟨n, rs, hb, lo, hi, nx, ag, ac⟩ := s
        simp only at a6 a8 ⊢
        obtain ⟨rfl, rfl⟩ := a6
        obtain ⟨b1, rfl, b3⟩ := a8
        have : ac = [] := List.length_eq_zero_iff.1 b3
        subst this
        have : nx = strB [] := L_inj b1
        subst this
        rfl
      · omega
  · omega

/-! ### how long the text is -/
def jl (l : List TokT) : Nat := (l.map fun t => (formB t).length + 1).sum
theorem jl_nil : jl [] = 0 := rfl
theorem jl_cons (t : TokT) (l : List TokT) : jl (t :: l) = (formB t).length + 1 + jl l := rfl
theorem jl_app (a b : List TokT) : jl (a ++ b) = jl a + jl b := by simp [jl]

theorem join_jl : ∀ (l : List TokT) (b : Bool), (joinB b l).length ≤ jl l
  | [], b => by cases b <;> simp [joinB, jl]
  | t :: r, b => by
    have h2 := join_jl r false
    rw [jl_cons]
    cases b <;> simp only [joinB, List.length_append, List.length_cons] <;> omega

theorem nameB_len {l : List UInt8} (h : nameB l = true) : l.length ≤ 16 := by
  cases l with
  | nil => simp
  | cons c r => rw [nameB_cons] at h; simp only [Bool.and_eq_true, decide_eq_true_eq] at h; simp only [List.length_cons]; omega

theorem small_itoa {v : Int} (h0 : 0 ≤ v) (h1 : v ≤ 255) : (Lib.itoa v).length ≤ 3 := by
  unfold Lib.itoa
  rw [if_neg (by omega)]
  exact decDigits_len 2 v.toNat (by show _ < 1000; omega)

theorem form_w (b : ByteArray) : formB (wTok b) = L b := rfl
theorem form_m (c : UInt8) : formB (mTok c) = [c] := by show L (strB [c]) = _; exact L_strB _
theorem form_n (n : Int) : formB (nTok n) = Lib.itoa n := rfl

theorem jl_w {b : ByteArray} (h : nameB (L b) = true) : (formB (wTok b)).length ≤ 16 := nameB_len h
theorem opW_len {n : Int} (h : 1 ≤ n ∧ n ≤ 6) : (L (opW n)).length ≤ 5 ∧ nameB (L (opW n)) = true := by
  have : n = 1 ∨ n = 2 ∨ n = 3 ∨ n = 4 ∨ n = 5 ∨ n = 6 := by omega
  rcases this with rfl | rfl | rfl | rfl | rfl | rfl <;> exact ⟨by decide, by decide⟩

theorem jl_act {i : Nat} {a : Int × Int} (h : OkAct a) : jl (actT i a) ≤ 12 ∧ (actT i a).length ≤ 3 := by
  have h1 := (opW_len ⟨h.1, h.2.1⟩).1
  have h2 := small_itoa h.2.2.1 h.2.2.2.1
  unfold actT
  rw [jl_cons, jl_cons, form_m, form_w]
  by_cases h3 : a.1 > 2
  · rw [if_pos h3, jl_cons, jl_nil, form_n]
    simp only [List.length_cons, List.length_nil]
    omega
  · rw [if_neg h3, jl_nil]
    simp only [List.length_cons, List.length_nil]
    omega

theorem jl_acts : ∀ (l : List (Int × Int)) (i : Nat), (∀ a ∈ l, OkAct a) → jl (actsT i l) ≤ 12 * l.length ∧ (actsT i l).length ≤ 3 * l.length
  | [], i, _ => by simp [actsT, jl]
  | a :: r, i, h => by
    have h1 := jl_act (i := i) (h a (by simp))
    have h2 := jl_acts r (i + 1) (fun b hb => h b (by simp [hb]))
    unfold actsT
    rw [jl_app, List.length_append, List.length_cons]
    omega

theorem jl_target {r : RuleT} (h : OkTarget r) : jl (targetT r) ≤ 124 ∧ (targetT r).length ≤ 28 := by
  have h1 := jl_acts r.2.2.2.2 0 h.acts
  have h2 := h.few
  have h3 := nameB_len h.next
  unfold targetT
  rw [jl_cons, jl_cons, jl_app, jl_app, jl_cons, jl_nil, form_m, form_m, form_w]
  simp only [List.length_cons, List.length_append, List.length_nil]
  split
  · rw [jl_cons, jl_nil, form_w, show (L sAgain).length = 5 by rfl]
    simp only [List.length_cons, List.length_nil]
    omega
  · rw [jl_nil]
    simp only [List.length_nil]
    omega

theorem jl_rule {r : RuleT} (h : OkRange r) (ht : OkTarget r) : jl (ruleT r) ≤ 136 ∧ (ruleT r).length ≤ 32 := by
  have h1 := jl_target ht
  have h2 := small_itoa h.lo (Int.le_trans h.le h.hi)
  have h3 := small_itoa (Int.le_trans h.lo h.le) h.hi
  unfold ruleT
  rw [jl_cons, jl_app, form_n]
  simp only [List.length_cons, List.length_append]
  split
  · rw [jl_nil]
    simp only [List.length_nil]
    omega
  · rw [jl_cons, jl_cons, jl_cons, jl_nil, form_m, form_n]
    simp only [List.length_cons, List.length_nil]
    omega

theorem jl_rules : ∀ (l : List RuleT), (∀ r ∈ l, OkRange r ∧ OkTarget r) → jl (rulesT l) ≤ 136 * l.length ∧ (rulesT l).length ≤ 32 * l.length
  | [], _ => by simp [rulesT, jl]
  | r :: l, h => by
    have h1 := jl_rule (h r (by simp)).1 (h r (by simp)).2
    have h2 := jl_rules l (fun b hb => h b (by simp [hb]))
    unfold rulesT
    rw [jl_app, List.length_append, List.length_cons]
    omega

theorem jl_else {s : StateT} (h : OkState s) : jl (elseT s) ≤ 126 ∧ (elseT s).length ≤ 29 := by
  unfold elseT
  split
  · rename_i he
    have h1 := jl_target (h.some he)
    rw [jl_cons, form_m]
    simp only [List.length_cons, List.length_nil]
    omega
  · simp [jl]

theorem jl_state {s : StateT} (h : OkState s) : jl (stateT s) ≤ 8900 ∧ (stateT s).length ≤ 2090 := by
  have h1 := jl_rules s.2.1 h.rules
  have h2 := jl_else h
  have h3 := h.few
  have h4 := nameB_len h.name
  unfold stateT
  rw [jl_cons, jl_cons, jl_cons, jl_app, jl_app, jl_cons, jl_nil, form_m, form_m, form_w, form_w, show (L sState).length = 5 by rfl]
  simp only [List.length_cons, List.length_append, List.length_nil]
  omega

theorem jl_states : ∀ (l : List StateT), (∀ s ∈ l, OkState s) → jl (statesT l) ≤ 8900 * l.length ∧ (statesT l).length ≤ 2090 * l.length
  | [], _ => by simp [statesT, jl]
  | s :: l, h => by
    have h1 := jl_state (h s (by simp))
    have h2 := jl_states l (fun b hb => h b (by simp [hb]))
    unfold statesT
    rw [jl_app, List.length_append, List.length_cons]
    omega

theorem jl_decl {d : DeclT} (h : OkDecl d) : jl (declT d) ≤ 300000 ∧ (declT d).length ≤ 70000 := by
  have h1 := jl_states d.2.2.2 h.states
  have h2 := h.few
  have h3 := nameB_len h.name
  have e1 : (L (if d.2.1 = 2 then sBit else sByte)).length ≤ 4 := by split <;> decide
  have e2 : (L (if d.2.2.1 = 5 then sFrame else sPacket)).length ≤ 6 := by split <;> decide
  unfold declT headT
  rw [jl_app, jl_app, jl_cons, jl_cons, jl_cons, jl_cons, jl_cons, jl_cons, jl_cons, jl_nil, jl_cons, jl_nil, form_m, form_m, form_w, form_w, form_w, form_w, form_w, form_w,
    show (L sDecoder).length = 7 by rfl, show (L sInput).length = 5 by rfl, show (L sOutput).length = 6 by rfl]
  simp only [List.length_cons, List.length_append, List.length_nil]
  omega

/-! ### these tokens have a text -/
def goodT (t : TokT) : Prop := formOk t = true ∧ t.2.1.size ≤ 16 ∧ 0 ≤ t.2.2.1 ∧ t.2.2.1 ≤ 255

theorem good_w {b : ByteArray} (h : nameB (L b) = true) : goodT (wTok b) := by
  refine ⟨?_, ?_, Int.le_refl 0, (by decide : (0 : Int) ≤ 255)⟩
  · show (nameB (L b) && decide ((0 : Int) = 0)) = true
    rw [h]; rfl
  · have := nameB_len h
    rw [L_len] at this
    exact this

theorem good_m {c : UInt8} (h : markB c = true) : goodT (mTok c) := by
  refine ⟨?_, (by show (strB [c]).size ≤ 16; rw [strB_size]; exact (by decide : 1 ≤ 16)), Int.le_refl 0, (by decide : (0 : Int) ≤ 255)⟩
  show (markL (L (strB [c])) && decide ((0 : Int) = 0)) = true
  rw [L_strB]
  show (markB c && _) = true
  rw [h]; rfl

theorem good_n {n : Int} (h0 : 0 ≤ n) (h1 : n ≤ 255) : goodT (nTok n) := by
  have := small_itoa h0 h1
  refine ⟨?_, ?_, h0, h1⟩
  · show (decide ((numV (L (strB (Lib.itoa n)))).2 = 0) && decide ((numV (L (strB (Lib.itoa n)))).1 = n)) = true
    rw [L_strB, numV_itoa (by omega) (by omega)]
    simp
  · show (strB (Lib.itoa n)).size ≤ 16
    rw [strB_size]; omega

theorem good_act {i : Nat} {a : Int × Int} (h : OkAct a) : ∀ t ∈ actT i a, goodT t := by
  unfold actT
  intro t ht
  simp only [List.mem_cons] at ht
  rcases ht with rfl | rfl | ht
  · split <;> exact good_m (by decide)
  · exact good_w (opW_len ⟨h.1, h.2.1⟩).2
  · split at ht
    · simp only [List.mem_singleton] at ht
      subst ht
      exact good_n h.2.2.1 h.2.2.2.1
    · simp at ht

theorem good_acts : ∀ (l : List (Int × Int)) (i : Nat), (∀ a ∈ l, OkAct a) → ∀ t ∈ actsT i l, goodT t
  | [], i, _, t, ht => by simp [actsT] at ht
  | a :: r, i, h, t, ht => by
    unfold actsT at ht
    rcases List.mem_append.1 ht with q | q
    · exact good_act (h a (by simp)) t q
    · exact good_acts r (i + 1) (fun b hb => h b (by simp [hb])) t q

theorem good_target {r : RuleT} (h : OkTarget r) : ∀ t ∈ targetT r, goodT t := by
  unfold targetT
  intro t ht
  simp only [List.mem_cons, List.mem_append, List.not_mem_nil, or_false] at ht
  rcases ht with rfl | rfl | ht | ht | rfl
  · exact good_m (by decide)
  · exact good_w h.next
  · split at ht
    · simp only [List.mem_singleton] at ht
      subst ht
      exact good_w (by decide)
    · simp at ht
  · exact good_acts _ 0 h.acts t ht
  · exact good_m (by decide)

theorem good_rule {r : RuleT} (h : OkRange r) (ht : OkTarget r) : ∀ t ∈ ruleT r, goodT t := by
  unfold ruleT
  intro t hm
  simp only [List.mem_cons, List.mem_append] at hm
  rcases hm with rfl | hm | hm
  · exact good_n h.lo (Int.le_trans h.le h.hi)
  · split at hm
    · simp at hm
    · simp only [List.mem_cons, List.not_mem_nil, or_false] at hm
      rcases hm with rfl | rfl | rfl
      · exact good_m (by decide)
      · exact good_m (by decide)
      · exact good_n (Int.le_trans h.lo h.le) h.hi
  · exact good_target ht t hm

theorem good_rules : ∀ (l : List RuleT), (∀ r ∈ l, OkRange r ∧ OkTarget r) → ∀ t ∈ rulesT l, goodT t
  | [], _, t, ht => by simp [rulesT] at ht
  | r :: l, h, t, ht => by
    unfold rulesT at ht
    rcases List.mem_append.1 ht with q | q
    · exact good_rule (h r (by simp)).1 (h r (by simp)).2 t q
    · exact good_rules l (fun b hb => h b (by simp [hb])) t q

theorem good_state {s : StateT} (h : OkState s) : ∀ t ∈ stateT s, goodT t := by
  unfold stateT elseT
  intro t ht
  simp only [List.mem_cons, List.mem_append, List.not_mem_nil, or_false] at ht
  rcases ht with rfl | rfl | rfl | ht | ht | rfl
  · exact good_w (by decide)
  · exact good_w h.name
  · exact good_m (by decide)
  · exact good_rules _ h.rules t ht
  · split at ht
    · rename_i he
      rcases List.mem_cons.1 ht with rfl | ht
      · exact good_m (by decide)
      · exact good_target (h.some he) t ht
    · simp at ht
  · exact good_m (by decide)

theorem good_states : ∀ (l : List StateT), (∀ s ∈ l, OkState s) → ∀ t ∈ statesT l, goodT t
  | [], _, t, ht => by simp [statesT] at ht
  | s :: l, h, t, ht => by
    unfold statesT at ht
    rcases List.mem_append.1 ht with q | q
    · exact good_state (h s (by simp)) t q
    · exact good_states l (fun b hb => h b (by simp [hb])) t q

theorem good_decl {d : DeclT} (h : OkDecl d) : ∀ t ∈ declT d, goodT t := by
  unfold declT headT
  intro t ht
  simp only [List.mem_cons, List.mem_append, List.not_mem_nil, or_false] at ht
  rcases ht with (rfl | rfl | rfl | rfl | rfl | rfl | rfl) | ht | rfl
  · exact good_w (by decide)
  · exact good_w h.name
  · exact good_w (by decide)
  · exact good_w (by split <;> decide)
  · exact good_w (by decide)
  · exact good_w (by split <;> decide)
  · exact good_m (by decide)
  · exact good_states _ h.states t ht
  · exact good_m (by decide)

theorem wt_sum : ∀ (l : List TokT), (∀ t ∈ l, goodT t) → (l.map wt).sum ≤ 128 * l.length
  | [], _ => by simp
  | t :: r, h => by
    have h1 := (h t (by simp)).2.1
    have h2 := wt_sum r (fun b hb => h b (by simp [hb]))
    simp only [List.map_cons, List.sum_cons, List.length_cons]
    unfold wt at *
    omega

theorem decl_text {d : DeclT} (h : OkDecl d) : textV (declT d) = (joinB true (declT d), 0) ∧ (declT d).all formOk = true ∧ (joinB true (declT d)).length ≤ 300000 := by
  have h1 : (declT d).all formOk = true := List.all_eq_true.2 fun t ht => (good_decl h t ht).1
  have h2 := join_jl (declT d) true
  have h3 := (jl_decl h).1
  refine ⟨?_, h1, by omega⟩
  unfold textV
  rw [if_pos h1, if_neg (by omega)]

end Go.AM
end

section
/-
AM: how the tokens of a declaration are read, in plain Lean; the tokens of a declaration are read as this declaration. No condition.
-/
namespace Go.AM
open Go

abbrev PR (α : Type) := Except (List TokT) (α × List TokT)

def andP {α β : Type} (x : PR α) (f : α → List TokT → PR β) : PR β := match x with
  | .error e => .error e
  | .ok (a, q) => f a q

/-- A token of a kind, with a text, or with any one. -/
def isT (k : Int) (x : List UInt8) (t : TokT) : Bool := decide (t.1 = k) && (x.isEmpty || L t.2.1 == x)
def hdT (k : Int) (x : List UInt8) : List TokT → Bool
  | [] => false
  | t :: _ => isT k x t

def pNeed (k : Int) (x : List UInt8) : List TokT → PR TokT
  | [] => .error []
  | t :: r => if isT k x t = true then .ok (t, r) else .error (t :: r)

def opNo (b : List UInt8) : Nat := if b = L (opW 1) then 1 else if b = L (opW 2) then 2 else if b = L (opW 3) then 3 else if b = L (opW 4) then 4 else if b = L (opW 5) then 5 else if b = L (opW 6) then 6 else 0

def pArg (o : Nat) (q : List TokT) : PR (Int × Int) := if o ≤ 2 then .ok (((o : Int), 0), q) else andP (pNeed 2 [] q) fun n q => .ok (((o : Int), n.2.2.1), q)
def pAct : List TokT → PR (Int × Int)
  | [] => .error []
  | t :: r => if t.1 = 1 ∧ opNo (L t.2.1) ≠ 0 then pArg (opNo (L t.2.1)) r else .error (t :: r)

def sepB (acc : List (Int × Int)) : List UInt8 := if acc = [] then [58] else [44]
def pActs : Nat → List (Int × Int) → List TokT → PR (List (Int × Int))
  | 0, acc, q => .ok (acc, q)
  | k + 1, acc, q => if hdT 4 (sepB acc) q = true then andP (pAct q.tail) fun a q => pActs k (acc ++ [a]) q else .ok (acc, q)

def pOpt (k : Int) (x : List UInt8) (q : List TokT) : PR Bool := if hdT k x q = true then .ok (true, q.tail) else .ok (false, q)

def pTarget (lo hi : Int) (q : List TokT) : PR RuleT :=
  andP (pNeed 4 [62] q) fun _ q => andP (pNeed 1 [] q) fun t q => andP (pOpt 1 (L sAgain) q) fun ag q => andP (pActs q.length [] q) fun acts q =>
    andP (pNeed 4 [59] q) fun _ q => .ok ((lo, hi, t.2.1, ag, acts), q)

def pHi (lo : Int) (q : List TokT) : PR Int := if hdT 4 [46] q = true then andP (pNeed 4 [46] q.tail) fun _ q => andP (pNeed 2 [] q) fun h q => .ok (h.2.2.1, q) else .ok (lo, q)
def pRule (q : List TokT) : PR RuleT := andP (pNeed 2 [] q) fun n q => andP (pHi n.2.2.1 q) fun hi q => pTarget n.2.2.1 hi q
def pRules : Nat → List RuleT → List TokT → PR (List RuleT)
  | 0, acc, q => .ok (acc, q)
  | k + 1, acc, q => if hdT 2 [] q = true then andP (pRule q) fun r q => pRules k (acc ++ [r]) q else .ok (acc, q)
def pElse (q : List TokT) : PR (Bool × RuleT) := if hdT 4 [42] q = true then andP (pTarget 0 0 q.tail) fun r q => .ok ((true, r), q) else .ok ((false, noRule), q)
def pState (q : List TokT) : PR StateT :=
  andP (pNeed 1 [] q) fun n q => andP (pNeed 4 [123] q) fun _ q => andP (pRules q.length [] q) fun rs q => andP (pElse q) fun e q => andP (pNeed 4 [125] q) fun _ q => .ok ((n.2.1, rs, e.1, e.2), q)
def pStates : Nat → List StateT → List TokT → PR (List StateT)
  | 0, acc, q => .ok (acc, q)
  | k + 1, acc, q => if hdT 1 (L sState) q = true then andP (pState q.tail) fun s q => pStates k (acc ++ [s]) q else .ok (acc, q)
def pEither (a : List UInt8) (na : Int) (b : List UInt8) (nb : Int) (q : List TokT) : PR Int := if hdT 1 a q = true then .ok (na, q.tail) else andP (pNeed 1 b q) fun _ q => .ok (nb, q)
def pDecl (q : List TokT) : PR DeclT :=
  andP (pNeed 1 (L sDecoder) q) fun _ q => andP (pNeed 1 [] q) fun n q => andP (pNeed 1 (L sInput) q) fun _ q => andP (pEither (L sBit) 2 (L sByte) 3 q) fun i q =>
    andP (pNeed 1 (L sOutput) q) fun _ q => andP (pEither (L sFrame) 5 (L sPacket) 6 q) fun o q => andP (pNeed 4 [123] q) fun _ q => andP (pStates q.length [] q) fun ss q =>
      andP (pNeed 4 [125] q) fun _ q => .ok ((n.2.1, i, o, ss), q)

/-- The declaration that these tokens are, or the rest where they are wrong. -/
def allV (q : List TokT) : Except (List TokT) DeclT := match pDecl q with
  | .error e => .error e
  | .ok (d, []) => .ok d
  | .ok (_, t :: r) => .error (t :: r)

def lineV (l e : List TokT) : Int := match e with
  | t :: _ => t.2.2.2
  | [] => match l.getLast? with
    | some t => t.2.2.2
    | none => 1

def noDecl : DeclT := (strB [], 0, 0, [])

def parseV (s : List UInt8) : DeclT × Int × Int := match tokV s with
  | .error e => (noDecl, e.1, e.2)
  | .ok l => match allV l with
    | .error e => (noDecl, lineV l e, 4)
    | .ok d => if checkV d = 0 then (d, 0, 0) else (noDecl, 0, checkV d)

/-! ### what is left -/
/-- What is left is an end of it; at least n tokens are taken. -/
def Goes {α : Type} (n : Nat) (q : List TokT) : PR α → Prop
  | .ok (_, q') => q' <:+ q ∧ q'.length + n ≤ q.length
  | .error e => e <:+ q

theorem Goes.le {α : Type} {n m : Nat} {q : List TokT} {x : PR α} (h : Goes n q x) (hm : m ≤ n) : Goes m q x := by
  cases x with
  | error e => exact h
  | ok p => exact ⟨h.1, by have := h.2; omega⟩

theorem Goes.and {α β : Type} {n m : Nat} {q : List TokT} {x : PR α} {f : α → List TokT → PR β} (h : Goes n q x) (hf : ∀ a q', q' <:+ q → Goes m q' (f a q')) : Goes (n + m) q (andP x f) := by
  cases x with
  | error e => exact h
  | ok p =>
    obtain ⟨a, q'⟩ := p
    have h1 : q' <:+ q ∧ q'.length + n ≤ q.length := h
    have h2 := hf a q' h1.1
    show Goes (n + m) q (f a q')
    cases hx : f a q' with
    | error e => rw [hx] at h2; exact h2.trans h1.1
    | ok p2 =>
      rw [hx] at h2
      have h3 : p2.2 <:+ q' ∧ p2.2.length + m ≤ q'.length := h2
      exact ⟨h3.1.trans h1.1, by have := h3.2; have := h1.2; omega⟩

theorem Goes.and0 {α β : Type} {n : Nat} {q : List TokT} {x : PR α} {f : α → List TokT → PR β} (h : Goes n q x) (hf : ∀ a q', q' <:+ q → Goes 0 q' (f a q')) : Goes n q (andP x f) := h.and hf

theorem goes_ok {α : Type} (a : α) (q : List TokT) : Goes 0 q (.ok (a, q) : PR α) := ⟨List.suffix_refl q, by simp⟩

theorem goes_need (k : Int) (x : List UInt8) (q : List TokT) : Goes 1 q (pNeed k x q) := by
  cases q with
  | nil => exact List.suffix_refl _
  | cons t r =>
    show Goes 1 (t :: r) (if isT k x t = true then .ok (t, r) else .error (t :: r))
    by_cases h : isT k x t = true
    · rw [if_pos h]
      exact ⟨List.suffix_cons t r, by simp⟩
    · rw [if_neg h]
      exact List.suffix_refl _

theorem hdT_cons {k : Int} {x : List UInt8} {q : List TokT} (h : hdT k x q = true) : ∃ t r, q = t :: r ∧ isT k x t = true := by
  cases q with
  | nil => cases h
  | cons t r => exact ⟨t, r, rfl, h⟩

theorem goes_tail {α : Type} {k : Int} {x : List UInt8} {q : List TokT} (h : hdT k x q = true) {n : Nat} {p : PR α} (hp : Goes n q.tail p) : Goes (n + 1) q p := by
  obtain ⟨t, r, rfl, _⟩ := hdT_cons h
  cases p with
  | error e => exact List.IsSuffix.trans hp (List.suffix_cons t r)
  | ok p =>
    have hp' : p.2 <:+ r ∧ p.2.length + n ≤ r.length := hp
    exact ⟨hp'.1.trans (List.suffix_cons t r), by have := hp'.2; simp only [List.length_cons]; omega⟩

theorem goes_arg (o : Nat) (q : List TokT) : Goes 0 q (pArg o q) := by
  unfold pArg
  split
  · exact goes_ok _ _
  · exact ((goes_need 2 [] q).le (by omega)).and0 fun a q' _ => goes_ok _ _

theorem goes_act (q : List TokT) : Goes 1 q (pAct q) := by
  cases q with
  | nil => exact List.suffix_refl _
  | cons t r =>
    show Goes 1 (t :: r) (if t.1 = 1 ∧ opNo (L t.2.1) ≠ 0 then pArg (opNo (L t.2.1)) r else .error (t :: r))
    by_cases hc : t.1 = 1 ∧ opNo (L t.2.1) ≠ 0
    · rw [if_pos hc]
      have := goes_arg (opNo (L t.2.1)) r
      cases h : pArg (opNo (L t.2.1)) r with
      | error e =>
        rw [h] at this
        have h2 : e <:+ r := this
        exact List.IsSuffix.trans h2 (List.suffix_cons t r)
      | ok p =>
        rw [h] at this
        have h2 : p.2 <:+ r ∧ p.2.length + 0 ≤ r.length := this
        exact ⟨h2.1.trans (List.suffix_cons t r), by have := h2.2; simp only [List.length_cons]; omega⟩
    · rw [if_neg hc]
      exact List.suffix_refl _

theorem goes_acts : ∀ (k : Nat) (acc : List (Int × Int)) (q : List TokT), Goes 0 q (pActs k acc q)
  | 0, acc, q => goes_ok _ _
  | k + 1, acc, q => by
    unfold pActs
    split
    · rename_i h
      exact (goes_tail (n := 0) h (((goes_act q.tail).le (by omega)).and0 fun a q' _ => goes_acts k _ q')).le (by omega)
    · exact goes_ok _ _

theorem goes_opt (k : Int) (x : List UInt8) (q : List TokT) : Goes 0 q (pOpt k x q) := by
  unfold pOpt
  split
  · rename_i h
    exact (goes_tail (n := 0) h (goes_ok true q.tail)).le (by omega)
  · exact goes_ok _ _

theorem goes_target (lo hi : Int) (q : List TokT) : Goes 1 q (pTarget lo hi q) :=
  (goes_need 4 [62] q).and0 fun _ q _ => ((goes_need 1 [] q).le (by omega)).and0 fun _ q _ => (goes_opt 1 (L sAgain) q).and0 fun _ q _ => (goes_acts q.length [] q).and0 fun _ q _ =>
    ((goes_need 4 [59] q).le (by omega)).and0 fun _ q _ => goes_ok _ _

theorem goes_hi (lo : Int) (q : List TokT) : Goes 0 q (pHi lo q) := by
  unfold pHi
  split
  · rename_i h
    exact (goes_tail (n := 0) h (((goes_need 4 [46] q.tail).le (by omega)).and0 fun _ q _ => ((goes_need 2 [] q).le (by omega)).and0 fun _ q _ => goes_ok _ _)).le (by omega)
  · exact goes_ok _ _

theorem goes_rule (q : List TokT) : Goes 1 q (pRule q) := (goes_need 2 [] q).and0 fun _ q _ => (goes_hi _ q).and0 fun _ q _ => (goes_target _ _ q).le (by omega)

theorem goes_rules : ∀ (k : Nat) (acc : List RuleT) (q : List TokT), Goes 0 q (pRules k acc q)
  | 0, acc, q => goes_ok _ _
  | k + 1, acc, q => by
    unfold pRules
    split
    · exact ((goes_rule q).le (by omega)).and0 fun a q' _ => goes_rules k _ q'
    · exact goes_ok _ _

theorem goes_else (q : List TokT) : Goes 0 q (pElse q) := by
  unfold pElse
  split
  · rename_i h
    exact (goes_tail (n := 0) h (((goes_target 0 0 q.tail).le (by omega)).and0 fun _ q _ => goes_ok _ _)).le (by omega)
  · exact goes_ok _ _

theorem goes_state (q : List TokT) : Goes 1 q (pState q) :=
  (goes_need 1 [] q).and0 fun _ q _ => ((goes_need 4 [123] q).le (by omega)).and0 fun _ q _ => (goes_rules q.length [] q).and0 fun _ q _ => (goes_else q).and0 fun _ q _ =>
    ((goes_need 4 [125] q).le (by omega)).and0 fun _ q _ => goes_ok _ _

theorem goes_states : ∀ (k : Nat) (acc : List StateT) (q : List TokT), Goes 0 q (pStates k acc q)
  | 0, acc, q => goes_ok _ _
  | k + 1, acc, q => by
    unfold pStates
    split
    · rename_i h
      exact (goes_tail (n := 0) h (((goes_state q.tail).le (by omega)).and0 fun a q' _ => goes_states k _ q')).le (by omega)
    · exact goes_ok _ _

theorem goes_either (a : List UInt8) (na : Int) (b : List UInt8) (nb : Int) (q : List TokT) : Goes 0 q (pEither a na b nb q) := by
  unfold pEither
  split
  · rename_i h
    exact (goes_tail (n := 0) h (goes_ok na q.tail)).le (by omega)
  · exact ((goes_need 1 b q).le (by omega)).and0 fun _ q _ => goes_ok _ _

theorem goes_decl (q : List TokT) : Goes 0 q (pDecl q) :=
  ((goes_need 1 (L sDecoder) q).le (by omega)).and0 fun _ q _ => ((goes_need 1 [] q).le (by omega)).and0 fun _ q _ => ((goes_need 1 (L sInput) q).le (by omega)).and0 fun _ q _ => (goes_either _ _ _ _ q).and0 fun _ q _ =>
    ((goes_need 1 (L sOutput) q).le (by omega)).and0 fun _ q _ => (goes_either _ _ _ _ q).and0 fun _ q _ => ((goes_need 4 [123] q).le (by omega)).and0 fun _ q _ => (goes_states q.length [] q).and0 fun _ q _ =>
      ((goes_need 4 [125] q).le (by omega)).and0 fun _ q _ => goes_ok _ _

/-! ### no list that is read is longer than the tokens -/
theorem andP_ok {α β : Type} {x : PR α} {f : α → List TokT → PR β} {p : β × List TokT} (h : andP x f = .ok p) : ∃ a q, x = .ok (a, q) ∧ f a q = .ok p := by
  cases x with
  | error e => cases h
  | ok y => exact ⟨y.1, y.2, rfl, h⟩

theorem acts_len : ∀ (k : Nat) (acc : List (Int × Int)) (q : List TokT) (p : List (Int × Int) × List TokT), pActs k acc q = .ok p → p.1.length ≤ acc.length + k
  | 0, acc, q, p, h => by cases h; simp
  | k + 1, acc, q, p, h => by
    unfold pActs at h
    split at h
    · obtain ⟨a, q', _, h2⟩ := andP_ok h
      have := acts_len k _ _ _ h2
      simp only [List.length_append, List.length_cons, List.length_nil] at this
      omega
    · cases h; simp

theorem target_len {lo hi : Int} {q : List TokT} {p : RuleT × List TokT} (h : pTarget lo hi q = .ok p) : p.1.2.2.2.2.length ≤ q.length := by
  unfold pTarget at h
  obtain ⟨a1, q1, h1, h⟩ := andP_ok h
  obtain ⟨a2, q2, h2, h⟩ := andP_ok h
  obtain ⟨a3, q3, h3, h⟩ := andP_ok h
  obtain ⟨a4, q4, h4, h⟩ := andP_ok h
  obtain ⟨a5, q5, h5, h⟩ := andP_ok h
  cases h
  have g1 := goes_need 4 [62] q
  have g2 := goes_need 1 [] q1
  have g3 := goes_opt 1 (L sAgain) q2
  rw [h1] at g1; rw [h2] at g2; rw [h3] at g3
  have := acts_len _ _ _ _ h4
  have e1 := g1.2; have e2 := g2.2; have e3 := g3.2
  simp only [List.length_nil] at this
  show a4.length ≤ _
  skip
  omega

theorem rule_len {q : List TokT} {p : RuleT × List TokT} (h : pRule q = .ok p) : p.1.2.2.2.2.length ≤ q.length := by
  unfold pRule at h
  obtain ⟨a1, q1, h1, h⟩ := andP_ok h
  obtain ⟨a2, q2, h2, h⟩ := andP_ok h
  have g1 := goes_need 2 [] q
  have g2 := goes_hi a1.2.2.1 q1
  rw [h1] at g1; rw [h2] at g2
  have e1 := g1.2; have e2 := g2.2
  have := target_len h
  skip
  omega

theorem rules_len : ∀ (k : Nat) (acc : List RuleT) (q : List TokT) (N : Nat) (p : List RuleT × List TokT), pRules k acc q = .ok p → q.length ≤ N → (∀ r ∈ acc, r.2.2.2.2.length ≤ N) → p.1.length ≤ acc.length + k ∧ ∀ r ∈ p.1, r.2.2.2.2.length ≤ N
  | 0, acc, q, N, p, h, hq, ha => by cases h; exact ⟨by simp, ha⟩
  | k + 1, acc, q, N, p, h, hq, ha => by
    unfold pRules at h
    split at h
    · obtain ⟨a, q', h1, h2⟩ := andP_ok h
      have g := goes_rule q
      rw [h1] at g
      have e := g.2
      have hl := rule_len h1
      have := rules_len k _ _ N _ h2 (by omega) (fun r hr => by
        rcases List.mem_append.1 hr with hr | hr
        · exact ha r hr
        · simp only [List.mem_singleton] at hr
          subst hr
          simp only at hl
          omega)
      simp only [List.length_append, List.length_cons, List.length_nil] at this
      exact ⟨by omega, this.2⟩
    · cases h; exact ⟨by simp, ha⟩

def SmallS (N : Nat) (s : StateT) : Prop := s.2.1.length ≤ N ∧ (∀ r ∈ s.2.1, r.2.2.2.2.length ≤ N) ∧ s.2.2.2.2.2.2.2.length ≤ N

theorem else_len {q : List TokT} {p : (Bool × RuleT) × List TokT} (h : pElse q = .ok p) : p.1.2.2.2.2.2.length ≤ q.length := by
  unfold pElse at h
  split at h
  · obtain ⟨a1, q1, h1, h⟩ := andP_ok h
    cases h
    have := target_len h1
    rw [List.length_tail] at this
    show a1.2.2.2.2.length ≤ _
    simp only at this
    omega
  · cases h; simp [noRule]

theorem state_len {q : List TokT} {p : StateT × List TokT} (h : pState q = .ok p) : SmallS q.length p.1 := by
  unfold pState at h
  obtain ⟨a1, q1, h1, h⟩ := andP_ok h
  obtain ⟨a2, q2, h2, h⟩ := andP_ok h
  obtain ⟨a3, q3, h3, h⟩ := andP_ok h
  obtain ⟨a4, q4, h4, h⟩ := andP_ok h
  obtain ⟨a5, q5, h5, h⟩ := andP_ok h
  cases h
  have g1 := goes_need 1 [] q
  have g2 := goes_need 4 [123] q1
  have g3 := goes_rules q2.length [] q2
  rw [h1] at g1; rw [h2] at g2; rw [h3] at g3
  have e1 := g1.2; have e2 := g2.2; have e3 := g3.2
  skip
  have r1 := rules_len _ _ _ q.length _ h3 (by omega) (by simp)
  have r2 := else_len h4
  simp only [List.length_nil] at r1 r2
  exact ⟨by show a3.length ≤ _; omega, r1.2, by show a4.2.2.2.2.2.length ≤ _; omega⟩

theorem states_len : ∀ (k : Nat) (acc : List StateT) (q : List TokT) (N : Nat) (p : List StateT × List TokT), pStates k acc q = .ok p → q.length ≤ N → (∀ s ∈ acc, SmallS N s) → p.1.length ≤ acc.length + k ∧ ∀ s ∈ p.1, SmallS N s
  | 0, acc, q, N, p, h, hq, ha => by cases h; exact ⟨by simp, ha⟩
  | k + 1, acc, q, N, p, h, hq, ha => by
    unfold pStates at h
    split at h
    · obtain ⟨a, q', h1, h2⟩ := andP_ok h
      have g := goes_state q.tail
      rw [h1] at g
      have e := g.2
      have hl : SmallS q.tail.length a := state_len h1
      rw [List.length_tail] at e hl
      have := states_len k _ _ N _ h2 (by omega) (fun r hr => by
        rcases List.mem_append.1 hr with hr | hr
        · exact ha r hr
        · simp only [List.mem_singleton] at hr
          subst hr
          exact ⟨by have := hl.1; omega, fun r hr => by have := hl.2.1 r hr; omega, by have := hl.2.2; omega⟩)
      simp only [List.length_append, List.length_cons, List.length_nil] at this
      exact ⟨by omega, this.2⟩
    · cases h; exact ⟨by simp, ha⟩

theorem decl_len {q : List TokT} {p : DeclT × List TokT} (h : pDecl q = .ok p) (hq : q.length ≤ 1048576) : okDecl p.1 := by
  unfold pDecl at h
  obtain ⟨a1, q1, h1, h⟩ := andP_ok h
  obtain ⟨a2, q2, h2, h⟩ := andP_ok h
  obtain ⟨a3, q3, h3, h⟩ := andP_ok h
  obtain ⟨a4, q4, h4, h⟩ := andP_ok h
  obtain ⟨a5, q5, h5, h⟩ := andP_ok h
  obtain ⟨a6, q6, h6, h⟩ := andP_ok h
  obtain ⟨a7, q7, h7, h⟩ := andP_ok h
  obtain ⟨a8, q8, h8, h⟩ := andP_ok h
  obtain ⟨a9, q9, h9, h⟩ := andP_ok h
  cases h
  have g1 := goes_need 1 (L sDecoder) q
  have g2 := goes_need 1 [] q1
  have g3 := goes_need 1 (L sInput) q2
  have g4 := goes_either (L sBit) 2 (L sByte) 3 q3
  have g5 := goes_need 1 (L sOutput) q4
  have g6 := goes_either (L sFrame) 5 (L sPacket) 6 q5
  have g7 := goes_need 4 [123] q6
  rw [h1] at g1; rw [h2] at g2; rw [h3] at g3; rw [h4] at g4; rw [h5] at g5; rw [h6] at g6; rw [h7] at g7
  have e1 := g1.2; have e2 := g2.2; have e3 := g3.2; have e4 := g4.2; have e5 := g5.2; have e6 := g6.2; have e7 := g7.2
  skip
  have := states_len _ _ _ 1048576 _ h8 (by omega) (by simp)
  simp only [List.length_nil] at this
  exact ⟨by show a8.length ≤ _; omega, fun s hs => ⟨(this.2 s hs).1, (this.2 s hs).2.1, (this.2 s hs).2.2⟩⟩

end Go.AM
end

section
/-
AM: the tokens of a correct declaration are read as this declaration; what kinds of tokens a text has. No condition.
-/
namespace Go.AM
open Go

/-! ### tokens of a text -/
def tokGood (t : TokT) : Prop := 1 ≤ t.2.2.2 ∧ (t.1 = 4 → markL (L t.2.1) = true) ∧ (t.1 = 1 → nameB (L t.2.1) = true)

theorem takeV_good {l : List UInt8} {t : Int × List UInt8 × Int} {n : Nat} (h : takeV l = .ok (t, n)) : (t.1 = 4 → markL t.2.1 = true) ∧ (t.1 = 1 → nameB t.2.1 = true) := by
  unfold takeV at h
  split at h
  · cases h
  · rename_i c r
    split at h
    · simp only at h
      split at h
      · rename_i hn
        cases h
        exact ⟨fun q => by simp at q, fun _ => hn⟩
      · cases h
    · split at h
      · simp only at h
        split at h
        · cases h
          exact ⟨fun q => by simp at q, fun q => by simp at q⟩
        · cases h
      · split at h
        · split at h
          · cases h
            exact ⟨fun q => by simp at q, fun q => by simp at q⟩
          · cases h
        · split at h
          · rename_i hm
            cases h
            exact ⟨fun _ => hm, fun q => by simp at q⟩
          · cases h

theorem tokF_good : ∀ (k : Nat) (line : Int) (l : List UInt8) (ts : List TokT), 1 ≤ line → tokF k line l = .ok ts → ∀ t ∈ ts, tokGood t := by
  intro k
  induction k with
  | zero => intro line l ts _ h; cases l <;> cases h <;> simp
  | succ k ih =>
    intro line l ts hl h
    cases l with
    | nil => cases h; simp
    | cons c r =>
      rw [tokF] at h
      split at h
      · exact ih _ _ _ (by omega) h
      · split at h
        · exact ih _ _ _ hl h
        · split at h
          · exact ih _ _ _ hl h
          · split at h
            · cases h
            · rename_i t n hv
              split at h
              · rename_i ts' ht
                cases h
                intro x hx
                rcases List.mem_cons.1 hx with rfl | hx
                · have := takeV_good hv
                  exact ⟨hl, fun q => by rw [L_strB]; exact this.1 q, fun q => by rw [L_strB]; exact this.2 q⟩
                · exact ih _ _ _ hl ht x hx
              · cases h

theorem tokV_good {l : List UInt8} {ts : List TokT} (h : tokV l = .ok ts) : ∀ t ∈ ts, tokGood t := by
  unfold tokV at h
  split at h
  · cases h
  · exact tokF_good _ _ _ _ (by omega) h

theorem takeV_err {l : List UInt8} {e : Int} (h : takeV l = .error e) : e ≠ 0 := by
  unfold takeV at h
  split at h
  · cases h; decide
  · split at h
    · simp only at h
      split at h
      · cases h
      · cases h; decide
    · split at h
      · simp only at h
        split at h
        · cases h
        · rename_i hn
          cases h
          exact hn
      · split at h
        · split at h
          · cases h
          · cases h; decide
        · split at h
          · cases h
          · cases h; decide

theorem tokF_err : ∀ (k : Nat) (line : Int) (l : List UInt8) (e : Int × Int), tokF k line l = .error e → e.2 ≠ 0 := by
  intro k
  induction k with
  | zero => intro line l e h; cases l <;> cases h
  | succ k ih =>
    intro line l e h
    cases l with
    | nil => cases h
    | cons c r =>
      rw [tokF] at h
      split at h
      · exact ih _ _ _ h
      · split at h
        · exact ih _ _ _ h
        · split at h
          · exact ih _ _ _ h
          · split at h
            · rename_i e' hv
              cases h
              exact takeV_err hv
            · rename_i t n hv
              split at h
              · cases h
              · rename_i e' ht
                cases h
                exact ih _ _ _ ht

theorem tokV_err {l : List UInt8} {e : Int × Int} (h : tokV l = .error e) : e.2 ≠ 0 := by
  unfold tokV at h
  split at h
  · cases h; decide
  · exact tokF_err _ _ _ _ h

/-! ### the way back -/
theorem of_w (b : ByteArray) : tokOf (wTok b) = (1, b, 0, 1) := by
  show (1, strB (L b), 0, 1) = _
  rw [show strB (L b) = b from L_inj (L_strB _)]
theorem of_m (c : UInt8) : tokOf (mTok c) = (4, strB [c], 0, 1) := by
  show (4, strB (L (strB [c])), 0, 1) = _
  rw [L_strB]
theorem of_n (n : Int) : tokOf (nTok n) = (2, strB (Lib.itoa n), n, 1) := rfl

theorem hd_w (x : List UInt8) (b : ByteArray) (q : List TokT) : hdT 1 x (tokOf (wTok b) :: q) = (x.isEmpty || L b == x) := by rw [of_w]; rfl
theorem hd_w4 (x : List UInt8) (b : ByteArray) (q : List TokT) : hdT 4 x (tokOf (wTok b) :: q) = false := by rw [of_w]; rfl
theorem hd_w2 (x : List UInt8) (b : ByteArray) (q : List TokT) : hdT 2 x (tokOf (wTok b) :: q) = false := by rw [of_w]; rfl
theorem hd_m (x : List UInt8) (c : UInt8) (q : List TokT) : hdT 4 x (tokOf (mTok c) :: q) = (x.isEmpty || [c] == x) := by rw [of_m]; show (true && (_ || L (strB [c]) == x)) = _; rw [L_strB]; rfl
theorem hd_m1 (x : List UInt8) (c : UInt8) (q : List TokT) : hdT 1 x (tokOf (mTok c) :: q) = false := by rw [of_m]; rfl
theorem hd_m2 (x : List UInt8) (c : UInt8) (q : List TokT) : hdT 2 x (tokOf (mTok c) :: q) = false := by rw [of_m]; rfl
theorem hd_n (n : Int) (q : List TokT) : hdT 2 [] (tokOf (nTok n) :: q) = true := rfl

theorem need_of {k : Int} {x : List UInt8} {t : TokT} {q : List TokT} (h : hdT k x (t :: q) = true) : pNeed k x (t :: q) = .ok (t, q) := if_pos h
theorem need_w {b : ByteArray} {q : List TokT} : pNeed 1 (L b) (tokOf (wTok b) :: q) = .ok (tokOf (wTok b), q) := need_of (by rw [hd_w]; simp)
theorem need_name {b : ByteArray} {q : List TokT} : pNeed 1 [] (tokOf (wTok b) :: q) = .ok (tokOf (wTok b), q) := need_of (by rw [hd_w]; rfl)
theorem need_m {c : UInt8} {q : List TokT} : pNeed 4 [c] (tokOf (mTok c) :: q) = .ok (tokOf (mTok c), q) := need_of (by rw [hd_m]; simp)
theorem need_n {n : Int} {q : List TokT} : pNeed 2 [] (tokOf (nTok n) :: q) = .ok (tokOf (nTok n), q) := need_of (hd_n n q)

theorem need_cons (k : Int) (x : List UInt8) (t : TokT) (r : List TokT) : pNeed k x (t :: r) = if isT k x t = true then .ok (t, r) else .error (t :: r) := rfl
theorem acts_succ (k : Nat) (acc : List (Int × Int)) (q : List TokT) : pActs (k + 1) acc q = if hdT 4 (sepB acc) q = true then andP (pAct q.tail) fun a q => pActs k (acc ++ [a]) q else .ok (acc, q) := rfl

theorem andP_ok' {α β : Type} {a : α} {q : List TokT} {f : α → List TokT → PR β} : andP (.ok (a, q)) f = f a q := rfl

theorem opNo_op : ∀ n : Int, 1 ≤ n ∧ n ≤ 6 → opNo (L (opW n)) = n.toNat := by
  intro n h
  have : n = 1 ∨ n = 2 ∨ n = 3 ∨ n = 4 ∨ n = 5 ∨ n = 6 := by omega
  rcases this with rfl | rfl | rfl | rfl | rfl | rfl <;> decide

theorem rt_act {a : Int × Int} (h : OkAct a) (q : List TokT) : pAct ((wTok (opW a.1) :: (if a.1 > 2 then [nTok a.2] else [])).map tokOf ++ q) = .ok (a, q) := by
  have ho := opNo_op a.1 ⟨h.1, h.2.1⟩
  rw [List.map_cons, List.cons_append, of_w]
  show (if (1 : Int) = 1 ∧ opNo (L (opW a.1)) ≠ 0 then pArg (opNo (L (opW a.1))) _ else _) = _
  have h1 := h.1
  rw [ho, if_pos ⟨rfl, by omega⟩]
  unfold pArg
  have he : ((a.1.toNat : Nat) : Int) = a.1 := by omega
  by_cases h2 : a.1 > 2
  · rw [if_neg (by omega), if_pos h2, List.map_cons, List.map_nil, List.cons_append, List.nil_append, need_n, andP_ok', he]
    rfl
  · rw [if_pos (by omega), if_neg h2, he, List.map_nil, List.nil_append]
    have : a.2 = 0 := h.2.2.2.2 (by omega)
    rw [← this]

theorem rt_acts : ∀ (l : List (Int × Int)) (acc : List (Int × Int)) (k : Nat) (q : List TokT), l.length ≤ k → (∀ a ∈ l, OkAct a) → (∀ acc, hdT 4 (sepB acc) q = false) →
    pActs k acc ((actsT acc.length l).map tokOf ++ q) = .ok (acc ++ l, q)
  | [], acc, k, q, _, _, hq => by
    rw [actsT, List.map_nil, List.nil_append, List.append_nil]
    cases k with
    | zero => rfl
    | succ k => unfold pActs; rw [if_neg (by rw [hq]; simp)]
  | a :: l, acc, k, q, hk, h, hq => by
    obtain ⟨k, rfl⟩ : ∃ j, k = j + 1 := ⟨k - 1, by simp only [List.length_cons] at hk; omega⟩
    simp only [List.length_cons] at hk
    have ih := rt_acts l (acc ++ [a]) k q (by omega) (fun b hb => h b (by simp [hb])) hq
    rw [List.length_append, List.length_cons, List.length_nil] at ih
    rw [actsT, actT, List.map_append, List.append_assoc, List.map_cons, List.cons_append]
    unfold pActs
    have hs : sepB acc = [if acc.length = 0 then 58 else 44] := by
      unfold sepB
      cases acc <;> simp
    rw [if_pos (by rw [hd_m, hs]; simp), List.tail_cons, rt_act (h a (by simp)), andP_ok', ih]
    simp

theorem rt_opt_no {k : Int} {x : List UInt8} {q : List TokT} (h : hdT k x q = false) : pOpt k x q = .ok (false, q) := by unfold pOpt; rw [if_neg (by rw [h]; simp)]

theorem rt_target {r : RuleT} (h : OkTarget r) (q : List TokT) : pTarget r.1 r.2.1 ((targetT r).map tokOf ++ q) = .ok (r, q) := by
  obtain ⟨lo, hi, nx, ag, ac⟩ := r
  have key : ∀ k, ac.length ≤ k → pActs k [] ((actsT 0 ac ++ [mTok 59]).map tokOf ++ q) = .ok (ac, tokOf (mTok 59) :: q) := fun k hk => by
    rw [List.map_append, List.append_assoc]
    exact rt_acts ac [] k _ hk h.acts (fun acc => by rw [List.map_cons, List.cons_append, hd_m]; unfold sepB; split <;> rfl)
  have hlen : ac.length ≤ ((actsT 0 ac ++ [mTok 59]).map tokOf ++ q).length := by
    have : ∀ (l : List (Int × Int)) (i : Nat), l.length ≤ (actsT i l).length := by
      intro l
      induction l with
      | nil => intro i; simp
      | cons a l ih => intro i; have := ih (i + 1); simp only [actsT, actT, List.length_append, List.length_cons] at this ⊢; omega
    have := this ac 0
    simp only [List.length_append, List.length_map]
    omega
  have rest : ∀ b, (pActs ((actsT 0 ac ++ [mTok 59]).map tokOf ++ q).length [] ((actsT 0 ac ++ [mTok 59]).map tokOf ++ q) : PR (List (Int × Int))) = .ok (ac, tokOf (mTok 59) :: q) → andP (pActs ((actsT 0 ac ++ [mTok 59]).map tokOf ++ q).length [] ((actsT 0 ac ++ [mTok 59]).map tokOf ++ q)) (fun acts q => andP (pNeed 4 [59] q) fun _ q => (.ok ((lo, hi, nx, b, acts), q) : PR RuleT)) = .ok ((lo, hi, nx, b, ac), q) := fun b hb => by
    rw [hb, andP_ok', need_m]
    rfl
  unfold pTarget targetT
  rw [List.map_cons, List.map_cons, List.cons_append, List.cons_append, need_m, andP_ok', need_name, andP_ok']
  cases ag with
  | true =>
    have e : pOpt 1 (L sAgain) (((if (lo, hi, nx, true, ac).2.2.2.1 = true then [wTok sAgain] else []) ++ (actsT 0 (lo, hi, nx, true, ac).2.2.2.2 ++ [mTok 59])).map tokOf ++ q) = .ok (true, (actsT 0 ac ++ [mTok 59]).map tokOf ++ q) := by
      show pOpt 1 (L sAgain) (tokOf (wTok sAgain) :: ((actsT 0 ac ++ [mTok 59]).map tokOf ++ q)) = _
      unfold pOpt
      rw [if_pos (by rw [hd_w]; simp)]
      rfl
    rw [e, andP_ok']
    have hw : (tokOf (wTok nx)).2.1 = nx := by rw [of_w]
    rw [hw]
    exact rest true (key _ hlen)
  | false =>
    have e : pOpt 1 (L sAgain) (((if (lo, hi, nx, false, ac).2.2.2.1 = true then [wTok sAgain] else []) ++ (actsT 0 (lo, hi, nx, false, ac).2.2.2.2 ++ [mTok 59])).map tokOf ++ q) = .ok (false, (actsT 0 ac ++ [mTok 59]).map tokOf ++ q) := by
      show pOpt 1 (L sAgain) ((actsT 0 ac ++ [mTok 59]).map tokOf ++ q) = _
      refine rt_opt_no ?_
      cases ac with
      | nil => exact hd_m1 _ _ _
      | cons a l => exact hd_m1 _ _ _
    rw [e, andP_ok']
    have hw : (tokOf (wTok nx)).2.1 = nx := by rw [of_w]
    rw [hw]
    exact rest false (key _ hlen)

theorem target_head (r : RuleT) (q : List TokT) : ∃ q', (targetT r).map tokOf ++ q = tokOf (mTok 62) :: q' := ⟨_, rfl⟩

theorem rt_rule {r : RuleT} (h : OkTarget r) (q : List TokT) : pRule ((ruleT r).map tokOf ++ q) = .ok (r, q) := by
  unfold pRule ruleT
  rw [List.map_cons, List.cons_append, need_n, andP_ok', List.map_append, List.append_assoc]
  have hv : (tokOf (nTok r.1)).2.2.1 = r.1 := rfl
  rw [hv]
  by_cases he : r.2.1 = r.1
  · rw [if_pos he, List.map_nil, List.nil_append]
    have e : pHi r.1 ((targetT r).map tokOf ++ q) = .ok (r.1, (targetT r).map tokOf ++ q) := by
      obtain ⟨q', hq⟩ := target_head r q
      unfold pHi
      rw [hq, if_neg (by rw [hd_m]; decide)]
    have ht := rt_target h q
    rw [e, andP_ok']
    rw [he] at ht
    exact ht
  · rw [if_neg he]
    simp only [List.map_cons, List.map_nil, List.cons_append, List.nil_append]
    have e : pHi r.1 (tokOf (mTok 46) :: tokOf (mTok 46) :: tokOf (nTok r.2.1) :: ((targetT r).map tokOf ++ q)) = .ok (r.2.1, (targetT r).map tokOf ++ q) := by
      unfold pHi
      rw [if_pos (by rw [hd_m]; rfl), List.tail_cons, need_m, andP_ok', need_n, andP_ok']
      rfl
    rw [e, andP_ok']
    exact rt_target h q

theorem rt_rules : ∀ (l acc : List RuleT) (k : Nat) (q : List TokT), l.length ≤ k → (∀ r ∈ l, OkTarget r) → hdT 2 [] q = false → pRules k acc ((rulesT l).map tokOf ++ q) = .ok (acc ++ l, q)
  | [], acc, k, q, _, _, hq => by
    rw [rulesT, List.map_nil, List.nil_append, List.append_nil]
    cases k with
    | zero => rfl
    | succ k => unfold pRules; rw [if_neg (by rw [hq]; simp)]
  | r :: l, acc, k, q, hk, h, hq => by
    obtain ⟨k, rfl⟩ : ∃ j, k = j + 1 := ⟨k - 1, by simp only [List.length_cons] at hk; omega⟩
    simp only [List.length_cons] at hk
    have ih := rt_rules l (acc ++ [r]) k q (by omega) (fun b hb => h b (by simp [hb])) hq
    rw [rulesT, List.map_append, List.append_assoc]
    unfold pRules
    rw [if_pos (by exact hd_n _ _), rt_rule (h r (by simp)), andP_ok', ih]
    simp

theorem rt_else {s : StateT} (h : OkState s) {q : List TokT} (hq : hdT 4 [42] q = false) : pElse ((elseT s).map tokOf ++ q) = .ok ((s.2.2.1, s.2.2.2), q) := by
  unfold pElse elseT
  by_cases he : s.2.2.1 = true
  · rw [if_pos he, List.map_cons, List.cons_append, if_pos (by rw [hd_m]; rfl), List.tail_cons]
    have ht := rt_target (h.some he) q
    rw [h.els.1, h.els.2] at ht
    rw [ht, andP_ok', he]
  · have hf : s.2.2.1 = false := by simpa using he
    rw [if_neg he, List.map_nil, List.nil_append, if_neg (by rw [hq]; simp), h.none hf, hf]

theorem len_rules : ∀ l : List RuleT, l.length ≤ (rulesT l).length
  | [] => by simp
  | r :: l => by
    have := len_rules l
    simp only [rulesT, ruleT, List.length_append, List.length_cons]
    omega

theorem rt_state {s : StateT} (h : OkState s) (q : List TokT) : pState ((stateT s).tail.map tokOf ++ q) = .ok (s, q) := by
  unfold pState stateT
  rw [List.tail_cons, List.map_cons, List.map_cons, List.cons_append, List.cons_append, need_name, andP_ok', need_m, andP_ok', List.map_append, List.append_assoc]
  have hE : ∀ q', hdT 2 [] ((elseT s ++ [mTok 125]).map tokOf ++ q') = false := fun q' => by
    unfold elseT
    split <;> exact hd_m2 _ _ _
  rw [rt_rules s.2.1 [] _ _ (by have := len_rules s.2.1; simp only [List.length_append, List.length_map]; omega) (fun r hr => (h.rules r hr).2) (hE q), andP_ok', List.map_append, List.append_assoc,
    rt_else h (by exact (hd_m [42] 125 q).trans (by decide)), andP_ok']
  show andP (pNeed 4 [125] (tokOf (mTok 125) :: q)) _ = _
  rw [need_m, andP_ok', of_w]
  rfl

theorem len_states : ∀ l : List StateT, l.length ≤ (statesT l).length
  | [] => by simp
  | s :: l => by
    have := len_states l
    simp only [statesT, stateT, List.length_append, List.length_cons]
    omega

theorem rt_states : ∀ (l acc : List StateT) (k : Nat) (q : List TokT), l.length ≤ k → (∀ s ∈ l, OkState s) → hdT 1 (L sState) q = false → pStates k acc ((statesT l).map tokOf ++ q) = .ok (acc ++ l, q)
  | [], acc, k, q, _, _, hq => by
    rw [statesT, List.map_nil, List.nil_append, List.append_nil]
    cases k with
    | zero => rfl
    | succ k => unfold pStates; rw [if_neg (by rw [hq]; simp)]
  | s :: l, acc, k, q, hk, h, hq => by
    obtain ⟨k, rfl⟩ : ∃ j, k = j + 1 := ⟨k - 1, by simp only [List.length_cons] at hk; omega⟩
    simp only [List.length_cons] at hk
    have ih := rt_states l (acc ++ [s]) k q (by omega) (fun b hb => h b (by simp [hb])) hq
    have e : stateT s = wTok sState :: (stateT s).tail := rfl
    rw [statesT, List.map_append, List.append_assoc, e, List.map_cons, List.cons_append]
    unfold pStates
    rw [if_pos (by rw [hd_w]; simp), List.tail_cons, rt_state (h s (by simp)), andP_ok', ih]
    simp

theorem rt_decl {d : DeclT} (h : OkDecl d) : pDecl ((declT d).map tokOf) = .ok (d, []) := by
  unfold pDecl declT headT
  simp only [List.map_append, List.map_cons, List.map_nil, List.cons_append, List.nil_append]
  rw [need_w, andP_ok', need_name, andP_ok', need_w, andP_ok']
  have e1 : ∀ q, pEither (L sBit) 2 (L sByte) 3 (tokOf (wTok (if d.2.1 = 2 then sBit else sByte)) :: q) = .ok (d.2.1, q) := fun q => by
    unfold pEither
    by_cases hi : d.2.1 = 2
    · rw [if_pos hi, if_pos (by rw [hd_w]; simp), hi]
      rfl
    · have h3 : d.2.1 = 3 := by have := h.input; omega
      rw [if_neg hi, if_neg (by rw [hd_w]; decide), need_w, andP_ok', h3]
  have e2 : ∀ q, pEither (L sFrame) 5 (L sPacket) 6 (tokOf (wTok (if d.2.2.1 = 5 then sFrame else sPacket)) :: q) = .ok (d.2.2.1, q) := fun q => by
    unfold pEither
    by_cases hi : d.2.2.1 = 5
    · rw [if_pos hi, if_pos (by rw [hd_w]; simp), hi]
      rfl
    · have h3 : d.2.2.1 = 6 := by have := h.output; omega
      rw [if_neg hi, if_neg (by rw [hd_w]; decide), need_w, andP_ok', h3]
  rw [e1, andP_ok', need_w, andP_ok', e2, andP_ok', need_m, andP_ok',
    rt_states d.2.2.2 [] _ _ (by have := len_states d.2.2.2; simp only [List.length_append, List.length_map]; omega) h.states (by rw [hd_m1]), andP_ok', need_m, andP_ok', of_w]
  rfl

theorem rt_all {d : DeclT} (h : OkDecl d) : allV ((declT d).map tokOf) = .ok d := by
  unfold allV
  rw [rt_decl h]

theorem parse_print {d : DeclT} (h : checkV d = 0) : (printV d).2 = 0 ∧ parseV (printV d).1 = (d, 0, 0) := by
  have ho := ok_decl h
  obtain ⟨h1, h2, h3⟩ := decl_text ho
  have e : printV d = (joinB true (declT d), 0) := by unfold printV; rw [if_pos h, h1]
  rw [e]
  refine ⟨rfl, ?_⟩
  unfold parseV
  simp only
  rw [tokV_join h2 (by omega)]
  simp only
  rw [rt_all ho]
  simp only
  rw [if_pos h]

theorem print_no {d : DeclT} (h : checkV d ≠ 0) : printV d = ([], checkV d) := by unfold printV; rw [if_neg h]
theorem print_err (d : DeclT) : (printV d).2 = checkV d := by
  by_cases h : checkV d = 0
  · rw [h]; exact (parse_print h).1
  · rw [print_no h]

end Go.AM
end

section
/-
AM: the reader of declarations by index: what a place of the tokens holds; which action is read. No condition.
-/
namespace Go.AM
open Go

def isO (k : Int) (x : List UInt8) : Option TokT → Bool
  | some t => isT k x t
  | none => false

theorem hd_isO (k : Int) (x : List UInt8) (q : List TokT) : hdT k x q = isO k x q[0]? := by cases q <;> rfl

theorem need_ok_inv {k : Int} {x : List UInt8} {q r : List TokT} {t : TokT} (h : pNeed k x q = .ok (t, r)) : q = t :: r ∧ hdT k x q = true := by
  cases q with
  | nil => cases h
  | cons t' r' =>
    rw [need_cons] at h
    split at h
    · rename_i hy
      cases h
      exact ⟨rfl, hy⟩
    · cases h

theorem need_err_inv {k : Int} {x : List UInt8} {q e : List TokT} (h : pNeed k x q = .error e) : e = q ∧ hdT k x q = false := by
  cases q with
  | nil => cases h; exact ⟨rfl, rfl⟩
  | cons t r =>
    rw [need_cons] at h
    split at h
    · cases h
    · rename_i hy
      cases h
      exact ⟨rfl, by simpa [hdT] using hy⟩

theorem need_yes {k : Int} {x : List UInt8} {q : List TokT} (h : hdT k x q = true) : ∃ t r, q = t :: r ∧ pNeed k x q = .ok (t, r) := by
  obtain ⟨t, r, rfl, _⟩ := hdT_cons h
  exact ⟨t, r, rfl, need_of h⟩

theorem need_no {k : Int} {x : List UInt8} {q : List TokT} (h : hdT k x q = false) : pNeed k x q = .error q := by
  cases q with
  | nil => rfl
  | cons t r => rw [need_cons, if_neg (by rw [show isT k x t = false from h]; simp)]

theorem opW_ne {n : Nat} (h1 : 1 ≤ n) (h6 : n ≤ 6) : (L (opW n)).isEmpty = false := by
  have : n = 1 ∨ n = 2 ∨ n = 3 ∨ n = 4 ∨ n = 5 ∨ n = 6 := by omega
  rcases this with rfl | rfl | rfl | rfl | rfl | rfl <;> rfl

/-- Which action the first token begins, if any. -/
theorem act_cases (q : List TokT) : (∃ n : Nat, 1 ≤ n ∧ n ≤ 6 ∧ (∀ m : Nat, 1 ≤ m → m < n → hdT 1 (L (opW m)) q = false) ∧ hdT 1 (L (opW n)) q = true ∧ pAct q = pArg n q.tail) ∨
    ((∀ m : Nat, 1 ≤ m → m ≤ 6 → hdT 1 (L (opW m)) q = false) ∧ pAct q = .error q) := by
  cases q with
  | nil => exact .inr ⟨fun _ _ _ => rfl, rfl⟩
  | cons t r =>
    have hp : pAct (t :: r) = if t.1 = 1 ∧ opNo (L t.2.1) ≠ 0 then pArg (opNo (L t.2.1)) r else .error (t :: r) := rfl
    by_cases ht : t.1 = 1
    · have hv : ∀ n : Nat, 1 ≤ n → n ≤ 6 → hdT 1 (L (opW n)) (t :: r) = (L t.2.1 == L (opW n)) := fun n h1 h6 => by
        show (decide (t.1 = 1) && (_ || _)) = _
        rw [decide_eq_true ht, opW_ne h1 h6]
        rfl
      have inj : ∀ m n : Nat, 1 ≤ m → m ≤ 6 → 1 ≤ n → n ≤ 6 → L (opW m) = L (opW n) → m = n := fun m n a b c d e => by
        have h1 := opNo_op m ⟨by omega, by omega⟩
        have h2 := opNo_op n ⟨by omega, by omega⟩
        rw [e, h2] at h1
        omega
      have yes : ∀ n : Nat, 1 ≤ n → n ≤ 6 → L t.2.1 = L (opW n) → (∃ n : Nat, 1 ≤ n ∧ n ≤ 6 ∧ (∀ m : Nat, 1 ≤ m → m < n → hdT 1 (L (opW m)) (t :: r) = false) ∧ hdT 1 (L (opW n)) (t :: r) = true ∧ pAct (t :: r) = pArg n (t :: r).tail) := fun n h1 h6 he => by
        refine ⟨n, h1, h6, fun m m1 m2 => ?_, ?_, ?_⟩
        · rw [hv m m1 (by omega), he]
          have : ¬ L (opW n) = L (opW m) := fun e => by have := inj n m h1 h6 m1 (by omega) e; omega
          simpa using this
        · rw [hv n h1 h6, he]; simp
        · have ho : opNo (L t.2.1) = n := by rw [he]; exact opNo_op n ⟨by omega, by omega⟩
          rw [hp, ho, if_pos ⟨ht, by omega⟩]
          rfl
      by_cases e1 : L t.2.1 = L (opW (1 : Nat))
      · exact .inl (yes 1 (by omega) (by omega) e1)
      by_cases e2 : L t.2.1 = L (opW (2 : Nat))
      · exact .inl (yes 2 (by omega) (by omega) e2)
      by_cases e3 : L t.2.1 = L (opW (3 : Nat))
      · exact .inl (yes 3 (by omega) (by omega) e3)
      by_cases e4 : L t.2.1 = L (opW (4 : Nat))
      · exact .inl (yes 4 (by omega) (by omega) e4)
      by_cases e5 : L t.2.1 = L (opW (5 : Nat))
      · exact .inl (yes 5 (by omega) (by omega) e5)
      by_cases e6 : L t.2.1 = L (opW (6 : Nat))
      · exact .inl (yes 6 (by omega) (by omega) e6)
      refine .inr ⟨fun m h1 h6 => ?_, ?_⟩
      · rw [hv m h1 h6]
        have : m = 1 ∨ m = 2 ∨ m = 3 ∨ m = 4 ∨ m = 5 ∨ m = 6 := by omega
        rcases this with rfl | rfl | rfl | rfl | rfl | rfl
        · simpa using e1
        · simpa using e2
        · simpa using e3
        · simpa using e4
        · simpa using e5
        · simpa using e6
      · rw [hp, if_neg]
        unfold opNo
        rw [if_neg (show ¬ L t.2.1 = L (opW 1) from e1), if_neg (show ¬ L t.2.1 = L (opW 2) from e2), if_neg (show ¬ L t.2.1 = L (opW 3) from e3), if_neg (show ¬ L t.2.1 = L (opW 4) from e4), if_neg (show ¬ L t.2.1 = L (opW 5) from e5), if_neg (show ¬ L t.2.1 = L (opW 6) from e6)]
        simp
    · refine .inr ⟨fun m _ _ => ?_, ?_⟩
      · show (decide (t.1 = 1) && _) = _
        rw [decide_eq_false ht]
        rfl
      · rw [hp, if_neg (fun q => ht q.1)]

end Go.AM
end

section
/-
AM: triggers in plain Lean: their errors, their tokens, their text. No condition.
-/
namespace Go.AM
open Go

abbrev CondT : Type := ByteArray × Int × Int × Int × Int
abbrev StepT : Type := CondT × Int × Int × Bool × CondT
abbrev TrigT : Type := ByteArray × List StepT

def noCond : CondT := (strB [], 0, 0, 0, 0)
def noTrig : TrigT := (strB [], [])

def condOk (c : CondT) : Bool := decide (0 ≤ c.2.1 ∧ c.2.1 ≤ 8 ∧ 0 ≤ c.2.2.2.1 ∧ c.2.2.2.1 ≤ 5) && decide ((c.2.2.2.1 = 0 ∧ c.2.2.1 = 0 ∧ c.2.2.2.2 = 0) ∨ (c.2.2.2.1 ≠ 0 ∧ 1 ≤ c.2.2.1 ∧ c.2.2.1 ≤ 6))
def condE (c : CondT) : Int := if nameB (L c.1) = true then (if condOk c = true then (if -9007199254740992 ≤ c.2.2.2.2 ∧ c.2.2.2.2 ≤ 9007199254740992 then 0 else 2) else 1) else 4
def stepE (s : StepT) : Int :=
  if 1 ≤ s.2.1 ∧ 0 ≤ s.2.2.1 ∧ s.2.2.1 ≤ 1099511627776 then
    if condE s.1 = 0 then (if s.2.2.2.1 = true then condE s.2.2.2.2 else if s.2.2.2.2 = noCond then 0 else 1) else condE s.1
  else 1
def timesS : List StepT → Int
  | [] => 0
  | s :: r => s.2.1 + timesS r
def wrongE (t : TrigT) : Int :=
  if nameB (L t.1) = true then
    if t.2 = [] then 1 else if 32 < t.2.length then 6 else if errL (t.2.map stepE) = 0 then (if 32 < timesS t.2 then 6 else 0) else errL (t.2.map stepE)
  else 4

def kindTab : List ByteArray := [strB [97, 110, 121], strB [108, 101, 118, 101, 108], strB [98, 105, 116], strB [98, 121, 116, 101], strB [109, 97, 114, 107], strB [102, 114, 97, 109, 101], strB [112, 97, 99, 107, 101, 116], strB [99, 111, 109, 109, 97, 110, 100], strB [112, 97, 105, 114]]
def fieldTab : List ByteArray := [strB [118, 97, 108, 117, 101], strB [97, 117, 120], strB [102, 97, 117, 108, 116], strB [108, 101, 110, 103, 116, 104], strB [116, 105, 99, 107, 115], strB [102, 105, 114, 115, 116]]
def opM (n : Int) : List UInt8 := if n = 1 then [61] else if n = 2 then [33, 61] else if n = 3 then [60] else if n = 4 then [62] else [38]
def sTrigger : ByteArray := strB [116, 114, 105, 103, 103, 101, 114]
def sX : ByteArray := strB [120]
def sWithin : ByteArray := strB [119, 105, 116, 104, 105, 110]
def sUnless : ByteArray := strB [117, 110, 108, 101, 115, 115]

def condT (c : CondT) : List TokT := wTok c.1 :: mTok 46 :: wTok (kindTab.getD c.2.1.toNat (strB [])) ::
  (if c.2.2.2.1 = 0 then [] else wTok (fieldTab.getD (c.2.2.1 - 1).toNat (strB [])) :: ((opM c.2.2.2.1).map mTok ++ [nTok c.2.2.2.2]))
def stepT (s : StepT) : List TokT := condT s.1 ++ ((if s.2.1 = 1 then [] else [wTok sX, nTok s.2.1]) ++ ((if s.2.2.1 = 0 then [] else [wTok sWithin, nTok s.2.2.1]) ++ (if s.2.2.2.1 = true then wTok sUnless :: condT s.2.2.2.2 else [])))
def stepsT : Nat → List StepT → List TokT
  | _, [] => []
  | i, s :: r => (if i = 0 then [] else [mTok 59]) ++ (stepT s ++ stepsT (i + 1) r)
def trigT (t : TrigT) : List TokT := wTok sTrigger :: wTok t.1 :: mTok 58 :: stepsT 0 t.2
def printT (t : TrigT) : List UInt8 × Int := if wrongE t = 0 then textV (trigT t) else ([], wrongE t)

/-! ### correct triggers -/
structure OkCond (c : CondT) : Prop where
  name : nameB (L c.1) = true
  kind : 0 ≤ c.2.1 ∧ c.2.1 ≤ 8
  op : 0 ≤ c.2.2.2.1 ∧ c.2.2.2.1 ≤ 5
  field : (c.2.2.2.1 = 0 ∧ c.2.2.1 = 0 ∧ c.2.2.2.2 = 0) ∨ (c.2.2.2.1 ≠ 0 ∧ 1 ≤ c.2.2.1 ∧ c.2.2.1 ≤ 6)
  value : -9007199254740992 ≤ c.2.2.2.2 ∧ c.2.2.2.2 ≤ 9007199254740992

theorem condE_zero {c : CondT} : condE c = 0 ↔ OkCond c := by
  unfold condE condOk
  constructor
  · intro h
    split at h
    · rename_i h1
      split at h
      · rename_i h2
        split at h
        · rename_i h3
          simp only [Bool.and_eq_true, decide_eq_true_eq] at h2
          exact ⟨h1, ⟨h2.1.1, h2.1.2.1⟩, ⟨h2.1.2.2.1, h2.1.2.2.2⟩, h2.2, h3⟩
        · omega
      · omega
    · omega
  · intro h
    rw [if_pos h.name, if_pos, if_pos h.value]
    simp only [Bool.and_eq_true, decide_eq_true_eq]
    exact ⟨⟨h.kind.1, h.kind.2, h.op.1, h.op.2⟩, h.field⟩

structure OkStep (s : StepT) : Prop where
  times : 1 ≤ s.2.1
  within : 0 ≤ s.2.2.1 ∧ s.2.2.1 ≤ 1099511627776
  cond : OkCond s.1
  yes : s.2.2.2.1 = true → OkCond s.2.2.2.2
  no : s.2.2.2.1 = false → s.2.2.2.2 = noCond

theorem stepE_zero {s : StepT} : stepE s = 0 ↔ OkStep s := by
  unfold stepE
  constructor
  · intro h
    split at h
    · rename_i h1
      split at h
      · rename_i h2
        split at h
        · rename_i h3
          exact ⟨h1.1, h1.2, condE_zero.1 h2, fun _ => condE_zero.1 h, fun q => by rw [q] at h3; cases h3⟩
        · rename_i h3
          split at h
          · rename_i h4
            exact ⟨h1.1, h1.2, condE_zero.1 h2, fun q => absurd q h3, fun _ => h4⟩
          · omega
      · rename_i h2
        exact absurd h h2
    · omega
  · intro h
    rw [if_pos ⟨h.times, h.within.1, h.within.2⟩, if_pos (condE_zero.2 h.cond)]
    cases hu : s.2.2.2.1 with
    | true => rw [if_pos rfl]; exact condE_zero.2 (h.yes hu)
    | false => rw [if_neg (by simp), if_pos (h.no hu)]

structure OkTrig (t : TrigT) : Prop where
  name : nameB (L t.1) = true
  some : t.2 ≠ []
  few : t.2.length ≤ 32
  steps : ∀ s ∈ t.2, OkStep s
  times : timesS t.2 ≤ 32

theorem wrongE_zero {t : TrigT} : wrongE t = 0 ↔ OkTrig t := by
  unfold wrongE
  constructor
  · intro h
    split at h
    · rename_i h1
      split at h
      · omega
      · rename_i h2
        split at h
        · omega
        · rename_i h3
          split at h
          · rename_i h4
            split at h
            · omega
            · rename_i h5
              exact ⟨h1, h2, by omega, fun s hs => stepE_zero.1 (errL_zero.1 h4 _ (List.mem_map_of_mem hs)), by omega⟩
          · rename_i h4
            exact absurd h h4
    · omega
  · intro h
    have h5 := h.times
    have h3 := h.few
    rw [if_pos h.name, if_neg h.some, if_neg (by omega), if_pos (errL_zero.2 (by
      intro e he
      obtain ⟨s, hs, rfl⟩ := List.mem_map.1 he
      exact stepE_zero.2 (h.steps s hs))), if_neg (by omega)]

theorem times_ge : ∀ (l : List StepT), (∀ s ∈ l, OkStep s) → (l.length : Int) ≤ timesS l
  | [], _ => by simp [timesS]
  | s :: r, h => by
    have h1 := (h s (by simp)).times
    have h2 := times_ge r (fun b hb => h b (by simp [hb]))
    simp only [timesS, List.length_cons]
    omega

theorem times_mem : ∀ (l : List StepT), (∀ s ∈ l, OkStep s) → ∀ s ∈ l, s.2.1 ≤ timesS l
  | [], _, s, hs => by simp at hs
  | a :: r, h, s, hs => by
    have h0 := times_ge r (fun b hb => h b (by simp [hb]))
    have h1 := (h a (by simp)).times
    simp only [timesS]
    rcases List.mem_cons.1 hs with rfl | hs
    · omega
    · have := times_mem r (fun b hb => h b (by simp [hb])) s hs
      omega

/-! ### these tokens have a text -/
def goodG (t : TokT) : Prop := formOk t = true ∧ t.2.1.size ≤ 17 ∧ -9007199254740992 ≤ t.2.2.1 ∧ t.2.2.1 ≤ 9007199254740992

theorem goodG_of {t : TokT} (h : goodT t) : goodG t := ⟨h.1, by have := h.2.1; omega, by have := h.2.2.1; omega, by have := h.2.2.2; omega⟩
theorem goodG_n {n : Int} (h0 : -9007199254740992 ≤ n) (h1 : n ≤ 9007199254740992) : goodG (nTok n) := by
  have := itoa_len h0 h1
  refine ⟨?_, ?_, h0, h1⟩
  · show (decide ((numV (L (strB (Lib.itoa n)))).2 = 0) && decide ((numV (L (strB (Lib.itoa n)))).1 = n)) = true
    rw [L_strB, numV_itoa h0 h1]
    simp
  · show (strB (Lib.itoa n)).size ≤ 17
    rw [strB_size]; omega
theorem goodG_w {b : ByteArray} (h : nameB (L b) = true) : goodG (wTok b) := goodG_of (good_w h)
theorem goodG_m {c : UInt8} (h : markB c = true) : goodG (mTok c) := goodG_of (good_m h)

theorem wt_sumG : ∀ (l : List TokT), (∀ t ∈ l, goodG t) → (l.map wt).sum ≤ 132 * l.length
  | [], _ => by simp
  | t :: r, h => by
    have h1 := (h t (by simp)).2.1
    have h2 := wt_sumG r (fun b hb => h b (by simp [hb]))
    simp only [List.map_cons, List.sum_cons, List.length_cons]
    unfold wt at *
    omega

theorem kind_name {n : Int} (h : 0 ≤ n ∧ n ≤ 8) : nameB (L (kindTab.getD n.toNat (strB []))) = true := by
  have : n = 0 ∨ n = 1 ∨ n = 2 ∨ n = 3 ∨ n = 4 ∨ n = 5 ∨ n = 6 ∨ n = 7 ∨ n = 8 := by omega
  rcases this with rfl | rfl | rfl | rfl | rfl | rfl | rfl | rfl | rfl <;> decide
theorem field_name {n : Int} (h : 1 ≤ n ∧ n ≤ 6) : nameB (L (fieldTab.getD (n - 1).toNat (strB []))) = true := by
  have : n = 1 ∨ n = 2 ∨ n = 3 ∨ n = 4 ∨ n = 5 ∨ n = 6 := by omega
  rcases this with rfl | rfl | rfl | rfl | rfl | rfl <;> decide
theorem opM_good (n : Int) : (∀ c ∈ opM n, markB c = true) ∧ (opM n).length ≤ 2 := by
  unfold opM
  split
  · exact ⟨by decide, by decide⟩
  split
  · exact ⟨by decide, by decide⟩
  split
  · exact ⟨by decide, by decide⟩
  split
  · exact ⟨by decide, by decide⟩
  · exact ⟨by decide, by decide⟩

theorem good_cond {c : CondT} (h : OkCond c) : (∀ t ∈ condT c, goodG t) ∧ (condT c).length ≤ 7 := by
  unfold condT
  constructor
  · intro t ht
    simp only [List.mem_cons] at ht
    rcases ht with rfl | rfl | rfl | ht
    · exact goodG_w h.name
    · exact goodG_m (by decide)
    · exact goodG_w (kind_name h.kind)
    · split at ht
      · simp at ht
      · rename_i h0
        simp only [List.mem_cons, List.mem_append, List.mem_map, List.not_mem_nil, or_false] at ht
        rcases ht with rfl | ⟨x, hx, rfl⟩ | rfl
        · rcases h.field with q | q
          · exact absurd q.1 h0
          · exact goodG_w (field_name q.2)
        · exact goodG_m ((opM_good _).1 x hx)
        · exact goodG_n h.value.1 h.value.2
  · have := (opM_good c.2.2.2.1).2
    split
    · simp
    · simp only [List.length_cons, List.length_append, List.length_map, List.length_nil]
      omega

theorem good_step {s : StepT} (h : OkStep s) (h32 : s.2.1 ≤ 32) : (∀ t ∈ stepT s, goodG t) ∧ (stepT s).length ≤ 19 := by
  have hc := good_cond h.cond
  have ht := h.times
  have hw := h.within
  unfold stepT
  constructor
  · intro t ht'
    simp only [List.mem_append] at ht'
    rcases ht' with q | q | q | q
    · exact hc.1 t q
    · split at q
      · simp at q
      · simp only [List.mem_cons, List.not_mem_nil, or_false] at q
        rcases q with rfl | rfl
        · exact goodG_w (by decide)
        · exact goodG_n (by omega) (by omega)
    · split at q
      · simp at q
      · simp only [List.mem_cons, List.not_mem_nil, or_false] at q
        rcases q with rfl | rfl
        · exact goodG_w (by decide)
        · exact goodG_n (by omega) (by omega)
    · split at q
      · rename_i hu
        rcases List.mem_cons.1 q with rfl | q
        · exact goodG_w (by decide)
        · exact (good_cond (h.yes hu)).1 t q
      · simp at q
  · have hlen : (if s.2.2.2.1 = true then wTok sUnless :: condT s.2.2.2.2 else []).length ≤ 8 := by
      split
      · rename_i hu
        have := (good_cond (h.yes hu)).2
        simp only [List.length_cons]; omega
      · simp
    have h1 : (if s.2.1 = 1 then ([] : List TokT) else [wTok sX, nTok s.2.1]).length ≤ 2 := by split <;> simp
    have h2 : (if s.2.2.1 = 0 then ([] : List TokT) else [wTok sWithin, nTok s.2.2.1]).length ≤ 2 := by split <;> simp
    have := hc.2
    simp only [List.length_append]
    omega

theorem good_steps : ∀ (l : List StepT) (i : Nat), (∀ s ∈ l, OkStep s ∧ s.2.1 ≤ 32) → (∀ t ∈ stepsT i l, goodG t) ∧ (stepsT i l).length ≤ 20 * l.length
  | [], i, _ => by simp [stepsT]
  | s :: r, i, h => by
    have h1 := good_step (h s (by simp)).1 (h s (by simp)).2
    have h2 := good_steps r (i + 1) (fun b hb => h b (by simp [hb]))
    unfold stepsT
    constructor
    · intro t ht
      simp only [List.mem_append] at ht
      rcases ht with q | q | q
      · split at q
        · simp at q
        · simp only [List.mem_singleton] at q
          subst q
          exact goodG_m (by decide)
      · exact h1.1 t q
      · exact h2.1 t q
    · have : (if i = 0 then ([] : List TokT) else [mTok 59]).length ≤ 1 := by split <;> simp
      have a := h1.2
      have b := h2.2
      simp only [List.length_append, List.length_cons]
      omega

theorem good_trig {t : TrigT} (h : OkTrig t) : (∀ x ∈ trigT t, goodG x) ∧ (trigT t).length ≤ 643 := by
  have hs := good_steps t.2 0 (fun s hs => ⟨h.steps s hs, by have := times_mem t.2 h.steps s hs; have := h.times; omega⟩)
  have hf := h.few
  unfold trigT
  constructor
  · intro x hx
    simp only [List.mem_cons] at hx
    rcases hx with rfl | rfl | rfl | hx
    · exact goodG_w (by decide)
    · exact goodG_w h.name
    · exact goodG_m (by decide)
    · exact hs.1 x hx
  · have := hs.2
    simp only [List.length_cons]
    omega

theorem good_text {l : List TokT} (h : ∀ x ∈ l, goodG x) (hl : l.length ≤ 7000) : textV l = (joinB true l, 0) ∧ l.all formOk = true ∧ (joinB true l).length ≤ 1000000 := by
  have h1 : l.all formOk = true := List.all_eq_true.2 fun t ht => (h t ht).1
  have h2 := joinB_len l true h1
  have h3 := wt_sumG l h
  refine ⟨?_, h1, by omega⟩
  unfold textV
  rw [if_pos h1, if_neg (by omega)]

/-! ### reading -/
def among (tab : List ByteArray) : List TokT → Option Nat
  | [] => none
  | t :: _ => if t.1 = 1 then tab.findIdx? (fun b => L b == L t.2.1) else none
def pAmong (tab : List ByteArray) (q : List TokT) : PR Nat := match among tab q with
  | some k => .ok (k, q.tail)
  | none => .error q
def pOp (q : List TokT) : PR Int :=
  if hdT 4 [61] q = true then .ok (1, q.tail) else if hdT 4 [60] q = true then .ok (3, q.tail) else if hdT 4 [62] q = true then .ok (4, q.tail) else if hdT 4 [38] q = true then .ok (5, q.tail)
  else andP (pNeed 4 [33] q) fun _ q => andP (pNeed 4 [61] q) fun _ q => .ok (2, q)
def pRest (n : ByteArray) (k : Nat) (q : List TokT) : PR CondT := match among fieldTab q with
  | none => .ok ((n, (k : Int), 0, 0, 0), q)
  | some f => andP (pOp q.tail) fun op q => andP (pNeed 2 [] q) fun v q => .ok ((n, (k : Int), ((f + 1 : Nat) : Int), op, v.2.2.1), q)
def pCond (q : List TokT) : PR CondT := andP (pNeed 1 [] q) fun n q => andP (pNeed 4 [46] q) fun _ q => andP (pAmong kindTab q) fun k q => pRest n.2.1 k q
def pNum (w : List UInt8) (d : Int) (q : List TokT) : PR Int := if hdT 1 w q = true then andP (pNeed 2 [] q.tail) fun t q => .ok (t.2.2.1, q) else .ok (d, q)
def pUnless (q : List TokT) : PR (Bool × CondT) := if hdT 1 (L sUnless) q = true then andP (pCond q.tail) fun c q => .ok ((true, c), q) else .ok ((false, noCond), q)
def pStep (q : List TokT) : PR StepT := andP (pCond q) fun c q => andP (pNum (L sX) 1 q) fun n q => andP (pNum (L sWithin) 0 q) fun w q => andP (pUnless q) fun u q => .ok ((c, n, w, u.1, u.2), q)
def pSteps : Nat → List StepT → List TokT → PR (List StepT)
  | 0, acc, q => .ok (acc, q)
  | k + 1, acc, q => if q = [] then .ok (acc, []) else andP (pNeed 4 [59] q) fun _ q => andP (pStep q) fun s q => pSteps k (acc ++ [s]) q
def pTrig (q : List TokT) : PR TrigT := andP (pNeed 1 (L sTrigger) q) fun _ q => andP (pNeed 1 [] q) fun n q => andP (pNeed 4 [58] q) fun _ q => andP (pStep q) fun s q => andP (pSteps q.length [s] q) fun l q => .ok ((n.2.1, l), q)

def parseT (s : List UInt8) : TrigT × Int × Int := match tokV s with
  | .error e => (noTrig, e.1, e.2)
  | .ok l => match pTrig l with
    | .error e => (noTrig, lineV l e, 4)
    | .ok (t, _) => if wrongE t = 0 then (t, 0, 0) else (noTrig, 0, wrongE t)

/-! ### what is left -/
theorem goes_among (tab : List ByteArray) (q : List TokT) : Goes 1 q (pAmong tab q) := by
  unfold pAmong
  cases q with
  | nil => exact List.suffix_refl _
  | cons t r =>
    cases among tab (t :: r) with
    | none => exact List.suffix_refl _
    | some k => exact ⟨List.suffix_cons t r, by simp⟩

theorem goes_op (q : List TokT) : Goes 1 q (pOp q) := by
  unfold pOp
  split
  · rename_i h; exact goes_tail (n := 0) h (goes_ok _ _)
  split
  · rename_i h; exact goes_tail (n := 0) h (goes_ok _ _)
  split
  · rename_i h; exact goes_tail (n := 0) h (goes_ok _ _)
  split
  · rename_i h; exact goes_tail (n := 0) h (goes_ok _ _)
  · exact (goes_need 4 [33] q).and0 fun _ q _ => ((goes_need 4 [61] q).le (by omega)).and0 fun _ q _ => goes_ok _ _

theorem among_cons {tab : List ByteArray} {q : List TokT} {k : Nat} (h : among tab q = some k) : ∃ t r, q = t :: r := by
  cases q with
  | nil => cases h
  | cons t r => exact ⟨t, r, rfl⟩

theorem goes_cons {α : Type} {t : TokT} {r : List TokT} {n : Nat} {p : PR α} (hp : Goes n r p) : Goes (n + 1) (t :: r) p := by
  cases p with
  | error e => exact List.IsSuffix.trans hp (List.suffix_cons t r)
  | ok p =>
    have hp' : p.2 <:+ r ∧ p.2.length + n ≤ r.length := hp
    exact ⟨hp'.1.trans (List.suffix_cons t r), by have := hp'.2; simp only [List.length_cons]; omega⟩

theorem goes_rest (n : ByteArray) (k : Nat) (q : List TokT) : Goes 0 q (pRest n k q) := by
  unfold pRest
  cases h : among fieldTab q with
  | none => exact goes_ok _ _
  | some f =>
    obtain ⟨t, r, rfl⟩ := among_cons h
    exact (goes_cons (n := 0) (((goes_op r).le (by omega)).and0 fun _ q _ => ((goes_need 2 [] q).le (by omega)).and0 fun _ q _ => goes_ok _ _)).le (by omega)

theorem goes_cond (q : List TokT) : Goes 1 q (pCond q) :=
  (goes_need 1 [] q).and0 fun _ q _ => ((goes_need 4 [46] q).le (by omega)).and0 fun _ q _ => ((goes_among kindTab q).le (by omega)).and0 fun _ q _ => goes_rest _ _ q

theorem goes_num (w : List UInt8) (d : Int) (q : List TokT) : Goes 0 q (pNum w d q) := by
  unfold pNum
  split
  · rename_i h
    exact (goes_tail (n := 0) h (((goes_need 2 [] q.tail).le (by omega)).and0 fun _ q _ => goes_ok _ _)).le (by omega)
  · exact goes_ok _ _

theorem goes_unless (q : List TokT) : Goes 0 q (pUnless q) := by
  unfold pUnless
  split
  · rename_i h
    exact (goes_tail (n := 0) h (((goes_cond q.tail).le (by omega)).and0 fun _ q _ => goes_ok _ _)).le (by omega)
  · exact goes_ok _ _

theorem goes_step (q : List TokT) : Goes 1 q (pStep q) :=
  (goes_cond q).and0 fun _ q _ => (goes_num _ _ q).and0 fun _ q _ => (goes_num _ _ q).and0 fun _ q _ => (goes_unless q).and0 fun _ q _ => goes_ok _ _

theorem goes_steps : ∀ (k : Nat) (acc : List StepT) (q : List TokT), Goes 0 q (pSteps k acc q)
  | 0, acc, q => goes_ok _ _
  | k + 1, acc, q => by
    unfold pSteps
    split
    · rename_i h; subst h; exact goes_ok _ _
    · exact ((goes_need 4 [59] q).le (by omega)).and0 fun _ q _ => ((goes_step q).le (by omega)).and0 fun a q _ => goes_steps k _ q

theorem goes_trig (q : List TokT) : Goes 0 q (pTrig q) :=
  ((goes_need 1 (L sTrigger) q).le (by omega)).and0 fun _ q _ => ((goes_need 1 [] q).le (by omega)).and0 fun _ q _ => ((goes_need 4 [58] q).le (by omega)).and0 fun _ q _ => ((goes_step q).le (by omega)).and0 fun _ q _ =>
    (goes_steps q.length _ q).and0 fun _ q _ => goes_ok _ _

theorem steps_len : ∀ (k : Nat) (acc : List StepT) (q : List TokT) (p : List StepT × List TokT), pSteps k acc q = .ok p → p.1.length ≤ acc.length + k
  | 0, acc, q, p, h => by cases h; simp
  | k + 1, acc, q, p, h => by
    unfold pSteps at h
    split at h
    · cases h; simp
    · obtain ⟨a1, q1, _, h⟩ := andP_ok h
      obtain ⟨a2, q2, _, h⟩ := andP_ok h
      have := steps_len k _ _ _ h
      simp only [List.length_append, List.length_cons, List.length_nil] at this
      omega

/-! ### the way back -/
theorem among_w {tab : List ByteArray} {b : ByteArray} {q : List TokT} : among tab (tokOf (wTok b) :: q) = tab.findIdx? (fun x => L x == L b) := by
  rw [of_w]; rfl
theorem among_m {tab : List ByteArray} {c : UInt8} {q : List TokT} : among tab (tokOf (mTok c) :: q) = none := by
  rw [of_m]; rfl

theorem kind_at {n : Int} (h : 0 ≤ n ∧ n ≤ 8) : kindTab.findIdx? (fun x => L x == L (kindTab.getD n.toNat (strB []))) = some n.toNat := by
  have : n = 0 ∨ n = 1 ∨ n = 2 ∨ n = 3 ∨ n = 4 ∨ n = 5 ∨ n = 6 ∨ n = 7 ∨ n = 8 := by omega
  rcases this with rfl | rfl | rfl | rfl | rfl | rfl | rfl | rfl | rfl <;> decide
theorem field_at {n : Int} (h : 1 ≤ n ∧ n ≤ 6) : fieldTab.findIdx? (fun x => L x == L (fieldTab.getD (n - 1).toNat (strB []))) = some (n - 1).toNat := by
  have : n = 1 ∨ n = 2 ∨ n = 3 ∨ n = 4 ∨ n = 5 ∨ n = 6 := by omega
  rcases this with rfl | rfl | rfl | rfl | rfl | rfl <;> decide

theorem rt_op {n : Int} (h : 1 ≤ n ∧ n ≤ 5) (q : List TokT) : pOp (((opM n).map mTok).map tokOf ++ q) = .ok (n, q) := by
  have : n = 1 ∨ n = 2 ∨ n = 3 ∨ n = 4 ∨ n = 5 := by omega
  unfold pOp
  rcases this with rfl | rfl | rfl | rfl | rfl
  · show (if hdT 4 [61] (tokOf (mTok 61) :: q) = true then _ else _) = _
    rw [if_pos (by rw [hd_m]; rfl)]
    rfl
  · have e : ((opM 2).map mTok).map tokOf ++ q = tokOf (mTok 33) :: tokOf (mTok 61) :: q := rfl
    rw [e, if_neg (by rw [hd_m]; decide), if_neg (by rw [hd_m]; decide), if_neg (by rw [hd_m]; decide), if_neg (by rw [hd_m]; decide), need_m, andP_ok', need_m, andP_ok']
  · have e : ((opM 3).map mTok).map tokOf ++ q = tokOf (mTok 60) :: q := rfl
    rw [e, if_neg (by rw [hd_m]; decide), if_pos (by rw [hd_m]; rfl)]
    rfl
  · have e : ((opM 4).map mTok).map tokOf ++ q = tokOf (mTok 62) :: q := rfl
    rw [e, if_neg (by rw [hd_m]; decide), if_neg (by rw [hd_m]; decide), if_pos (by rw [hd_m]; rfl)]
    rfl
  · have e : ((opM 5).map mTok).map tokOf ++ q = tokOf (mTok 38) :: q := rfl
    rw [e, if_neg (by rw [hd_m]; decide), if_neg (by rw [hd_m]; decide), if_neg (by rw [hd_m]; decide), if_pos (by rw [hd_m]; rfl)]
    rfl

/-- What follows a condition is no field. -/
def NoField (q : List TokT) : Prop := among fieldTab q = none
theorem rt_cond {c : CondT} (h : OkCond c) {q : List TokT} (hq : NoField q) : pCond ((condT c).map tokOf ++ q) = .ok (c, q) := by
  obtain ⟨n, k, f, o, v⟩ := c
  have hk := h.kind
  have hk' : 0 ≤ k ∧ k ≤ 8 := hk
  unfold pCond condT
  rw [List.map_cons, List.map_cons, List.map_cons, List.cons_append, List.cons_append, List.cons_append, need_name, andP_ok', need_m, andP_ok']
  have ea : ∀ q, pAmong kindTab (tokOf (wTok (kindTab.getD k.toNat (strB []))) :: q) = .ok (k.toNat, q) := fun q => by
    unfold pAmong
    rw [among_w, kind_at hk']
    rfl
  have ek : ((k.toNat : Nat) : Int) = k := by omega
  rw [ea, andP_ok', of_w]
  unfold pRest
  by_cases h0 : o = 0
  · rw [if_pos h0, List.map_nil, List.nil_append, show among fieldTab q = none from hq]
    have hf := h.field
    simp only at hf ⊢
    rw [ek]
    obtain ⟨rfl, rfl, rfl⟩ : o = 0 ∧ f = 0 ∧ v = 0 := by
      refine ⟨h0, ?_, ?_⟩ <;> omega
    rfl
  · have hf : 1 ≤ f ∧ f ≤ 6 := by have := h.field; simp only at this; omega
    have ho : 1 ≤ o ∧ o ≤ 5 := by have := h.op; simp only at this; omega
    rw [if_neg h0, List.map_cons, List.cons_append, among_w, field_at hf]
    simp only
    rw [List.tail_cons, List.map_append, List.append_assoc, rt_op ho, andP_ok']
    show andP (pNeed 2 [] (tokOf (nTok v) :: q)) _ = _
    rw [need_n, andP_ok', ek]
    have ef : (((f - 1).toNat + 1 : Nat) : Int) = f := by omega
    rw [ef]
    rfl

theorem nofield_m {c : UInt8} {q : List TokT} : NoField (tokOf (mTok c) :: q) := among_m
theorem nofield_nil : NoField [] := rfl
theorem nofield_w {b : ByteArray} {q : List TokT} (h : fieldTab.findIdx? (fun x => L x == L b) = none) : NoField (tokOf (wTok b) :: q) := by unfold NoField; rw [among_w, h]

theorem rt_num_no {w : List UInt8} {d : Int} {q : List TokT} (h : hdT 1 w q = false) : pNum w d q = .ok (d, q) := by unfold pNum; rw [if_neg (by rw [h]; simp)]
theorem rt_num {w : ByteArray} {d n : Int} {q : List TokT} : pNum (L w) d (tokOf (wTok w) :: tokOf (nTok n) :: q) = .ok (n, q) := by
  unfold pNum
  rw [if_pos (by rw [hd_w]; simp), List.tail_cons, need_n, andP_ok']
  rfl

/-- What may follow a step: a semicolon or nothing. -/
def EndS (q : List TokT) : Prop := q = [] ∨ ∃ r, q = tokOf (mTok 59) :: r
theorem EndS.noField {q : List TokT} (h : EndS q) : NoField q := by
  rcases h with rfl | ⟨r, rfl⟩
  · exact nofield_nil
  · exact nofield_m
theorem EndS.hd {q : List TokT} (h : EndS q) (w : List UInt8) : hdT 1 w q = false := by
  rcases h with rfl | ⟨r, rfl⟩
  · rfl
  · exact hd_m1 _ _ _

def uT (s : StepT) : List TokT := if s.2.2.2.1 = true then wTok sUnless :: condT s.2.2.2.2 else []
def wT (s : StepT) : List TokT := if s.2.2.1 = 0 then [] else [wTok sWithin, nTok s.2.2.1]
def xT (s : StepT) : List TokT := if s.2.1 = 1 then [] else [wTok sX, nTok s.2.1]

theorem rt_unless {s : StepT} (h : OkStep s) {q : List TokT} (hq : EndS q) : pUnless ((uT s).map tokOf ++ q) = .ok ((s.2.2.2.1, s.2.2.2.2), q) ∧ NoField ((uT s).map tokOf ++ q) ∧
    hdT 1 (L sX) ((uT s).map tokOf ++ q) = false ∧ hdT 1 (L sWithin) ((uT s).map tokOf ++ q) = false := by
  unfold pUnless uT
  by_cases hu : s.2.2.2.1 = true
  · rw [if_pos hu, List.map_cons, List.cons_append, if_pos (by rw [hd_w]; simp), List.tail_cons, rt_cond (h.yes hu) hq.noField, andP_ok', hu]
    exact ⟨rfl, nofield_w (by decide), by rw [hd_w]; decide, by rw [hd_w]; decide⟩
  · have hf : s.2.2.2.1 = false := by simpa using hu
    rw [if_neg hu, List.map_nil, List.nil_append, if_neg (by rw [hq.hd]; simp), hf, h.no hf]
    exact ⟨rfl, hq.noField, hq.hd _, hq.hd _⟩

theorem rt_within {s : StepT} (h : OkStep s) {q : List TokT} (hq : EndS q) : pNum (L sWithin) 0 ((wT s).map tokOf ++ ((uT s).map tokOf ++ q)) = .ok (s.2.2.1, (uT s).map tokOf ++ q) ∧ NoField ((wT s).map tokOf ++ ((uT s).map tokOf ++ q)) ∧
    hdT 1 (L sX) ((wT s).map tokOf ++ ((uT s).map tokOf ++ q)) = false := by
  obtain ⟨h1, h2, h3, h4⟩ := rt_unless h hq
  unfold wT
  by_cases hw : s.2.2.1 = 0
  · rw [if_pos hw, List.map_nil, List.nil_append, rt_num_no h4, hw]
    exact ⟨rfl, h2, h3⟩
  · rw [if_neg hw]
    simp only [List.map_cons, List.map_nil, List.cons_append, List.nil_append]
    rw [rt_num]
    exact ⟨rfl, nofield_w (by decide), by rw [hd_w]; decide⟩

theorem rt_times {s : StepT} (h : OkStep s) {q : List TokT} (hq : EndS q) : pNum (L sX) 1 ((xT s).map tokOf ++ ((wT s).map tokOf ++ ((uT s).map tokOf ++ q))) = .ok (s.2.1, (wT s).map tokOf ++ ((uT s).map tokOf ++ q)) ∧
    NoField ((xT s).map tokOf ++ ((wT s).map tokOf ++ ((uT s).map tokOf ++ q))) := by
  obtain ⟨h1, h2, h3⟩ := rt_within h hq
  unfold xT
  by_cases hx : s.2.1 = 1
  · rw [if_pos hx, List.map_nil, List.nil_append, rt_num_no h3, hx]
    exact ⟨rfl, h2⟩
  · rw [if_neg hx]
    simp only [List.map_cons, List.map_nil, List.cons_append, List.nil_append]
    rw [rt_num]
    exact ⟨rfl, nofield_w (by decide)⟩

theorem rt_step {s : StepT} (h : OkStep s) {q : List TokT} (hq : EndS q) : pStep ((stepT s).map tokOf ++ q) = .ok (s, q) := by
  have e : (stepT s).map tokOf ++ q = (condT s.1).map tokOf ++ ((xT s).map tokOf ++ ((wT s).map tokOf ++ ((uT s).map tokOf ++ q))) := by
    unfold stepT xT wT uT
    simp only [List.map_append, List.append_assoc]
  obtain ⟨t1, t2⟩ := rt_times h hq
  unfold pStep
  rw [e, rt_cond h.cond t2, andP_ok', t1, andP_ok', (rt_within h hq).1, andP_ok', (rt_unless h hq).1, andP_ok']

theorem steps_end : ∀ (l : List StepT) (i : Nat), EndS ((stepsT (i + 1) l).map tokOf)
  | [], i => .inl rfl
  | s :: r, i => .inr ⟨((stepT s ++ stepsT (i + 1 + 1) r)).map tokOf, by
    rw [stepsT, if_neg (by omega)]
    rfl⟩

theorem rt_steps : ∀ (l acc : List StepT) (k i : Nat), l.length ≤ k → (∀ s ∈ l, OkStep s) → pSteps k acc ((stepsT (i + 1) l).map tokOf) = .ok (acc ++ l, [])
  | [], acc, k, i, _, _ => by
    rw [stepsT, List.map_nil, List.append_nil]
    cases k with
    | zero => rfl
    | succ k => unfold pSteps; rw [if_pos rfl]
  | s :: l, acc, k, i, hk, h => by
    obtain ⟨k, rfl⟩ : ∃ j, k = j + 1 := ⟨k - 1, by simp only [List.length_cons] at hk; omega⟩
    simp only [List.length_cons] at hk
    have ih := rt_steps l (acc ++ [s]) k (i + 1) (by omega) (fun b hb => h b (by simp [hb]))
    rw [stepsT, if_neg (by omega)]
    simp only [List.map_append, List.map_cons, List.map_nil, List.cons_append, List.nil_append]
    unfold pSteps
    rw [if_neg (by simp), need_m, andP_ok', rt_step (h s (by simp)) (steps_end l (i + 1)), andP_ok', ih]
    simp

theorem len_steps : ∀ (l : List StepT) (i : Nat), l.length ≤ (stepsT i l).length
  | [], i => by simp
  | s :: l, i => by
    have := len_steps l (i + 1)
    simp only [stepsT, stepT, condT, List.length_append, List.length_cons]
    omega

theorem rt_trig {t : TrigT} (h : OkTrig t) : pTrig ((trigT t).map tokOf) = .ok (t, []) := by
  obtain ⟨n, l⟩ := t
  have hs := h.some
  cases l with
  | nil => exact absurd rfl hs
  | cons s r =>
    unfold pTrig trigT
    rw [List.map_cons, List.map_cons, List.map_cons, need_w, andP_ok', need_name, andP_ok', need_m, andP_ok']
    rw [stepsT, if_pos rfl, List.nil_append, List.map_append, rt_step (h.steps s (by simp)) (steps_end r 0), andP_ok']
    rw [rt_steps r [s] _ 0 (by rw [List.length_map]; exact len_steps r 1) (fun b hb => h.steps b (by simp [hb])), andP_ok', of_w]
    rfl

theorem parse_printT {t : TrigT} (h : wrongE t = 0) : (printT t).2 = 0 ∧ parseT (printT t).1 = (t, 0, 0) := by
  have ho := wrongE_zero.1 h
  obtain ⟨h1, h2, h3⟩ := good_text (good_trig ho).1 (by have := (good_trig ho).2; omega)
  have e : printT t = (joinB true (trigT t), 0) := by unfold printT; rw [if_pos h, h1]
  rw [e]
  refine ⟨rfl, ?_⟩
  unfold parseT
  simp only
  rw [tokV_join h2 (by omega)]
  simp only
  rw [rt_trig ho]
  simp only
  rw [if_pos h]

theorem printT_no {t : TrigT} (h : wrongE t ≠ 0) : printT t = ([], wrongE t) := by unfold printT; rw [if_neg h]
theorem printT_err (t : TrigT) : (printT t).2 = wrongE t := by
  by_cases h : wrongE t = 0
  · rw [h]; exact (parse_printT h).1
  · rw [printT_no h]

theorem parseT_cases (l : List UInt8) : ((parseT l).2.2 ≠ 0 ∧ (parseT l).1 = noTrig) ∨ ((parseT l).2.2 = 0 ∧ wrongE (parseT l).1 = 0) := by
  unfold parseT
  cases h : tokV l with
  | error e => exact .inl ⟨tokV_err h, rfl⟩
  | ok ts =>
    simp only
    cases ha : pTrig ts with
    | error e => exact .inl ⟨(by simp), rfl⟩
    | ok d =>
      obtain ⟨t, q⟩ := d
      simp only
      by_cases hc : wrongE t = 0
      · rw [if_pos hc]
        exact .inr ⟨rfl, hc⟩
      · rw [if_neg hc]
        exact .inl ⟨hc, rfl⟩

end Go.AM
end

section
/-
AM: limits in plain Lean: their errors, their tokens, their text, and how they are read. No condition.
-/
namespace Go.AM
open Go

abbrev LimT : Type := Int × ByteArray × ByteArray × Bool × Int × Int
def noLim : LimT := (0, strB [], strB [], false, 0, 0)
def clkB (m : Int) : Bool := decide (4 ≤ m ∧ m ≤ 6)
def formE (x : LimT) : Int :=
  if (1 ≤ x.1 ∧ x.1 ≤ 6) ∧ (0 ≤ x.2.2.2.2.1 ∧ x.2.2.2.2.1 ≤ x.2.2.2.2.2 ∧ x.2.2.2.2.2 ≤ 1099511627776) then
    if clkB x.1 = true ∨ (x.2.2.1 = strB [] ∧ x.2.2.2.1 = false) then 0 else 1
  else 1
def limE (x : LimT) : Int := if formE x = 0 then (if nameB (L x.2.1) = true ∧ (clkB x.1 = true → nameB (L x.2.2.1) = true) then 0 else 4) else formE x
def wrongL (l : List LimT) : Int := if 64 < l.length then 6 else errL (l.map limE)

def measTab : List ByteArray := [strB [], strB [112, 101, 114, 105, 111, 100], strB [104, 105, 103, 104], strB [108, 111, 119], strB [115, 101, 116, 117, 112], strB [104, 111, 108, 100], strB [100, 101, 108, 97, 121]]
def measW (n : Int) : ByteArray := measTab.getD n.toNat (strB [])
def sRise : ByteArray := strB [114, 105, 115, 101]
def sFall : ByteArray := strB [102, 97, 108, 108]
def edgeT (x : LimT) : List TokT := if clkB x.1 = true then [wTok x.2.2.1, wTok (if x.2.2.2.1 = true then sRise else sFall)] else []
def limT (x : LimT) : List TokT := wTok (measW x.1) :: wTok x.2.1 :: (edgeT x ++ [nTok x.2.2.2.2.1, mTok 46, mTok 46, nTok x.2.2.2.2.2, mTok 59])
def limsT : List LimT → List TokT
  | [] => []
  | x :: r => limT x ++ limsT r
def printL (l : List LimT) : List UInt8 × Int := if wrongL l = 0 then textV (limsT l) else ([], wrongL l)

structure OkLim (x : LimT) : Prop where
  meas : 1 ≤ x.1 ∧ x.1 ≤ 6
  lo : 0 ≤ x.2.2.2.2.1
  le : x.2.2.2.2.1 ≤ x.2.2.2.2.2
  hi : x.2.2.2.2.2 ≤ 1099511627776
  data : nameB (L x.2.1) = true
  clock : clkB x.1 = true → nameB (L x.2.2.1) = true
  none : clkB x.1 = false → x.2.2.1 = strB [] ∧ x.2.2.2.1 = false

theorem formE_zero {x : LimT} : formE x = 0 ↔ ((1 ≤ x.1 ∧ x.1 ≤ 6) ∧ (0 ≤ x.2.2.2.2.1 ∧ x.2.2.2.2.1 ≤ x.2.2.2.2.2 ∧ x.2.2.2.2.2 ≤ 1099511627776)) ∧ (clkB x.1 = true ∨ (x.2.2.1 = strB [] ∧ x.2.2.2.1 = false)) := by
  unfold formE
  constructor
  · intro h
    split at h
    · rename_i h1
      split at h
      · rename_i h2
        exact ⟨h1, h2⟩
      · omega
    · omega
  · intro h
    rw [if_pos h.1, if_pos h.2]

theorem limE_zero {x : LimT} : limE x = 0 ↔ OkLim x := by
  unfold limE
  constructor
  · intro h
    split at h
    · rename_i h1
      split at h
      · rename_i h2
        have h3 := formE_zero.1 h1
        exact ⟨h3.1.1, h3.1.2.1, h3.1.2.2.1, h3.1.2.2.2, h2.1, h2.2, fun q => by
          rcases h3.2 with r | r
          · rw [q] at r; cases r
          · exact r⟩
      · omega
    · rename_i h1
      exact absurd h h1
  · intro h
    have h1 : formE x = 0 := formE_zero.2 ⟨⟨h.meas, h.lo, h.le, h.hi⟩, by
      cases hc : clkB x.1 with
      | true => exact .inl rfl
      | false => exact .inr (h.none hc)⟩
    rw [if_pos h1, if_pos ⟨h.data, h.clock⟩]

theorem wrongL_zero {l : List LimT} : wrongL l = 0 ↔ l.length ≤ 64 ∧ ∀ x ∈ l, OkLim x := by
  unfold wrongL
  constructor
  · intro h
    split at h
    · omega
    · exact ⟨by omega, fun x hx => limE_zero.1 (errL_zero.1 h _ (List.mem_map_of_mem hx))⟩
  · intro h
    rw [if_neg (by omega), errL_zero.2 (by
      intro e he
      obtain ⟨x, hx, rfl⟩ := List.mem_map.1 he
      exact limE_zero.2 (h.2 x hx))]

theorem meas_name {n : Int} (h : 1 ≤ n ∧ n ≤ 6) : nameB (L (measW n)) = true := by
  have : n = 1 ∨ n = 2 ∨ n = 3 ∨ n = 4 ∨ n = 5 ∨ n = 6 := by omega
  rcases this with rfl | rfl | rfl | rfl | rfl | rfl <;> decide

theorem good_lim {x : LimT} (h : OkLim x) : (∀ t ∈ limT x, goodG t) ∧ (limT x).length ≤ 9 := by
  have h1 := h.lo
  have h2 := h.le
  have h3 := h.hi
  unfold limT edgeT
  constructor
  · intro t ht
    simp only [List.mem_cons, List.mem_append, List.not_mem_nil, or_false] at ht
    rcases ht with rfl | rfl | ht | rfl | rfl | rfl | rfl | rfl
    · exact goodG_w (meas_name h.meas)
    · exact goodG_w h.data
    · split at ht
      · rename_i hc
        simp only [List.mem_cons, List.not_mem_nil, or_false] at ht
        rcases ht with rfl | rfl
        · exact goodG_w (h.clock hc)
        · exact goodG_w (by split <;> decide)
      · simp at ht
    · exact goodG_n (by omega) (by omega)
    · exact goodG_m (by decide)
    · exact goodG_m (by decide)
    · exact goodG_n (by omega) (by omega)
    · exact goodG_m (by decide)
  · split <;> simp

theorem good_lims : ∀ (l : List LimT), (∀ x ∈ l, OkLim x) → (∀ t ∈ limsT l, goodG t) ∧ (limsT l).length ≤ 9 * l.length
  | [], _ => by simp [limsT]
  | x :: r, h => by
    have h1 := good_lim (h x (by simp))
    have h2 := good_lims r (fun b hb => h b (by simp [hb]))
    unfold limsT
    constructor
    · intro t ht
      rcases List.mem_append.1 ht with q | q
      · exact h1.1 t q
      · exact h2.1 t q
    · have a := h1.2
      have b := h2.2
      simp only [List.length_append, List.length_cons]
      omega

/-! ### reading -/
def measNo (b : List UInt8) : Nat := if b = L (measW 1) then 1 else if b = L (measW 2) then 2 else if b = L (measW 3) then 3 else if b = L (measW 4) then 4 else if b = L (measW 5) then 5 else if b = L (measW 6) then 6 else 0
def pMeas : List TokT → PR Nat
  | [] => .error []
  | t :: r => if t.1 = 1 ∧ measNo (L t.2.1) ≠ 0 then .ok (measNo (L t.2.1), r) else .error (t :: r)
def pEdge (q : List TokT) : PR Bool := if hdT 1 (L sRise) q = true then .ok (true, q.tail) else andP (pNeed 1 (L sFall) q) fun _ q => .ok (false, q)
def pClock (m : Nat) (q : List TokT) : PR (ByteArray × Bool) := if 4 ≤ m then andP (pNeed 1 [] q) fun n q => andP (pEdge q) fun e q => .ok ((n.2.1, e), q) else .ok ((strB [], false), q)
def pRange (m : Nat) (d c : ByteArray) (e : Bool) (q : List TokT) : PR LimT := andP (pNeed 2 [] q) fun lo q => andP (pNeed 4 [46] q) fun _ q => andP (pNeed 4 [46] q) fun _ q => andP (pNeed 2 [] q) fun hi q => andP (pNeed 4 [59] q) fun _ q =>
  .ok (((m : Int), d, c, e, lo.2.2.1, hi.2.2.1), q)
def pLim (q : List TokT) : PR LimT := andP (pMeas q) fun m q => andP (pNeed 1 [] q) fun d q => andP (pClock m q) fun ce q => pRange m d.2.1 ce.1 ce.2 q
def pLims : Nat → List LimT → List TokT → PR (List LimT)
  | 0, acc, q => .ok (acc, q)
  | k + 1, acc, q => if q = [] then .ok (acc, []) else andP (pLim q) fun x q => pLims k (acc ++ [x]) q

def parseL (s : List UInt8) : List LimT × Int × Int := match tokV s with
  | .error e => ([], e.1, e.2)
  | .ok l => match pLims l.length [] l with
    | .error e => ([], lineV l e, 4)
    | .ok (x, _) => if wrongL x = 0 then (x, 0, 0) else ([], 0, wrongL x)

theorem goes_meas (q : List TokT) : Goes 1 q (pMeas q) := by
  cases q with
  | nil => exact List.suffix_refl _
  | cons t r =>
    show Goes 1 (t :: r) (if t.1 = 1 ∧ measNo (L t.2.1) ≠ 0 then .ok (measNo (L t.2.1), r) else .error (t :: r))
    split
    · exact ⟨List.suffix_cons t r, by simp⟩
    · exact List.suffix_refl _

theorem goes_edge (q : List TokT) : Goes 1 q (pEdge q) := by
  unfold pEdge
  split
  · rename_i h; exact goes_tail (n := 0) h (goes_ok _ _)
  · exact (goes_need 1 _ q).and0 fun _ q _ => goes_ok _ _

theorem goes_clock (m : Nat) (q : List TokT) : Goes 0 q (pClock m q) := by
  unfold pClock
  split
  · exact ((goes_need 1 [] q).le (by omega)).and0 fun _ q _ => ((goes_edge q).le (by omega)).and0 fun _ q _ => goes_ok _ _
  · exact goes_ok _ _

theorem goes_range (m : Nat) (d c : ByteArray) (e : Bool) (q : List TokT) : Goes 1 q (pRange m d c e q) :=
  (goes_need 2 [] q).and0 fun _ q _ => ((goes_need 4 [46] q).le (by omega)).and0 fun _ q _ => ((goes_need 4 [46] q).le (by omega)).and0 fun _ q _ => ((goes_need 2 [] q).le (by omega)).and0 fun _ q _ => ((goes_need 4 [59] q).le (by omega)).and0 fun _ q _ => goes_ok _ _

theorem goes_lim (q : List TokT) : Goes 1 q (pLim q) :=
  (goes_meas q).and0 fun m q _ => ((goes_need 1 [] q).le (by omega)).and0 fun _ q _ => (goes_clock m q).and0 fun _ q _ => (goes_range _ _ _ _ q).le (by omega)

theorem goes_lims : ∀ (k : Nat) (acc : List LimT) (q : List TokT), Goes 0 q (pLims k acc q)
  | 0, acc, q => goes_ok _ _
  | k + 1, acc, q => by
    unfold pLims
    split
    · rename_i h; subst h; exact goes_ok _ _
    · exact ((goes_lim q).le (by omega)).and0 fun a q _ => goes_lims k _ q

theorem lims_len : ∀ (k : Nat) (acc : List LimT) (q : List TokT) (p : List LimT × List TokT), pLims k acc q = .ok p → p.1.length ≤ acc.length + k
  | 0, acc, q, p, h => by cases h; simp
  | k + 1, acc, q, p, h => by
    unfold pLims at h
    split at h
    · cases h; simp
    · obtain ⟨a1, q1, _, h⟩ := andP_ok h
      have := lims_len k _ _ _ h
      simp only [List.length_append, List.length_cons, List.length_nil] at this
      omega

/-! ### the way back -/
theorem measNo_w {n : Int} (h : 1 ≤ n ∧ n ≤ 6) : measNo (L (measW n)) = n.toNat := by
  have : n = 1 ∨ n = 2 ∨ n = 3 ∨ n = 4 ∨ n = 5 ∨ n = 6 := by omega
  rcases this with rfl | rfl | rfl | rfl | rfl | rfl <;> decide

theorem rt_lim {x : LimT} (h : OkLim x) (q : List TokT) : pLim ((limT x).map tokOf ++ q) = .ok (x, q) := by
  obtain ⟨m, d, c, r, lo, hi⟩ := x
  have hm : 1 ≤ m ∧ m ≤ 6 := h.meas
  have em : ((m.toNat : Nat) : Int) = m := by omega
  have hw : ∀ b : ByteArray, (tokOf (wTok b)).2.1 = b := fun b => by rw [of_w]
  have range : ∀ (c : ByteArray) (r : Bool), pRange m.toNat d c r (tokOf (nTok lo) :: tokOf (mTok 46) :: tokOf (mTok 46) :: tokOf (nTok hi) :: tokOf (mTok 59) :: q) = .ok ((m, d, c, r, lo, hi), q) := fun c r => by
    unfold pRange
    rw [need_n, andP_ok', need_m, andP_ok', need_m, andP_ok', need_n, andP_ok', need_m, andP_ok', em]
    rfl
  unfold pLim limT
  rw [List.map_cons, List.map_cons, List.cons_append, List.cons_append]
  have e1 : ∀ q, pMeas (tokOf (wTok (measW m)) :: q) = .ok (m.toNat, q) := fun q => by
    rw [of_w]
    show (if (1 : Int) = 1 ∧ measNo (L (measW m)) ≠ 0 then (.ok (measNo (L (measW m)), q) : PR Nat) else _) = _
    rw [measNo_w hm, if_pos ⟨rfl, by omega⟩]
  rw [e1, andP_ok', need_name, andP_ok', hw]
  unfold edgeT pClock
  by_cases hc : clkB m = true
  · have h4 : 4 ≤ m.toNat := by
      unfold clkB at hc
      simp only [decide_eq_true_eq] at hc
      omega
    rw [if_pos hc, if_pos h4]
    simp only [List.map_append, List.map_cons, List.map_nil, List.cons_append, List.nil_append]
    rw [need_name, andP_ok']
    have e2 : ∀ q, pEdge (tokOf (wTok (if r = true then sRise else sFall)) :: q) = .ok (r, q) := fun q => by
      unfold pEdge
      cases r with
      | true => rw [if_pos (show (true : Bool) = true from rfl), if_pos (by rw [hd_w]; simp)]; rfl
      | false => rw [if_neg (show ¬ (false : Bool) = true by simp), if_neg (by rw [hd_w]; decide), need_w, andP_ok']
    rw [e2, andP_ok', andP_ok', hw]
    exact range c r
  · have hf : clkB m = false := by simpa using hc
    have h4 : ¬ 4 ≤ m.toNat := by
      intro h4
      apply hc
      unfold clkB
      simp only [decide_eq_true_eq]
      omega
    obtain ⟨rfl, rfl⟩ : c = strB [] ∧ r = false := h.none hf
    rw [if_neg hc, if_neg h4, andP_ok']
    simp only [List.map_append, List.map_cons, List.map_nil, List.cons_append, List.nil_append]
    exact range _ _

theorem rt_lims : ∀ (l acc : List LimT) (k : Nat), l.length ≤ k → (∀ x ∈ l, OkLim x) → pLims k acc ((limsT l).map tokOf) = .ok (acc ++ l, [])
  | [], acc, k, _, _ => by
    rw [limsT, List.map_nil, List.append_nil]
    cases k with
    | zero => rfl
    | succ k => unfold pLims; rw [if_pos rfl]
  | x :: l, acc, k, hk, h => by
    obtain ⟨k, rfl⟩ : ∃ j, k = j + 1 := ⟨k - 1, by simp only [List.length_cons] at hk; omega⟩
    simp only [List.length_cons] at hk
    have ih := rt_lims l (acc ++ [x]) k (by omega) (fun b hb => h b (by simp [hb]))
    unfold pLims
    rw [if_neg (by simp [limsT, limT]), limsT, List.map_append, rt_lim (h x (by simp)), andP_ok', ih]
    simp

theorem len_lims : ∀ (l : List LimT), l.length ≤ (limsT l).length
  | [] => by simp
  | s :: l => by
    have := len_lims l
    simp only [limsT, limT, List.length_append, List.length_cons]
    omega

theorem parse_printL {l : List LimT} (h : wrongL l = 0) : (printL l).2 = 0 ∧ parseL (printL l).1 = (l, 0, 0) := by
  have ho := wrongL_zero.1 h
  obtain ⟨h1, h2, h3⟩ := good_text (good_lims l ho.2).1 (by have := (good_lims l ho.2).2; omega)
  have e : printL l = (joinB true (limsT l), 0) := by unfold printL; rw [if_pos h, h1]
  rw [e]
  refine ⟨rfl, ?_⟩
  unfold parseL
  simp only
  rw [tokV_join h2 (by omega)]
  simp only
  rw [rt_lims l [] _ (by rw [List.length_map]; exact len_lims l) ho.2]
  simp only [List.nil_append]
  rw [if_pos h]

theorem printL_no {l : List LimT} (h : wrongL l ≠ 0) : printL l = ([], wrongL l) := by unfold printL; rw [if_neg h]
theorem printL_err (l : List LimT) : (printL l).2 = wrongL l := by
  by_cases h : wrongL l = 0
  · rw [h]; exact (parse_printL h).1
  · rw [printL_no h]

theorem parseL_cases (l : List UInt8) : ((parseL l).2.2 ≠ 0 ∧ (parseL l).1 = []) ∨ ((parseL l).2.2 = 0 ∧ wrongL (parseL l).1 = 0) := by
  unfold parseL
  cases h : tokV l with
  | error e => exact .inl ⟨tokV_err h, rfl⟩
  | ok ts =>
    simp only
    cases ha : pLims ts.length [] ts with
    | error e => exact .inl ⟨(by simp), rfl⟩
    | ok d =>
      obtain ⟨t, q⟩ := d
      simp only
      by_cases hc : wrongL t = 0
      · rw [if_pos hc]
        exact .inr ⟨rfl, hc⟩
      · rw [if_neg hc]
        exact .inl ⟨hc, rfl⟩

end Go.AM
end

section
/-
AM: waves, captures and what is measured of them, in plain Lean; the worst measurement. No condition.
-/
namespace Go.AM
open Go

abbrev RunT : Type := Int × Int
abbrev GapT : Type := Int × Int

/-! ### captures -/
def runsB (mask : Int) : Int → List RunT → Bool
  | _, [] => true
  | left, r :: l => decide (0 ≤ r.1 ∧ r.1 ≤ mask ∧ 1 ≤ r.2 ∧ r.2 ≤ left) && runsB mask (left - r.2) l

def dupB : List ByteArray → List ByteArray → Bool
  | _, [] => false
  | seen, s :: r => seen.any (fun b => L b == L s) || dupB (seen ++ [s]) r

def namesE (l : List ByteArray) : Int := if l = [] then 1 else if (l.all fun s => nameB (L s)) = true then (if dupB [] l = true then 9 else 0) else 4

def maskI (n : Nat) : Int := 2 ^ n - 1

def capE (c : List ByteArray × List RunT) : Int :=
  if 16 < c.1.length ∨ 262144 < c.2.length then 6
  else if namesE c.1 = 0 then (if runsB (maskI c.1.length) 1099511627776 c.2 = true then 0 else 2) else namesE c.1

/-! ### waves -/
structure WaveOk (w : List RunT) : Prop where
  len : w.length ≤ 262144
  level : ∀ r ∈ w, r.1 = 0 ∨ r.1 = 1
  ticks : ∀ r ∈ w, 1 ≤ r.2
  sum : (w.map (·.2)).sum ≤ 1099511627776

/-- Neighbours of different levels. -/
def AltW : List RunT → Prop
  | a :: b :: r => a.1 ≠ b.1 ∧ AltW (b :: r)
  | _ => True

def putW (acc : List RunT) (x : RunT) : List RunT := match acc.getLast? with
  | some y => if y.1 = x.1 then acc.dropLast ++ [(y.1, y.2 + x.2)] else acc ++ [x]
  | none => [x]

def joinW (l : List RunT) : List RunT := l.foldl putW []

theorem putW_nil (x : RunT) : putW [] x = [x] := rfl
theorem putW_snoc (a : List RunT) (y x : RunT) : putW (a ++ [y]) x = if y.1 = x.1 then a ++ [(y.1, y.2 + x.2)] else a ++ [y, x] := by
  unfold putW
  simp [List.getLast?_append, List.dropLast_concat]

theorem snoc_cases {α : Type} (l : List α) : l = [] ∨ ∃ a y, l = a ++ [y] := by
  rcases List.eq_nil_or_concat l with h | ⟨a, y, h⟩
  · exact .inl h
  · exact .inr ⟨a, y, by rw [h, List.concat_eq_append]⟩

theorem alt_snoc : ∀ (a : List RunT) (y x : RunT), AltW (a ++ [y]) → y.1 ≠ x.1 → AltW (a ++ [y, x])
  | [], y, x, _, h => ⟨h, trivial⟩
  | [b], y, x, h1, h => ⟨h1.1, h, trivial⟩
  | b :: c :: r, y, x, h1, h => ⟨h1.1, alt_snoc (c :: r) y x h1.2 h⟩

theorem alt_last : ∀ (a : List RunT) (y : RunT) (t : Int), AltW (a ++ [y]) → AltW (a ++ [(y.1, t)])
  | [], y, t, _ => trivial
  | [b], y, t, h1 => ⟨h1.1, trivial⟩
  | b :: c :: r, y, t, h1 => ⟨h1.1, alt_last (c :: r) y t h1.2⟩

theorem putW_alt (a : List RunT) (x : RunT) (h : AltW a) : AltW (putW a x) := by
  rcases snoc_cases a with rfl | ⟨b, y, rfl⟩
  · exact trivial
  · rw [putW_snoc]
    split
    · exact alt_last b y _ h
    · rename_i hn
      exact alt_snoc b y x h hn

theorem putW_sum (a : List RunT) (x : RunT) : ((putW a x).map (·.2)).sum = (a.map (·.2)).sum + x.2 := by
  rcases snoc_cases a with rfl | ⟨b, y, rfl⟩
  · simp [putW]
  · rw [putW_snoc]
    split <;> simp <;> omega

theorem putW_len (a : List RunT) (x : RunT) : (putW a x).length ≤ a.length + 1 := by
  rcases snoc_cases a with rfl | ⟨b, y, rfl⟩
  · simp [putW]
  · rw [putW_snoc]
    split <;> simp

theorem putW_mem {a : List RunT} {x : RunT} {p : RunT → Prop} (hp : ∀ l t t', p (l, t) → p (l, t') → p (l, t + t')) (ha : ∀ r ∈ a, p r) (hx : p x) : ∀ r ∈ putW a x, p r := by
  rcases snoc_cases a with rfl | ⟨b, y, rfl⟩
  · intro r hr
    simp [putW] at hr
    subst hr
    exact hx
  · rw [putW_snoc]
    intro r hr
    split at hr
    · rename_i he
      rcases List.mem_append.1 hr with q | q
      · exact ha r (by simp [q])
      · simp only [List.mem_singleton] at q
        subst q
        refine hp _ _ _ (ha y (by simp)) ?_
        rw [he]; exact hx
    · simp only [List.mem_append, List.mem_cons, List.not_mem_nil, or_false] at hr
      rcases hr with q | rfl | rfl
      · exact ha r (by simp [q])
      · exact ha r (by simp)
      · exact hx

theorem fold_put : ∀ (l acc : List RunT), AltW acc → AltW (l.foldl putW acc) ∧ ((l.foldl putW acc).map (·.2)).sum = (acc.map (·.2)).sum + (l.map (·.2)).sum ∧ (l.foldl putW acc).length ≤ acc.length + l.length
  | [], acc, h => ⟨h, by simp, by simp⟩
  | x :: l, acc, h => by
    obtain ⟨h1, h2, h3⟩ := fold_put l (putW acc x) (putW_alt acc x h)
    refine ⟨h1, ?_, ?_⟩
    · rw [List.foldl_cons, h2, putW_sum]
      simp only [List.map_cons, List.sum_cons]
      omega
    · rw [List.foldl_cons]
      have := putW_len acc x
      simp only [List.length_cons]
      omega

theorem fold_mem {p : RunT → Prop} (hp : ∀ l t t', p (l, t) → p (l, t') → p (l, t + t')) : ∀ (l acc : List RunT), (∀ r ∈ acc, p r) → (∀ r ∈ l, p r) → ∀ r ∈ l.foldl putW acc, p r
  | [], acc, ha, _ => ha
  | x :: l, acc, ha, hl => fold_mem hp l (putW acc x) (putW_mem hp ha (hl x (by simp))) (fun r hr => hl r (by simp [hr]))

/-- The wave of a channel. -/
def chanW (f : Int → Int) (runs : List RunT) : List RunT := joinW (runs.map fun r => (f r.1, r.2))

theorem runsB_facts {mask : Int} : ∀ (l : List RunT) (left : Int), runsB mask left l = true → 0 ≤ left → (∀ r ∈ l, 1 ≤ r.2 ∧ 0 ≤ r.1) ∧ (l.map (·.2)).sum ≤ left
  | [], left, _, h0 => ⟨by simp, by simpa using h0⟩
  | r :: l, left, h, h0 => by
    unfold runsB at h
    simp only [Bool.and_eq_true, decide_eq_true_eq] at h
    obtain ⟨h1, h2⟩ := runsB_facts l (left - r.2) h.2 (by omega)
    refine ⟨fun x hx => ?_, ?_⟩
    · rcases List.mem_cons.1 hx with rfl | hx
      · exact ⟨h.1.2.2.1, h.1.1⟩
      · exact h1 x hx
    · simp only [List.map_cons, List.sum_cons]
      omega

theorem chan_ok {f : Int → Int} (hf : ∀ v, f v = 0 ∨ f v = 1) {mask : Int} {runs : List RunT} (h : runsB mask 1099511627776 runs = true) (hl : runs.length ≤ 262144) : WaveOk (chanW f runs) ∧ AltW (chanW f runs) := by
  obtain ⟨h1, h2⟩ := runsB_facts runs _ h (by omega)
  unfold chanW joinW
  obtain ⟨a1, a2, a3⟩ := fold_put (runs.map fun r => (f r.1, r.2)) [] trivial
  have m1 := fold_mem (p := fun r => r.1 = 0 ∨ r.1 = 1) (fun l t t' q _ => q) (runs.map fun r => (f r.1, r.2)) [] (by simp) (fun r hr => by
    obtain ⟨x, _, rfl⟩ := List.mem_map.1 hr
    exact hf _)
  have m2 := fold_mem (p := fun r => 1 ≤ r.2) (fun l t t' q q' => by show 1 ≤ t + t'; have q : 1 ≤ t := q; have q' : 1 ≤ t' := q'; omega) (runs.map fun r => (f r.1, r.2)) [] (by simp) (fun r hr => by
    obtain ⟨x, hx, rfl⟩ := List.mem_map.1 hr
    exact (h1 x hx).1)
  refine ⟨⟨?_, m1, m2, ?_⟩, a1⟩
  · simp only [List.length_nil, List.length_map] at a3
    omega
  · rw [a2]
    have e : ((runs.map fun r => (f r.1, r.2)).map (·.2)) = runs.map (·.2) := by rw [List.map_map]; rfl
    rw [e]
    simp only [List.map_nil, List.sum_nil]
    omega

/-- Joining changes nothing where neighbours differ. -/
theorem join_alt : ∀ (l acc : List RunT), AltW (acc ++ l) → l.foldl putW acc = acc ++ l
  | [], acc, _ => by simp
  | x :: l, acc, h => by
    have e : putW acc x = acc ++ [x] := by
      rcases snoc_cases acc with rfl | ⟨b, y, rfl⟩
      · rfl
      · rw [putW_snoc, if_neg]
        · simp
        · have key : ∀ (b : List RunT), AltW (b ++ y :: x :: l) → y.1 ≠ x.1 := by
            intro b
            induction b with
            | nil => intro h; exact h.1
            | cons c b ih =>
              intro h
              cases b with
              | nil => exact h.2.1
              | cons d b => exact ih h.2
          exact key b (by simpa using h)
    rw [List.foldl_cons, e, join_alt l (acc ++ [x]) (by simpa using h)]
    simp

/-! ### changes -/
def chg : Int → List RunT → List (Int × Int)
  | _, [] => []
  | a, r :: l => (a, r.1) :: chg (a + r.2) l
def chgs : List RunT → List (Int × Int)
  | [] => []
  | r :: l => chg r.2 l

/-- Ascending, none below a bound. -/
def Asc : Int → List Int → Prop
  | _, [] => True
  | b, a :: r => b ≤ a ∧ Asc (a + 1) r

theorem asc_le : ∀ (l : List Int) (b c : Int), c ≤ b → Asc b l → Asc c l
  | [], _, _, _, _ => trivial
  | a :: r, b, c, h, ha => ⟨by have := ha.1; omega, ha.2⟩

theorem asc_filter (p : Int × Int → Bool) : ∀ (l : List (Int × Int)) (b : Int), Asc b (l.map (·.1)) → Asc b ((l.filter p).map (·.1))
  | [], _, _ => trivial
  | a :: r, b, h => by
    have ih := asc_filter p r (a.1 + 1) h.2
    have h1 : b ≤ a.1 := h.1
    rw [List.filter_cons]
    split
    · exact ⟨h1, ih⟩
    · exact asc_le _ _ _ (by omega) ih

theorem chg_facts : ∀ (l : List RunT) (a : Int) (t : Int), (∀ r ∈ l, 1 ≤ r.2) → a + (l.map (·.2)).sum ≤ t → Asc a ((chg a l).map (·.1)) ∧ (∀ p ∈ chg a l, a ≤ p.1 ∧ p.1 ≤ t) ∧ (chg a l).length = l.length
  | [], a, t, _, _ => ⟨trivial, by simp [chg], rfl⟩
  | r :: l, a, t, h, hs => by
    have h1 := h r (by simp)
    simp only [List.map_cons, List.sum_cons] at hs
    have hpos : ∀ (m : List RunT), (∀ r ∈ m, 1 ≤ r.2) → 0 ≤ (m.map (·.2)).sum := by
      intro m
      induction m with
      | nil => simp
      | cons x m ih =>
        intro hm
        have := ih (fun r hr => hm r (by simp [hr]))
        have := hm x (by simp)
        simp only [List.map_cons, List.sum_cons]
        omega
    have h0 := hpos l (fun r hr => h r (by simp [hr]))
    obtain ⟨i1, i2, i3⟩ := chg_facts l (a + r.2) t (fun r hr => h r (by simp [hr])) (by omega)
    refine ⟨⟨Int.le_refl _, asc_le _ (a + r.2) (a + 1) (by omega) i1⟩, fun p hp => ?_, by simp [chg, i3]⟩
    rcases List.mem_cons.1 hp with rfl | hp
    · exact ⟨Int.le_refl _, by simp only; omega⟩
    · have := i2 p hp
      exact ⟨by omega, this.2⟩

theorem chg_level : ∀ (l : List RunT) (a : Int), (∀ r ∈ l, r.1 = 0 ∨ r.1 = 1) → ∀ p ∈ chg a l, p.2 = 0 ∨ p.2 = 1
  | [], a, _, p, hp => by simp [chg] at hp
  | r :: l, a, h, p, hp => by
    rcases List.mem_cons.1 hp with rfl | hp
    · exact h r (by simp)
    · exact chg_level l _ (fun r hr => h r (by simp [hr])) p hp

structure ChgOk (c : List (Int × Int)) : Prop where
  asc : Asc 1 (c.map (·.1))
  top : ∀ p ∈ c, 1 ≤ p.1 ∧ p.1 ≤ 1099511627776
  level : ∀ p ∈ c, p.2 = 0 ∨ p.2 = 1
  len : c.length ≤ 262144

theorem chgs_ok {w : List RunT} (h : WaveOk w) : ChgOk (chgs w) := by
  cases w with
  | nil => exact ⟨trivial, by simp [chgs], by simp [chgs], by simp [chgs]⟩
  | cons r l =>
    have h1 := h.ticks r (by simp)
    have hs := h.sum
    simp only [List.map_cons, List.sum_cons] at hs
    obtain ⟨i1, i2, i3⟩ := chg_facts l r.2 1099511627776 (fun x hx => h.ticks x (by simp [hx])) (by omega)
    refine ⟨asc_le _ _ _ h1 i1, fun p hp => ?_, chg_level l r.2 (fun x hx => h.level x (by simp [hx])), ?_⟩
    · have := i2 p hp
      exact ⟨by omega, this.2⟩
    · show (chg r.2 l).length ≤ _
      rw [i3]
      have := h.len
      simp only [List.length_cons] at this
      omega

def toV (v : Int) (c : List (Int × Int)) : List Int := (c.filter fun p => p.2 == v).map (·.1)
def actV' (rising : Bool) (c : List (Int × Int)) : List Int := toV (if rising = true then 1 else 0) c

/-- Times that ascend, in bounds. -/
structure TimesOk (l : List Int) : Prop where
  asc : Asc 1 l
  top : ∀ t ∈ l, 1 ≤ t ∧ t ≤ 1099511627776
  len : l.length ≤ 262144

theorem toV_ok {c : List (Int × Int)} (h : ChgOk c) (v : Int) : TimesOk (toV v c) := by
  refine ⟨asc_filter _ c 1 h.asc, fun t ht => ?_, ?_⟩
  · obtain ⟨p, hp, rfl⟩ := List.mem_map.1 ht
    exact h.top p (List.mem_filter.1 hp).1
  · unfold toV
    rw [List.length_map]
    have := List.length_filter_le (fun p : Int × Int => p.2 == v) c
    have := h.len
    omega
theorem times_ok {c : List (Int × Int)} (h : ChgOk c) : TimesOk (c.map (·.1)) := ⟨h.asc, fun t ht => by
  obtain ⟨p, hp, rfl⟩ := List.mem_map.1 ht
  exact h.top p hp, by rw [List.length_map]; exact h.len⟩

/-! ### measurements -/
def perV : List Int → List GapT
  | a :: b :: r => (a, b - a) :: perV (b :: r)
  | _ => []
def pulV (v : Int) : List (Int × Int) → List GapT
  | p :: q :: r => (if p.2 = v then [(p.1, q.1 - p.1)] else []) ++ pulV v (q :: r)
  | _ => []

def uptoV (d : List Int) (t : Int) : Nat := (d.takeWhile fun x => decide (x ≤ t)).length
def supG (d : List Int) (t : Int) : List GapT := if 0 < uptoV d t then [(d.getD (uptoV d t - 1) 0, t - d.getD (uptoV d t - 1) 0)] else []
def supV (d a : List Int) : List GapT := a.flatMap (supG d)
def aftG (d : List Int) (t : Int) : List GapT := if uptoV d t < d.length then [(t, d.getD (uptoV d t) 0 - t)] else []
def aftV (d a : List Int) : List GapT := a.flatMap (aftG d)

def gapsV (x : LimT) (data clock : List RunT) : List GapT :=
  if x.1 = 1 then perV (toV 1 (chgs data)) else if x.1 = 2 then pulV 1 (chgs data) else if x.1 = 3 then pulV 0 (chgs data)
  else if x.1 = 4 then supV ((chgs data).map (·.1)) (actV' x.2.2.2.1 (chgs clock)) else if x.1 = 5 then aftV ((chgs data).map (·.1)) (actV' x.2.2.2.1 (chgs clock))
  else aftV (toV 1 (chgs data)) (actV' x.2.2.2.1 (chgs clock))

theorem uptoV_le (d : List Int) (t : Int) : uptoV d t ≤ d.length := (List.takeWhile_sublist _).length_le
theorem uptoV_mono : ∀ (d : List Int) {s t : Int}, s ≤ t → uptoV d s ≤ uptoV d t
  | [], _, _, _ => Nat.le_refl _
  | x :: d, s, t, h => by
    unfold uptoV
    rw [List.takeWhile_cons, List.takeWhile_cons]
    by_cases h1 : x ≤ s
    · rw [if_pos (by simpa using h1), if_pos (by simpa using (by omega : x ≤ t))]
      have := uptoV_mono d h
      unfold uptoV at this
      simp only [List.length_cons]
      omega
    · rw [if_neg (by simpa using h1)]
      simp

/-- What a pointer that goes over times up to t reaches. -/
theorem uptoV_at : ∀ (d : List Int) (t : Int) (k : Nat), k < uptoV d t → d.getD k 0 ≤ t
  | [], t, k, h => by simp [uptoV] at h
  | x :: d, t, k, h => by
    unfold uptoV at h
    rw [List.takeWhile_cons] at h
    by_cases h1 : x ≤ t
    · rw [if_pos (by simpa using h1)] at h
      cases k with
      | zero => simpa using h1
      | succ k =>
        simp only [List.length_cons] at h
        have := uptoV_at d t k (by unfold uptoV; omega)
        simpa using this
    · rw [if_neg (by simpa using h1)] at h
      simp at h
theorem uptoV_end : ∀ (d : List Int) (t : Int), uptoV d t < d.length → t < d.getD (uptoV d t) 0
  | [], t, h => by simp [uptoV] at h
  | x :: d, t, h => by
    unfold uptoV at h ⊢
    rw [List.takeWhile_cons] at h ⊢
    by_cases h1 : x ≤ t
    · rw [if_pos (by simpa using h1)] at h ⊢
      simp only [List.length_cons] at h ⊢
      have := uptoV_end d t (by unfold uptoV; omega)
      unfold uptoV at this
      simpa using this
    · rw [if_neg (by simpa using h1)]
      simp
      omega

theorem getD_mem {l : List Int} {k : Nat} (h : k < l.length) : l.getD k 0 ∈ l := by
  rw [List.getD_eq_getElem?_getD, List.getElem?_eq_getElem h]
  simp

structure GapsOk (g : List GapT) : Prop where
  len : g.length ≤ 262144
  ok : ∀ x ∈ g, 0 ≤ x.2 ∧ x.2 ≤ 1099511627776 ∧ 0 ≤ x.1 ∧ x.1 ≤ 1099511627776

theorem perV_ok : ∀ (l : List Int), Asc 1 l → (∀ t ∈ l, 1 ≤ t ∧ t ≤ 1099511627776) → (∀ x ∈ perV l, 0 ≤ x.2 ∧ x.2 ≤ 1099511627776 ∧ 0 ≤ x.1 ∧ x.1 ≤ 1099511627776) ∧ (perV l).length ≤ l.length
  | [], _, _ => by simp [perV]
  | [a], _, _ => by simp [perV]
  | a :: b :: r, h, ht => by
    obtain ⟨h1, h2⟩ := perV_ok (b :: r) ⟨by have := h.2.1; have := h.1; omega, h.2.2⟩ (fun t q => ht t (by simp [q]))
    have ha := ht a (by simp)
    have hb := ht b (by simp)
    have := h.2.1
    refine ⟨fun x hx => ?_, by simp only [perV, List.length_cons] at h2 ⊢; omega⟩
    unfold perV at hx
    rcases List.mem_cons.1 hx with rfl | hx
    · exact ⟨by simp only; omega, by simp only; omega, by simp only; omega, by simp only; omega⟩
    · exact h1 x hx

theorem pulV_ok (v : Int) : ∀ (l : List (Int × Int)), Asc 1 (l.map (·.1)) → (∀ t ∈ l, 1 ≤ t.1 ∧ t.1 ≤ 1099511627776) → (∀ x ∈ pulV v l, 0 ≤ x.2 ∧ x.2 ≤ 1099511627776 ∧ 0 ≤ x.1 ∧ x.1 ≤ 1099511627776) ∧ (pulV v l).length ≤ l.length
  | [], _, _ => by simp [pulV]
  | [a], _, _ => by simp [pulV]
  | a :: b :: r, h, ht => by
    obtain ⟨h1, h2⟩ := pulV_ok v (b :: r) ⟨by have h21 := h.2.1; have h01 := h.1; simp only at h21 h01 ⊢; omega, h.2.2⟩ (fun t q => ht t (by simp [q]))
    have ha := ht a (by simp)
    have hb := ht b (by simp)
    have hab : a.1 + 1 ≤ b.1 := h.2.1
    have hl : (if a.2 = v then [(a.1, b.1 - a.1)] else ([] : List GapT)).length ≤ 1 := by split <;> simp
    refine ⟨fun x hx => ?_, by simp only [pulV, List.length_cons, List.length_append] at h2 ⊢; omega⟩
    unfold pulV at hx
    rcases List.mem_append.1 hx with hx | hx
    · split at hx
      · simp only [List.mem_singleton] at hx
        subst hx
        exact ⟨by simp only; omega, by simp only; omega, by simp only; omega, by simp only; omega⟩
      · simp at hx
    · exact h1 x hx

theorem supV_ok {d a : List Int} (hd : TimesOk d) (ha : TimesOk a) : GapsOk (supV d a) := by
  constructor
  · have : ∀ m : List Int, (m.flatMap (supG d)).length ≤ m.length := by
      intro m
      induction m with
      | nil => simp
      | cons t m ih =>
        have : (supG d t).length ≤ 1 := by unfold supG; split <;> simp
        simp only [List.flatMap_cons, List.length_append, List.length_cons]
        omega
    have h1 := this a
    have := ha.len
    unfold supV
    omega
  · intro x hx
    obtain ⟨t, ht, hx⟩ := List.mem_flatMap.1 hx
    unfold supG at hx
    split at hx
    · rename_i hp
      simp only [List.mem_singleton] at hx
      subst hx
      have h1 := uptoV_at d t (uptoV d t - 1) (by omega)
      have h2 := hd.top _ (getD_mem (l := d) (k := uptoV d t - 1) (by have := uptoV_le d t; omega))
      have h3 := ha.top t ht
      exact ⟨by simp only; omega, by simp only; omega, by simp only; omega, by simp only; omega⟩
    · simp at hx

theorem aftV_ok {d a : List Int} (hd : TimesOk d) (ha : TimesOk a) : GapsOk (aftV d a) := by
  constructor
  · have : ∀ m : List Int, (m.flatMap (aftG d)).length ≤ m.length := by
      intro m
      induction m with
      | nil => simp
      | cons t m ih =>
        have : (aftG d t).length ≤ 1 := by unfold aftG; split <;> simp
        simp only [List.flatMap_cons, List.length_append, List.length_cons]
        omega
    have h1 := this a
    have := ha.len
    unfold aftV
    omega
  · intro x hx
    obtain ⟨t, ht, hx⟩ := List.mem_flatMap.1 hx
    unfold aftG at hx
    split at hx
    · rename_i hp
      simp only [List.mem_singleton] at hx
      subst hx
      have h1 := uptoV_end d t hp
      have h2 := hd.top _ (getD_mem (l := d) (k := uptoV d t) hp)
      have h3 := ha.top t ht
      exact ⟨by simp only; omega, by simp only; omega, by simp only; omega, by simp only; omega⟩
    · simp at hx

theorem gapsV_ok (x : LimT) {data clock : List RunT} (hd : WaveOk data) (hc : WaveOk clock) : GapsOk (gapsV x data clock) := by
  have cd := chgs_ok hd
  have cc := chgs_ok hc
  unfold gapsV
  split
  · have h := toV_ok cd 1
    have := perV_ok _ h.asc h.top
    exact ⟨by have := h.len; omega, this.1⟩
  split
  · have := pulV_ok 1 _ cd.asc cd.top
    exact ⟨by have := cd.len; omega, this.1⟩
  split
  · have := pulV_ok 0 _ cd.asc cd.top
    exact ⟨by have := cd.len; omega, this.1⟩
  split
  · exact supV_ok (times_ok cd) (toV_ok cc _)
  split
  · exact aftV_ok (times_ok cd) (toV_ok cc _)
  · exact aftV_ok (toV_ok cd 1) (toV_ok cc _)

/-! ### limits of a capture -/
def hasB (l : List ByteArray) (s : ByteArray) : Bool := l.any fun b => L b == L s
/-- The first wrong limit and its error. -/
def limsE (names : List ByteArray) : Nat → List LimT → Int × Int
  | _, [] => (-1, 0)
  | i, x :: r => if formE x = 0 then (if hasB names x.2.1 = true ∧ (clkB x.1 = true → hasB names x.2.2.1 = true) then limsE names (i + 1) r else ((i : Int), 8)) else ((i : Int), formE x)
def lcheckV (c : List ByteArray × List RunT) (l : List LimT) : Int × Int := if capE c = 0 then (if 64 < l.length then (-1, 6) else limsE c.1 0 l) else (-1, capE c)

def outB (x : LimT) (g : GapT) : Bool := decide (g.2 < x.2.2.2.2.1 ∨ x.2.2.2.2.2 < g.2)
def awayI (x : LimT) (g : GapT) : Int := if 2 * g.2 - x.2.2.2.2.1 - x.2.2.2.2.2 < 0 then -(2 * g.2 - x.2.2.2.2.1 - x.2.2.2.2.2) else 2 * g.2 - x.2.2.2.2.1 - x.2.2.2.2.2
def worstF (x : LimT) (best : GapT) (l : List GapT) : GapT := l.foldl (fun b g => if awayI x g > awayI x b then g else b) best

theorem worstF_cons (x : LimT) (b g : GapT) (l : List GapT) : worstF x b (g :: l) = worstF x (if awayI x g > awayI x b then g else b) l := rfl
theorem worstF_ge (x : LimT) : ∀ (l : List GapT) (b : GapT), awayI x b ≤ awayI x (worstF x b l) ∧ ∀ g ∈ l, awayI x g ≤ awayI x (worstF x b l)
  | [], b => ⟨Int.le_refl _, by simp⟩
  | g :: l, b => by
    obtain ⟨h1, h2⟩ := worstF_ge x l (if awayI x g > awayI x b then g else b)
    have hb : awayI x b ≤ awayI x (if awayI x g > awayI x b then g else b) := by split <;> omega
    have hg : awayI x g ≤ awayI x (if awayI x g > awayI x b then g else b) := by split <;> omega
    rw [worstF_cons]
    refine ⟨by omega, fun y hy => ?_⟩
    rcases List.mem_cons.1 hy with rfl | hy
    · omega
    · exact h2 y hy
theorem worstF_mem (x : LimT) : ∀ (l : List GapT) (b : GapT), worstF x b l = b ∨ worstF x b l ∈ l
  | [], b => .inl rfl
  | g :: l, b => by
    rw [worstF_cons]
    rcases worstF_mem x l (if awayI x g > awayI x b then g else b) with h | h
    · rw [h]
      split
      · exact .inr (by simp)
      · exact .inl rfl
    · exact .inr (by simp [h])

theorem out_away {x : LimT} (h : x.2.2.2.2.1 ≤ x.2.2.2.2.2) (g : GapT) : outB x g = true ↔ awayI x g > x.2.2.2.2.2 - x.2.2.2.2.1 := by
  unfold outB awayI
  rw [decide_eq_true_eq]
  split <;> omega

theorem worst_out {x : LimT} (h : x.2.2.2.2.1 ≤ x.2.2.2.2.2) (g : GapT) (l : List GapT) : outB x (worstF x g (g :: l)) = (g :: l).any (outB x) := by
  rw [Bool.eq_iff_iff, List.any_eq_true]
  constructor
  · intro hw
    rcases worstF_mem x (g :: l) g with e | e
    · exact ⟨g, by simp, by rw [e] at hw; exact hw⟩
    · exact ⟨_, e, hw⟩
  · intro ⟨y, hy, ho⟩
    have := (worstF_ge x (g :: l) g).2 y hy
    rw [out_away h] at ho ⊢
    omega

def violV (i : Nat) (x : LimT) (g : List GapT) : List (Int × GapT) := (g.filter (outB x)).map fun y => ((i : Int), y)

end Go.AM
end
