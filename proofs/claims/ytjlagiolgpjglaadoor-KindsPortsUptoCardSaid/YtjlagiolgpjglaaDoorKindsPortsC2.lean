/-
The plain functions of the program that the law KindsPorts reaches, that the program computes them, and what they come to. No condition.
-/
import Derived.Test.YtjlagiolgpjglaaDoorAm1
import Derived.Test.YtjlagiolgpjglaaDoorAm2
import Derived.Test.YtjlagiolgpjglaaDoorAm3
import Derived.Test.YtjlagiolgpjglaaDoorKindsPortsC1
set_option linter.unusedVariables false
set_option linter.unusedSimpArgs false
set_option linter.unusedSectionVars false

section
/-
YtjlagiolgpjglaaDoor: the table of kinds, as plain functions read it, and what they find in it. No condition.
-/
set_option maxRecDepth 100000
set_option linter.unusedVariables false
open Go Go.AM
namespace Go.Proofs.YtjlagiolgpjglaaDoor

/-! ### lines -/
theorem ixb_none : ∀ (x : List UInt8) (c : UInt8), c ∉ x → Lib.indexByte x c = -1
  | [], c, _ => rfl
  | a :: x, c, h => by
    have h1 : a ≠ c := fun e => h (by simp [e])
    have h2 := ixb_none x c (fun q => h (by simp [q]))
    unfold Lib.indexByte
    rw [if_neg (by simpa using h1), h2]
    rfl
theorem ixb_some : ∀ (x : List UInt8) (c : UInt8) (t : List UInt8), c ∉ x → Lib.indexByte (x ++ c :: t) c = x.length
  | [], c, t, _ => by
    show Lib.indexByte (c :: t) c = 0
    unfold Lib.indexByte
    rw [if_pos (by simp)]
  | a :: x, c, t, h => by
    have h1 : a ≠ c := fun e => h (by simp [e])
    have h2 := ixb_some x c t (fun q => h (by simp [q]))
    show Lib.indexByte (a :: (x ++ c :: t)) c = _
    unfold Lib.indexByte
    rw [if_neg (by simpa using h1), h2]
    simp

theorem index1 (s : ByteArray) (c : UInt8) : strings_Index s (strB [c]) = some ((Lib.indexByte (L s) c, ()), ()) := by
  unfold strings_Index stringslite_Index
  have hs : ((strB [c]).size : Int) = 1 := rfl
  have hb : bt (strB [c]) 0 = c.toNat := rfl
  rw [if_neg (eF (by rw [hs]; omega))]
  by_cases h : L (strB [c]) = L s
  · rw [if_pos (by rw [toL, toL]; simpa using h), ← h]
    show some (((0 : Int), ()), ()) = some ((Lib.indexByte [c] c, ()), ())
    unfold Lib.indexByte
    rw [if_pos (by simp)]
  · rw [if_neg (by rw [toL, toL]; simpa using h), if_pos (eT hs), if_pos ⟨by omega, by rw [hs]; omega⟩, hb]
    unfold stringslite_IndexByte
    simp only [Option.bind_some]
    have : ((c.toNat : Nat) : Int).toNat.toUInt8 = c := by simp
    rw [this]
    rfl

def joinN (c : UInt8) (x : List UInt8) : List (List UInt8) → List UInt8
  | [] => x
  | y :: r => x ++ c :: joinN c y r

theorem joinN_len (c : UInt8) : ∀ (r : List (List UInt8)) (x : List UInt8), r.length ≤ (joinN c x r).length
  | [], x => by simp
  | y :: r, x => by
    have := joinN_len c r y
    simp only [joinN, List.length_cons, List.length_append]
    omega

theorem split14 (c : UInt8) : ∀ (r : List (List UInt8)) (x : List UInt8) (s : ByteArray) (done : List ByteArray), L s = joinN c x r → s.size ≤ 1000000 → done.length + r.length ≤ 1000000 → c ∉ x → (∀ y ∈ r, c ∉ y) →
    strings_genSplit_l14 s (strB [c]) 0 ((done.length + r.length : Nat) : Int) (done.length : Int) (done ++ List.replicate (r.length + 1) (strB [])) = some ((done ++ (x :: r).map strB, ()), ())
  | [], x, s, done, hs, hz, hd, hx, hr => by
    have e : s = strB x := L_inj (by rw [hs]; rfl)
    have hset : (done ++ List.replicate (([] : List (List UInt8)).length + 1) (strB [])).set (done.length : Int).toNat s = done ++ [strB x] := by
      rw [Int.toNat_natCast, e]
      simp
    rw [strings_genSplit_l14_eq, if_neg (dF (by simp)), strings_genSplit_l13_eq, if_pos ⟨by omega, by simp; omega⟩, hset, w64a _ (by omega), if_pos ⟨by omega, by omega, by simp⟩, Int.toNat_natCast, List.take_of_length_le (by simp)]
    simp
  | y :: r, x, s, done, hs, hz, hd, hx, hr => by
    have hy : c ∉ y := hr y (by simp)
    have hr' : ∀ z ∈ r, c ∉ z := fun z q => hr z (by simp [q])
    have hix : Lib.indexByte (L s) c = x.length := by rw [hs]; exact ixb_some x c _ hx
    have hlen : (L s).length = s.size := L_len s
    have hxl : x.length + 1 ≤ s.size := by rw [← hlen, hs]; simp [joinN]
    have h1 : ((strB [c]).size : Int) = 1 := rfl
    simp only [List.length_cons] at hd
    have e1 : s.extract 0 x.length = strB x := L_inj (by rw [L_take, hs, L_strB]; simp [joinN])
    have e2 : L (s.extract (x.length + 1) s.size) = joinN c y r := by rw [L_ext', hs]; simp [joinN]
    have hset : (done ++ List.replicate ((y :: r).length + 1) (strB [])).set done.length (strB x) = (done ++ [strB x]) ++ List.replicate (r.length + 1) (strB []) := by
      rw [List.length_cons, List.replicate_succ]
      simp
    have hdl : (done ++ [strB x]).length = done.length + 1 := by simp
    have ih := split14 c r y (s.extract (x.length + 1) s.size) (done ++ [strB x]) e2 (by rw [← L_len, L_ext', List.length_drop, hlen]; omega) (by rw [hdl]; omega) hy hr'
    rw [hdl] at ih
    rw [strings_genSplit_l14_eq, if_pos (dT (by simp only [List.length_cons]; omega)), index1, hix]
    simp only [Option.bind_some]
    rw [if_neg (dF (by omega)), w64 (x := (x.length : Int) + 0) (by omega) (by omega), Int.add_zero, if_pos ⟨by omega, by omega, by omega⟩, if_pos ⟨by omega, by simp; omega⟩, h1, w64 (x := (x.length : Int) + 1) (by omega) (by omega), if_pos ⟨by omega, by omega⟩, show ((x.length : Int) + 1).toNat = x.length + 1 by omega, Int.toNat_natCast, Int.toNat_natCast, e1, hset, w64a _ (by omega)]
    have e3 : ((done.length + (y :: r).length : Nat) : Int) = ((done.length + 1 + r.length : Nat) : Int) := by simp only [List.length_cons]; omega
    rw [e3]
    refine Eq.trans ih ?_
    simp

/-- A line of the table. -/
def restL (l : List ByteArray) : List UInt8 := match l with
  | [] => []
  | a :: r => joinN 32 (L a) (r.map L)
def lineL (p : ByteArray × List ByteArray) : List UInt8 := L p.1 ++ 32 :: restL p.2
def lines : List (List UInt8) := kt.map lineL
def linesB : List ByteArray := lines.map strB

theorem table_lines : L tableB = joinN 10 (lines.headD []) lines.tail := by kernel_rfl
theorem lines_ok : (lines.all fun y => !(y.contains 10)) = true := by kernel_rfl
theorem lines_len : lines.length = 19 := by kernel_rfl
theorem count_tab : Lib.countByte tableB.data.toList 10 = 18 := by kernel_rfl
theorem size_tab : tableB.size ≤ 1000000 := by decide +kernel

theorem split_b : strings_Split tableB (strB [10]) = some ((linesB, ()), ()) := by
  have hl := lines_len
  obtain ⟨x, r, hq⟩ : ∃ x r, lines = x :: r := by
    cases h : lines with
    | nil => rw [h] at hl; simp at hl
    | cons x r => exact ⟨x, r, rfl⟩
  have ht : L tableB = joinN 10 x r := by have := table_lines; rwa [hq] at this
  have hall : ∀ y ∈ x :: r, (10 : UInt8) ∉ y := fun y hy => by
    have := List.all_eq_true.1 lines_ok y (by rw [hq]; exact hy)
    simpa using this
  have hrl : r.length = 18 := by rw [hq] at hl; simpa using hl
  unfold strings_Split strings_genSplit
  have hc : strings_Count tableB (strB [10]) = some (((18 : Int), ()), ()) := by
    unfold strings_Count countG
    rw [if_pos (show (strB [10]).size = 1 from rfl)]
    show some ((((Lib.countByte tableB.data.toList 10 : Nat) : Int), ()), ()) = _
    rw [count_tab]
    rfl
  have hsz : ((tableB.size : Nat) : Int) = (tableB.size : Int) := rfl
  have h2 := size_tab
  have h3 : 18 ≤ tableB.size := by rw [← L_len, ht, ← hrl]; exact joinN_len 10 r x
  rw [if_neg (by decide), if_neg (show ¬ ((strB [10]).toList == (strB []).toList) = true by rw [toL, toL, L_strB, L_strB]; decide), if_pos (by decide), hc]
  simp only [Option.bind_some]
  have e := split14 10 r x tableB [] ht (by omega) (by simp; omega) (hall x (by simp)) (fun y hy => hall y (by simp [hy]))
  rw [hrl] at e
  have hm : (if IntKind.i64.wrap ((tableB.size : Int) + 1) < (19 : Int) then IntKind.i64.wrap ((tableB.size : Int) + 1) else 19) = 19 := by
    rw [w64 (by omega) (by omega)]
    split <;> omega
  rw [show IntKind.i64.wrap ((18 : Int) + 1) = 19 by decide, strings_genSplit_l7_eq, hm, if_pos (by omega), show IntKind.i64.wrap ((19 : Int) - 1) = 18 by decide]
  rw [show strings_genSplit_l14 tableB (strB [10]) 0 18 0 (List.replicate (19 : Int).toNat (strB [])) = _ from e]
  show some (((x :: r).map strB, ()), ()) = _
  rw [← hq]
  rfl

/-! ### words -/
theorem cut_all : kt.map (fun p => strings_Cut (strB (lineL p)) (strB [32])) = kt.map (fun p => some ((p.1, strB (restL p.2), true, ()), ())) := by kernel_rfl
theorem fields_all : kt.map (fun p => strings_Fields (strB (restL p.2))) = kt.map (fun p => some (((), ()), (p.2, ()))) := by kernel_rfl
theorem cut_b {p : ByteArray × List ByteArray} (h : p ∈ kt) : strings_Cut (strB (lineL p)) (strB [32]) = some ((p.1, strB (restL p.2), true, ()), ()) := List.map_inj_left.1 cut_all p h
theorem fields_b {p : ByteArray × List ByteArray} (h : p ∈ kt) : strings_Fields (strB (restL p.2)) = some (((), ()), (p.2, ())) := List.map_inj_left.1 fields_all p h

theorem lines_at {r : List (ByteArray × List ByteArray)} {p : ByteArray × List ByteArray} {k : Nat} (h : kt.drop k = p :: r) : linesB.getD (k : Int).toNat (strB []) = strB (lineL p) := by
  have : linesB.drop k = strB (lineL p) :: r.map (fun q => strB (lineL q)) := by
    unfold linesB lines
    rw [List.map_map, ← List.map_drop, h]
    rfl
  exact getD_drop this
theorem linesB_len : linesB.length = 19 := by kernel_rfl
theorem kt_len : kt.length = 19 := by kernel_rfl

theorem words3 (kind : ByteArray) : ∀ (r : List (ByteArray × List ByteArray)) (k : Nat), kt.drop k = r → kinds_words_l3 kind linesB (linesB.length : Int) k = some (((match r.find? (fun p => L p.1 == L kind) with | some p => p.2 | none => []), ()), ())
  | [], k, h => by
    have h1 := drop_nil h
    have h2 := linesB_len
    have h3 := kt_len
    rw [kinds_words_l3_eq, if_neg (dF (by omega))]
    rfl
  | p :: r, k, h => by
    have h1 := drop_lt h
    have h2 := linesB_len
    have h3 := kt_len
    have hp := mem_drop h
    rw [kinds_words_l3_eq, if_pos (dT (by omega)), if_pos ⟨by omega, by omega⟩, lines_at h, cut_b hp, w64a k (by omega)]
    simp only [Option.bind_some, toL, List.find?_cons]
    by_cases he : L p.1 = L kind
    · rw [if_pos (beq_iff_eq.2 he), fields_b hp, show (L p.1 == L kind) = true from beq_iff_eq.2 he]
      rfl
    · rw [if_neg (by simpa using he), words3 kind r (k + 1) (dropS h), show (L p.1 == L kind) = false from beq_eq_false_iff_ne.2 he]

theorem words_b (kind : ByteArray) : kinds_words kind = some ((wordsV kind, ()), ()) := by
  show ((strings_Split tableB (strB [10])).bind fun y1 => kinds_words_l3 kind y1.1.1 (y1.1.1.length : Int) 0) = _
  rw [split_b]
  exact words3 kind kt 0 rfl

theorem kinds4 : ∀ (r : List (ByteArray × List ByteArray)) (k : Nat) (acc : List ByteArray), kt.drop k = r → acc.length ≤ k → kinds_Kinds_l4 linesB (linesB.length : Int) k acc = some ((acc ++ r.map (·.1), ()), ())
  | [], k, acc, h, ha => by
    have h1 := drop_nil h
    have h2 := linesB_len
    have h3 := kt_len
    rw [kinds_Kinds_l4_eq, if_neg (dF (by omega))]
    simp
  | p :: r, k, acc, h, ha => by
    have h1 := drop_lt h
    have h2 := linesB_len
    have h3 := kt_len
    rw [kinds_Kinds_l4_eq, if_pos (dT (by omega)), if_pos ⟨by omega, by omega⟩, lines_at h, cut_b (mem_drop h), w64a k (by omega)]
    simp only [Option.bind_some]
    rw [if_pos ⟨by omega, by decide⟩, kinds4 r (k + 1) _ (dropS h) (by simp; omega)]
    simp
theorem kinds_b : kinds_Kinds = some ((kt.map (·.1), ()), ()) := by
  show ((strings_Split tableB (strB [10])).bind fun y1 => kinds_Kinds_l4 y1.1.1 (y1.1.1.length : Int) 0 []) = _
  rw [split_b]
  exact (kinds4 kt 0 [] rfl (by simp)).trans (by rw [List.nil_append])

/-! ### numbers -/
def isNum (b : ByteArray) : Bool := decide (b.size ≤ 18) && (Lib.atoi (L b) == some (digI (L b)))
def quads : List ByteArray → Bool
  | n :: a :: b :: c :: r => isNum a && isNum b && isNum c && quads r
  | _ => true
def goodW (l : List ByteArray) : Bool := l.isEmpty || (decide (3 ≤ l.length) && (l.take 3).all isNum && quads (l.drop 3))
theorem kt_words : (kt.all fun p => goodW p.2 && decide (p.2.length ≤ 40)) = true := by kernel_rfl
theorem words_good (kind : ByteArray) : goodW (wordsV kind) = true ∧ (wordsV kind).length ≤ 40 := by
  rcases kind_cases kind with ⟨p, hp, rfl⟩ | ⟨_, h⟩
  · unfold wordsV
    cases hq : kt.find? (fun q => L q.1 == L p.1) with
    | none => exact ⟨rfl, by simp⟩
    | some q =>
      have := List.all_eq_true.1 kt_words q (List.mem_of_find?_eq_some hq)
      simp only [Bool.and_eq_true, decide_eq_true_eq] at this
      exact this
  · rw [h]; exact ⟨rfl, by simp⟩

theorem atoi_b {b : ByteArray} (h : isNum b = true) : strconv_Atoi b = some ((digI (L b), (), ()), ()) := by
  unfold isNum at h
  simp only [Bool.and_eq_true, decide_eq_true_eq, beq_iff_eq] at h
  unfold strconv_Atoi atoiG
  rw [if_pos h.1, show Lib.atoi b.data.toList = some (digI (L b)) from h.2]
  rfl

theorem number_b (l : List ByteArray) (hl : l.length ≤ 1000) (i : Nat) (h : ∀ b, l[i]? = some b → isNum b = true) : kinds_number l i = some ((numK l i, ()), ()) := by
  unfold kinds_number numK
  by_cases hi : i < l.length
  · have hg : l[i]? = some l[i] := List.getElem?_eq_getElem hi
    rw [if_neg (dF (by omega)), if_pos ⟨by omega, by omega⟩, Int.toNat_natCast, getD_in (strB []) hi, atoi_b (h _ hg), hg]
    rfl
  · rw [if_pos (dT (by omega)), List.getElem?_eq_none (by omega)]

theorem good3 {l : List ByteArray} (h : goodW l = true) (i : Nat) (hi : i < 3) : ∀ b, l[i]? = some b → isNum b = true := fun b hb => by
  unfold goodW at h
  simp only [Bool.or_eq_true, Bool.and_eq_true] at h
  rcases h with h | h
  · rw [List.isEmpty_iff.1 h] at hb; simp at hb
  · refine List.all_eq_true.1 h.1.2 b ?_
    have : (l.take 3)[i]? = some b := by rw [List.getElem?_take, if_pos hi]; exact hb
    exact List.mem_of_getElem? this

theorem input_b (kind : ByteArray) : kinds_Input kind = some ((inK kind, ()), ()) := by
  have hw := words_good kind
  unfold kinds_Input inK
  rw [words_b]
  simp only [Option.bind_some]
  rw [show kinds_number (wordsV kind) 0 = _ from number_b _ (by omega) 0 (good3 hw.1 0 (by omega))]
  rfl
theorem output_b (kind : ByteArray) : kinds_Output kind = some ((outK kind, ()), ()) := by
  have hw := words_good kind
  unfold kinds_Output outK
  rw [words_b]
  simp only [Option.bind_some]
  rw [show kinds_number (wordsV kind) 1 = _ from number_b _ (by omega) 1 (good3 hw.1 1 (by omega))]
  rfl
theorem channels_b (kind : ByteArray) : kinds_Channels kind = some ((chanK kind, ()), ()) := by
  have hw := words_good kind
  unfold kinds_Channels chanK
  rw [words_b]
  simp only [Option.bind_some]
  rw [show kinds_number (wordsV kind) 2 = _ from number_b _ (by omega) 2 (good3 hw.1 2 (by omega))]
  rfl

theorem specsF_short (k : Nat) (l : List ByteArray) (h : l.length < 4) : specsF k l = [] := by
  cases k with
  | zero => rfl
  | succ k =>
    match l, h with
    | [], _ => rfl
    | [_], _ => rfl
    | [_, _], _ => rfl
    | [_, _, _], _ => rfl
    | _ :: _ :: _ :: _ :: _, h => simp at h; omega

theorem specs5 (l : List ByteArray) (hl : l.length ≤ 1000) : ∀ (k i : Nat) (acc : List SpecT), l.length ≤ i + 4 * k → quads (l.drop i) = true → acc.length ≤ i → i ≤ 1010 → kinds_Specs_l5 l i acc = some ((acc ++ specsF k (l.drop i), ()), ())
  | 0, i, acc, hk, hq, ha, hi => by
    rw [kinds_Specs_l5_eq, w64 (x := (i : Int) + 3) (by omega) (by omega), if_neg (dF (by omega)), specsF, List.append_nil]
  | k + 1, i, acc, hk, hq, ha, hi => by
    by_cases h4 : (l.drop i).length < 4
    · have hd : (l.drop i).length = l.length - i := List.length_drop ..
      rw [specsF_short (k + 1) _ h4, kinds_Specs_l5_eq, List.append_nil, w64 (x := (i : Int) + 3) (by omega) (by omega), if_neg (dF (by omega))]
    · match hm : l.drop i, h4 with
      | n :: a :: b :: c :: r, _ =>
        have hlt : i + 3 < l.length := by
          have : (l.drop i).length = l.length - i := List.length_drop ..
          rw [hm] at this
          simp only [List.length_cons] at this
          omega
        have g0 : l.getD (i : Int).toNat (strB []) = n := getD_drop hm
        have d1 := dropS hm
        have d2 := dropS d1
        have d3 := dropS d2
        have d4 := dropS d3
        have at_ : ∀ (j : Nat) (z : ByteArray) (t : List ByteArray), l.drop j = z :: t → l[j]? = some z := fun j z t hj => by
          have : (l.drop j)[0]? = some z := by rw [hj]; rfl
          rwa [List.getElem?_drop, Nat.add_zero] at this
        rw [hm] at hq
        simp only [quads, Bool.and_eq_true] at hq
        have n1 : numK l (i + 1) = digI (L a) := by unfold numK; rw [at_ _ _ _ d1]
        have n2 : numK l (i + 1 + 1) = digI (L b) := by unfold numK; rw [at_ _ _ _ d2]
        have n3 : numK l (i + 1 + 1 + 1) = digI (L c) := by unfold numK; rw [at_ _ _ _ d3]
        have k1 := number_b l hl (i + 1) (fun z hz => by rw [at_ _ _ _ d1] at hz; cases hz; exact hq.1.1.1)
        have k2 := number_b l hl (i + 1 + 1) (fun z hz => by rw [at_ _ _ _ d2] at hz; cases hz; exact hq.1.1.2)
        have k3 := number_b l hl (i + 1 + 1 + 1) (fun z hz => by rw [at_ _ _ _ d3] at hz; cases hz; exact hq.1.2)
        rw [kinds_Specs_l5_eq, w64 (x := (i : Int) + 3) (by omega) (by omega), if_pos (dT (by omega)), if_pos ⟨by omega, by omega⟩, g0, w64 (x := (i : Int) + 1) (by omega) (by omega), w64 (x := (i : Int) + 2) (by omega) (by omega), w64 (x := (i : Int) + 4) (by omega) (by omega),
          show ((i : Int) + 1) = ((i + 1 : Nat) : Int) by omega, show ((i : Int) + 2) = ((i + 1 + 1 : Nat) : Int) by omega, show ((i : Int) + 3) = ((i + 1 + 1 + 1 : Nat) : Int) by omega, show ((i : Int) + 4) = ((i + 4 : Nat) : Int) by omega, k1, k2, k3, n1, n2, n3]
        simp only [Option.bind_some]
        rw [if_pos ⟨by omega, by decide⟩, specs5 l hl k (i + 4) _ (by omega) (by rw [show i + 4 = i + 1 + 1 + 1 + 1 by omega, d4]; exact hq.2) (by simp; omega) (by omega), show i + 4 = i + 1 + 1 + 1 + 1 by omega, d4, specsF]
        simp
      | [], h => simp at h
      | [_], h => simp at h
      | [_, _], h => simp at h
      | [_, _, _], h => simp at h

theorem specs_b (kind : ByteArray) : kinds_Specs kind = some ((specsV kind, ()), ()) := by
  have hw := words_good kind
  unfold kinds_Specs specsV specsW
  rw [words_b]
  simp only [Option.bind_some]
  have hq : quads ((wordsV kind).drop 3) = true := by
    have h := hw.1
    unfold goodW at h
    simp only [Bool.or_eq_true, Bool.and_eq_true] at h
    rcases h with h | h
    · rw [List.isEmpty_iff.1 h]; rfl
    · exact h.2
  exact (specs5 (wordsV kind) (by omega) (wordsV kind).length 3 [] (by omega) hq (by simp) (by omega)).trans (by rw [List.nil_append])

end Go.Proofs.YtjlagiolgpjglaaDoor
end

section
/-
YtjlagiolgpjglaaDoor: parameters of kinds, as plain functions, come to the plain law. No condition.
-/
set_option maxRecDepth 100000
set_option linter.unusedVariables false
set_option linter.unusedSimpArgs false
open Go Go.AM
namespace Go.Proofs.YtjlagiolgpjglaaDoor

theorem ne_kind {kind : ByteArray} (h : ∀ p ∈ kt, L p.1 ≠ L kind) (b : ByteArray) (hb : (kt.any fun p => L p.1 == L b) = true) : (kind.toList == b.toList) = false := by
  rw [toL, toL, beq_eq_false_iff_ne]
  intro e
  obtain ⟨p, hp, hq⟩ := List.any_eq_true.1 hb
  exact h p hp (by rw [e]; simpa using hq)

theorem Input_all : kt.map (fun p => ref38_Input p.1) = kt.map (fun p => some ((inK p.1, ()), ())) := by kernel_rfl
theorem rinput_b (kind : ByteArray) : ref38_Input kind = some ((inK kind, ()), ()) := by
  rcases kind_cases kind with ⟨p, hp, rfl⟩ | ⟨h, hw⟩
  · exact List.map_inj_left.1 Input_all p hp
  · have e : inK kind = 0 := by unfold inK; rw [hw]; first | done | rfl
    have n0 : (kind.toList == (strB [115, 97, 109, 112, 108, 101, 114]).toList) = false := ne_kind h (strB [115, 97, 109, 112, 108, 101, 114]) (by decide)
    have n1 : (kind.toList == (strB [110, 114, 122, 105]).toList) = false := ne_kind h (strB [110, 114, 122, 105]) (by decide)
    have n2 : (kind.toList == (strB [109, 97, 110, 99, 104, 101, 115, 116, 101, 114]).toList) = false := ne_kind h (strB [109, 97, 110, 99, 104, 101, 115, 116, 101, 114]) (by decide)
    have n3 : (kind.toList == (strB [99, 111, 100, 101, 103, 114, 111, 117, 112]).toList) = false := ne_kind h (strB [99, 111, 100, 101, 103, 114, 111, 117, 112]) (by decide)
    have n4 : (kind.toList == (strB [115, 116, 117, 102, 102]).toList) = false := ne_kind h (strB [115, 116, 117, 102, 102]) (by decide)
    have n5 : (kind.toList == (strB [115, 99, 114, 97, 109, 98, 108, 101]).toList) = false := ne_kind h (strB [115, 99, 114, 97, 109, 98, 108, 101]) (by decide)
    have n6 : (kind.toList == (strB [115, 121, 110, 99]).toList) = false := ne_kind h (strB [115, 121, 110, 99]) (by decide)
    have n7 : (kind.toList == (strB [117, 97, 114, 116]).toList) = false := ne_kind h (strB [117, 97, 114, 116]) (by decide)
    have n8 : (kind.toList == (strB [105, 50, 99]).toList) = false := ne_kind h (strB [105, 50, 99]) (by decide)
    have n9 : (kind.toList == (strB [115, 112, 105]).toList) = false := ne_kind h (strB [115, 112, 105]) (by decide)
    have n10 : (kind.toList == (strB [111, 110, 101, 119, 105, 114, 101]).toList) = false := ne_kind h (strB [111, 110, 101, 119, 105, 114, 101]) (by decide)
    have n11 : (kind.toList == (strB [99, 97, 110]).toList) = false := ne_kind h (strB [99, 97, 110]) (by decide)
    have n12 : (kind.toList == (strB [108, 105, 110]).toList) = false := ne_kind h (strB [108, 105, 110]) (by decide)
    have n13 : (kind.toList == (strB [106, 116, 97, 103]).toList) = false := ne_kind h (strB [106, 116, 97, 103]) (by decide)
    have n14 : (kind.toList == (strB [115, 108, 105, 112]).toList) = false := ne_kind h (strB [115, 108, 105, 112]) (by decide)
    have n15 : (kind.toList == (strB [109, 111, 100, 98, 117, 115]).toList) = false := ne_kind h (strB [109, 111, 100, 98, 117, 115]) (by decide)
    have n16 : (kind.toList == (strB [101, 101, 112, 114, 111, 109]).toList) = false := ne_kind h (strB [101, 101, 112, 114, 111, 109]) (by decide)
    have n17 : (kind.toList == (strB [105, 115, 111, 116, 112]).toList) = false := ne_kind h (strB [105, 115, 111, 116, 112]) (by decide)
    have n18 : (kind.toList == (strB [112, 97, 105, 114]).toList) = false := ne_kind h (strB [112, 97, 105, 114]) (by decide)
    rw [e]
    unfold ref38_Input
    simp only [n0, n1, n2, n3, n4, n5, n6, n7, n8, n9, n10, n11, n12, n13, n14, n15, n16, n17, n18, Bool.false_eq_true, if_false]
    first | done | rfl | (unfold ref38_upper; simp only [n0, n1, n2, n3, n4, n5, n6, n7, n8, n9, n10, n11, n12, n13, n14, n15, n16, n17, n18, Bool.false_eq_true, if_false]; rfl)

theorem Output_all : kt.map (fun p => ref38_Output p.1) = kt.map (fun p => some ((outK p.1, ()), ())) := by kernel_rfl
theorem routput_b (kind : ByteArray) : ref38_Output kind = some ((outK kind, ()), ()) := by
  rcases kind_cases kind with ⟨p, hp, rfl⟩ | ⟨h, hw⟩
  · exact List.map_inj_left.1 Output_all p hp
  · have e : outK kind = 0 := by unfold outK; rw [hw]; first | done | rfl
    have n0 : (kind.toList == (strB [115, 97, 109, 112, 108, 101, 114]).toList) = false := ne_kind h (strB [115, 97, 109, 112, 108, 101, 114]) (by decide)
    have n1 : (kind.toList == (strB [110, 114, 122, 105]).toList) = false := ne_kind h (strB [110, 114, 122, 105]) (by decide)
    have n2 : (kind.toList == (strB [109, 97, 110, 99, 104, 101, 115, 116, 101, 114]).toList) = false := ne_kind h (strB [109, 97, 110, 99, 104, 101, 115, 116, 101, 114]) (by decide)
    have n3 : (kind.toList == (strB [99, 111, 100, 101, 103, 114, 111, 117, 112]).toList) = false := ne_kind h (strB [99, 111, 100, 101, 103, 114, 111, 117, 112]) (by decide)
    have n4 : (kind.toList == (strB [115, 116, 117, 102, 102]).toList) = false := ne_kind h (strB [115, 116, 117, 102, 102]) (by decide)
    have n5 : (kind.toList == (strB [115, 99, 114, 97, 109, 98, 108, 101]).toList) = false := ne_kind h (strB [115, 99, 114, 97, 109, 98, 108, 101]) (by decide)
    have n6 : (kind.toList == (strB [115, 121, 110, 99]).toList) = false := ne_kind h (strB [115, 121, 110, 99]) (by decide)
    have n7 : (kind.toList == (strB [117, 97, 114, 116]).toList) = false := ne_kind h (strB [117, 97, 114, 116]) (by decide)
    have n8 : (kind.toList == (strB [105, 50, 99]).toList) = false := ne_kind h (strB [105, 50, 99]) (by decide)
    have n9 : (kind.toList == (strB [115, 112, 105]).toList) = false := ne_kind h (strB [115, 112, 105]) (by decide)
    have n10 : (kind.toList == (strB [111, 110, 101, 119, 105, 114, 101]).toList) = false := ne_kind h (strB [111, 110, 101, 119, 105, 114, 101]) (by decide)
    have n11 : (kind.toList == (strB [99, 97, 110]).toList) = false := ne_kind h (strB [99, 97, 110]) (by decide)
    have n12 : (kind.toList == (strB [108, 105, 110]).toList) = false := ne_kind h (strB [108, 105, 110]) (by decide)
    have n13 : (kind.toList == (strB [106, 116, 97, 103]).toList) = false := ne_kind h (strB [106, 116, 97, 103]) (by decide)
    have n14 : (kind.toList == (strB [115, 108, 105, 112]).toList) = false := ne_kind h (strB [115, 108, 105, 112]) (by decide)
    have n15 : (kind.toList == (strB [109, 111, 100, 98, 117, 115]).toList) = false := ne_kind h (strB [109, 111, 100, 98, 117, 115]) (by decide)
    have n16 : (kind.toList == (strB [101, 101, 112, 114, 111, 109]).toList) = false := ne_kind h (strB [101, 101, 112, 114, 111, 109]) (by decide)
    have n17 : (kind.toList == (strB [105, 115, 111, 116, 112]).toList) = false := ne_kind h (strB [105, 115, 111, 116, 112]) (by decide)
    have n18 : (kind.toList == (strB [112, 97, 105, 114]).toList) = false := ne_kind h (strB [112, 97, 105, 114]) (by decide)
    rw [e]
    unfold ref38_Output
    simp only [n0, n1, n2, n3, n4, n5, n6, n7, n8, n9, n10, n11, n12, n13, n14, n15, n16, n17, n18, Bool.false_eq_true, if_false]
    first | done | rfl | (unfold ref38_upper; simp only [n0, n1, n2, n3, n4, n5, n6, n7, n8, n9, n10, n11, n12, n13, n14, n15, n16, n17, n18, Bool.false_eq_true, if_false]; rfl)

theorem Channels_all : kt.map (fun p => ref38_Channels p.1) = kt.map (fun p => some ((chanK p.1, ()), ())) := by kernel_rfl
theorem rchannels_b (kind : ByteArray) : ref38_Channels kind = some ((chanK kind, ()), ()) := by
  rcases kind_cases kind with ⟨p, hp, rfl⟩ | ⟨h, hw⟩
  · exact List.map_inj_left.1 Channels_all p hp
  · have e : chanK kind = 0 := by unfold chanK; rw [hw]; first | done | rfl
    have n0 : (kind.toList == (strB [115, 97, 109, 112, 108, 101, 114]).toList) = false := ne_kind h (strB [115, 97, 109, 112, 108, 101, 114]) (by decide)
    have n1 : (kind.toList == (strB [110, 114, 122, 105]).toList) = false := ne_kind h (strB [110, 114, 122, 105]) (by decide)
    have n2 : (kind.toList == (strB [109, 97, 110, 99, 104, 101, 115, 116, 101, 114]).toList) = false := ne_kind h (strB [109, 97, 110, 99, 104, 101, 115, 116, 101, 114]) (by decide)
    have n3 : (kind.toList == (strB [99, 111, 100, 101, 103, 114, 111, 117, 112]).toList) = false := ne_kind h (strB [99, 111, 100, 101, 103, 114, 111, 117, 112]) (by decide)
    have n4 : (kind.toList == (strB [115, 116, 117, 102, 102]).toList) = false := ne_kind h (strB [115, 116, 117, 102, 102]) (by decide)
    have n5 : (kind.toList == (strB [115, 99, 114, 97, 109, 98, 108, 101]).toList) = false := ne_kind h (strB [115, 99, 114, 97, 109, 98, 108, 101]) (by decide)
    have n6 : (kind.toList == (strB [115, 121, 110, 99]).toList) = false := ne_kind h (strB [115, 121, 110, 99]) (by decide)
    have n7 : (kind.toList == (strB [117, 97, 114, 116]).toList) = false := ne_kind h (strB [117, 97, 114, 116]) (by decide)
    have n8 : (kind.toList == (strB [105, 50, 99]).toList) = false := ne_kind h (strB [105, 50, 99]) (by decide)
    have n9 : (kind.toList == (strB [115, 112, 105]).toList) = false := ne_kind h (strB [115, 112, 105]) (by decide)
    have n10 : (kind.toList == (strB [111, 110, 101, 119, 105, 114, 101]).toList) = false := ne_kind h (strB [111, 110, 101, 119, 105, 114, 101]) (by decide)
    have n11 : (kind.toList == (strB [99, 97, 110]).toList) = false := ne_kind h (strB [99, 97, 110]) (by decide)
    have n12 : (kind.toList == (strB [108, 105, 110]).toList) = false := ne_kind h (strB [108, 105, 110]) (by decide)
    have n13 : (kind.toList == (strB [106, 116, 97, 103]).toList) = false := ne_kind h (strB [106, 116, 97, 103]) (by decide)
    have n14 : (kind.toList == (strB [115, 108, 105, 112]).toList) = false := ne_kind h (strB [115, 108, 105, 112]) (by decide)
    have n15 : (kind.toList == (strB [109, 111, 100, 98, 117, 115]).toList) = false := ne_kind h (strB [109, 111, 100, 98, 117, 115]) (by decide)
    have n16 : (kind.toList == (strB [101, 101, 112, 114, 111, 109]).toList) = false := ne_kind h (strB [101, 101, 112, 114, 111, 109]) (by decide)
    have n17 : (kind.toList == (strB [105, 115, 111, 116, 112]).toList) = false := ne_kind h (strB [105, 115, 111, 116, 112]) (by decide)
    have n18 : (kind.toList == (strB [112, 97, 105, 114]).toList) = false := ne_kind h (strB [112, 97, 105, 114]) (by decide)
    rw [e]
    unfold ref38_Channels
    simp only [n0, n1, n2, n3, n4, n5, n6, n7, n8, n9, n10, n11, n12, n13, n14, n15, n16, n17, n18, Bool.false_eq_true, if_false]
    first | done | rfl | (unfold ref38_upper; simp only [n0, n1, n2, n3, n4, n5, n6, n7, n8, n9, n10, n11, n12, n13, n14, n15, n16, n17, n18, Bool.false_eq_true, if_false]; rfl)

theorem Specs_all : kt.map (fun p => ref38_Specs p.1) = kt.map (fun p => some ((specsV p.1, ()), ())) := by kernel_rfl
theorem rspecs_b (kind : ByteArray) : ref38_Specs kind = some ((specsV kind, ()), ()) := by
  rcases kind_cases kind with ⟨p, hp, rfl⟩ | ⟨h, hw⟩
  · exact List.map_inj_left.1 Specs_all p hp
  · have e : specsV kind = [] := by unfold specsV; rw [hw]; first | done | rfl
    have n0 : (kind.toList == (strB [115, 97, 109, 112, 108, 101, 114]).toList) = false := ne_kind h (strB [115, 97, 109, 112, 108, 101, 114]) (by decide)
    have n1 : (kind.toList == (strB [110, 114, 122, 105]).toList) = false := ne_kind h (strB [110, 114, 122, 105]) (by decide)
    have n2 : (kind.toList == (strB [109, 97, 110, 99, 104, 101, 115, 116, 101, 114]).toList) = false := ne_kind h (strB [109, 97, 110, 99, 104, 101, 115, 116, 101, 114]) (by decide)
    have n3 : (kind.toList == (strB [99, 111, 100, 101, 103, 114, 111, 117, 112]).toList) = false := ne_kind h (strB [99, 111, 100, 101, 103, 114, 111, 117, 112]) (by decide)
    have n4 : (kind.toList == (strB [115, 116, 117, 102, 102]).toList) = false := ne_kind h (strB [115, 116, 117, 102, 102]) (by decide)
    have n5 : (kind.toList == (strB [115, 99, 114, 97, 109, 98, 108, 101]).toList) = false := ne_kind h (strB [115, 99, 114, 97, 109, 98, 108, 101]) (by decide)
    have n6 : (kind.toList == (strB [115, 121, 110, 99]).toList) = false := ne_kind h (strB [115, 121, 110, 99]) (by decide)
    have n7 : (kind.toList == (strB [117, 97, 114, 116]).toList) = false := ne_kind h (strB [117, 97, 114, 116]) (by decide)
    have n8 : (kind.toList == (strB [105, 50, 99]).toList) = false := ne_kind h (strB [105, 50, 99]) (by decide)
    have n9 : (kind.toList == (strB [115, 112, 105]).toList) = false := ne_kind h (strB [115, 112, 105]) (by decide)
    have n10 : (kind.toList == (strB [111, 110, 101, 119, 105, 114, 101]).toList) = false := ne_kind h (strB [111, 110, 101, 119, 105, 114, 101]) (by decide)
    have n11 : (kind.toList == (strB [99, 97, 110]).toList) = false := ne_kind h (strB [99, 97, 110]) (by decide)
    have n12 : (kind.toList == (strB [108, 105, 110]).toList) = false := ne_kind h (strB [108, 105, 110]) (by decide)
    have n13 : (kind.toList == (strB [106, 116, 97, 103]).toList) = false := ne_kind h (strB [106, 116, 97, 103]) (by decide)
    have n14 : (kind.toList == (strB [115, 108, 105, 112]).toList) = false := ne_kind h (strB [115, 108, 105, 112]) (by decide)
    have n15 : (kind.toList == (strB [109, 111, 100, 98, 117, 115]).toList) = false := ne_kind h (strB [109, 111, 100, 98, 117, 115]) (by decide)
    have n16 : (kind.toList == (strB [101, 101, 112, 114, 111, 109]).toList) = false := ne_kind h (strB [101, 101, 112, 114, 111, 109]) (by decide)
    have n17 : (kind.toList == (strB [105, 115, 111, 116, 112]).toList) = false := ne_kind h (strB [105, 115, 111, 116, 112]) (by decide)
    have n18 : (kind.toList == (strB [112, 97, 105, 114]).toList) = false := ne_kind h (strB [112, 97, 105, 114]) (by decide)
    rw [e]
    unfold ref38_Specs
    simp only [n0, n1, n2, n3, n4, n5, n6, n7, n8, n9, n10, n11, n12, n13, n14, n15, n16, n17, n18, Bool.false_eq_true, if_false]
    first | done | rfl | (unfold ref38_upper; simp only [n0, n1, n2, n3, n4, n5, n6, n7, n8, n9, n10, n11, n12, n13, n14, n15, n16, n17, n18, Bool.false_eq_true, if_false]; rfl)

theorem rkinds_b : ref38_Kinds = some ((kt.map (·.1), ()), ()) := by kernel_rfl

theorem specs_len (kind : ByteArray) : (specsV kind).length ≤ 1000 := by
  have key : ∀ (k : Nat) (l : List ByteArray), (specsF k l).length ≤ k := by
    intro k
    induction k with
    | zero => intro l; simp [specsF]
    | succ k ih =>
      intro l
      by_cases h : l.length < 4
      · rw [specsF_short _ _ h]; simp
      · match l, h with
        | n :: a :: b :: c :: r, _ => simp only [specsF, List.length_cons]; have := ih r; omega
        | [], h => simp at h
        | [_], h => simp at h
        | [_, _], h => simp at h
        | [_, _, _], h => simp at h
  have h1 := (words_good kind).2
  have h2 := key (wordsV kind).length ((wordsV kind).drop 3)
  unfold specsV specsW
  omega

/-! ### parameters -/
def spR : Option SpecT → SpecT × Bool
  | some x => (x, true)
  | none => ((strB [], 0, 0, 0), false)

theorem spec3 (name : ByteArray) (z : SpecT) (l : List SpecT) (hl : l.length ≤ 1000) : ∀ (r : List SpecT) (k : Nat), l.drop k = r → kinds_spec_l3 name l (l.length : Int) k z = some (((spR (specOf r name)).1, (spR (specOf r name)).2, ()), ())
  | [], k, h => by
    have h1 := drop_nil h
    rw [kinds_spec_l3_eq, if_neg (dF (by omega))]
    rfl
  | x :: r, k, h => by
    have h1 := drop_lt h
    have hg : l.getD (k : Int).toNat dSpec = x := getD_drop h
    rw [kinds_spec_l3_eq, if_pos (dT (by omega)), if_pos ⟨by omega, by omega⟩, hg, w64a k (by omega), toL, toL]
    unfold specOf
    rw [List.find?_cons]
    by_cases he : L x.1 = L name
    · rw [if_pos (by simpa using he), show (L x.1 == L name) = true by simpa using he]
      rfl
    · rw [if_neg (by simpa using he), show (L x.1 == L name) = false by simpa using he]
      exact spec3 name z l hl r (k + 1) (dropS h)
theorem spec_b (kind name : ByteArray) : kinds_spec kind name = some (((spR (specOf (specsV kind) name)).1, (spR (specOf (specsV kind) name)).2, ()), ()) := by
  unfold kinds_spec
  rw [specs_b]
  exact spec3 name _ _ (specs_len kind) _ 0 rfl

theorem value7 (name : ByteArray) (z : SpecT) (l : List ParT) (hl : l.length ≤ 1048576) : ∀ (r : List ParT) (k : Nat), l.drop k = r → kinds_Value_l7 name l (l.length : Int) k z = some ((match parOf r name with | some p => p.2 | none => z.2.2.2, 0, ()), ())
  | [], k, h => by
    have h1 := drop_nil h
    rw [kinds_Value_l7_eq, if_neg (dF (by omega))]
    rfl
  | x :: r, k, h => by
    have h1 := drop_lt h
    have hg : l.getD (k : Int).toNat dParam = x := getD_drop h
    rw [kinds_Value_l7_eq, if_pos (dT (by omega)), if_pos ⟨by omega, by omega⟩, hg, w64a k (by omega), toL, toL]
    unfold parOf
    rw [List.find?_cons]
    by_cases he : L x.1 = L name
    · rw [if_pos (by simpa using he), show (L x.1 == L name) = true by simpa using he]
    · rw [if_neg (by simpa using he), show (L x.1 == L name) = false by simpa using he]
      exact value7 name z l hl r (k + 1) (dropS h)

theorem value_b (kind : ByteArray) (l : List ParT) (name : ByteArray) (hl : l.length ≤ 1048576) : kinds_Value kind l name = some (((valueK (specsV kind) l name).1, (valueK (specsV kind) l name).2, ()), ()) := by
  unfold kinds_Value valueK
  rw [spec_b]
  simp only [Option.bind_some]
  cases hs : specOf (specsV kind) name with
  | none => rfl
  | some x =>
    refine (if_neg (by simp [spR])).trans ?_
    refine (value7 name x l hl l 0 rfl).trans ?_
    simp only
    cases parOf l name <;> rfl

theorem check17 (kind : ByteArray) (l : List ParT) (n i : Int) (p : ParT) (x : SpecT) (d : List ParT) (hd : d.length ≤ 1048577) : ∀ (r : List ParT) (k : Nat), d.drop k = r →
    kinds_Check_l17 kind l l n i d (d.length : Int) k p x = if (r.any fun q => L q.1 == L p.1) = true then some ((9, ()), ()) else if p.2 < x.2.1 ∨ x.2.2.1 < p.2 then some ((2, ()), ()) else kinds_Check_l6 kind l l n (IntKind.i64.wrap (i + 1))
  | [], k, h => by
    have h1 := drop_nil h
    rw [kinds_Check_l17_eq, if_neg (dF (by omega)), if_neg (show ¬ (([] : List ParT).any fun q => L q.1 == L p.1) = true by simp)]
    by_cases a : p.2 < x.2.1
    · rw [if_pos (dT a), if_pos (.inl a)]
    rw [if_neg (dF a)]
    by_cases b : p.2 > x.2.2.1
    · rw [if_pos (dT b), if_pos (.inr b)]
    · rw [if_neg (dF b), if_neg (show ¬ (p.2 < x.2.1 ∨ x.2.2.1 < p.2) by omega)]
  | q :: r, k, h => by
    have h1 := drop_lt h
    have hg : d.getD (k : Int).toNat dParam = q := getD_drop h
    rw [kinds_Check_l17_eq, if_pos (dT (by omega)), if_pos ⟨by omega, by omega⟩, hg, w64a k (by omega), toL, toL, List.any_cons]
    by_cases he : L q.1 = L p.1
    · have e : (L q.1 == L p.1) = true := by simpa using he
      rw [if_pos e, e, Bool.true_or, if_pos rfl]
    · have e : (L q.1 == L p.1) = false := by simpa using he
      rw [if_neg (by rw [e]; simp), e, Bool.false_or]
      exact check17 kind l n i p x d hd r (k + 1) (dropS h)

theorem takeS {α : Type} {l : List α} {k : Nat} {b : α} {r : List α} (h : l.drop k = b :: r) : l.take (k + 1) = l.take k ++ [b] := by
  have h1 := drop_lt h
  rw [List.take_add_one, List.getElem?_eq_getElem h1]
  have : l[k] = b := by
    have := List.drop_eq_getElem_cons h1
    rw [h] at this
    exact (List.cons.inj this).1.symm
  rw [this]
  rfl

theorem chkP_cons (s : List SpecT) (seen : List ParT) (p : ParT) (r : List ParT) : chkP s seen (p :: r) = match specOf s p.1 with | none => 8 | some x => if (seen.any fun q => L q.1 == L p.1) = true then 9 else if p.2 < x.2.1 ∨ x.2.2.1 < p.2 then 2 else chkP s (seen ++ [p]) r := rfl

theorem check6 (kind : ByteArray) (l : List ParT) (hl : l.length ≤ 1048576) : ∀ (r : List ParT) (k : Nat), l.drop k = r → kinds_Check_l6 kind l l (l.length : Int) k = some ((chkP (specsV kind) (l.take k) r, ()), ())
  | [], k, h => by
    have h1 := drop_nil h
    rw [kinds_Check_l6_eq, if_neg (dF (by omega))]
    rfl
  | p :: r, k, h => by
    have h1 := drop_lt h
    have hg : l.getD (k : Int).toNat dParam = p := getD_drop h
    rw [kinds_Check_l6_eq, if_pos (dT (by omega)), if_pos ⟨by omega, by omega⟩, hg, spec_b]
    simp only [Option.bind_some]
    rw [chkP_cons]
    cases hs : specOf (specsV kind) p.1 with
    | none => rfl
    | some x =>
      refine (if_neg (by simp [spR])).trans ?_
      rw [if_pos ⟨by omega, by omega, by omega⟩, Int.toNat_natCast]
      have e := check17 kind l (l.length : Int) k p x (l.take k) (by rw [List.length_take]; omega) (l.take k) 0 rfl
      refine Eq.trans e ?_
      simp only
      split
      · rfl
      · split
        · rfl
        · rw [w64a k (by omega), check6 kind l hl r (k + 1) (dropS h), takeS h]

theorem check_b (kind : ByteArray) (l : List ParT) (hl : l.length ≤ 1048576) : kinds_Check kind l = some ((checkK kind l, ()), ()) := by
  unfold kinds_Check checkK
  rw [input_b]
  simp only [Option.bind_some]
  by_cases h : inK kind = 0
  · rw [if_pos (eT h), if_pos h]
  · rw [if_neg (eF h), if_neg h]
    exact check6 kind l hl l 0 rfl

/-! ### the document's -/
theorem rfind3 (l : List SpecT) (hl : l.length ≤ 1000) (name : ByteArray) : ∀ (r : List SpecT) (k : Nat), l.drop k = r → ref38_find_l3 l name k = some ((match r.findIdx? (fun x => L x.1 == L name) with | some j => ((j + k : Nat) : Int) | none => -1, ()), ())
  | [], k, h => by
    have h1 := drop_nil h
    rw [ref38_find_l3_eq, if_neg (dF (by omega))]
    rfl
  | x :: r, k, h => by
    have h1 := drop_lt h
    have hg : l.getD (k : Int).toNat dSpec = x := getD_drop h
    rw [ref38_find_l3_eq, if_pos (dT (by omega)), if_pos ⟨by omega, by omega⟩, hg, w64a k (by omega), toL, toL, List.findIdx?_cons]
    by_cases he : L x.1 = L name
    · have e : (L x.1 == L name) = true := by simpa using he
      rw [if_pos e, e]
      simp
    · have e : (L x.1 == L name) = false := by simpa using he
      rw [if_neg (by rw [e]; simp), e, rfind3 l hl name r (k + 1) (dropS h)]
      simp only [Bool.false_eq_true, if_false]
      cases r.findIdx? (fun x => L x.1 == L name) with
      | none => rfl
      | some j =>
        show some ((((j + (k + 1) : Nat) : Int), ()), ()) = some ((((j + 1 + k : Nat) : Int), ()), ())
        rw [show j + (k + 1) = j + 1 + k by omega]
theorem rfirst3 (l : List ParT) (hl : l.length ≤ 1048576) (name : ByteArray) : ∀ (r : List ParT) (k : Nat), l.drop k = r → ref38_first_l3 l name k = some ((match r.findIdx? (fun x => L x.1 == L name) with | some j => ((j + k : Nat) : Int) | none => -1, ()), ())
  | [], k, h => by
    have h1 := drop_nil h
    rw [ref38_first_l3_eq, if_neg (dF (by omega))]
    rfl
  | x :: r, k, h => by
    have h1 := drop_lt h
    have hg : l.getD (k : Int).toNat dParam = x := getD_drop h
    rw [ref38_first_l3_eq, if_pos (dT (by omega)), if_pos ⟨by omega, by omega⟩, hg, w64a k (by omega), toL, toL, List.findIdx?_cons]
    by_cases he : L x.1 = L name
    · have e : (L x.1 == L name) = true := by simpa using he
      rw [if_pos e, e]
      simp
    · have e : (L x.1 == L name) = false := by simpa using he
      rw [if_neg (by rw [e]; simp), e, rfirst3 l hl name r (k + 1) (dropS h)]
      simp only [Bool.false_eq_true, if_false]
      cases r.findIdx? (fun x => L x.1 == L name) with
      | none => rfl
      | some j =>
        show some ((((j + (k + 1) : Nat) : Int), ()), ()) = some ((((j + 1 + k : Nat) : Int), ()), ())
        rw [show j + (k + 1) = j + 1 + k by omega]

def ixO (o : Option Nat) : Int := match o with
  | some j => (j : Int)
  | none => -1
theorem rfind_b (l : List SpecT) (hl : l.length ≤ 1000) (name : ByteArray) : ref38_find l name = some ((ixO (l.findIdx? fun x => L x.1 == L name), ()), ()) := by
  have := rfind3 l hl name l 0 rfl
  unfold ref38_find
  refine Eq.trans this ?_
  cases l.findIdx? (fun x => L x.1 == L name) <;> rfl
theorem rfirst_b (l : List ParT) (hl : l.length ≤ 1048576) (name : ByteArray) : ref38_first l name = some ((ixO (l.findIdx? fun x => L x.1 == L name), ()), ()) := by
  have := rfirst3 l hl name l 0 rfl
  unfold ref38_first
  refine Eq.trans this ?_
  cases l.findIdx? (fun x => L x.1 == L name) <;> rfl

theorem find_ix {α : Type} (p : α → Bool) (d : α) : ∀ (l : List α), l.find? p = match l.findIdx? p with | some j => some (l.getD j d) | none => none
  | [] => rfl
  | x :: l => by
    have ih := find_ix p d l
    rw [List.find?_cons, List.findIdx?_cons]
    cases p x with
    | true => rfl
    | false =>
      simp only [Bool.false_eq_true, if_false]
      rw [ih]
      cases l.findIdx? p <;> rfl

theorem ix_lt {α : Type} {p : α → Bool} {l : List α} {j : Nat} (h : l.findIdx? p = some j) : j < l.length := (List.findIdx?_eq_some_iff_getElem.1 h).1

theorem rvalue_b (kind : ByteArray) (l : List ParT) (name : ByteArray) (hl : l.length ≤ 1048576) : ref38_Value kind l name = some (((valueK (specsV kind) l name).1, (valueK (specsV kind) l name).2, ()), ()) := by
  unfold ref38_Value valueK specOf parOf
  rw [rspecs_b]
  simp only [Option.bind_some]
  rw [rfind_b _ (specs_len kind), rfirst_b l hl, find_ix _ dSpec, find_ix _ dParam]
  simp only [Option.bind_some]
  cases h1 : (specsV kind).findIdx? (fun x => L x.1 == L name) with
  | none => rfl
  | some j =>
    have hj := ix_lt h1
    refine (if_neg (dF (show ¬ ((j : Nat) : Int) < 0 by omega))).trans ?_
    cases h2 : l.findIdx? (fun x => L x.1 == L name) with
    | none =>
      refine (if_pos (by rfl)).trans ?_
      refine (if_pos ⟨show 0 ≤ ((j : Nat) : Int) by omega, show ((j : Nat) : Int) < _ by omega⟩).trans ?_
      rfl
    | some i =>
      have hi := ix_lt h2
      refine (if_neg (dF (show ¬ ((i : Nat) : Int) < 0 by omega))).trans ?_
      refine (if_pos ⟨show 0 ≤ ((i : Nat) : Int) by omega, show ((i : Nat) : Int) < _ by omega⟩).trans ?_
      rfl

theorem any_ix {α : Type} (p : α → Bool) : ∀ (l : List α) (k : Nat) (x : α) (r : List α), l.drop k = x :: r → p x = true → ∃ j, l.findIdx? p = some j ∧ j ≤ k ∧ ((l.take k).any p = true ↔ j < k)
  | [], k, x, r, h, hp => by simp at h
  | y :: l, 0, x, r, h, hp => by
    have : y = x := by simpa using (List.cons.inj (show y :: l = x :: r from h)).1
    subst this
    exact ⟨0, by rw [List.findIdx?_cons, hp]; rfl, by omega, by simp⟩
  | y :: l, k + 1, x, r, h, hp => by
    obtain ⟨j, h1, h2, h3⟩ := any_ix p l k x r h hp
    rw [List.findIdx?_cons, List.take_succ_cons, List.any_cons]
    cases hy : p y with
    | true => exact ⟨0, rfl, by omega, by simp⟩
    | false =>
      refine ⟨j + 1, by rw [h1]; rfl, by omega, ?_⟩
      rw [Bool.false_or, h3]
      omega

theorem rcheck7 (s : List SpecT) (hs : s.length ≤ 1000) (l : List ParT) (hl : l.length ≤ 1048576) : ∀ (r : List ParT) (k : Nat), l.drop k = r → ref38_Check_l7 l s k = some ((chkP s (l.take k) r, ()), ())
  | [], k, h => by
    have h1 := drop_nil h
    rw [ref38_Check_l7_eq, if_neg (dF (by omega))]
    rfl
  | p :: r, k, h => by
    have h1 := drop_lt h
    have hg : l.getD (k : Int).toNat dParam = p := getD_drop h
    have hin : 0 ≤ (k : Int) ∧ (k : Int) < (l.length : Int) := ⟨by omega, by omega⟩
    obtain ⟨j, i1, i2, i3⟩ := any_ix (fun q : ParT => L q.1 == L p.1) l k p r h (by simp)
    have ih := rcheck7 s hs l hl r (k + 1) (dropS h)
    rw [ref38_Check_l7_eq, if_pos (dT (by omega)), if_pos hin, hg, rfind_b s hs, rfirst_b l hl, i1, w64a k (by omega), ih, takeS h]
    simp only [Option.bind_some, if_pos hin]
    rw [chkP_cons]
    unfold specOf
    rw [find_ix _ dSpec]
    cases h2 : s.findIdx? (fun x => L x.1 == L p.1) with
    | none => rfl
    | some i =>
      have hi := ix_lt h2
      have hii : 0 ≤ ((i : Nat) : Int) ∧ ((i : Nat) : Int) < (s.length : Int) := ⟨by omega, by omega⟩
      refine (if_neg (dF (show ¬ ((i : Nat) : Int) < 0 by omega))).trans ?_
      simp only
      by_cases hj : j < k
      · refine (if_pos (dT (show ((j : Nat) : Int) < (k : Int) by omega))).trans ?_
        rw [if_pos (i3.2 hj)]
      · refine (if_neg (dF (show ¬ ((j : Nat) : Int) < (k : Int) by omega))).trans ?_
        rw [if_neg (fun q => hj (i3.1 q))]
        refine (if_pos hii).trans ?_
        by_cases a : p.2 < (s.getD i dSpec).2.1
        · refine (if_pos (dT a)).trans ?_
          rw [if_pos (.inl a)]
        refine (if_neg (dF a)).trans ?_
        refine (if_pos hii).trans ?_
        by_cases b : p.2 > (s.getD i dSpec).2.2.1
        · refine (if_pos (dT b)).trans ?_
          rw [if_pos (.inr b)]
        · refine (if_neg (dF b)).trans ?_
          rw [if_neg (show ¬ (p.2 < (s.getD i dSpec).2.1 ∨ (s.getD i dSpec).2.2.1 < p.2) by omega)]

theorem rcheck_b (kind : ByteArray) (l : List ParT) (hl : l.length ≤ 1048576) : ref38_Check kind l = some ((checkK kind l, ()), ()) := by
  unfold ref38_Check checkK
  rw [rinput_b, rspecs_b]
  simp only [Option.bind_some]
  by_cases h : inK kind = 0
  · rw [if_pos (eT h), if_pos h]
  · rw [if_neg (eF h), if_neg h]
    exact rcheck7 _ (specs_len kind) l hl l 0 rfl

end Go.Proofs.YtjlagiolgpjglaaDoor
end

section
/-
YtjlagiolgpjglaaDoor: the laws of kinds, as plain functions, come to true. No condition.
-/
set_option maxRecDepth 100000
set_option linter.unusedVariables false
open Go Go.AM
namespace Go.Proofs.YtjlagiolgpjglaaDoor

def kUart : ByteArray := strB [117, 97, 114, 116]
theorem ex1 : valueK (specsV kUart) [] (strB [98, 105, 116, 115]) = (8, 0) := by kernel_rfl
theorem ex2 : valueK (specsV kUart) [((strB [98, 105, 116, 115]), 7)] (strB [98, 105, 116, 115]) = (7, 0) := by kernel_rfl
theorem ex3 : inK kUart = 1 := by kernel_rfl
theorem ex4 : outK kUart = 3 := by kernel_rfl
theorem ex5 : chanK (strB [115, 112, 105]) = 3 := by kernel_rfl
theorem ex6 : inK (strB [117, 115, 98]) = 0 := by kernel_rfl
theorem ex7 : checkK kUart [((strB [98, 105, 116, 115]), 10)] = 2 := by kernel_rfl

theorem awake38_b : law38_awake = some ((true, ()), ()) := by
  unfold law38_awake
  rw [show (strB [117, 97, 114, 116]) = kUart from rfl, value_b _ _ _ (by simp), value_b _ _ _ (by simp), input_b, output_b, channels_b, input_b, check_b _ _ (by simp), ex1, ex2, ex3, ex4, ex5, ex6, ex7]
  rfl

theorem KindsValues_true (kind : ByteArray) (l : List TParam) (name : ByteArray) (hl : l.length ≤ 1048576) : law38_KindsValues kind l name = some ((true, ()), ()) := by
  unfold law38_KindsValues
  rw [value_b kind l name hl, rvalue_b kind l name hl, awake38_b]
  simp

theorem KindsChecks_true (kind : ByteArray) (l : List TParam) (hl : l.length ≤ 1048576) : law38_KindsChecks kind l = some ((true, ()), ()) := by
  unfold law38_KindsChecks
  rw [check_b kind l hl, rcheck_b kind l hl, awake38_b]
  simp

theorem good_at {s : List SpecT} (h : goodSpecs s = true) {x : SpecT} (hx : x ∈ s) : x.2.1 ≤ x.2.2.2 ∧ x.2.2.2 ≤ x.2.2.1 := by
  unfold goodSpecs at h
  simp only [Bool.and_eq_true] at h
  have := List.all_eq_true.1 h.1 x hx
  simpa using this

theorem inside7 (kind : ByteArray) (l : List TParam) (hl : l.length ≤ 1048576) (hc : checkK kind l = 0) : ∀ (r : List SpecT) (k : Nat), (specsV kind).drop k = r → law38_KindsInside_l7 kind l (specsV kind) k = some ((true, ()), ())
  | [], k, h => by
    have h1 := drop_nil h
    have h2 := specs_len kind
    have hn : inK kind ≠ 0 := fun q => by unfold checkK at hc; rw [if_pos q] at hc; omega
    have hc2 : chkP (specsV kind) [] l = 0 := by unfold checkK at hc; rwa [if_neg hn] at hc
    have hp := par_len hc2
    have he : checkK kind [] = 0 := by unfold checkK; rw [if_neg hn]; rfl
    rw [law38_KindsInside_l7_eq, if_neg (dF (by omega)), if_pos (dT (by omega)), check_b kind [] (by simp), awake38_b, he]
    rfl
  | x :: r, k, h => by
    have h1 := drop_lt h
    have h2 := specs_len kind
    have hg : (specsV kind).getD (k : Int).toNat dSpec = x := getD_drop h
    have hin : 0 ≤ (k : Int) ∧ (k : Int) < ((specsV kind).length : Int) := ⟨by omega, by omega⟩
    have hx := mem_drop h
    have hn : inK kind ≠ 0 := fun q => by unfold checkK at hc; rw [if_pos q] at hc; omega
    have hc2 : chkP (specsV kind) [] l = 0 := by unfold checkK at hc; rwa [if_neg hn] at hc
    obtain ⟨i1, i2, i3⟩ := inside hc2 hx
    have hg2 := good_at (specs_good kind) hx
    have hv : valueK (specsV kind) [] x.1 = (x.2.2.2, 0) := by
      unfold valueK
      rw [specOf_self (specs_good kind) hx]
      rfl
    rw [law38_KindsInside_l7_eq, if_pos (dT (by omega)), hg, value_b kind l x.1 hl, value_b kind [] x.1 (by simp), hv, w64a k (by omega), inside7 kind l hl hc r (k + 1) (dropS h)]
    simp only [if_pos hin, Option.bind_some]
    rw [if_neg (nF i1), if_neg (dF (show ¬ (valueK (specsV kind) l x.1).1 < x.2.1 by omega)), if_neg (dF (show ¬ (valueK (specsV kind) l x.1).1 > x.2.2.1 by omega)), if_neg (dF (show ¬ x.2.2.2 < x.2.1 by omega)), if_neg (dF (show ¬ x.2.2.2 > x.2.2.1 by omega)), if_neg (nF rfl), if_neg (nF rfl)]

theorem KindsInside_true (kind : ByteArray) (l : List TParam) (hl : l.length ≤ 1048576) : law38_KindsInside kind l = some ((true, ()), ()) := by
  unfold law38_KindsInside
  rw [check_b kind l hl, awake38_b, specs_b]
  simp only [Option.bind_some]
  split
  · rfl
  · by_cases hc : checkK kind l = 0
    · rw [if_neg (nF hc)]
      exact inside7 kind l hl hc _ 0 rfl
    · rw [if_pos (nT hc)]

theorem order7 (kind : ByteArray) (l : List TParam) (name : ByteArray) (hl : l.length ≤ 1048576) (hc : checkK kind l = 0) : ∀ (n : Nat) (acc : List TParam), n ≤ l.length → acc = (l.drop n).reverse → law38_KindsOrder_l7 kind l name ((n : Int) - 1) acc = some ((true, ()), ())
  | 0, acc, hn, ha => by
    have e : acc = l.reverse := by rw [ha, List.drop_zero]
    have hi : inK kind ≠ 0 := fun q => by unfold checkK at hc; rw [if_pos q] at hc; omega
    have hc2 : chkP (specsV kind) [] l = 0 := by unfold checkK at hc; rwa [if_neg hi] at hc
    have hr : checkK kind l.reverse = 0 := by unfold checkK; rw [if_neg hi]; exact chk_rev hc2
    rw [law38_KindsOrder_l7_eq, if_neg (dF (by omega)), e, value_b kind l name hl, value_b kind l.reverse name (by simpa using hl), check_b kind l.reverse (by simpa using hl), awake38_b, hr, value_rev hc2]
    simp
  | n + 1, acc, hn, ha => by
    have hg : l.getD (((n + 1 : Nat) : Int) - 1).toNat dParam = l[n] := by
      rw [show (((n + 1 : Nat) : Int) - 1).toNat = n by omega]
      exact getD_in _ (by omega)
    have hal : acc.length ≤ l.length := by rw [ha]; simp
    rw [law38_KindsOrder_l7_eq, if_pos (dT (by omega)), if_pos ⟨by omega, by omega⟩, if_pos ⟨by omega, by decide⟩, hg, w64 (x := ((n + 1 : Nat) : Int) - 1 - 1) (by omega) (by omega), show ((n + 1 : Nat) : Int) - 1 - 1 = (n : Int) - 1 by omega]
    refine order7 kind l name hl hc n _ (by omega) ?_
    rw [ha, show l.drop n = l[n] :: l.drop (n + 1) from List.drop_eq_getElem_cons (by omega), List.reverse_cons]

theorem KindsOrder_true (kind : ByteArray) (l : List TParam) (name : ByteArray) (hl : l.length ≤ 1048576) : law38_KindsOrder kind l name = some ((true, ()), ()) := by
  unfold law38_KindsOrder
  rw [check_b kind l hl, awake38_b]
  simp only [Option.bind_some]
  split
  · rfl
  · by_cases hc : checkK kind l = 0
    · rw [if_neg (nF hc), if_pos ⟨.inl trivial, by omega, by omega, by decide⟩, w64 (by omega) (by omega)]
      exact order7 kind l name hl hc l.length [] (Nat.le_refl _) (by simp)
    · rw [if_pos (nT hc)]

theorem sames_loop (l : List SpecT) (hl : l.length ≤ 1000) : ∀ (r : List SpecT) (k : Nat), l.drop k = r → law38_specs_l6 l l k = some ((true, ()), ())
  | [], k, h => by
    have h1 := drop_nil h
    rw [law38_specs_l6_eq, if_neg (dF (by omega))]
  | s :: r, k, h => by
    have h1 := drop_lt h
    have c1 : 0 ≤ (k : Int) ∧ (k : Int) < (l.length : Int) := ⟨by omega, by omega⟩
    rw [law38_specs_l6_eq, if_pos (dT (by omega)), if_pos c1, if_pos c1, (eqU_iff uSpec rfl _ _).2 rfl, if_neg (by simp), w64a k (by omega)]
    exact sames_loop l hl r (k + 1) (dropS h)
theorem sames (l : List SpecT) (hl : l.length ≤ 1000) : law38_specs l l = some ((true, ()), ()) := by
  unfold law38_specs
  rw [if_neg (nF rfl)]
  exact sames_loop l hl l 0 rfl

theorem names_len : (kt.map (·.1)).length = 19 := by kernel_rfl

theorem tables8 (kind : ByteArray) : ∀ (r : List ByteArray) (k : Nat), (kt.map (·.1)).drop k = r → law38_KindsTables_l8 kind (kt.map (·.1)) (kt.map (·.1)) k = some ((true, ()), ())
  | [], k, h => by
    have h1 := drop_nil h
    rw [law38_KindsTables_l8_eq, if_neg (dF (by omega)), input_b, rinput_b, output_b, routput_b, channels_b, rchannels_b, specs_b, rspecs_b, awake38_b]
    simp only [Option.bind_some]
    rw [sames _ (specs_len kind)]
    simp
  | x :: r, k, h => by
    have h1 := drop_lt h
    have h2 := names_len
    have hg : (kt.map (·.1)).getD (k : Int).toNat (strB []) = x := getD_drop h
    have hin : 0 ≤ (k : Int) ∧ (k : Int) < ((kt.map (·.1)).length : Int) := ⟨by omega, by omega⟩
    rw [law38_KindsTables_l8_eq, if_pos (dT (by omega)), hg, input_b, rinput_b, output_b, routput_b, channels_b, rchannels_b, specs_b, rspecs_b, w64a k (by omega), tables8 kind r (k + 1) (dropS h)]
    simp only [if_pos hin, Option.bind_some]
    rw [sames _ (specs_len x)]
    simp

theorem KindsTables_true (kind : ByteArray) : law38_KindsTables kind = some ((true, ()), ()) := by
  unfold law38_KindsTables
  rw [kinds_b, rkinds_b]
  simp only [Option.bind_some]
  rw [if_neg (nF rfl)]
  exact tables8 kind _ 0 rfl

/-! ### ports -/
def portOk (n : ByteArray) : Bool := ((decide (inK n = 1)) == decide (chanK n > 0)) && decide (1 ≤ inK n ∧ inK n ≠ 4 ∧ 1 < outK n ∧ outK n ≠ 4 ∧ outK n ≤ 8 ∧ inK n ≤ outK n) && decide (0 < (specsV n).length)
theorem ports_all : (kt.all fun p => portOk p.1) = true := by kernel_rfl
theorem kt_nodup : decide ((kt.map fun p => L p.1).Nodup) = true := by decide +kernel

theorem ports20 (s : List SpecT) (hs : s.length ≤ 1000) (hn : (s.map fun x => L x.1).Nodup) (h0 : 0 < s.length) : ∀ (m a : Nat), m = s.length - a → a ≤ s.length → law38_KindsPorts_l15 s a = some ((true, ()), ())
  | 0, a, hm, ha => by
    rw [law38_KindsPorts_l15_eq, if_neg (dF (by omega)), if_pos (dT (by omega)), awake38_b]
    rfl
  | m + 1, a, hm, ha => by
    have hlt : a < s.length := by omega
    have inner : ∀ (d b : Nat), d = a - b → b ≤ a → law38_KindsPorts_l20 s a b = law38_KindsPorts_l15 s ((a + 1 : Nat) : Int) := by
      intro d
      induction d with
      | zero =>
        intro b hd hb
        rw [law38_KindsPorts_l20_eq, if_neg (dF (by omega)), w64a a (by omega)]
      | succ d ih =>
        intro b hd hb
        have hbl : b < s.length := by omega
        have hne : ¬ L s[a].1 = L s[b].1 := fun e => by
          have := (List.pairwise_iff_getElem.1 hn) b a (by simpa using hbl) (by simpa using hlt) (by omega)
          simp only [List.getElem_map] at this
          exact this e.symm
        rw [law38_KindsPorts_l20_eq, if_pos (dT (by omega)), if_pos ⟨by omega, by omega⟩, if_pos ⟨by omega, by omega⟩, Int.toNat_natCast, Int.toNat_natCast, getD_in dSpec hlt, getD_in dSpec hbl, if_neg (by rw [toL, toL]; simpa using hne), w64a b (by omega)]
        exact ih (b + 1) (by omega) (by omega)
    rw [law38_KindsPorts_l15_eq, if_pos (dT (by omega)), show law38_KindsPorts_l20 s a 0 = _ from inner a 0 (by omega) (by omega)]
    exact ports20 s hs hn h0 m (a + 1) (by omega) (by omega)

theorem KindsPorts_true (i j : Int) : law38_KindsPorts i j = some ((true, ()), ()) := by
  have hl := names_len
  unfold law38_KindsPorts
  rw [kinds_b, awake38_b]
  simp only [Option.bind_some]
  have h19 : ((((kt.map (·.1)).length : Nat) : Int) == 19) = true := by rw [hl]; rfl
  rw [h19]
  by_cases a1 : i < 0
  · rw [if_pos (dT a1)]; rfl
  rw [if_neg (dF a1)]
  by_cases a2 : j < 0
  · rw [if_pos (dT a2)]; rfl
  rw [if_neg (dF a2)]
  by_cases a3 : i ≥ ((kt.map (·.1)).length : Int)
  · rw [if_pos (dT a3)]; rfl
  rw [if_neg (dF a3)]
  by_cases a4 : j ≥ ((kt.map (·.1)).length : Int)
  · rw [if_pos (dT a4)]; rfl
  have hii : 0 ≤ i ∧ i < ((kt.map (·.1)).length : Int) := ⟨by omega, by omega⟩
  have hi : i.toNat < (kt.map (·.1)).length := by omega
  have hj : j.toNat < (kt.map (·.1)).length := by omega
  rw [if_neg (dF a4), if_pos hii, if_pos ⟨by omega, by omega⟩, getD_in (strB []) hi, getD_in (strB []) hj, toL, toL]
  have hij : (L (kt.map (·.1))[i.toNat] == L (kt.map (·.1))[j.toNat]) = (i == j) := by
    rw [Bool.eq_iff_iff, beq_iff_eq, beq_iff_eq]
    constructor
    · intro e
      have hn : (kt.map fun p => L p.1).Nodup := by simpa using kt_nodup
      have e1 : (kt.map fun p => L p.1)[i.toNat]'(by simpa using hi) = (kt.map fun p => L p.1)[j.toNat]'(by simpa using hj) := by
        simp only [List.getElem_map] at e ⊢
        exact e
      have := (List.getElem_inj hn).1 e1
      omega
    · intro e; subst e; rfl
  rw [hij, if_neg (by simp)]
  generalize hx : (kt.map (·.1))[i.toNat] = x
  have hxm : x ∈ kt.map (·.1) := by rw [← hx]; exact List.getElem_mem hi
  obtain ⟨p, hp, rfl⟩ := List.mem_map.1 hxm
  have hpo := List.all_eq_true.1 ports_all p hp
  unfold portOk at hpo
  simp only [Bool.and_eq_true, decide_eq_true_eq, beq_iff_eq] at hpo
  obtain ⟨⟨p1, p2⟩, p3⟩ := hpo
  rw [input_b, output_b, channels_b, specs_b]
  simp only [if_pos hii, Option.bind_some]
  have e1 : (inK p.1 == 1) = decide (inK p.1 = 1) := by rw [Bool.eq_iff_iff]; simp
  rw [e1, p1, if_neg (by simp), if_neg (dF (by omega)), if_neg (eF p2.2.1), if_neg (dF (by omega)), if_neg (eF p2.2.2.2.1), if_neg (dF (by omega)), if_neg (dF (by omega))]
  have hg := specs_good p.1
  unfold goodSpecs at hg
  simp only [Bool.and_eq_true, decide_eq_true_eq] at hg
  exact ports20 _ (specs_len p.1) hg.2 p3 _ 0 rfl (by omega)

theorem len_le_bk {e : U} (hp : ∀ x : El e, 1 ≤ bk e x) : ∀ l : List (El e), l.length ≤ (l.map (bk e)).sum
  | [] => by simp
  | x :: l => by
    have h1 := len_le_bk hp l
    have h2 := hp x
    simp only [List.length_cons, List.map_cons, List.sum_cons]
    omega

theorem pars_len (l : List TParam) {n : Nat} (h : bk (.sl uParam) l ≤ n) : l.length ≤ n := by
  have h1 := len_le_bk (e := uParam) (fun x => by simp only [bk]; omega) l
  have e1 : bk (.sl uParam) l = (l.map (bk uParam)).sum + 1 := rfl
  rw [e1] at h
  omega

end Go.Proofs.YtjlagiolgpjglaaDoor
end
