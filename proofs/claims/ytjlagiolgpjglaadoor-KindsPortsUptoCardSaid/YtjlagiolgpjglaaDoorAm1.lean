/-
An abstract machine over plain values, and that what it computes is what the translated program does; rows out of it. No condition.
-/
import Derived.WalkKit
import Derived.Orders
import Derived.Laws.CopyRow
import Derived.Laws.Tables
import Derived.Laws.Slices
import Derived.Laws.AppendOwn
import Derived.Lib.AppendStr
import Derived.Laws.OwnMore
import Derived.Laws.MakeOwn
import Derived.Laws.BytesString
set_option linter.unusedVariables false
set_option linter.unusedSimpArgs false
set_option linter.unusedSectionVars false

section
/-
AM, an abstract machine over pure values for translated Go functions: its definitions. Slices are lists, structs are rows of cells, variables in memory are cells of a small local heap. No condition.
-/
namespace Go.AM
open Go

/-- The kinds of data: 'cons' joins the cells of two parts of a row. -/
inductive U where
  | int (k : IntKind) | bool | str | sl (e : U) | nil | cons (a b : U) | any
  deriving DecidableEq

@[reducible] def El : U → Type
  | .int _ => Int
  | .bool => Bool
  | .str => ByteArray
  | .sl e => List (El e)
  | .nil => Unit
  | .cons a b => El a × El b
  | .any => Value

def U.size : U → Nat
  | .nil => 0
  | .cons a b => a.size + b.size
  | _ => 1

def dflt : (u : U) → El u
  | .int _ => (0 : Int)
  | .bool => false
  | .str => (⟨#[]⟩ : ByteArray)
  | .sl _ => []
  | .nil => ()
  | .cons a b => (dflt a, dflt b)
  | .any => Value.nilIface

/-- A value of one cell. -/
inductive LV where
  | val (v : Value)
  | sl (e : U) (l : List (El e))
  | own (k : Nat)
  | ptr (k off : Nat)
  | rptr (e : U) (x : El e) (off : Nat)
  | eptr (k i sz off : Nat)
  | fn (f : Nat) (caps : List Nat)
  | oself (k : Nat)
  | junk

inductive SV where
  | one (x : LV)
  | agg (cs : List LV)

inductive AV where
  | sv (s : SV)
  | tup (l : List SV)

/-- A cell of the local heap: a variable, or the row of a slice that the function has for itself. -/
inductive HC where
  | dead
  | box (t : TypeId) (cs : List LV)
  | arr (t : TypeId) (e : U) (l : List (El e)) (sto : Bool)

/-- The local heap: the newest entry of a key stands first. -/
abbrev HL := List (Nat × HC)

def hget : HL → Nat → Option HC
  | [], _ => none
  | (j, c) :: r, k => if j = k then some c else hget r k

abbrev Upd := List (Nat × HC)

def flat : (u : U) → El u → List LV
  | .int k, x => [.val (.int k x)]
  | .bool, x => [.val (.bool x)]
  | .str, x => [.val (.string x)]
  | .sl e, x => [.sl e x]
  | .nil, _ => []
  | .cons a b, x => flat a x.1 ++ flat b x.2
  | .any, x => [.val x]

def castL {e : U} (l : List (El e)) (e' : U) : Option (List (El e')) := if h : e = e' then some (h ▸ l) else none

/-- Numbers, bools, strings, and rows of these. -/
def plain1 : Value → Bool
  | .bool _ | .int _ _ | .string _ => true
  | _ => false
def plainV : Value → Bool
  | .agg cs => cs.toList.all plain1
  | v => plain1 v
/-- An interface's value that holds no address. -/
def ifaceB : Value → Bool
  | .nilIface => true
  | .iface _ p => plainV p
  | _ => false

/-- A list that a slice value reads as: of data, nil, or a row that is not written any more. -/
def getL (H : HL) (e : U) : LV → Option (List (El e))
  | .sl e' l => castL (e := e') l e
  | .val (.slice none 0 0) => some []
  | .own k => match hget H k with
    | some (.arr _ e' l false) => castL (e := e') l e
    | _ => none
  | _ => none

def unflat (H : HL) : (u : U) → List LV → Option (El u × List LV)
  | .int k, .val (.int k' n) :: r => if k' = k then some (n, r) else none
  | .bool, .val (.bool b) :: r => some (b, r)
  | .str, .val (.string s) :: r => some (s, r)
  | .sl e, x :: r => match getL H e x with
    | some l => some (l, r)
    | none => none
  | .nil, r => some ((), r)
  | .any, .val v :: r => if ifaceB v = true then some (v, r) else none
  | .cons a b, cs => match unflat H a cs with
    | some (x, r) => match unflat H b r with
      | some (y, r') => some ((x, y), r')
      | none => none
    | none => none
  | _, _ => none

/-- The updates by which rows in these cells are not written any more: their lists may be told as data. -/
def fzU (H : HL) : List LV → Upd
  | [] => []
  | .own k :: r => match hget H k with
    | some (.arr t e l true) => (k, .arr t e l false) :: fzU H r
    | _ => fzU H r
  | _ :: r => fzU H r

def scal : Value → Bool
  | .bool _ | .int _ _ | .string _ | .nilFunc | .nilIface | .pointer none | .slice none 0 0 => true
  | .iface _ p => plainV p
  | _ => false

structure TD where
  desc : TypeDesc
  size : Nat
  bytes : Nat
  zero : List LV
  u : Option U
  eqok : Bool
  places : List (Nat × Nat)

abbrev TT := TypeId → Option TD

def TD.isAgg (d : TD) : Bool := match d.desc with
  | .struct _ | .array _ _ => true
  | _ => false

def SV.cells : SV → List LV
  | .one x => [x]
  | .agg cs => cs

def LV.nj : LV → Bool
  | .junk => false
  | _ => true

def cellsA : AV → Option (List LV)
  | .sv s => if s.cells.all LV.nj = true then some s.cells else none
  | .tup _ => none

def mkSV (agg : Bool) (cs : List LV) : Option SV :=
  if agg then some (.agg cs) else match cs with
    | [x] => some (.one x)
    | _ => none

def splice (cs : List LV) (off : Nat) (s : List LV) : List LV := cs.take off ++ s ++ cs.drop (off + s.length)

/-! ### shapes: what is known of a state -/
inductive LSh where
  | int (k : IntKind) | bool | str | sl (e : U) | own (j : Nat) | ptr (j off : Nat) | fn (f : Nat) (caps : List Nat) | oself (j : Nat) | inil | junk

@[reducible] def LSh.Ty : LSh → Type
  | .int _ => Int
  | .bool => Bool
  | .str => ByteArray
  | .sl e => List (El e)
  | _ => Unit

@[reducible] def TyL : List LSh → Type
  | [] => Unit
  | s :: r => s.Ty × TyL r

inductive SSh where
  | one (x : LSh) | row (u : U) | agg (l : List LSh)

@[reducible] def SSh.Ty : SSh → Type
  | .one x => x.Ty
  | .row u => El u
  | .agg l => TyL l

@[reducible] def TyS : List SSh → Type
  | [] => Unit
  | s :: r => s.Ty × TyS r

inductive HSh where
  | dead | box (t : TypeId) (l : List LSh) | boxr (t : TypeId) (u : U) | arr (t : TypeId) (e : U) (sto : Bool)

@[reducible] def HSh.Ty : HSh → Type
  | .dead => Unit
  | .box _ l => TyL l
  | .boxr _ u => El u
  | .arr _ e _ => List (El e)

@[reducible] def TyH : List HSh → Type
  | [] => Unit
  | s :: r => s.Ty × TyH r

structure Shape where
  slots : List SSh
  heap : List HSh

@[reducible] def Shape.Ty (s : Shape) : Type := TyS s.slots × TyH s.heap

/-- A bound key: a row or variable of the local heap, or a nil slice. -/
abbrev KB := Option Nat

structure MS where
  H : HL
  u : Upd
  κ : List KB

def MS.h (m : MS) : HL := m.u ++ m.H

def bindKey (m : MS) (j : Nat) (kb : KB) : Option MS :=
  if j < m.κ.length then
    match m.κ[j]?, kb with
    | some (some a), some b => if a = b then some m else none
    | some none, none => some m
    | _, _ => none
  else if j = m.κ.length then
    some { m with κ := m.κ ++ [kb] }
  else none

def bindCaps (m : MS) : List Nat → List Nat → Option MS
  | [], [] => some m
  | j :: js, k :: ks => match bindKey m j (some k) with
    | some m => bindCaps m js ks
    | none => none
  | _, _ => none

def matchL (sh : LSh) (x : LV) (m : MS) : Option (sh.Ty × MS) :=
  match sh, x with
  | .int k, .val (.int k' n) => if k' = k then some (n, m) else none
  | .bool, .val (.bool b) => some (b, m)
  | .str, .val (.string s) => some (s, m)
  | .sl e, x => match getL (fzU m.h [x] ++ m.h) e x with
    | some l => some (l, { m with u := fzU m.h [x] ++ m.u })
    | none => none
  | .own j, .own k => match bindKey m j (some k) with
    | some m => some ((), m)
    | none => none
  | .own j, .val (.slice none 0 0) => match bindKey m j none with
    | some m => some ((), m)
    | none => none
  | .ptr j off, .ptr k off' => if off = off' then match bindKey m j (some k) with
      | some m => some ((), m)
      | none => none
    else none
  | .fn f js, .fn f' ks => if f = f' then match bindCaps m js ks with
      | some m => some ((), m)
      | none => none
    else none
  | .oself j, .oself k => match bindKey m j (some k) with
    | some m => some ((), m)
    | none => none
  | .oself j, .ptr k 0 => match bindKey m j (some k) with
    | some m => some ((), m)
    | none => none
  | .oself j, .val (.pointer none) => match m.κ[j]? with
    | some (some k) => match hget m.h k with
      | some (.box _ _) => some ((), m)
      | _ => none
    | _ => none
  | .inil, .val .nilIface => some ((), m)
  | .junk, _ => some ((), m)
  | _, _ => none

def matchLs : (sh : List LSh) → List LV → MS → Option (TyL sh × MS)
  | [], [], m => some ((), m)
  | s :: ss, x :: xs, m => match matchL s x m with
    | some (a, m) => match matchLs ss xs m with
      | some (b, m) => some ((a, b), m)
      | none => none
    | none => none
  | _, _, _ => none

def matchR (u : U) (cs : List LV) (m : MS) : Option (El u × MS) :=
  match unflat (fzU m.h cs ++ m.h) u cs with
  | some (x, []) => some (x, { m with u := fzU m.h cs ++ m.u })
  | _ => none

def matchS (sh : SSh) (s : SV) (m : MS) : Option (sh.Ty × MS) :=
  match sh, s with
  | .one x, .one y => matchL x y m
  | .one .junk, .agg _ => some ((), m)
  | .row u, .agg cs => matchR u cs m
  | .agg l, .agg cs => matchLs l cs m
  | _, _ => none

def matchSs : (sh : List SSh) → List SV → MS → Option (TyS sh × MS)
  | [], [], m => some ((), m)
  | s :: ss, x :: xs, m => match matchS s x m with
    | some (a, m) => match matchSs ss xs m with
      | some (b, m) => some ((a, b), m)
      | none => none
    | none => none
  | _, _, _ => none

def matchHC (sh : HSh) (kb : KB) (m : MS) : Option (sh.Ty × MS) :=
  match sh, kb with
  | .dead, _ => some ((), m)
  | .box t l, some k => match hget m.h k with
    | some (.box t' cs) => if t' = t then matchLs l cs m else none
    | _ => none
  | .boxr t u, some k => match hget m.h k with
    | some (.box t' cs) => if t' = t then matchR u cs m else none
    | _ => none
  | .arr t e s, some k => match hget m.h k with
    | some (.arr t' e' l _) => if t' = t then match castL (e := e') l e with
        | some l => some (l, { m with u := (if s = true then [] else fzU m.h [.own k]) ++ m.u })
        | none => none
      else none
    | _ => none
  | .arr _ _ _, none => some ([], m)
  | _, _ => none

def matchHs : (sh : List HSh) → (j : Nat) → MS → Option (TyH sh × MS)
  | [], j, m => if j = m.κ.length then some ((), m) else none
  | s :: ss, j, m => match m.κ[j]? with
    | some kb => match matchHC s kb m with
      | some (a, m) => match matchHs ss (j + 1) m with
        | some (b, m) => some ((a, b), m)
        | none => none
      | none => none
    | none => none

/-- Behind all: what shall be writable is. -/
def stoOk : List HSh → List KB → HL → Bool
  | [], _, _ => true
  | .arr _ _ true :: ss, some k :: κ, H => (match hget H k with | some (.arr _ _ _ true) => true | _ => false) && stoOk ss κ H
  | _ :: ss, _ :: κ, H => stoOk ss κ H
  | _ :: _, [], _ => false

/-- The keys of what lives. -/
def liveKeys : List HSh → List KB → List Nat
  | .dead :: ss, _ :: κ => liveKeys ss κ
  | _ :: ss, some k :: κ => k :: liveKeys ss κ
  | _ :: ss, none :: κ => liveKeys ss κ
  | _, _ => []

def nodupK : List Nat → Bool
  | [] => true
  | a :: l => l.all (fun b => b != a) && nodupK l

def matchAll (sh : Shape) (xs : List SV) (m : MS) : Option (sh.Ty × MS) :=
  match matchSs sh.slots xs m with
  | some (a, m) => match matchHs sh.heap 0 m with
    | some (b, m) => if (stoOk sh.heap m.κ m.h && nodupK (liveKeys sh.heap m.κ)) = true then some ((a, b), m) else none
    | none => none
  | none => none

/-! ### shapes: a state of a shape, its keys renamed -/
def encL (ρ : Nat → Nat) : (sh : LSh) → sh.Ty → LV
  | .int k, n => .val (.int k n)
  | .bool, b => .val (.bool b)
  | .str, s => .val (.string s)
  | .sl e, l => .sl e l
  | .own j, _ => .own (ρ j)
  | .ptr j off, _ => .ptr (ρ j) off
  | .fn f js, _ => .fn f (js.map ρ)
  | .oself j, _ => .oself (ρ j)
  | .inil, _ => .val .nilIface
  | .junk, _ => .junk

def encLs (ρ : Nat → Nat) : (sh : List LSh) → TyL sh → List LV
  | [], _ => []
  | s :: ss, x => encL ρ s x.1 :: encLs ρ ss x.2

def encS (ρ : Nat → Nat) : (sh : SSh) → sh.Ty → SV
  | .one s, x => .one (encL ρ s x)
  | .row u, x => .agg (flat u x)
  | .agg l, x => .agg (encLs ρ l x)

def encSs (ρ : Nat → Nat) : (sh : List SSh) → TyS sh → List SV
  | [], _ => []
  | s :: ss, x => encS ρ s x.1 :: encSs ρ ss x.2

def encHC (ρ : Nat → Nat) : (sh : HSh) → sh.Ty → HC
  | .dead, _ => .dead
  | .box t l, x => .box t (encLs ρ l x)
  | .boxr t u, x => .box t (flat u x)
  | .arr t e s, x => .arr t e x s

/-- Key number j of the shape becomes ρ j. -/
def encHs (ρ : Nat → Nat) : (j : Nat) → (sh : List HSh) → TyH sh → HL
  | _, [], _ => []
  | j, s :: ss, x => (ρ j, encHC ρ s x.1) :: encHs ρ (j + 1) ss x.2

/-! ### contracts of callees -/
structure FC where
  sa : Shape
  sr : Shape
  f : sa.Ty → Option sr.Ty

abbrev CT := Nat → List FC

/-! ### one operation -/
structure St where
  slots : List (Nat × AV)
  heap : HL
  hn : Nat

def sget : List (Nat × AV) → Nat → AV
  | [], _ => .sv (.one .junk)
  | (j, v) :: r, t => if j = t then v else sget r t

def St.get (st : St) (t : Nat) : AV := sget st.slots t

def bt (s : ByteArray) (i : Int) : Int := ((s.data.toList.getD i.toNat 0).toNat : Int)

def constLV : Value → LV
  | .func (.func f) first caps => if first.size = 0 ∧ caps.size = 0 then .fn f [] else .junk
  | v => if scal v then .val v else .junk

def constAV : Value → AV
  | .agg cs => .sv (.agg (cs.toList.map constLV))
  | v => .sv (.one (constLV v))

def ev (st : St) : Operand → AV
  | .tmp t => st.get t
  | .const v => constAV v
  | .func f => .sv (.one (.fn f []))
  | .global _ => .sv (.one .junk)

/-- How many cells of the local heap an operation may make. -/
def width : Op → Nat
  | .alloc _ | .box _ _ | .buildSlice _ _ _ | .makeSlice _ _ _ | .slice _ _ _ _ _ | .convert _ _ _ => 1
  | .call { callee := .builtin _, .. } => 1
  | .call _ => 12
  | _ => 0

section
variable {R : Type}

def ld (T : TT) (t : TypeId) (cs : List LV) (off : Nat) (k : SV → Option R) : Option R :=
  match T t with
  | some d => if off + d.size ≤ cs.length then match mkSV d.isAgg ((cs.drop off).take d.size) with
      | some s => k s
      | none => none
    else none
  | none => none

/-- One of the numbers below a bound: each told apart. -/
def pickN (n : Nat) : Nat → (Nat → Option R) → Option R
  | 0, _ => none
  | len + 1, f => if n = len then f len else pickN n len f

def unflatN (H : HL) (u : U) : Nat → List LV → Option (List (El u))
  | 0, _ => some []
  | n + 1, cs => match unflat H u cs with
    | some (x, r) => match unflatN H u n r with
      | some xs => some (x :: xs)
      | none => none
    | none => none

def repeatL (cs : List LV) : Nat → List LV
  | 0 => []
  | n + 1 => cs ++ repeatL cs n

def fillL (place : Nat → Option (Nat × Nat)) (cells : List LV) : List (Nat × AV) → Option (List LV)
  | [] => some cells
  | (i, v) :: rest => match place i, cellsA v with
    | some (off, size), some s => if s.length = size ∧ off + size ≤ cells.length then fillL place (splice cells off s) rest else none
    | _, _ => none

def concrete : TypeDesc → Bool
  | .interface _ => false
  | _ => true

def valsL : List LV → Option (List Value)
  | [] => some []
  | .val v :: r => if plain1 v = true then match valsL r with
      | some l => some (v :: l)
      | none => none
    else none
  | _ => none

/-- What an interface's value holds. -/
def payV : SV → Option Value
  | .one (.val v) => if plain1 v = true then some v else none
  | .agg cs => match valsL cs with
    | some l => some (.agg ⟨l⟩)
    | none => none
  | _ => none

def aggB : Value → Bool
  | .agg _ => true
  | _ => false

def readU (u : U) (p : Value) : Option (El u) := match unflat [] u (p.cells.toList.map LV.val) with
  | some (y, []) => some y
  | _ => none

/-- An interface's value as one of this type: none where nothing can be said; some none where it is of another type. -/
def asT (ta : TypeId) (agg : Bool) (u : U) : Value → Option (Option (El u))
  | .iface t p => if t = ta then (if aggB p = agg then match readU u p with
      | some y => some (some y)
      | none => none
      else none) else some none
  | .nilIface => some none
  | _ => none

def binV (tb : Bool) (op : BinOp) (a b : Value) (k : Value → Option R) : Option R :=
  match op, a, b with
  | .shl, .int ka x, .int _ y => if 0 ≤ y then k (.int ka (ka.wrap (x * 2 ^ (min y.toNat ka.bits)))) else none
  | .shr, .int ka x, .int _ y => if 0 ≤ y then k (.int ka (x.fdiv (2 ^ (min y.toNat ka.bits)))) else none
  | op, .int ka x, .int kb y => if ka = kb then
      match op with
      | .add => k (.int ka (ka.wrap (x + y)))
      | .sub => k (.int ka (ka.wrap (x - y)))
      | .mul => k (.int ka (ka.wrap (x * y)))
      | .quo => if y = 0 then none else k (.int ka (ka.wrap (x.tdiv y)))
      | .rem => if y = 0 then none else k (.int ka (x.tmod y))
      | .and => k (.int ka (ka.wrap (BitVec.ofInt ka.bits x &&& BitVec.ofInt ka.bits y).toNat))
      | .or => k (.int ka (ka.wrap (BitVec.ofInt ka.bits x ||| BitVec.ofInt ka.bits y).toNat))
      | .xor => k (.int ka (ka.wrap (BitVec.ofInt ka.bits x ^^^ BitVec.ofInt ka.bits y).toNat))
      | .andNot => k (.int ka (ka.wrap (BitVec.ofInt ka.bits x &&& ~~~ BitVec.ofInt ka.bits y).toNat))
      | .eql => k (.bool (x == y))
      | .neq => k (.bool (x != y))
      | .lss => k (.bool (decide (x < y)))
      | .leq => k (.bool (decide (x ≤ y)))
      | .gtr => k (.bool (decide (x > y)))
      | .geq => k (.bool (decide (x ≥ y)))
      | _ => none
    else none
  | .eql, .bool x, .bool y => if tb = true then k (.bool (x == y)) else none
  | .neq, .bool x, .bool y => if tb = true then k (.bool (!(x == y))) else none
  | .add, .string x, .string y => if x.size + y.size ≤ 9223372036854775807 then k (.string (x ++ y)) else none
  | .eql, .string x, .string y => k (.bool (x.toList == y.toList))
  | .neq, .string x, .string y => k (.bool (!(x.toList == y.toList)))
  | .lss, .string x, .string y => k (.bool (Op.bytesLess x.toList y.toList))
  | .leq, .string x, .string y => k (.bool (Op.bytesLess x.toList y.toList || x.toList == y.toList))
  | .gtr, .string x, .string y => k (.bool (!(Op.bytesLess x.toList y.toList || x.toList == y.toList)))
  | .geq, .string x, .string y => k (.bool (!(Op.bytesLess x.toList y.toList)))
  | _, _, _ => none

def isBoolT (T : TT) (t : TypeId) : Bool := match T t with
  | some d => match d.desc with
    | .bool => true
    | _ => false
  | none => false

def isLit : Operand → Bool
  | .const _ => true
  | _ => false

def isIface (T : TT) (t : TypeId) : Bool := match T t with
  | some d => match d.desc with
    | .interface _ => true
    | _ => false
  | none => false

def isU8 (T : TT) (t : TypeId) : Bool := match T t with
  | some d => match d.desc with
    | .int .u8 => true
    | _ => false
  | none => false

/-- Are two rows of numbers, bools and strings equal? -/
def eqU : (u : U) → El u → El u → Bool
  | .int _, x, y => (x : Int) == y
  | .bool, x, y => (x : Bool) == y
  | .str, x, y => (x : ByteArray).toList == (y : ByteArray).toList
  | .sl _, _, _ => false
  | .nil, _, _ => true
  | .cons a b, x, y => eqU a x.1 y.1 && eqU b x.2 y.2
  | .any, _, _ => false

def fieldOf (T : TT) (s : TypeId) (f : Nat) : Option Field := match T s with
  | some d => match d.desc with
    | .struct fs => fs[f]?
    | _ => none
  | none => none

def elemOfT (T : TT) (t : TypeId) : Option (TypeId × U × TD) := match T t with
  | some d => match d.desc with
    | .slice e => match T e with
      | some de => match de.u with
        | some u => some (e, u, de)
        | none => none
      | none => none
    | _ => none
  | none => none

def strOfBytes (l : List Int) : ByteArray := ⟨(l.map fun n => UInt8.ofNat n.toNat).toArray⟩
def bytesOfStr (s : ByteArray) : List Int := s.data.toList.map fun b => (b.toNat : Int)

def toSVs : List AV → Option (List SV)
  | [] => some []
  | .sv s :: r => match toSVs r with | some l => some (s :: l) | none => none
  | _ => none

def retAV : List SV → AV
  | [s] => .sv s
  | l => .tup l

def keyOf (κ : List KB) (base j : Nat) : Nat := match κ[j]? with
  | some (some k) => k
  | _ => base + j

/-- One way where there is something, another where there is none. -/
def orK {α : Type} (o : Option α) (s : α → Option R) (n : Option R) : Option R := match o with
  | some y => s y
  | none => n

def callK (fcs : List FC) (args : List SV) (base : Nat) (H : HL) (k : AV → Upd → Option R) : Option R :=
  match fcs with
  | [] => none
  | fc :: r => match matchAll fc.sa args ⟨H, [], []⟩ with
    | some (x, m) => match Nat.ble fc.sr.heap.length 12 with
      | true => orK (fc.f x) (fun y => k (retAV (encSs (keyOf m.κ base) fc.sr.slots y.1)) (encHs (keyOf m.κ base) 0 fc.sr.heap y.2 ++ m.u)) (callK r args base H k)
      | false => none
    | none => callK r args base H k

/-- The list that a slice reads as, without any change. -/
def peekL (H : HL) (e : U) : LV → Option (List (El e))
  | .own k => match hget H k with
    | some (.arr _ e' l _) => castL (e := e') l e
    | _ => none
  | x => getL H e x

/-- What is appended: a slice, or a string's bytes. -/
def srcL (H : HL) (u : U) (d : TypeDesc) (x : LV) : Option (List (El u)) :=
  match d with
  | .slice _ => peekL H u x
  | .string => match x with
    | .val (.string b) => castL (e := .int .u8) (bytesOfStr b) u
    | _ => none
  | _ => none

def capKeys (e : Operand → AV) : List Operand → Option (List Nat)
  | [] => some []
  | c :: cs => match e c, capKeys e cs with
    | .sv (.one (.ptr b 0)), some l => some (b :: l)
    | _, _ => none

/-- Is the rest of a row to stay the function's own? The table of contracts says so by a mark. -/
def ownRow (C : CT) (o : Oper) (H : HL) (y : LV) : Option (Nat × TypeId) :=
  match o.dst, y with
  | some t, .own b => match C (1000000 + t) with
    | [] => none
    | _ => match hget H b with
      | some (.arr te _ _ true) => some (b, te)
      | _ => none
  | _, _ => none

def act (T : TT) (C : CT) (o : Oper) (base : Nat) (e : Operand → AV) (H : HL) (k : AV → Upd → Option R) : Option R :=
  match o.op with
  | .move x | .assign x => k (e x) []
  | .pick c a b => match e c with
    | .sv (.one (.val (.bool t))) => match e a, e b with
      | .sv (.one (.val (.int ka x))), .sv (.one (.val (.int kb y))) => if ka = kb then k (.sv (.one (.val (.int ka (if t = true then x else y))))) [] else none
      | .sv (.one (.val (.bool x))), .sv (.one (.val (.bool y))) => k (.sv (.one (.val (.bool (if t = true then x else y))))) []
      | .sv (.one (.val (.string x))), .sv (.one (.val (.string y))) => k (.sv (.one (.val (.string (if t = true then x else y))))) []
      | x, y => if t = true then k x [] else k y []
    | _ => none
  | .alloc t => match T t with
    | some d => k (.sv (.one (.ptr base 0))) [(base, .box t d.zero)]
    | none => none
  | .box t x => match cellsA (e x) with
    | some s => k (.sv (.one (.ptr base 0))) [(base, .box t s)]
    | none => none
  | .build t parts => match T t with
    | some d => match d.desc with
      | .struct _ => match fillL (fun i => d.places[i]?) d.zero (parts.toList.map fun p => (p.1, e p.2)) with
        | some cs => k (.sv (.agg cs)) []
        | none => none
      | .array _ el => match T el with
        | some de => match fillL (fun i => some (i * de.size, de.size)) d.zero (parts.toList.map fun p => (p.1, e p.2)) with
          | some cs => k (.sv (.agg cs)) []
          | none => none
        | none => none
      | _ => none
    | none => none
  | .buildSlice t len parts => match elemOfT T t with
    | some (te, u, de) => match fillL (fun i => some (i * de.size, de.size)) (repeatL de.zero len) (parts.toList.map fun p => (p.1, e p.2)) with
      | some cs => match unflatN (fzU H cs ++ H) u len cs with
        | some l => if len * de.size ≤ 16777216 then k (.sv (.one (.own base))) ((base, .arr te u l true) :: fzU H cs) else none
        | none => none
      | none => none
    | none => none
  | .load t a => match e a with
    | .sv (.one (.ptr b off)) => match hget H b with
      | some (.box _ cs) => ld T t cs off fun s => k (.sv s) []
      | _ => none
    | .sv (.one (.rptr u x off)) => ld T t (flat u x) off fun s => k (.sv s) []
    | .sv (.one (.eptr b i sz off)) => match hget H b with
      | some (.arr _ u l _) => if sz = u.size then ld T t (flat u (l.getD i (dflt u))) off fun s => k (.sv s) [] else none
      | _ => none
    | _ => none
  | .store t a x => match e a, cellsA (e x), T t with
    | .sv (.one (.ptr b off)), some s, some d => match hget H b with
      | some (.box tb cs) => if s.length = d.size ∧ off + d.size ≤ cs.length then k (.sv (.one .junk)) [(b, .box tb (splice cs off s))] else none
      | _ => none
    | .sv (.one (.eptr b i sz off)), some s, some d => match hget (fzU H s ++ H) b with
      | some (.arr tu u l true) => let cs := flat u (l.getD i (dflt u))
        if s.length = d.size ∧ off + d.size ≤ cs.length ∧ sz = u.size then
          match unflat (fzU H s ++ H) u (splice cs off s) with
          | some (y, []) => k (.sv (.one .junk)) ((b, .arr tu u (l.set i y) true) :: fzU H s)
          | _ => none
        else none
      | _ => none
    | _, _, _ => none
  | .nilCheck x => match e x with
    | .sv (.one (.ptr b off)) => k (.sv (.one (.ptr b off))) []
    | .sv (.one (.rptr u y off)) => k (.sv (.one (.rptr u y off))) []
    | .sv (.one (.eptr b i sz off)) => k (.sv (.one (.eptr b i sz off))) []
    | .sv (.one (.fn f cs)) => k (.sv (.one (.fn f cs))) []
    | _ => none
  | .binOp op t x y _ => match e x, e y with
    | .sv (.one (.val .nilIface)), .sv (.one (.val .nilIface)) => match isIface T t && (isLit x || isLit y), op with
      | true, .eql => k (.sv (.one (.val (.bool true)))) []
      | true, .neq => k (.sv (.one (.val (.bool false)))) []
      | _, _ => none
    | .sv (.one (.val a)), .sv (.one (.val b)) => binV (isBoolT T t) op a b fun v => k (.sv (.one (.val v))) []
    | .sv (.agg a), .sv (.agg b) => match T t with
      | some d => if d.eqok = true then match d.u with
          | some u => match unflat [] u a, unflat [] u b with
            | some (xa, []), some (xb, []) => match op with
              | .eql => k (.sv (.one (.val (.bool (eqU u xa xb))))) []
              | .neq => k (.sv (.one (.val (.bool (!eqU u xa xb))))) []
              | _ => none
            | _, _ => none
          | none => none
        else none
      | none => none
    | _, _ => none
  | .unOp op _ x => match op, e x with
    | .neg, .sv (.one (.val (.int kk n))) => k (.sv (.one (.val (.int kk (kk.wrap (0 - n)))))) []
    | .not, .sv (.one (.val (.bool b))) => k (.sv (.one (.val (.bool (!b))))) []
    | .xor, .sv (.one (.val (.int kk n))) => k (.sv (.one (.val (.int kk (kk.wrap (BitVec.ofInt kk.bits (if kk.signed then -1 else kk.max) ^^^ BitVec.ofInt kk.bits n).toNat))))) []
    | _, _ => none
  | .convert src dst x => match T src, T dst, e x with
    | some ds, some dd, .sv (.one y) => match ds.desc, dd.desc, y with
      | .int _, .int kk, .val (.int _ n) => k (.sv (.one (.val (.int kk (kk.wrap n))))) []
      | .string, .string, .val (.string s) => k (.sv (.one (.val (.string s)))) []
      | .slice te, .string, y => if isU8 T te = true then match peekL H (.int .u8) y with
          | some l => k (.sv (.one (.val (.string (strOfBytes l))))) []
          | none => none
        else none
      | _, _, _ => none
    | _, _, _ => none
  | .makeFunc (.func f) first captured => if first.size = 0 then
      match capKeys e captured.toList with
      | some l => k (.sv (.one (.fn f l))) []
      | none => none
    else none
  | .makeSlice t n c => match elemOfT T t, e n, e c with
    | some (te, u, de), .sv (.one (.val (.int .i64 a))), .sv (.one (.val (.int .i64 b))) =>
      if (a = 0 ∨ a = b) ∧ 0 ≤ b ∧ b * de.bytes ≤ 140737488355328 ∧ 0 < de.bytes then k (.sv (.one (.own base))) [(base, .arr te u (List.replicate a.toNat (dflt u)) true)] else none
    | _, _, _ => none
  | .slice t x lo hi none => match T t with
    | some d =>
      let b := match lo with
        | none => some 0
        | some y => match e y with
          | .sv (.one (.val (.int _ n))) => some n
          | _ => none
      match b with
      | none => none
      | some a => match d.desc, e x with
        | .string, .sv (.one (.val (.string s))) => match hi with
          | none => if 0 ≤ a ∧ a ≤ (s.size : Int) then k (.sv (.one (.val (.string (s.extract a.toNat s.size))))) [] else none
          | some y => match e y with
            | .sv (.one (.val (.int _ n))) => if 0 ≤ a ∧ a ≤ n ∧ n ≤ (s.size : Int) then k (.sv (.one (.val (.string (s.extract a.toNat n.toNat))))) [] else none
            | _ => none
        | .slice _, .sv (.one y) => match elemOfT T t with
          | some (_, u, _) => match peekL H u y with
            | some l => match hi with
              | none => if 0 ≤ a ∧ a ≤ (l.length : Int) then
                  match ownRow C o H y with
                  | some bt => k (.sv (.one (.own base))) [(base, .arr bt.2 u (l.drop a.toNat) true), (bt.1, .dead)]
                  | none => k (.sv (.one (.sl u (l.drop a.toNat)))) (fzU H [y])
                else none
              | some z => match e z with
                | .sv (.one (.val (.int _ n))) => if 0 ≤ a ∧ a ≤ n ∧ n ≤ (l.length : Int) then k (.sv (.one (.sl u ((l.take n.toNat).drop a.toNat)))) (fzU H [y]) else none
                | _ => none
            | none => none
          | none => none
        | _, _ => none
    | none => none
  | .fieldAddr s x f => match fieldOf T s f with
    | some fl => match T fl.type with
      | some df => if df.size = 0 then none else match e x with
        | .sv (.one (.ptr b off)) => k (.sv (.one (.ptr b (off + fl.offset)))) []
        | .sv (.one (.rptr u y off)) => k (.sv (.one (.rptr u y (off + fl.offset)))) []
        | .sv (.one (.eptr b i sz off)) => k (.sv (.one (.eptr b i sz (off + fl.offset)))) []
        | _ => none
      | none => none
    | none => none
  | .field s x f => match fieldOf T s f, e x with
    | some fl, .sv (.agg cs) => ld T fl.type cs fl.offset fun s => k (.sv s) []
    | _, _ => none
  | .indexAddr t x i => match elemOfT T t, e x, e i with
    | some (_, u, _), .sv (.one y), .sv (.one (.val (.int _ n))) => match y with
      | .own b => match hget H b with
        | some (.arr _ u' l _) => if u = u' then if 0 ≤ n ∧ n < (l.length : Int) then k (.sv (.one (.eptr b n.toNat u.size 0))) [] else none else none
        | _ => none
      | y => match getL H u y with
        | some l => if 0 ≤ n ∧ n < (l.length : Int) then k (.sv (.one (.rptr u (l.getD n.toNat (dflt u)) 0))) [] else none
        | none => none
    | none, .sv (.one (.ptr b off)), .sv (.one (.val (.int _ n))) => match T t with
      | some d => match d.desc with
        | .array len el => match T el with
          | some de => if 0 ≤ n ∧ n < (len : Int) then pickN n.toNat len fun i => k (.sv (.one (.ptr b (off + i * de.size)))) [] else none
          | none => none
        | _ => none
      | none => none
    | _, _, _ => none
  | .index t x i => match T t, e x, e i with
    | some d, .sv (.one (.val (.string s))), .sv (.one (.val (.int _ n))) => match d.desc with
      | .string => if 0 ≤ n ∧ n < (s.size : Int) then k (.sv (.one (.val (.int .u8 (bt s n))))) [] else none
      | _ => none
    | some d, .sv (.agg cs), .sv (.one (.val (.int _ n))) => match d.desc with
      | .array len el => match T el with
        | some de => match de.u with
          | some u => match unflatN [] u len cs with
            | some l => if cs.length = len * de.size then if 0 ≤ n ∧ n < (len : Int) then match mkSV de.isAgg (flat u (l.getD n.toNat (dflt u))) with
                | some s => k (.sv s) []
                | none => none
                else none
              else none
            | none => none
          | none => none
        | none => none
      | _ => none
    | _, _, _ => none
  | .makeInterface t x => match T t, e x with
    | some d, .sv s => match concrete d.desc with
      | true => match payV s with
        | some p => k (.sv (.one (.val (.iface t p)))) []
        | none => none
      | false => none
    | _, _ => none
  | .typeAssert x _ ta true => match T ta, e x with
    | some d, .sv (.one (.val v)) => match concrete d.desc, d.u with
      | true, some u => (asT ta d.isAgg u v).bind fun o => orK o
          (fun y => match mkSV d.isAgg (flat u y) with
            | some s => k (.tup [s, .one (.val (.bool true))]) []
            | none => none)
          (k (.tup [.one .junk, .one (.val (.bool false))]) [])
      | _, _ => none
    | _, _ => none
  | .extract t i => match e t with
    | .tup l => match l[i]? with
      | some s => k (.sv s) []
      | none => none
    | _ => none
  | .call c => match c.callee with
    | .builtin b => match b, c.args.toList.map e, c.argTypes.toList with
      | .len, [.sv (.one y)], [t] => match T t with
        | some d => match d.desc, y with
          | .string, .val (.string s) => k (.sv (.one (.val (.int .i64 s.size)))) []
          | .slice _, y => match elemOfT T t with
            | some (_, u, _) => match peekL H u y with
              | some l => k (.sv (.one (.val (.int .i64 l.length)))) []
              | none => none
            | none => none
          | _, _ => none
        | none => none
      | .append, [.sv (.one s), .sv (.one x)], [t, tx] => match elemOfT T t, T tx with
        | some (te, u, de), some dx =>
          match srcL H u dx.desc x with
          | some xs => match s with
            | .val (.slice none 0 0) => if xs.length * de.bytes ≤ 140737488355328 ∧ 0 < de.bytes then k (.sv (.one (.own base))) [(base, .arr te u xs true)] else none
            | .own b => match hget H b with
              | some (.arr te' u' l st) => if te' = te then match castL (e := u') l u with
                | some l => if (l.length + xs.length) * de.bytes ≤ 140737488355328 ∧ 0 < de.bytes then k (.sv (.one (.own base))) [(base, .arr te u (l ++ xs) st), (b, .dead)] else none
                | none => none
                else none
              | _ => none
            | _ => none
          | none => none
        | _, _ => none
      | .min, [.sv (.one (.val (.int ka x))), .sv (.one (.val (.int kb y)))], _ => if ka = kb then k (.sv (.one (.val (.int ka (if y < x then y else x))))) [] else none
      | .max, [.sv (.one (.val (.int ka x))), .sv (.one (.val (.int kb y)))], _ => if ka = kb then k (.sv (.one (.val (.int ka (if x < y then y else x))))) [] else none
      | _, _, _ => none
    | .value f => match e f, toSVs (c.args.toList.map e) with
      | .sv (.one (.fn g caps)), some args => callK (C g) (args ++ caps.map fun b => .one (.ptr b 0)) base H k
      | _, _ => none
    | _ => none
  | _ => none

end
end Go.AM
end

section
/-
AM: regions, code, frames, functions: definitions. No condition.
-/
namespace Go.AM
open Go

section
variable {R : Type}

def keysL : LV → List Nat
  | .own k => [k]
  | .ptr k _ => [k]
  | .eptr k _ _ _ => [k]
  | .fn _ ks => ks
  | .oself k => [k]
  | _ => []

def keysS : SV → List Nat
  | .one x => keysL x
  | .agg cs => cs.flatMap keysL

def keysA : AV → List Nat
  | .sv s => keysS s
  | .tup l => l.flatMap keysS

def keysHC : HC → List Nat
  | .box _ cs => cs.flatMap keysL
  | _ => []

/-- The keys that are reached from these, through variables. -/
def reach (H : HL) : Nat → List Nat → List Nat
  | 0, ks => ks
  | n + 1, ks => reach H n (ks ++ ks.flatMap fun k => match hget H k with
    | some c => (keysHC c).filter fun j => !ks.contains j
    | none => [])

def rkeys (o : Oper) (e : Operand → AV) (H : HL) : List Nat :=
  match o.op with
  | .move _ | .assign _ | .makeFunc _ _ _ | .fieldAddr _ _ _ | .field _ _ _ | .nilCheck _ => []
  | .call { callee := .value f, args, .. } => reach H 3 ((e f :: args.toList.map e).flatMap keysA)
  | op => (op.operands.toList.map e).flatMap keysA

def meets (a b : List Nat) : Bool := a.any b.contains

def okFp (b : List Nat) (i : Nat) (r w : List Nat) (fps : List (Nat × List Nat × List Nat)) : Bool :=
  fps.all fun x => (b.getD i 0).testBit x.1 || (!meets x.2.2 r && !meets x.2.2 w && !meets x.2.1 w)

/-- The keys are closed: what their variables hold is among them. -/
def closedB (H : HL) (ks : List Nat) : Bool := ks.all fun k => match hget H k with
  | some (.box _ cs) => (cs.flatMap keysL).all ks.contains
  | _ => true

/-- The reading of a call is closed. -/
def rok (o : Oper) (e : Operand → AV) (H : HL) : Bool := match o.op with
  | .call { callee := .value _, .. } => closedB H (rkeys o e H)
  | _ => true

def put (slots : List (Nat × AV)) (d : Option Nat) (v : AV) : List (Nat × AV) := match d with
  | some d => (d, v) :: slots
  | none => slots

/-- What an operation that is not carried out leaves. -/
def junkA : AV := .tup []

/-- A test's value; 'some none': it was not carried out. -/
def boolAt (ops : List Oper) (st : St) (j : Nat) : Option (Option Bool) :=
  match ops[j]? with
  | some o => match o.dst with
    | some d => match st.get d with
      | .sv (.one (.val (.bool b))) => some (some b)
      | .tup [] => some none
      | _ => none
    | none => none
  | none => none

/-- A test is known now: its slot holds the literal. -/
def know (ops : List Oper) (st : St) (j : Nat) (b : Bool) : St :=
  match ops[j]? with
  | some o => match o.dst with
    | some d => ⟨(d, .sv (.one (.val (.bool b)))) :: st.slots, st.heap, st.hn⟩
    | none => st
  | none => st

def knowC (st : St) (c : Operand) (b : Bool) : St := match c with
  | .tmp t => ⟨(t, .sv (.one (.val (.bool b)))) :: st.slots, st.heap, st.hn⟩
  | _ => st

def regK (T : TT) (C : CT) (all : List Oper) (draw : Bool) (b : List Nat) :
    List (Nat × Nat × Oper) → List (Nat × List Nat × List Nat) → St → (St → Option R) → Option R
  | [], _, st, k => k st
  | (i, base, o) :: r, fps, st, k =>
    match o.guard with
    | none => act T C o base (ev st) st.heap fun v u =>
        if (!draw || (okFp b i (rkeys o (ev st) st.heap) (u.map (·.1)) fps && rok o (ev st) st.heap)) = true then
          regK T C all draw b r ((i, rkeys o (ev st) st.heap, u.map (·.1)) :: fps) ⟨put st.slots o.dst v, u ++ st.heap, st.hn⟩ k
        else none
    | some (j, true) => match boolAt all st j with
      | some none => regK T C all draw b r ((i, [], []) :: fps) ⟨put st.slots o.dst junkA, st.heap, st.hn⟩ k
      | some (some q) => if q = true then
          act T C o base (ev (know all st j true)) st.heap fun v u =>
          if (!draw || (okFp b i (rkeys o (ev (know all st j true)) st.heap) (u.map (·.1)) fps && rok o (ev (know all st j true)) st.heap)) = true then
            regK T C all draw b r ((i, rkeys o (ev (know all st j true)) st.heap, u.map (·.1)) :: fps) ⟨put (know all st j true).slots o.dst v, u ++ st.heap, st.hn⟩ k
          else none
        else regK T C all draw b r ((i, [], []) :: fps) ⟨put (know all st j false).slots o.dst junkA, st.heap, st.hn⟩ k
      | none => none
    | some (j, false) => match boolAt all st j with
      | some none => regK T C all draw b r ((i, [], []) :: fps) ⟨put st.slots o.dst junkA, st.heap, st.hn⟩ k
      | some (some q) => if q = true then
          regK T C all draw b r ((i, [], []) :: fps) ⟨put (know all st j true).slots o.dst junkA, st.heap, st.hn⟩ k
        else
          act T C o base (ev (know all st j false)) st.heap fun v u =>
          if (!draw || (okFp b i (rkeys o (ev (know all st j false)) st.heap) (u.map (·.1)) fps && rok o (ev (know all st j false)) st.heap)) = true then
            regK T C all draw b r ((i, rkeys o (ev (know all st j false)) st.heap, u.map (·.1)) :: fps) ⟨put (know all st j false).slots o.dst v, u ++ st.heap, st.hn⟩ k
          else none
      | none => none

/-- Number the operations, and say where each one's new cells begin. -/
def number (n : Nat) : Nat → List Oper → List (Nat × Nat × Oper)
  | _, [] => []
  | base, o :: r => (n, base, o) :: number (n + 1) (base + width o.op) r

def widths (ops : List Oper) : Nat := ops.foldl (fun s o => s + width o.op) 0

/-- Operations in no order: neither writes what the other reads or writes. -/
def pairs (ops : List Oper) (b : List Nat) : Bool :=
  (List.range ops.length).all fun j => (List.range j).all fun i => (b.getD j 0).testBit i ||
    match ops[i]?, ops[j]? with
    | some x, some y => x.apart ops.toArray y
    | _, _ => true

/-- The rows of bits say no more than what the edges say; edges go back in the text. -/
def befOk (ops : List Oper) (b : List Nat) : Bool :=
  (List.range ops.length).all fun i => match ops[i]? with
    | some o => (o.after.toList.all fun e => !Region.binds .any e || decide (e.on < i)) &&
        ((List.range ops.length).all fun q => !(b.getD i 0).testBit q || o.after.toList.any fun e => Region.binds .any e && (e.on == q || (b.getD e.on 0).testBit q))
    | none => true

def region (T : TT) (C : CT) (ops : List Oper) (draw : Bool) (st : St) (k : St → Option R) : Option R :=
  let b := if draw then (Region.before ops.toArray).toList else []
  if (!draw || (pairs ops b && befOk ops b && Region.noSelect ops.toArray)) = true then
    regK T C ops draw b (number 0 st.hn ops) [] st (fun st' => k ⟨st'.slots, st'.heap, st.hn + widths ops⟩)
  else none

inductive ACode where
  | skip
  | region (ops : List Oper) (draw : Bool)
  | seq (a b : ACode)
  | seqJ (l : Nat) (a b : ACode)
  | cond (c : Operand) (a b : ACode)
  | block (id : Nat) (c : ACode)
  | loop (l : Nat) (c : ACode)
  | scope (c : ACode)
  | exit (id : Nat)
  | ret
  | bad

def ann (js : List Nat) : Code → Nat → ACode × Nat
  | .skip, n => (.skip, n)
  | .label _, n => (.skip, n)
  | .region _ ops d, n => (.region ops.toList d, n)
  | .seq a b, n =>
    let x := ann js a (n + 1)
    let y := ann js b x.2
    (if js.contains n then .seqJ n x.1 y.1 else .seq x.1 y.1, y.2)
  | .cond c a b, n =>
    let x := ann js a n
    let y := ann js b x.2
    (.cond c x.1 y.1, y.2)
  | .block id c, n => let x := ann js c n; (.block id x.1, x.2)
  | .loop c, n => let x := ann js c (n + 1); (.loop n x.1, x.2)
  | .scope c, n => let x := ann js c n; (.scope x.1, x.2)
  | .exit id, n => (.exit id, n)
  | .ret, n => (.ret, n)
  | _, n => (.bad, n)

structure Kont (R : Type) where
  norm : St → Option R
  exit : Nat → St → Option R
  ret : St → Option R

def codeK (T : TT) (C : CT) (J : Nat → St → Option R) : ACode → St → Kont R → Option R
  | .skip, st, K => K.norm st
  | .region ops d, st, K => region T C ops d st K.norm
  | .seq a b, st, K => codeK T C J a st { K with norm := fun st => codeK T C J b st K }
  | .seqJ l a _, st, K => codeK T C J a st { K with norm := J l }
  | .cond c a b, st, K => match ev st c with
    | .sv (.one (.val (.bool q))) => if q = true then codeK T C J a (knowC st c true) K else codeK T C J b (knowC st c false) K
    | _ => none
  | .block id c, st, K => codeK T C J c st { K with exit := fun i st => if i = id then K.norm st else K.exit i st }
  | .loop l _, st, _ => J l st
  | .scope c, st, K => codeK T C J c st K
  | .exit id, st, K => K.exit id st
  | .ret, st, K => K.ret st
  | .bad, _, _ => none

/-- The code at a label, and what follows there. -/
def locate (T : TT) (C : CT) (J : Nat → St → Option R) (l : Nat) : ACode → Kont R → Option (ACode × Kont R)
  | .seq a b, K => match locate T C J l a { K with norm := fun st => codeK T C J b st K } with
    | some x => some x
    | none => locate T C J l b K
  | .seqJ m a b, K => if m = l then some (b, K) else match locate T C J l a { K with norm := J m } with
    | some x => some x
    | none => locate T C J l b K
  | .cond _ a b, K => match locate T C J l a K with
    | some x => some x
    | none => locate T C J l b K
  | .block id c, K => locate T C J l c { K with exit := fun i st => if i = id then K.norm st else K.exit i st }
  | .loop m c, K => if m = l then some (c, { K with norm := J m }) else locate T C J l c { K with norm := J m }
  | .scope c, K => locate T C J l c K
  | _, _ => none

/-! ### frames of a shape -/
structure FSh where
  live : List (Nat × SSh)
  heap : List HSh

@[reducible] def FSh.sh (F : FSh) : Shape := ⟨F.live.map (·.2), F.heap⟩

def putAll : List Nat → List SV → List (Nat × AV)
  | t :: ts, x :: xs => (t, .sv x) :: putAll ts xs
  | _, _ => []

def encFr (F : FSh) (x : F.sh.Ty) : St :=
  ⟨putAll (F.live.map (·.1)) (encSs id F.sh.slots x.1), encHs id 0 F.heap x.2, F.heap.length⟩

def matchFr (m : Nat) (F : FSh) (st : St) : Option F.sh.Ty :=
  match toSVs (F.live.map fun x => st.get x.1) with
  | some xs => match matchAll F.sh xs ⟨st.heap, [], (List.range m).map some⟩ with
    | some (x, _) => some x
    | none => none
  | none => none

def atFr (m : Nat) (F : FSh) (st : St) (j : F.sh.Ty → Option R) : Option R := match matchFr m F st with
  | some x => j x
  | none => none

/-- The results at a return. -/
def resSVs (T : TT) (st : St) : List ResultVar → Option (List SV)
  | [] => some []
  | .tmp t :: r => match st.get t, resSVs T st r with
    | .sv s, some l => some (s :: l)
    | _, _ => none
  | .cell a t :: r => match st.get a, resSVs T st r with
    | .sv (.one (.ptr b off)), some l => match hget st.heap b with
      | some (.box _ cs) => ld T t cs off fun s => some (s :: l)
      | _ => none
    | _, _ => none

def retK (T : TT) (m : Nat) (res : List ResultVar) (sr : Shape) (fin : sr.Ty → Option R) (st : St) : Option R :=
  match resSVs T st res with
  | some xs => match matchAll sr xs ⟨st.heap, [], (List.range m).map some⟩ with
    | some (y, _) => fin y
    | none => none
  | none => none

def start (sa : Shape) (x : sa.Ty) : St :=
  ⟨putAll (List.range sa.slots.length) (encSs id sa.slots x.1), encHs id 0 sa.heap x.2, sa.heap.length⟩

/-- A whole function: its body from its start, to its end. -/
def funK (T : TT) (C : CT) (js : List Nat) (J : Nat → St → Option R) (body : Code) (res : List ResultVar) (sa sr : Shape) (x : sa.Ty) (fin : sr.Ty → Option R) : Option R :=
  codeK T C J (ann js body 0).1 (start sa x) ⟨retK T sa.heap.length res sr fin, fun _ _ => none, retK T sa.heap.length res sr fin⟩

/-- The code at a label, from a state of its shape on. -/
def labK (T : TT) (C : CT) (js : List Nat) (J : Nat → St → Option R) (body : Code) (res : List ResultVar) (m : Nat) (sr : Shape) (fin : sr.Ty → Option R) (l : Nat) (F : FSh) (x : F.sh.Ty) : Option R :=
  match locate T C J l (ann js body 0).1 ⟨retK T m res sr fin, fun _ _ => none, retK T m res sr fin⟩ with
  | some (c, K) => codeK T C J c (encFr F x) K
  | none => none

end
end Go.AM
end

section
/-
AM: how its values stand for the model's values and memory; what keeps it so. No condition.
-/
namespace Go.AM
open Go

abbrev Mem := Addr → Option Value
abbrev Gh := Nat → Option Value

/-- These values stand in memory from this address on. -/
def At (M : Mem) (ad : Addr) (vs : List Value) : Prop := ∀ (j : Nat) (v : Value), vs[j]? = some v → M (ad.add j) = some v

/-- Cells' values stand for data. -/
def DV (M : Mem) : (u : U) → List Value → El u → Prop
  | .int k, vs, x => vs = [.int k x]
  | .bool, vs, x => vs = [.bool x]
  | .str, vs, x => vs = [.string x]
  | .sl e, vs, l => ∃ (b : Option Addr) (c : Nat) (xs : List Value), vs = [.slice b l.length c] ∧ l.length ≤ c ∧ (b = none → l = [] ∧ c = 0) ∧ (∀ ad, b = some ad → At M ad xs) ∧
      xs.length = l.length * e.size ∧ ∀ (i : Nat) (h : i < l.length), DV M e ((xs.drop (i * e.size)).take e.size) l[i]
  | .nil, vs, _ => vs = []
  | .cons a b, vs, x => DV M a (vs.take a.size) x.1 ∧ DV M b (vs.drop a.size) x.2
  | .any, vs, x => vs = [x] ∧ ifaceB x = true

def capsR (G : Gh) : List Value → List Nat → Prop
  | [], [] => True
  | v :: vs, k :: ks => (∃ b, v = .pointer (some ⟨b, 0, none⟩) ∧ G k = some v) ∧ capsR G vs ks
  | _, _ => False

/-- A value stands for a value of one cell. -/
def LVR (M : Mem) (G : Gh) (v : Value) : LV → Prop
  | .val x => v = x ∧ scal x = true
  | .sl e l => DV M (.sl e) [v] l
  | .own k => G k = some v ∧ ∃ a n c, v = .slice a n c
  | .ptr k off => ∃ b, G k = some (.pointer (some ⟨b, 0, none⟩)) ∧ v = .pointer (some ⟨b, off, none⟩)
  | .rptr e x off => ∃ ad vs, v = .pointer (some (ad.add off)) ∧ At M ad vs ∧ DV M e vs x
  | .eptr k i sz off => ∃ b p n c, G k = some (.slice (some ⟨b, p, none⟩) n c) ∧ i < n ∧ v = .pointer (some ⟨b, p + (i * sz + off), none⟩)
  | .fn f caps => ∃ vs, v = .func (.func f) #[] vs ∧ capsR G vs.toList caps
  | .oself k => ∃ b, G k = some (.pointer (some ⟨b, 0, none⟩)) ∧ (v = .pointer none ∨ v = .pointer (some ⟨b, 0, none⟩))
  | .junk => True

def CR (M : Mem) (G : Gh) : List Value → List LV → Prop
  | [], [] => True
  | v :: vs, x :: xs => LVR M G v x ∧ CR M G vs xs
  | _, _ => False

def SVR (M : Mem) (G : Gh) (v : Value) : SV → Prop
  | .one x => LVR M G v x
  | .agg cs => ∃ vs : Array Value, v = .agg vs ∧ CR M G vs.toList cs

def SVRs (M : Mem) (G : Gh) : List Value → List SV → Prop
  | [], [] => True
  | v :: vs, x :: xs => SVR M G v x ∧ SVRs M G vs xs
  | _, _ => False

def AVR (M : Mem) (G : Gh) (v : Value) : AV → Prop
  | .sv s => SVR M G v s
  | .tup l => ∃ vs : Array Value, v = .tuple vs ∧ SVRs M G vs.toList l

/-- A row of elements. -/
def RowV (M : Mem) (u : U) (xs : List Value) (l : List (El u)) : Prop :=
  xs.length = l.length * u.size ∧ ∀ (i : Nat) (h : i < l.length), DV M u ((xs.drop (i * u.size)).take u.size) l[i]

/-- A row of one's own: from some cell of its block on. -/
def ownsAt (w : World) (t : TypeId) (size : Nat) (v : Value) (n : Nat) (xs : List Value) : Prop :=
  xs.length = n * size ∧
  ((v = .slice none 0 0 ∧ n = 0) ∨
   ∃ g p cap cur, v = .slice (some ⟨g, p, none⟩) n cap ∧ w.heap[g]? = some (.cells cur t (0, 0)) ∧ n ≤ cap ∧ cap ≤ maxLen ∧ p + cap * size ≤ cur.size ∧ (cur.toList.drop p).take (n * size) = xs)

def offV : Value → Nat
  | .slice (some a) _ _ => a.off
  | _ => 0

def blkV : Value → Option Nat
  | .pointer (some a) => some a.block
  | .slice (some a) _ _ => some a.block
  | _ => none

def blk (G : Gh) (k : Nat) : Option Nat := (G k).bind blkV

def HC.live : HC → Prop
  | .dead => False
  | _ => True

def HCR (w : World) (M : Mem) (G : Gh) (k : Nat) : HC → Prop
  | .dead => True
  | .box t cs => ∃ (b : Nat) (vs : Array Value), G k = some (.pointer (some ⟨b, 0, none⟩)) ∧ w.heap[b]? = some (.cells vs t (0, 0)) ∧ CR M G vs.toList cs ∧
      ∀ a : Addr, a.block = b → M a = none
  | .arr t u l sto => ∃ (v : Value) (xs : List Value), G k = some v ∧ ownsAt w t u.size v l.length xs ∧ RowV M u xs l ∧
      ∀ b, blkV v = some b → (sto = true → ∀ a : Addr, a.block = b → M a = none) ∧
        (sto = false → At M ⟨b, offV v, none⟩ xs ∧ ∀ (a : Addr) (q : Value), M a = some q → a.block = b → offV v ≤ a.off ∧ a.off < offV v + xs.length)

/-- Blocks that every state holds as they are: tables of the library's. -/
def ZMem : Type := Nat → Option (Array Value)
def Zone [i : Inhabited ZMem] : Nat → Option (Array Value) := i.default
def HoldsB (w : World) (b : Nat) (cs : Array Value) : Prop := ∃ t fr, w.heap[b]? = some (.cells cs t fr)
theorem HoldsB.lt {w : World} {b : Nat} {cs : Array Value} (h : HoldsB w b cs) : b < w.heap.size := by
  obtain ⟨t, fr, h⟩ := h
  exact (Array.getElem?_eq_some_iff.1 h).1
theorem HoldsB.same {w w' : World} {b : Nat} {cs : Array Value} (h : HoldsB w b cs) (e : w'.heap[b]? = w.heap[b]?) : HoldsB w' b cs := by
  obtain ⟨t, fr, h⟩ := h
  exact ⟨t, fr, e.trans h⟩
@[reducible] def noZone : Inhabited ZMem := ⟨fun _ => none⟩
theorem noZone_met {w : World} : ∀ (b : Nat) (o : Array Value), @Zone noZone b = some o → HoldsB w b o := fun _ _ h => nomatch h

variable [Inhabited ZMem]

structure Inv (w : World) (M : Mem) (G : Gh) (H : HL) : Prop where
  sub : ∀ (a : Addr) (q : Value), M a = some q → w.cell? a = some q
  cells : ∀ (k : Nat) (c : HC), hget H k = some c → HCR w M G k c
  sep : ∀ (k k' : Nat) (c c' : HC) (b : Nat), hget H k = some c → hget H k' = some c' → c.live → c'.live → k ≠ k' → blk G k = some b → blk G k' ≠ some b
  zone : ∀ (b : Nat) (o : Array Value), Zone b = some o → HoldsB w b o
  zsep : ∀ (k : Nat) (c : HC) (b : Nat), hget H k = some c → c.live → blk G k = some b → Zone b = none

def MLe (M M' : Mem) : Prop := ∀ (a : Addr) (q : Value), M a = some q → M' a = some q
theorem MLe.refl (M : Mem) : MLe M M := fun _ _ h => h
theorem MLe.trans {A B C : Mem} (h : MLe A B) (k : MLe B C) : MLe A C := fun a q e => k a q (h a q e)

theorem At.mono {M M' : Mem} (h : MLe M M') {ad : Addr} {vs : List Value} (k : At M ad vs) : At M' ad vs := fun j v e => h _ _ (k j v e)

theorem DV.mono {M M' : Mem} (h : MLe M M') : ∀ (u : U) (vs : List Value) (x : El u), DV M u vs x → DV M' u vs x
  | .int _, _, _, d => d
  | .bool, _, _, d => d
  | .str, _, _, d => d
  | .nil, _, _, d => d
  | .cons a b, _, _, d => ⟨DV.mono h a _ _ d.1, DV.mono h b _ _ d.2⟩
  | .any, _, _, d => d
  | .sl e, _, _, ⟨b, c, xs, h1, h2, h3, h4, h5, h6⟩ => ⟨b, c, xs, h1, h2, h3, fun ad e => (h4 ad e).mono h, h5, fun i hi => DV.mono h e _ _ (h6 i hi)⟩

theorem DV.len {M : Mem} : ∀ (u : U) (vs : List Value) (x : El u), DV M u vs x → vs.length = u.size
  | .int _, _, _, d => by cases d; rfl
  | .bool, _, _, d => by cases d; rfl
  | .str, _, _, d => by cases d; rfl
  | .nil, _, _, d => by cases d; rfl
  | .sl _, _, _, ⟨_, _, _, h1, _⟩ => by rw [h1]; rfl
  | .any, _, _, d => by rw [d.1]; rfl
  | .cons a b, vs, _, d => by
    have h1 := DV.len a _ _ d.1
    have h2 := DV.len b _ _ d.2
    simp only [List.length_take, List.length_drop] at h1 h2
    simp only [U.size]
    omega

theorem flat_length : ∀ (u : U) (x : El u), (flat u x).length = u.size
  | .int _, _ => rfl
  | .bool, _ => rfl
  | .str, _ => rfl
  | .nil, _ => rfl
  | .sl _, _ => rfl
  | .any, _ => rfl
  | .cons a b, x => by simp [flat, U.size, flat_length a, flat_length b]

theorem capsR.mono {G G' : Gh} : ∀ {vs : List Value} {ks : List Nat}, (∀ k ∈ ks, G' k = G k) → capsR G vs ks → capsR G' vs ks
  | [], [], _, _ => trivial
  | v :: vs, k :: ks, h, ⟨⟨b, e, g⟩, r⟩ => ⟨⟨b, e, by rw [h k (by simp)]; exact g⟩, capsR.mono (fun j hj => h j (by simp [hj])) r⟩

theorem LVR.mono {M M' : Mem} {G G' : Gh} {v : Value} {x : LV} (h : MLe M M') (hg : ∀ k ∈ keysL x, G' k = G k) (r : LVR M G v x) : LVR M' G' v x := by
  cases x with
  | val x => exact r
  | sl e l => exact DV.mono h (.sl e) _ _ r
  | own k => exact ⟨by rw [hg k (by simp [keysL])]; exact r.1, r.2⟩
  | ptr k off => obtain ⟨b, g, e⟩ := r; exact ⟨b, by rw [hg k (by simp [keysL])]; exact g, e⟩
  | rptr e x off => obtain ⟨ad, vs, e, a, d⟩ := r; exact ⟨ad, vs, e, a.mono h, DV.mono h _ _ _ d⟩
  | eptr k i sz off => obtain ⟨b, p, n, c, g, e⟩ := r; exact ⟨b, p, n, c, by rw [hg k (by simp [keysL])]; exact g, e⟩
  | fn f caps => obtain ⟨vs, e, c⟩ := r; exact ⟨vs, e, c.mono (fun k hk => hg k (by simpa [keysL] using hk))⟩
  | oself k => obtain ⟨b, g, e⟩ := r; exact ⟨b, by rw [hg k (by simp [keysL])]; exact g, e⟩
  | junk => trivial

theorem CR.mono {M M' : Mem} {G G' : Gh} (h : MLe M M') : ∀ {vs : List Value} {xs : List LV}, (∀ k ∈ xs.flatMap keysL, G' k = G k) → CR M G vs xs → CR M' G' vs xs
  | [], [], _, _ => trivial
  | v :: vs, x :: xs, hg, r => ⟨r.1.mono h (fun k hk => hg k (by simp [hk])), r.2.mono h (fun k hk => hg k (by simp only [List.flatMap_cons, List.mem_append]; exact .inr hk))⟩

theorem CR.len {M : Mem} {G : Gh} : ∀ {vs : List Value} {xs : List LV}, CR M G vs xs → vs.length = xs.length
  | [], [], _ => rfl
  | _ :: vs, _ :: xs, r => by simp [r.2.len]

theorem CR.append {M : Mem} {G : Gh} : ∀ {vs : List Value} {xs : List LV} {vs' : List Value} {xs' : List LV}, CR M G vs xs → CR M G vs' xs' → CR M G (vs ++ vs') (xs ++ xs')
  | [], [], _, _, _, k => k
  | _ :: _, _ :: _, _, _, h, k => ⟨h.1, h.2.append k⟩

theorem CR.take {M : Mem} {G : Gh} : ∀ {vs : List Value} {xs : List LV} (n : Nat), CR M G vs xs → CR M G (vs.take n) (xs.take n)
  | [], [], _, _ => by simp; trivial
  | _ :: _, _ :: _, 0, _ => by simp; trivial
  | _ :: _, _ :: _, n + 1, h => ⟨h.1, h.2.take n⟩

theorem CR.drop {M : Mem} {G : Gh} : ∀ {vs : List Value} {xs : List LV} (n : Nat), CR M G vs xs → CR M G (vs.drop n) (xs.drop n)
  | [], [], _, _ => by simp; trivial
  | _ :: _, _ :: _, 0, h => h
  | _ :: _, _ :: _, n + 1, h => h.2.drop n

theorem CR.get {M : Mem} {G : Gh} : ∀ {vs : List Value} {xs : List LV} {i : Nat} {v : Value} {x : LV}, CR M G vs xs → vs[i]? = some v → xs[i]? = some x → LVR M G v x
  | _ :: _, _ :: _, 0, _, _, h, e, k => by simp at e k; rw [← e, ← k]; exact h.1
  | _ :: _, _ :: _, i + 1, _, _, h, e, k => h.2.get (i := i) (by simpa using e) (by simpa using k)

theorem CR.splice {M : Mem} {G : Gh} {vs : List Value} {xs : List LV} {vs' : List Value} {xs' : List LV} (n : Nat) (h : CR M G vs xs) (k : CR M G vs' xs') :
    CR M G (vs.take n ++ vs' ++ vs.drop (n + vs'.length)) (splice xs n xs') := by
  unfold AM.splice
  rw [← k.len]
  exact ((h.take n).append k).append (h.drop _)

theorem DV.cr {M : Mem} (G : Gh) : ∀ (u : U) (vs : List Value) (x : El u), DV M u vs x → CR M G vs (flat u x)
  | .int _, _, _, d => by cases d; exact ⟨⟨rfl, rfl⟩, trivial⟩
  | .bool, _, _, d => by cases d; exact ⟨⟨rfl, rfl⟩, trivial⟩
  | .str, _, _, d => by cases d; exact ⟨⟨rfl, rfl⟩, trivial⟩
  | .nil, _, _, d => by cases d; trivial
  | .sl _, _, _, d => by
    obtain ⟨b, c, xs, rfl, r⟩ := d
    exact ⟨⟨b, c, xs, rfl, r⟩, trivial⟩
  | .any, _, x, d => by
    obtain ⟨rfl, h⟩ := d
    refine ⟨⟨rfl, ?_⟩, trivial⟩
    cases x <;> first | rfl | exact h | (simp [ifaceB] at h)
  | .cons a b, vs, x, d => by
    have h := (DV.cr G a _ _ d.1).append (DV.cr G b _ _ d.2)
    rwa [List.take_append_drop] at h

theorem SVR.cells {M : Mem} {G : Gh} {v : Value} {s : SV} (h : SVR M G v s) (hj : s ≠ .one .junk) : CR M G v.cells.toList s.cells := by
  cases s with
  | agg cs => obtain ⟨vs, rfl, r⟩ := h; exact r
  | one x =>
    have : v.cells = #[v] := by
      cases x with
      | val y => obtain ⟨rfl, hs⟩ := h; cases v <;> first | rfl | (simp [scal] at hs)
      | sl e l => obtain ⟨b, c, xs, e, _⟩ := h; cases e; rfl
      | own k => obtain ⟨_, a, n, c, rfl⟩ := h; rfl
      | ptr k off => obtain ⟨b, _, rfl⟩ := h; rfl
      | rptr e x off => obtain ⟨ad, vs, rfl, _⟩ := h; rfl
      | eptr k i sz off => obtain ⟨b, p, n, c, _, _, rfl⟩ := h; rfl
      | fn f caps => obtain ⟨vs, rfl, _⟩ := h; rfl
      | oself k => obtain ⟨b, _, rfl | rfl⟩ := h <;> rfl
      | junk => exact absurd rfl hj
    rw [this]
    exact ⟨h, trivial⟩

theorem castL_eq {e e' : U} {l : List (El e)} {l' : List (El e')} (h : castL l e' = some l') : ∃ q : e = e', l' = q ▸ l := by
  unfold castL at h
  split at h
  · exact ⟨‹_›, (Option.some.inj h).symm⟩
  · cases h

theorem DV.nilSlice (M : Mem) (e : U) : DV M (.sl e) [.slice none 0 0] ([] : List (El e)) :=
  ⟨none, 0, [], rfl, by simp, fun _ => ⟨rfl, rfl⟩, (fun _ h => by cases h), by simp, (fun i h => by simp at h)⟩

/-- A frozen row reads as data. -/
theorem HCR.data {w : World} {M : Mem} {G : Gh} {k : Nat} {t : TypeId} {u : U} {l : List (El u)} (h : HCR w M G k (.arr t u l false)) : ∃ v, G k = some v ∧ DV M (.sl u) [v] l := by
  obtain ⟨v, xs, hg, ho, hr, hb⟩ := h
  refine ⟨v, hg, ?_⟩
  rcases ho.2 with ⟨rfl, hn⟩ | ⟨g, p, cap, cur, rfl, _, hn, _⟩
  · refine ⟨none, 0, xs, by rw [hn], by omega, fun _ => ⟨List.eq_nil_of_length_eq_zero hn, rfl⟩, (fun _ h => by cases h), ho.1, hr.2⟩
  · refine ⟨some ⟨g, p, none⟩, cap, xs, rfl, hn, fun h => (by cases h), fun ad e => ?_, ho.1, hr.2⟩
    cases e
    exact ((hb g rfl).2 rfl).1

theorem getL_sound {w : World} {M : Mem} {G : Gh} {H : HL} (hI : Inv w M G H) {e : U} {x : LV} {l : List (El e)} (h : getL H e x = some l) {v : Value} (hv : LVR M G v x) : DV M (.sl e) [v] l := by
  unfold getL at h
  split at h
  · obtain ⟨rfl, rfl⟩ := castL_eq h
    exact hv
  · cases h
    obtain ⟨rfl, _⟩ := hv
    exact DV.nilSlice M e
  · split at h
    · rename_i k _ t e' l' hk
      obtain ⟨rfl, rfl⟩ := castL_eq h
      obtain ⟨v', hg, d⟩ := (hI.cells _ _ hk).data
      have := hv.1
      rw [hg] at this
      cases this
      exact d
    · cases h
  · cases h

theorem unflat_sound {w : World} {M : Mem} {G : Gh} {H : HL} (hI : Inv w M G H) : ∀ (u : U) (cs : List LV) (x : El u) (r : List LV) (vs : List Value), unflat H u cs = some (x, r) → CR M G vs cs →
    DV M u (vs.take u.size) x ∧ CR M G (vs.drop u.size) r
  | .int k, cs, x, r, vs, h, hv => by
    match cs, vs, hv with
    | [], [], _ => simp [unflat] at h
    | .val y :: cs, v :: vs, hv =>
      cases y <;> simp [unflat] at h
      obtain ⟨⟨rfl, _⟩, h2⟩ := hv
      obtain ⟨rfl, rfl, rfl⟩ := h
      exact ⟨rfl, h2⟩
    | .sl _ _ :: _, _ :: _, _ => simp [unflat] at h
    | .own _ :: _, _ :: _, _ => simp [unflat] at h
    | .ptr _ _ :: _, _ :: _, _ => simp [unflat] at h
    | .rptr _ _ _ :: _, _ :: _, _ => simp [unflat] at h
    | .eptr _ _ _ _ :: _, _ :: _, _ => simp [unflat] at h
    | .fn _ _ :: _, _ :: _, _ => simp [unflat] at h
    | .oself _ :: _, _ :: _, _ => simp [unflat] at h
    | .junk :: _, _ :: _, _ => simp [unflat] at h
  | .bool, cs, x, r, vs, h, hv => by
    match cs, vs, hv with
    | [], [], _ => simp [unflat] at h
    | .val y :: cs, v :: vs, hv =>
      cases y <;> simp [unflat] at h
      obtain ⟨⟨rfl, _⟩, h2⟩ := hv
      obtain ⟨rfl, rfl⟩ := h
      exact ⟨rfl, h2⟩
    | .sl _ _ :: _, _ :: _, _ => simp [unflat] at h
    | .own _ :: _, _ :: _, _ => simp [unflat] at h
    | .ptr _ _ :: _, _ :: _, _ => simp [unflat] at h
    | .rptr _ _ _ :: _, _ :: _, _ => simp [unflat] at h
    | .eptr _ _ _ _ :: _, _ :: _, _ => simp [unflat] at h
    | .fn _ _ :: _, _ :: _, _ => simp [unflat] at h
    | .oself _ :: _, _ :: _, _ => simp [unflat] at h
    | .junk :: _, _ :: _, _ => simp [unflat] at h
  | .str, cs, x, r, vs, h, hv => by
    match cs, vs, hv with
    | [], [], _ => simp [unflat] at h
    | .val y :: cs, v :: vs, hv =>
      cases y <;> simp [unflat] at h
      obtain ⟨⟨rfl, _⟩, h2⟩ := hv
      obtain ⟨rfl, rfl⟩ := h
      exact ⟨rfl, h2⟩
    | .sl _ _ :: _, _ :: _, _ => simp [unflat] at h
    | .own _ :: _, _ :: _, _ => simp [unflat] at h
    | .ptr _ _ :: _, _ :: _, _ => simp [unflat] at h
    | .rptr _ _ _ :: _, _ :: _, _ => simp [unflat] at h
    | .eptr _ _ _ _ :: _, _ :: _, _ => simp [unflat] at h
    | .fn _ _ :: _, _ :: _, _ => simp [unflat] at h
    | .oself _ :: _, _ :: _, _ => simp [unflat] at h
    | .junk :: _, _ :: _, _ => simp [unflat] at h
  | .any, cs, x, r, vs, h, hv => by
    match cs, vs, hv with
    | [], [], _ => simp [unflat] at h
    | .val y :: cs, v :: vs, hv =>
      simp only [unflat] at h
      split at h
      · rename_i hi
        simp only [Option.some.injEq, Prod.mk.injEq] at h
        obtain ⟨rfl, rfl⟩ := h
        obtain ⟨⟨rfl, _⟩, h2⟩ := hv
        exact ⟨⟨rfl, hi⟩, h2⟩
      · cases h
    | .sl _ _ :: _, _ :: _, _ => simp [unflat] at h
    | .own _ :: _, _ :: _, _ => simp [unflat] at h
    | .ptr _ _ :: _, _ :: _, _ => simp [unflat] at h
    | .rptr _ _ _ :: _, _ :: _, _ => simp [unflat] at h
    | .eptr _ _ _ _ :: _, _ :: _, _ => simp [unflat] at h
    | .fn _ _ :: _, _ :: _, _ => simp [unflat] at h
    | .oself _ :: _, _ :: _, _ => simp [unflat] at h
    | .junk :: _, _ :: _, _ => simp [unflat] at h
  | .nil, cs, x, r, vs, h, hv => by
    simp only [unflat, Option.some.injEq, Prod.mk.injEq, true_and] at h
    subst h
    exact ⟨by simp [U.size, DV], by simpa [U.size] using hv⟩
  | .sl e, cs, x, r, vs, h, hv => by
    match cs, vs, hv with
    | [], [], _ => simp [unflat] at h
    | c :: cs, v :: vs, hv =>
      simp only [unflat] at h
      split at h
      · rename_i l hl
        simp only [Option.some.injEq, Prod.mk.injEq] at h
        obtain ⟨rfl, rfl⟩ := h
        exact ⟨getL_sound hI hl hv.1, hv.2⟩
      · cases h
  | .cons a b, cs, x, r, vs, h, hv => by
    simp only [unflat] at h
    split at h
    · rename_i y r1 h1
      split at h
      · rename_i z r2 h2
        simp only [Option.some.injEq, Prod.mk.injEq] at h
        obtain ⟨rfl, rfl⟩ := h
        obtain ⟨d1, c1⟩ := unflat_sound hI a cs y r1 vs h1 hv
        obtain ⟨d2, c2⟩ := unflat_sound hI b r1 z r2 _ h2 c1
        refine ⟨⟨?_, ?_⟩, ?_⟩
        · rw [List.take_take, Nat.min_eq_left (by simp [U.size])]; exact d1
        · rw [List.drop_take]; simpa [U.size] using d2
        · rw [List.drop_drop] at c2; exact c2
      · cases h
    · cases h

end Go.AM
end

section
/-
AM: what a step of the machine keeps of the local heap's standing for memory. No condition.
-/
namespace Go.AM
open Go
variable [Inhabited ZMem]

def GLe (G G' : Gh) : Prop := ∀ (k : Nat) (q : Value), G k = some q → G' k = some q
theorem GLe.refl (G : Gh) : GLe G G := fun _ _ h => h
theorem GLe.trans {A B C : Gh} (h : GLe A B) (k : GLe B C) : GLe A C := fun a q e => k a q (h a q e)

theorem capsR.ext {G G' : Gh} (hg : GLe G G') : ∀ {vs : List Value} {ks : List Nat}, capsR G vs ks → capsR G' vs ks
  | [], [], _ => trivial
  | _ :: _, _ :: _, ⟨⟨b, e, g⟩, r⟩ => ⟨⟨b, e, hg _ _ g⟩, capsR.ext hg r⟩

theorem LVR.ext {M M' : Mem} {G G' : Gh} {v : Value} {x : LV} (h : MLe M M') (hg : GLe G G') (r : LVR M G v x) : LVR M' G' v x := by
  cases x with
  | val x => exact r
  | sl e l => exact DV.mono h (.sl e) _ _ r
  | own k => exact ⟨hg _ _ r.1, r.2⟩
  | ptr k off => obtain ⟨b, g, e⟩ := r; exact ⟨b, hg _ _ g, e⟩
  | rptr e x off => obtain ⟨ad, vs, e, a, d⟩ := r; exact ⟨ad, vs, e, a.mono h, DV.mono h _ _ _ d⟩
  | eptr k i sz off => obtain ⟨b, p, n, c, g, e⟩ := r; exact ⟨b, p, n, c, hg _ _ g, e⟩
  | fn f caps => obtain ⟨vs, e, c⟩ := r; exact ⟨vs, e, c.ext hg⟩
  | oself k => obtain ⟨b, g, e⟩ := r; exact ⟨b, hg _ _ g, e⟩
  | junk => trivial

theorem CR.ext {M M' : Mem} {G G' : Gh} (h : MLe M M') (hg : GLe G G') : ∀ {vs : List Value} {xs : List LV}, CR M G vs xs → CR M' G' vs xs
  | [], [], _ => trivial
  | _ :: _, _ :: _, r => ⟨r.1.ext h hg, r.2.ext h hg⟩

theorem SVR.ext {M M' : Mem} {G G' : Gh} (h : MLe M M') (hg : GLe G G') {v : Value} {s : SV} (r : SVR M G v s) : SVR M' G' v s := by
  cases s with
  | one x => exact LVR.ext h hg r
  | agg cs => obtain ⟨vs, e, c⟩ := r; exact ⟨vs, e, c.ext h hg⟩

theorem SVRs.ext {M M' : Mem} {G G' : Gh} (h : MLe M M') (hg : GLe G G') : ∀ {vs : List Value} {xs : List SV}, SVRs M G vs xs → SVRs M' G' vs xs
  | [], [], _ => trivial
  | _ :: _, _ :: _, r => ⟨r.1.ext h hg, r.2.ext h hg⟩

theorem AVR.ext {M M' : Mem} {G G' : Gh} (h : MLe M M') (hg : GLe G G') {v : Value} {a : AV} (r : AVR M G v a) : AVR M' G' v a := by
  cases a with
  | sv s => exact SVR.ext h hg r
  | tup l => obtain ⟨vs, e, c⟩ := r; exact ⟨vs, e, c.ext h hg⟩

theorem RowV.mono {M M' : Mem} (h : MLe M M') {u : U} {xs : List Value} {l : List (El u)} (r : RowV M u xs l) : RowV M' u xs l := ⟨r.1, fun i hi => (r.2 i hi).mono h⟩

theorem hget_cons (H : HL) (j k : Nat) (c : HC) : hget ((j, c) :: H) k = if j = k then some c else hget H k := rfl

theorem blk_of {G : Gh} {k : Nat} {v : Value} (h : G k = some v) : blk G k = blkV v := by simp [blk, h]
theorem blk_ext {G G' : Gh} (hg : GLe G G') {k : Nat} {b : Nat} (h : blk G k = some b) : blk G' k = some b := by
  unfold blk at h ⊢
  cases e : G k with
  | none => simp [e] at h
  | some v => rw [hg k v e]; simpa [e] using h

theorem ownBlock_blkV {v : Value} (h : ∃ a n c, v = .slice a n c) : v.ownBlock = blkV v := by
  obtain ⟨a, n, c, rfl⟩ := h
  cases a <;> rfl

theorem ownsAt_slice {w : World} {t : TypeId} {s : Nat} {v : Value} {n : Nat} {xs : List Value} (h : ownsAt w t s v n xs) : ∃ a n c, v = .slice a n c := by
  rcases h.2 with ⟨rfl, _⟩ | ⟨g, p, c, _, rfl, _⟩
  · exact ⟨_, _, _, rfl⟩
  · exact ⟨_, _, _, rfl⟩

section
variable {w : World} {t : TypeId} {s : Nat} {v : Value} {n : Nat} {xs : List Value}

theorem ownsAt_row (h : w.ownsRow 0 t s v n xs) : ownsAt w t s v n xs := by
  refine ⟨h.1, ?_⟩
  rcases h.2 with hn | ⟨g, c, cur, h1, _, h2, h3, h4, h5, h6⟩
  · exact .inl hn
  · exact .inr ⟨g, 0, c, cur, h1, h2, h3, h4, by omega, by simpa using h6⟩

theorem ownsAt_nil (w : World) (t : TypeId) (s : Nat) : ownsAt w t s (.slice none 0 0) 0 [] := ⟨by simp, .inl ⟨rfl, rfl⟩⟩

theorem ownsAt.lt (h : ownsAt w t s v n xs) : ∀ k, blkV v = some k → k < w.heap.size := by
  intro k hk
  rcases h.2 with ⟨rfl, _⟩ | ⟨g, p, cap, cur, rfl, hg, _⟩
  · cases hk
  · cases hk
    exact (Array.getElem?_eq_some_iff.1 hg).1

theorem ownsAt.kept {w' : World} {row : Option Nat} (h : ownsAt w t s v n xs) (hg : w.grownBy w' row) (hne : blkV v = none ∨ blkV v ≠ row) : ownsAt w' t s v n xs := by
  refine ⟨h.1, ?_⟩
  rcases h.2 with hn | ⟨g, p, cap, cur, rfl, hgg, rest⟩
  · exact .inl hn
  · refine .inr ⟨g, p, cap, cur, rfl, ?_, rest⟩
    rw [hg.block g (Array.getElem?_eq_some_iff.1 hgg).1 (by simpa [blkV] using hne)]
    exact hgg

theorem ownsAt.cells (h : ownsAt w t s v n xs) {g : Nat} (hg : blkV v = some g) : ∀ j u, xs[j]? = some u → w.cell? ((⟨g, offV v, none⟩ : Addr).add j) = some u := by
  intro j u hu
  rcases h.2 with ⟨rfl, _⟩ | ⟨g', p, cap, cur, rfl, hgg, _, _, _, htake⟩
  · cases hg
  · cases hg
    have hadd : (⟨g', p, none⟩ : Addr).add j = ⟨g', p + j, none⟩ := by unfold Addr.add; split <;> simp_all
    show w.cell? ((⟨g', p, none⟩ : Addr).add j) = _
    rw [hadd, cell_of_row w g' (p + j) cur t (0, 0) hgg]
    rw [← htake, List.getElem?_take] at hu
    split at hu
    · simpa [List.getElem?_drop] using hu
    · cases hu
end

/-- A live key has a value; its block is there. -/
theorem HCR.ghost {w : World} {M : Mem} {G : Gh} {k : Nat} {c : HC} (h : HCR w M G k c) (hl : c.live) : ∃ v, G k = some v ∧ ∀ b, blkV v = some b → b < w.heap.size := by
  cases c with
  | dead => exact hl.elim
  | box tb cs =>
    obtain ⟨b, vs, hg, hb, _⟩ := h
    refine ⟨_, hg, fun b' e => ?_⟩
    cases e
    exact (Array.getElem?_eq_some_iff.1 hb).1
  | arr t u l s =>
    obtain ⟨v, xs, hg, ho, _⟩ := h
    refine ⟨v, hg, fun b e => ?_⟩
    exact ho.lt b e

/-- A key whose block is not written, at a later state. -/
theorem HCR.kept {w w' : World} {M M' : Mem} {G G' : Gh} {k : Nat} {c : HC} {row : Option Nat} (h : HCR w M G k c) (hl : c.live) (hg : w.grownBy w' row)
    (hm : MLe M M') (hG : GLe G G') (hnew : ∀ (a : Addr) (q : Value), M' a = some q → M a = some q ∨ w.heap.size ≤ a.block ∨ row = some a.block)
    (hne : ∀ b, row = some b → blk G k ≠ some b) : HCR w' M' G' k c := by
  obtain ⟨v0, hv0, hlt⟩ := h.ghost hl
  have hfar : ∀ (a : Addr) (q : Value) b, blkV v0 = some b → a.block = b → M' a = some q → M a = some q := by
    intro a q b hb hab hq
    rcases hnew a q hq with h | h | h
    · exact h
    · have := hlt b hb; omega
    · exact absurd (by rw [blk_of hv0, hb, hab]) (hne _ h)
  cases c with
  | dead => exact hl.elim
  | box tb cs =>
    obtain ⟨b, vs, hgk, hb, hc, hn⟩ := h
    rw [hgk] at hv0
    cases hv0
    refine ⟨b, vs, hG _ _ hgk, ?_, hc.ext hm hG, fun a ha => ?_⟩
    · rw [hg.block b (hlt b rfl) (fun e => hne b e.symm (by rw [blk_of hgk]; rfl)), hb]
    · cases e : M' a with
      | none => rfl
      | some q => exact absurd (hfar a q b rfl ha e) (by rw [hn a ha]; simp)
  | arr t u l s =>
    obtain ⟨v, xs, hgk, ho, hr, hb⟩ := h
    rw [hgk] at hv0
    cases hv0
    have ho' : ownsAt w' t u.size v0 l.length xs := by
      refine ho.kept hg ?_
      cases e : blkV v0 with
      | none => exact .inl rfl
      | some b => exact .inr (fun h => hne b h.symm (by rw [blk_of hgk, e]))
    refine ⟨v0, xs, hG _ _ hgk, ho', hr.mono hm, fun b e => ?_⟩
    refine ⟨fun hs a ha => ?_, fun hs => ⟨((hb b e).2 hs).1.mono hm, fun a q hq ha => ((hb b e).2 hs).2 a q (hfar a q b e ha hq) ha⟩⟩
    cases e' : M' a with
    | none => rfl
    | some q => exact absurd (hfar a q b e ha e') (by rw [(hb b e).1 hs a ha]; simp)

structure Step (w : World) (M : Mem) (G : Gh) (H : HL) (w' : World) (M' : Mem) (G' : Gh) (H' : HL) : Prop where
  os : w'.os = w.os
  tape : w'.tape = w.tape
  output : w'.output = w.output
  size : w.heap.size ≤ w'.heap.size
  mle : MLe M M'
  gle : GLe G G'
  keep : ∀ b, b < w.heap.size → (∀ k c, hget H k = some c → c.live → blk G k ≠ some b) → w'.heap[b]? = w.heap[b]?
  mnew : ∀ (a : Addr) (q : Value), M' a = some q → M a = some q ∨ w.heap.size ≤ a.block ∨ ∃ k c, hget H k = some c ∧ c.live ∧ blk G k = some a.block
  bl : ∀ k c b, hget H' k = some c → c.live → blk G' k = some b → w.heap.size ≤ b ∨ ∃ k0 c0, hget H k0 = some c0 ∧ c0.live ∧ blk G k0 = some b

theorem Step.refl (w : World) (M : Mem) (G : Gh) (H : HL) : Step w M G H w M G H :=
  ⟨rfl, rfl, rfl, Nat.le_refl _, MLe.refl _, GLe.refl _, fun _ _ _ => rfl, fun _ _ h => .inl h, fun k c b h hl hb => .inr ⟨k, c, h, hl, hb⟩⟩

theorem Step.trans {w w1 w2 : World} {M M1 M2 : Mem} {G G1 G2 : Gh} {H H1 H2 : HL} (h : Step w M G H w1 M1 G1 H1) (k : Step w1 M1 G1 H1 w2 M2 G2 H2) : Step w M G H w2 M2 G2 H2 where
  os := k.os.trans h.os
  tape := k.tape.trans h.tape
  output := k.output.trans h.output
  size := Nat.le_trans h.size k.size
  mle := h.mle.trans k.mle
  gle := h.gle.trans k.gle
  keep := fun b hb hn => by
    have h1 := h.keep b hb hn
    rw [← h1]
    refine k.keep b (Nat.lt_of_lt_of_le hb h.size) (fun j c hj hl e => ?_)
    rcases h.bl j c b hj hl e with h2 | ⟨k0, c0, h2, h3, h4⟩
    · omega
    · exact hn k0 c0 h2 h3 h4
  mnew := fun a q e => by
    rcases k.mnew a q e with h1 | h1 | ⟨j, c, h1, h2, h3⟩
    · exact h.mnew a q h1
    · exact .inr (.inl (Nat.le_trans h.size h1))
    · exact .inr (h.bl j c _ h1 h2 h3)
  bl := fun j c b hj hl e => by
    rcases k.bl j c b hj hl e with h1 | ⟨k0, c0, h1, h2, h3⟩
    · exact .inl (Nat.le_trans h.size h1)
    · exact h.bl k0 c0 b h1 h2 h3

/-- One key is put anew; at most its own block, or a dead key's, is written. -/
theorem Inv.put {w w' : World} {M M' : Mem} {G G' : Gh} {H : HL} {row : Option Nat} (k : Nat) (c : HC) (hI : Inv w M G H) (hg : w.grownBy w' row) (hm : MLe M M') (hG : GLe G G')
    (hnew : ∀ (a : Addr) (q : Value), M' a = some q → M a = some q ∨ w.heap.size ≤ a.block ∨ row = some a.block)
    (hsub : ∀ (a : Addr) (q : Value), M' a = some q → w'.cell? a = some q)
    (hoth : ∀ k' c' b, k' ≠ k → hget H k' = some c' → c'.live → row = some b → blk G k' ≠ some b)
    (hk : HCR w' M' G' k c) (hb : ∀ b, c.live → blk G' k = some b → w.heap.size ≤ b ∨ row = some b) (hz : ∀ b, row = some b → Zone b = none) : Inv w' M' G' ((k, c) :: H) where
  sub := hsub
  zone := fun b o h => by
    have h1 := hI.zone b o h
    exact h1.same (hg.block b h1.lt (fun e => by rw [hz b e.symm] at h; cases h))
  zsep := fun j d b hj hl hbk => by
    rw [hget_cons] at hj
    split at hj
    · rename_i e
      cases hj; subst e
      rcases hb b hl hbk with h | h
      · cases hq : Zone b with
        | none => rfl
        | some o => have := (hI.zone b o hq).lt; omega
      · exact hz b h
    · obtain ⟨v, hv, _⟩ := (hI.cells j d hj).ghost hl
      refine hI.zsep j d b hj hl ?_
      rw [blk_of (hG _ _ hv)] at hbk
      rw [blk_of hv]
      exact hbk
  cells := fun j d hj => by
    rw [hget_cons] at hj
    split at hj
    · rename_i e; cases hj; subst e; exact hk
    · rename_i e
      by_cases hl : d.live
      · exact (hI.cells j d hj).kept hl hg hm hG hnew (fun b hr => hoth j d b (fun q => e q.symm) hj hl hr)
      · cases d with
        | dead => trivial
        | box _ _ => exact absurd trivial hl
        | arr _ _ _ _ => exact absurd trivial hl
  sep := fun i j d d' b hi hj hl hl' hne e e' => by
    rw [hget_cons] at hi hj
    have old : ∀ x dx bx, hget H x = some dx → dx.live → blk G' x = some bx → blk G x = some bx ∧ bx < w.heap.size := by
      intro x dx bx hx hlx hbx
      obtain ⟨v, hv, hlt⟩ := (hI.cells x dx hx).ghost hlx
      rw [blk_of (hG _ _ hv)] at hbx
      exact ⟨by rw [blk_of hv]; exact hbx, hlt _ hbx⟩
    split at hi
    · rename_i e1
      cases hi; subst e1
      split at hj
      · rename_i e2; exact hne e2
      · rename_i e2
        obtain ⟨o1, o2⟩ := old j d' b hj hl' e'
        rcases hb b hl e with h | h
        · omega
        · exact hoth j d' b (fun q => e2 q.symm) hj hl' h o1
    · rename_i e1
      split at hj
      · rename_i e2
        cases hj; subst e2
        obtain ⟨o1, o2⟩ := old i d b hi hl e
        rcases hb b hl' e' with h | h
        · omega
        · exact hoth i d b (fun q => e1 q.symm) hi hl h o1
      · obtain ⟨o1, _⟩ := old i d b hi hl e
        obtain ⟨o2, _⟩ := old j d' b hj hl' e'
        exact hI.sep i j d d' b hi hj hl hl' hne o1 o2

theorem Step.put {w w' : World} {M M' : Mem} {G G' : Gh} {H : HL} {row : Option Nat} {k : Nat} {c : HC} (hI : Inv w M G H) (hg : w.grownBy w' row) (hm : MLe M M') (hG : GLe G G')
    (hnew : ∀ (a : Addr) (q : Value), M' a = some q → M a = some q ∨ w.heap.size ≤ a.block ∨ row = some a.block)
    (hown : ∀ b, row = some b → ∃ k0 c0, hget H k0 = some c0 ∧ c0.live ∧ blk G k0 = some b)
    (hb : ∀ b, c.live → blk G' k = some b → w.heap.size ≤ b ∨ row = some b) : Step w M G H w' M' G' ((k, c) :: H) where
  os := hg.os
  tape := hg.tape
  output := hg.output
  size := hg.size
  mle := hm
  gle := hG
  keep := fun b hlt hn => hg.block b hlt (fun e => by obtain ⟨k0, c0, h1, h2, h3⟩ := hown b e.symm; exact hn k0 c0 h1 h2 h3)
  mnew := fun a q e => by
    rcases hnew a q e with h | h | h
    · exact .inl h
    · exact .inr (.inl h)
    · exact .inr (.inr (hown _ h))
  bl := fun j d b hj hl e => by
    rw [hget_cons] at hj
    split at hj
    · rename_i q
      cases hj; subst q
      rcases hb b hl e with h | h
      · exact .inl h
      · exact .inr (hown b h)
    · obtain ⟨v, hv, _⟩ := (hI.cells j d hj).ghost hl
      exact .inr ⟨j, d, hj, hl, by rw [blk_of hv]; rw [blk_of (hG _ _ hv)] at e; exact e⟩

/-- A key dies. -/
theorem Inv.die {w : World} {M : Mem} {G : Gh} {H : HL} (k : Nat) (hI : Inv w M G H) : Inv w M G ((k, .dead) :: H) where
  sub := hI.sub
  zone := hI.zone
  zsep := fun i d b hi hl hb => by
    rw [hget_cons] at hi
    split at hi
    · cases hi; exact hl.elim
    · exact hI.zsep i d b hi hl hb
  cells := fun j d hj => by
    rw [hget_cons] at hj
    split at hj
    · cases hj; trivial
    · exact hI.cells j d hj
  sep := fun i j d d' b hi hj hl hl' hne e e' => by
    rw [hget_cons] at hi hj
    split at hi
    · cases hi; exact hl.elim
    · split at hj
      · cases hj; exact hl'.elim
      · exact hI.sep i j d d' b hi hj hl hl' hne e e'

theorem Step.die (w : World) (M : Mem) (G : Gh) (H : HL) (k : Nat) : Step w M G H w M G ((k, .dead) :: H) :=
  ⟨rfl, rfl, rfl, Nat.le_refl _, MLe.refl _, GLe.refl _, fun _ _ _ => rfl, fun _ _ h => .inl h, fun j c b h hl hb => by
    rw [hget_cons] at h
    split at h
    · cases h; exact hl.elim
    · exact .inr ⟨j, c, h, hl, hb⟩⟩

theorem grownBy_refl (w : World) (row : Option Nat) : w.grownBy w row := ⟨rfl, rfl, rfl, Nat.le_refl _, fun _ _ _ => rfl⟩

/-- A row is not written any more. -/
theorem Inv.freeze {w : World} {M : Mem} {G : Gh} {H : HL} {k : Nat} {t : TypeId} {u : U} {l : List (El u)} (hI : Inv w M G H) (hk : hget H k = some (.arr t u l true)) :
    ∃ M', Inv w M' G ((k, .arr t u l false) :: H) ∧ Step w M G H w M' G ((k, .arr t u l false) :: H) := by
  obtain ⟨v, xs, hgk, ho, hr, hb⟩ := hI.cells _ _ hk
  cases hv : blkV v with
  | none =>
    refine ⟨M, hI.put k _ (grownBy_refl w none) (MLe.refl _) (GLe.refl _) (fun _ _ h => .inl h) hI.sub (fun _ _ _ _ _ _ h => by cases h) ?_ ?_ (fun _ h => by cases h), ?_⟩
    · exact ⟨v, xs, hgk, ho, hr, fun b e => by rw [hv] at e; cases e⟩
    · intro b _ e; rw [blk_of hgk, hv] at e; cases e
    · exact Step.put hI (grownBy_refl w none) (MLe.refl _) (GLe.refl _) (fun _ _ h => .inl h) (fun _ h => by cases h) (fun b _ e => by rw [blk_of hgk, hv] at e; cases e)
  | some g =>
    have hown := ho.cells (g := g) hv
    let M' : Mem := fun a => if a.block = g ∧ (offV v ≤ a.off ∧ a.off < offV v + xs.length) ∧ a.spot = none then w.cell? a else M a
    have hm : MLe M M' := fun a q e => by
      by_cases h : a.block = g ∧ (offV v ≤ a.off ∧ a.off < offV v + xs.length) ∧ a.spot = none
      · rw [(hb g hv).1 rfl a h.1] at e; cases e
      · simp only [M', if_neg h]; exact e
    have hnew : ∀ (a : Addr) (q : Value), M' a = some q → M a = some q ∨ w.heap.size ≤ a.block ∨ some g = some a.block := by
      intro a q e
      by_cases h : a.block = g ∧ (offV v ≤ a.off ∧ a.off < offV v + xs.length) ∧ a.spot = none
      · exact .inr (.inr (by rw [h.1]))
      · simp only [M', if_neg h] at e; exact .inl e
    have hsub : ∀ (a : Addr) (q : Value), M' a = some q → w.cell? a = some q := by
      intro a q e
      by_cases h : a.block = g ∧ (offV v ≤ a.off ∧ a.off < offV v + xs.length) ∧ a.spot = none
      · simp only [M', if_pos h] at e; exact e
      · simp only [M', if_neg h] at e; exact hI.sub a q e
    have hoth : ∀ k' c' b, k' ≠ k → hget H k' = some c' → c'.live → some g = some b → blk G k' ≠ some b := by
      intro k' c' b hne hk' hl e
      cases e
      exact hI.sep k k' _ c' g hk hk' trivial hl (fun q => hne q.symm) (by rw [blk_of hgk, hv])
    have hkc : HCR w M' G k (.arr t u l false) := by
      refine ⟨v, xs, hgk, ho, hr.mono hm, fun b e => ⟨fun h => by (cases h), fun _ => ⟨fun j q hj => ?_, fun a q hq ha => ?_⟩⟩⟩
      · rw [hv] at e; cases e
        have h1 := hown j q hj
        have hlt := (List.getElem?_eq_some_iff.1 hj).1
        have e1 : (⟨g, offV v, none⟩ : Addr).add j = ⟨g, offV v + j, none⟩ := by unfold Addr.add; split <;> simp_all
        rw [e1] at h1 ⊢
        have h2 : (⟨g, offV v + j, none⟩ : Addr).block = g ∧ (offV v ≤ (⟨g, offV v + j, none⟩ : Addr).off ∧ (⟨g, offV v + j, none⟩ : Addr).off < offV v + xs.length) ∧ (⟨g, offV v + j, none⟩ : Addr).spot = none := ⟨rfl, ⟨Nat.le_add_right _ _, Nat.add_lt_add_left hlt _⟩, rfl⟩
        show (if _ then _ else _) = _
        rw [if_pos h2]
        exact h1
      · rw [hv] at e; cases e
        by_cases h : a.block = g ∧ (offV v ≤ a.off ∧ a.off < offV v + xs.length) ∧ a.spot = none
        · exact h.2.1
        · simp only [M', if_neg h] at hq
          rw [(hb g hv).1 rfl a ha] at hq; cases hq
    have hbb : ∀ b, (HC.arr t u l false).live → blk G k = some b → w.heap.size ≤ b ∨ some g = some b := by
      intro b _ e
      rw [blk_of hgk, hv] at e
      exact .inr e
    exact ⟨M', hI.put k _ (grownBy_refl w (some g)) hm (GLe.refl _) hnew hsub hoth hkc hbb (fun b e => by cases e; exact hI.zsep k _ g hk trivial (by rw [blk_of hgk, hv])),
      Step.put hI (grownBy_refl w (some g)) hm (GLe.refl _) hnew (fun b e => by cases e; exact ⟨k, _, hk, trivial, by rw [blk_of hgk, hv]⟩) hbb⟩

end Go.AM
end

section
/-
AM: the operations that leave memory alone do in the model what they do here. No condition.
-/
namespace Go.AM
open Go
variable [Inhabited ZMem]

theorem hget_app : ∀ (u H : HL) (k : Nat), hget (u ++ H) k = match hget u k with
    | some c => some c
    | none => hget H k
  | [], _, _ => rfl
  | (j, c) :: u, H, k => by
    simp only [List.cons_append, hget]
    by_cases e : j = k
    · simp [e]
    · simp [e, hget_app u H k]

/-- Nothing new. -/
theorem Inv.same {w : World} {M : Mem} {G : Gh} {H : HL} {k : Nat} {c : HC} (hI : Inv w M G H) (h : hget H k = some c) : Inv w M G ((k, c) :: H) where
  sub := hI.sub
  zone := hI.zone
  zsep := fun i d b hi hl hb => by
    rw [hget_cons] at hi
    have hi' : hget H i = some d := by split at hi <;> simp_all
    exact hI.zsep i d b hi' hl hb
  cells := fun j d hj => by
    rw [hget_cons] at hj
    split at hj
    · rename_i e; cases hj; subst e; exact hI.cells _ _ h
    · exact hI.cells j d hj
  sep := fun i j d d' b hi hj hl hl' hne e e' => by
    rw [hget_cons] at hi hj
    have hi' : hget H i = some d := by split at hi <;> simp_all
    have hj' : hget H j = some d' := by split at hj <;> simp_all
    exact hI.sep i j d d' b hi' hj' hl hl' hne e e'

theorem Step.same {w : World} {M : Mem} {G : Gh} {H : HL} {k : Nat} {c : HC} (h : hget H k = some c) : Step w M G H w M G ((k, c) :: H) :=
  ⟨rfl, rfl, rfl, Nat.le_refl _, MLe.refl _, GLe.refl _, fun _ _ _ => rfl, fun _ _ h => .inl h, fun j d b hj hl hb => by
    rw [hget_cons] at hj
    split at hj
    · rename_i e; cases hj; subst e; exact .inr ⟨k, c, h, hl, hb⟩
    · exact .inr ⟨j, d, hj, hl, hb⟩⟩

theorem fzU_get (H : HL) : ∀ (cs : List LV) (k : Nat) {t : TypeId} {u : U} {l : List (El u)}, hget H k = some (.arr t u l true) →
    hget (fzU H cs ++ H) k = some (.arr t u l true) ∨ hget (fzU H cs ++ H) k = some (.arr t u l false)
  | [], _, _, _, _, h => .inl h
  | c :: cs, k, t, u, l, h => by
    have ih := fzU_get H cs k h
    cases c with
    | own j =>
      cases hj : hget H j with
      | none => simpa [fzU, hj] using ih
      | some d =>
        cases d with
        | dead => simpa [fzU, hj] using ih
        | box _ _ => simpa [fzU, hj] using ih
        | arr t' u' l' s' =>
          cases s' with
          | false => simpa [fzU, hj] using ih
          | true =>
            simp only [fzU, hj, List.cons_append, hget]
            by_cases e : j = k
            · subst e; rw [h] at hj; cases hj; simp
            · simpa [e] using ih
    | _ => simpa [fzU] using ih

theorem fzU_sound {w : World} {M : Mem} {G : Gh} {H : HL} (hI : Inv w M G H) : ∀ (cs : List LV), ∃ M', Inv w M' G (fzU H cs ++ H) ∧ Step w M G H w M' G (fzU H cs ++ H)
  | [] => ⟨M, hI, Step.refl _ _ _ _⟩
  | c :: cs => by
    obtain ⟨M1, i1, s1⟩ := fzU_sound hI cs
    have key : ∀ (j : Nat) (t : TypeId) (u : U) (l : List (El u)), hget H j = some (.arr t u l true) →
        ∃ M', Inv w M' G ((j, .arr t u l false) :: (fzU H cs ++ H)) ∧ Step w M G H w M' G ((j, .arr t u l false) :: (fzU H cs ++ H)) := by
      intro j t u l hj
      rcases fzU_get H cs j hj with h | h
      · obtain ⟨M2, i2, s2⟩ := i1.freeze h
        exact ⟨M2, i2, s1.trans s2⟩
      · exact ⟨M1, i1.same h, s1.trans (Step.same h)⟩
    cases c with
    | own j =>
      cases hj : hget H j with
      | none => exact ⟨M1, by simpa [fzU, hj] using i1, by simpa [fzU, hj] using s1⟩
      | some d =>
        cases d with
        | dead => exact ⟨M1, by simpa [fzU, hj] using i1, by simpa [fzU, hj] using s1⟩
        | box _ _ => exact ⟨M1, by simpa [fzU, hj] using i1, by simpa [fzU, hj] using s1⟩
        | arr t' u' l' s' =>
          cases s' with
          | false => exact ⟨M1, by simpa [fzU, hj] using i1, by simpa [fzU, hj] using s1⟩
          | true =>
            obtain ⟨M2, i2, s2⟩ := key j t' u' l' hj
            exact ⟨M2, by simpa [fzU, hj] using i2, by simpa [fzU, hj] using s2⟩
    | _ => exact ⟨M1, by simpa [fzU] using i1, by simpa [fzU] using s1⟩

/-! ### types -/
def dzero : (u : U) → List Value → Bool
  | .int k, [.int k' n] => k' == k && n == 0
  | .bool, [.bool b] => !b
  | .str, [.string s] => s.size == 0
  | .sl _, [.slice none 0 0] => true
  | .nil, [] => true
  | .cons a b, vs => dzero a (vs.take a.size) && dzero b (vs.drop a.size)
  | .any, [.nilIface] => true
  | _, _ => false

theorem dzero_dv (M : Mem) : ∀ (u : U) (vs : List Value), dzero u vs = true → DV M u vs (dflt u)
  | .int k, vs, h => by
    unfold dzero at h
    split at h <;> simp_all [DV, dflt]
  | .bool, vs, h => by
    unfold dzero at h
    split at h <;> simp_all [DV, dflt]
  | .str, vs, h => by
    unfold dzero at h
    split at h <;> simp_all [DV, dflt]
    rfl
  | .sl e, vs, h => by
    unfold dzero at h
    split at h <;> simp_all [dflt]
    exact DV.nilSlice M e
  | .nil, vs, h => by
    unfold dzero at h
    split at h <;> simp_all [DV]
  | .any, vs, h => by
    unfold dzero at h
    split at h <;> simp_all [DV, dflt, ifaceB]
  | .cons a b, vs, h => by
    unfold dzero at h
    simp only [Bool.and_eq_true] at h
    exact ⟨dzero_dv M a _ h.1, dzero_dv M b _ h.2⟩

structure TOk (P : Program) (t : TypeId) (d : TD) : Prop where
  und : P.underlying t = some d.desc
  info : ∃ i z, P.info? t = some i ∧ i.zero = some z ∧ i.size = d.size ∧ i.bytes = d.bytes ∧ z.cells.toList.map LV.val = d.zero ∧ z.cells.toList.all scal = true ∧ z.cells.size = d.size ∧
    ∀ u, d.u = some u → u.size = d.size ∧ 0 < d.size ∧ dzero u z.cells.toList = true
  pl : ∀ fs, d.desc = .struct fs → fs.toList.mapM (fun f => (P.info? f.type).map fun i => (f.offset, i.size)) = some d.places
  eqv : d.eqok = true → ∀ (u : U), d.u = some u → ∀ (w : World) (M : Mem) (x y : Array Value) (a b : El u), DV M u x.toList a → DV M u y.toList b →
    P.eqGuardType P.depth t = false ∧ (Op.equal t (.agg x) (.agg y)).run P w = .ok (eqU u a b) w

def TOK (P : Program) (T : TT) : Prop := ∀ t d, T t = some d → TOk P t d

/-! ### one operation -/
def Good (w : World) (M : Mem) (G : Gh) (H : HL) (base n : Nat) (v : AV) (u : Upd) (val : Value) (w' : World) : Prop :=
  ∃ M' G', AVR M' G' val v ∧ Inv w' M' G' (u ++ H) ∧ Step w M G H w' M' G' (u ++ H) ∧ ∀ j, (j < base ∨ base + n ≤ j) → G' j = G j

def Runs (P : Program) (a : Act) (o : Oper) (w : World) (R : Value → World → Prop) : Prop :=
  ∀ (next : Act → World → Prop) (Q : Exit → Act → World → Prop), (∀ val w', R val w' → next (a.put o.dst val) w') → o.wp P a w next Q

theorem Runs.value {P : Program} {a : Act} {o : Oper} {w w' : World} {R : Value → World → Prop} {val : Value} (h : (execOp a.eval o).run P w = .ok (.value val) w') (hR : R val w') : Runs P a o w R := by
  intro next Q hn
  unfold Oper.wp
  rw [h]
  exact hn _ _ hR

theorem Runs.skip {P : Program} {a : Act} {o : Oper} {w w' : World} {R : Value → World → Prop} (h : (execOp a.eval o).run P w = .ok .skip w') (hR : R undef w') : Runs P a o w R := by
  intro next Q hn
  unfold Oper.wp
  rw [h]
  exact hn _ _ hR

theorem Good.plain {w : World} {M : Mem} {G : Gh} {H : HL} {base n : Nat} {v : AV} {val : Value} (hI : Inv w M G H) (hv : AVR M G val v) : Good w M G H base n v [] val w :=
  ⟨M, G, hv, hI, Step.refl _ _ _ _, fun _ _ => rfl⟩

theorem Good.frozen {w : World} {M : Mem} {G : Gh} {H : HL} {base n : Nat} {v : AV} {val : Value} {cs : List LV} (hI : Inv w M G H)
    (hv : ∀ M', MLe M M' → Inv w M' G (fzU H cs ++ H) → AVR M' G val v) : Good w M G H base n v (fzU H cs) val w := by
  obtain ⟨M', i, s⟩ := fzU_sound hI cs
  exact ⟨M', G, hv M' s.mle i, i, s, fun _ _ => rfl⟩

section
variable {P : Program} {T : TT} {w : World} {M : Mem} {G : Gh} {H : HL} {R : Type} {base : Nat} {e : Operand → AV} {a : Act} {k : AV → Upd → Option R} {r : R} {o : Oper}

theorem ld_sound (hT : TOK P T) {t : TypeId} {cs : List LV} {off : Nat} {k : SV → Option R} (h : ld T t cs off k = some r) :
    ∃ d s, T t = some d ∧ off + d.size ≤ cs.length ∧ k s = some r ∧ mkSV d.isAgg ((cs.drop off).take d.size) = some s := by
  unfold ld at h
  split at h
  · rename_i d hd
    split at h
    · rename_i hl
      split at h
      · rename_i s hs
        exact ⟨d, s, hd, hl, h, hs⟩
      · cases h
    · cases h
  · cases h

theorem isAgg_run (hT : TOK P T) {t : TypeId} {d : TD} (hd : T t = some d) : (isAgg t).run P w = .ok d.isAgg w := by
  have hu := (hT t d hd).und
  unfold isAgg
  rw [Sem.run_bind, run_underlying hu w]
  simp only [Result.andThen_ok, TD.isAgg]
  cases d.desc <;> rfl

theorem sizeOf_run (hT : TOK P T) {t : TypeId} {d : TD} (hd : T t = some d) : (Go.sizeOf t).run P w = .ok d.size w := by
  obtain ⟨i, z, hi, hz, hs, _⟩ := (hT t d hd).info
  simp [Go.sizeOf, typeInfo, hi, hs]

/-- A variable's cells, read. -/
theorem loadVar_run (hT : TOK P T) {t : TypeId} {d : TD} (hd : T t = some d) {ad : Addr} {vs : List Value} (hl : vs.length = d.size) (hv : At w.cell? ad vs) {s : SV} {xs : List LV} (hx : CR M G vs xs)
    (hs : mkSV d.isAgg xs = some s) : ∃ val, (loadVar t ad).run P w = .ok val w ∧ SVR M G val s := by
  unfold loadVar
  rw [Sem.run_bind, isAgg_run hT hd]
  simp only [Result.andThen_ok]
  unfold mkSV at hs
  cases hq : d.isAgg with
  | true =>
    rw [hq] at hs
    simp only [if_true, Option.some.injEq] at hs
    subst hs
    have h2 := run_loadCells_list (P := P) w ad vs hv
    rw [hl] at h2
    refine ⟨.agg vs.toArray, ?_, vs.toArray, rfl, by simpa using hx⟩
    simp only [Sem.run_bind, sizeOf_run hT hd, Result.andThen_ok, h2, if_true, Sem.run_pure]
  | false =>
    rw [hq] at hs
    simp only [Bool.false_eq_true, if_false] at hs
    match xs, vs, hx, hs with
    | [x], [v], hx, hs =>
      cases hs
      have h0 : w.cell? ad = some v := by simpa [Addr.add] using hv 0 v rfl
      refine ⟨v, ?_, hx.1⟩
      simp only [Bool.false_eq_true, if_false]
      rw [run_load, h0]

theorem act_move (hI : Inv w M G H) (he : ∀ x, AVR M G (a.eval x) (e x)) {x : Operand} (ho : o.op = .move x ∨ o.op = .assign x) (hk : k (e x) [] = some r) :
    ∃ v u, k v u = some r ∧ Runs P a o w (Good w M G H base 0 v u) := by
  refine ⟨_, _, hk, Runs.value (w' := w) (val := a.eval x) ?_ (Good.plain hI (he x))⟩
  rcases ho with ho | ho <;> simp [execOp, ho]

theorem avr_one {v : Value} {x : LV} (h : AVR M G v (.sv (.one x))) : LVR M G v x := h
theorem avr_val {v y : Value} (h : AVR M G v (.sv (.one (.val y)))) : v = y ∧ scal y = true := h

end
end Go.AM
end

section
/-
AM: variables in memory: made, read, written; structs built. No condition.
-/
namespace Go.AM
open Go
variable [Inhabited ZMem]

section
variable {P : Program} {T : TT} {w : World} {M : Mem} {G : Gh} {H : HL} {R : Type} {C : CT} {base : Nat} {e : Operand → AV} {a : Act} {k : AV → Upd → Option R} {r : R} {o : Oper}

theorem cellsA_nj {x : AV} {cs : List LV} (h : cellsA x = some cs) : ∀ y ∈ cs, y ≠ .junk := by
  cases x with
  | tup l => simp [cellsA] at h
  | sv s =>
    simp only [cellsA] at h
    split at h
    · rename_i hq
      cases h
      intro y hy e
      subst e
      have := List.all_eq_true.1 hq _ hy
      simp [LV.nj] at this
    · cases h

theorem cellsA_sound {v : Value} {x : AV} {cs : List LV} (h : cellsA x = some cs) (hv : AVR M G v x) : CR M G v.cells.toList cs := by
  have hn := cellsA_nj h
  cases x with
  | tup l => simp [cellsA] at h
  | sv s =>
    simp only [cellsA] at h
    split at h
    · cases h
      refine SVR.cells hv ?_
      rintro rfl
      exact hn .junk (by simp [SV.cells]) rfl
    · cases h

theorem LVR.oneCell {v : Value} {x : LV} (h : LVR M G v x) (hj : x ≠ .junk) : v.oneCell' = true := by
  cases x with
  | val y => obtain ⟨rfl, hs⟩ := h; cases v <;> first | rfl | (simp [scal] at hs)
  | sl e l => obtain ⟨b, c, xs, q, _⟩ := h; cases q; rfl
  | own k => obtain ⟨_, a, n, c, rfl⟩ := h; rfl
  | ptr k off => obtain ⟨b, _, rfl⟩ := h; rfl
  | rptr e x off => obtain ⟨ad, vs, rfl, _⟩ := h; rfl
  | eptr k i sz off => obtain ⟨b, p, n, c, _, _, rfl⟩ := h; rfl
  | fn f caps => obtain ⟨vs, rfl, _⟩ := h; rfl
  | oself k => obtain ⟨b, _, rfl | rfl⟩ := h <;> rfl
  | junk => exact absurd rfl hj

theorem up_ghost (G : Gh) (base : Nat) (v : Value) (hf : G base = none) : GLe G (fun j => if j = base then some v else G j) := by
  intro j q h
  by_cases e : j = base
  · subst e; rw [hf] at h; cases h
  · simp [e, h]

/-- A new variable. -/
theorem Good.box {cs : List LV} {vs : Array Value} {t : TypeId} {n : Nat} (hn : 0 < n) (hI : Inv w M G H) (hc : CR M G vs.toList cs) (hf : ∀ j, base ≤ j → j < base + n → G j = none) :
    Good w M G H base n (.sv (.one (.ptr base 0))) [(base, .box t cs)] (.pointer (some ⟨w.heap.size, 0, none⟩)) (w.alloc (.cells vs t)) := by
  have hfb := hf base (Nat.le_refl _) (by omega)
  let G' : Gh := fun j => if j = base then some (.pointer (some ⟨w.heap.size, 0, none⟩)) else G j
  have hG : GLe G G' := up_ghost G base _ hfb
  have hgb : G' base = some (.pointer (some ⟨w.heap.size, 0, none⟩)) := by simp [G']
  have hgr : w.grownBy (w.alloc (.cells vs t)) none := World.grownBy_alloc w _ none
  have hsub : ∀ (a : Addr) (q : Value), M a = some q → (w.alloc (.cells vs t)).cell? a = some q := by
    intro a q h
    have h1 := hI.sub a q h
    have hlt := World.block_lt_of_cell? w a h1
    rw [World.cell?_alloc_lt]
    · exact h1
    · exact hlt
  have hbb : ∀ b, (HC.box t cs).live → blk G' base = some b → w.heap.size ≤ b ∨ (none : Option Nat) = some b := by
    intro b _ h
    rw [blk_of hgb] at h
    cases h
    exact .inl (Nat.le_refl _)
  refine ⟨M, G', ⟨w.heap.size, hgb, rfl⟩, hI.put base _ hgr (MLe.refl _) hG (fun _ _ h => .inl h) hsub (fun _ _ _ _ _ _ h => by cases h) ?_ hbb (fun _ h => by cases h),
    Step.put hI hgr (MLe.refl _) hG (fun _ _ h => .inl h) (fun _ h => by cases h) hbb, fun j hj => ?_⟩
  · refine ⟨w.heap.size, vs, hgb, by show (w.heap.push _)[w.heap.size]? = _; simp, hc.ext (MLe.refl _) hG, fun a ha => ?_⟩
    cases h : M a with
    | none => rfl
    | some q => have := World.block_lt_of_cell? w _ (hI.sub a q h); omega
  · have : j ≠ base := by omega
    simp [G', this]

theorem act_alloc (hT : TOK P T) (hI : Inv w M G H) (hf : ∀ j, base ≤ j → j < base + 1 → G j = none) {t : TypeId} (ho : o.op = .alloc t) {d : TD} (hd : T t = some d)
    (hk : k (.sv (.one (.ptr base 0))) [(base, .box t d.zero)] = some r) : ∃ v u, k v u = some r ∧ Runs P a o w (Good w M G H base 1 v u) := by
  obtain ⟨i, z, hi, hz, hs, hb, hm, ha, _⟩ := (hT t d hd).info
  refine ⟨_, _, hk, Runs.value (val := .pointer (some ⟨w.heap.size, 0, none⟩)) (w' := w.alloc (.cells z.cells t)) ?_ (Good.box (by omega) hI ?_ hf)⟩
  · simp [execOp, ho, Instr.alloc, zeroValue, typeInfo, hi, hz, newVar, newRow]
  · rw [← hm]
    have : ∀ l : List Value, l.all scal = true → CR M G l (l.map LV.val) := by
      intro l
      induction l with
      | nil => intro _; trivial
      | cons x xs ih => intro h; simp only [List.all_cons, Bool.and_eq_true] at h; exact ⟨⟨rfl, h.1⟩, ih h.2⟩
    exact this _ ha

theorem act_box (hI : Inv w M G H) (he : ∀ x, AVR M G (a.eval x) (e x)) (hf : ∀ j, base ≤ j → j < base + 1 → G j = none) {t : TypeId} {x : Operand} (ho : o.op = .box t x) {cs : List LV} (hc : cellsA (e x) = some cs)
    (hk : k (.sv (.one (.ptr base 0))) [(base, .box t cs)] = some r) : ∃ v u, k v u = some r ∧ Runs P a o w (Good w M G H base 1 v u) := by
  refine ⟨_, _, hk, Runs.value (val := .pointer (some ⟨w.heap.size, 0, none⟩)) (w' := w.alloc (.cells (a.eval x).cells t)) ?_ (Good.box (by omega) hI (cellsA_sound hc (he x)) hf)⟩
  simp [execOp, ho, Instr.box, newVar, newRow]

theorem add_pt (b o n : Nat) : (⟨b, o, none⟩ : Addr).add n = ⟨b, o + n, none⟩ := by unfold Addr.add; split <;> simp_all

/-- The part of a variable's cells from an offset on. -/
theorem box_part {b off : Nat} {vs : Array Value} {t : TypeId} {fr : Nat × Nat} (hb : w.heap[b]? = some (.cells vs t fr)) : At w.cell? ⟨b, off, none⟩ (vs.toList.drop off) := by
  intro j v h
  rw [add_pt]
  simp only [World.cell?, hb]
  simp only [List.getElem?_drop, Array.getElem?_toList] at h
  simpa using h

theorem At.take {M : Mem} {ad : Addr} {vs : List Value} (h : At M ad vs) (n : Nat) : At M ad (vs.take n) := by
  intro j v e
  refine h j v ?_
  rw [List.getElem?_take] at e
  split at e
  · exact e
  · cases e

theorem Addr.add_add' (ad : Addr) (m n : Nat) : (ad.add m).add n = ad.add (m + n) := by
  unfold Addr.add
  by_cases h1 : m = 0
  · simp [h1]
  · by_cases h2 : n = 0
    · simp [h1, h2]
    · simp [h1, h2, Nat.add_assoc]

theorem At.drop {M : Mem} {ad : Addr} {vs : List Value} (h : At M ad vs) (n : Nat) : At M (ad.add n) (vs.drop n) := by
  intro j v e
  rw [Addr.add_add']
  exact h _ v (by simpa [List.getElem?_drop] using e)

theorem load_run (hT : TOK P T) {t : TypeId} {d : TD} (hd : T t = some d) {ad : Addr} {vs : List Value} {cs : List LV} {off : Nat} (hv : At w.cell? ad vs) (hc : CR M G vs cs) (hl : off + d.size ≤ cs.length) {s : SV}
    (hs : mkSV d.isAgg ((cs.drop off).take d.size) = some s) : ∃ val, (loadVar t (ad.add off)).run P w = .ok val w ∧ SVR M G val s := by
  have hlen := hc.len
  exact loadVar_run hT hd (vs := (vs.drop off).take d.size) (by simp; omega) ((hv.drop off).take _) ((hc.drop off).take _) hs

theorem act_load (hT : TOK P T) (hI : Inv w M G H) (he : ∀ x, AVR M G (a.eval x) (e x)) {t : TypeId} {x : Operand} (ho : o.op = .load t x)
    (hk : act T C o base e H k = some r) : ∃ v u, k v u = some r ∧ Runs P a o w (Good w M G H base 0 v u) := by
  have hx := he x
  simp only [act, ho] at hk
  have fin : ∀ (ad : Addr) (vs : List Value) (cs : List LV) (off : Nat), a.eval x = .pointer (some (ad.add off)) → At w.cell? ad vs → CR M G vs cs →
      (ld T t cs off fun s => k (.sv s) []) = some r → ∃ v u, k v u = some r ∧ Runs P a o w (Good w M G H base 0 v u) := by
    intro ad vs cs off hev hv hc hld
    obtain ⟨d, s, hd, hl, hk', hs⟩ := ld_sound hT hld
    obtain ⟨val, hr, hvr⟩ := load_run hT hd hv hc hl hs
    refine ⟨_, _, hk', Runs.value (val := val) (w' := w) ?_ (Good.plain hI hvr)⟩
    simp [execOp, ho, hev, Instr.loadAt, Instr.sureAddr, hr]
  split at hk
  · rename_i b off hev
    rw [hev] at hx
    obtain ⟨bk, hg, hp⟩ := hx
    split at hk
    · rename_i cs hb
      obtain ⟨b', vs, hg', hheap, hc, _⟩ := hI.cells _ _ hb
      rw [hg] at hg'
      cases hg'
      exact fin ⟨bk, 0, none⟩ vs.toList cs off (by rw [hp, add_pt]; simp) (by simpa using box_part (off := 0) hheap) hc hk
    · cases hk
  · rename_i u y off hev
    rw [hev] at hx
    obtain ⟨ad, vs, hp, hat, hd⟩ := hx
    exact fin ad vs _ off hp (fun j v h => hI.sub _ _ (hat j v h)) (hd.cr G) hk
  · rename_i b i sz off hev
    rw [hev] at hx
    obtain ⟨bk, p0, n, c, hg, hin, hp⟩ := hx
    split at hk
    · rename_i t' u l st hb
      split at hk
      · rename_i hsz
        obtain ⟨v0, xs, hg', hown, hrow, _⟩ := hI.cells _ _ hb
        rw [hg] at hg'
        cases hg'
        have hnl : n = l.length := by
          rcases hown.2 with ⟨h, _⟩ | ⟨g, _, cap, cur, h, _⟩
          · cases h
          · cases h; rfl
        have hil : i < l.length := by omega
        have hcells := hown.cells (g := bk) rfl
        have hd := hrow.2 i hil
        have hgd : l.getD i (dflt u) = l[i] := by simp [List.getD, hil]
        rw [hgd] at hk
        refine fin ((⟨bk, p0, none⟩ : Addr).add (i * u.size)) _ _ off ?_ ?_ (hd.cr G) hk
        · rw [hp, hsz, add_pt, add_pt]; simp [Nat.add_assoc]
        · exact (At.take (At.drop (M := w.cell?) (fun j v h => hcells j v h) (i * u.size)) u.size)
      · cases hk
    · cases hk
  · cases hk

theorem at_splice {vs s : List Value} {off : Nat} (h : off + s.length ≤ vs.length) : (vs.take off ++ s ++ vs.drop (off + s.length)).length = vs.length := by
  simp; omega

theorem CR.oneCell {vs : List Value} {cs : List LV} (h : CR M G vs cs) (hj : ∀ x ∈ cs, x ≠ .junk) : ∀ v ∈ vs, v.oneCell' = true := by
  induction vs generalizing cs with
  | nil => intro v hv; cases hv
  | cons v vs ih =>
    match cs, h with
    | x :: xs, h =>
      intro y hy
      rcases List.mem_cons.1 hy with rfl | hy
      · exact LVR.oneCell h.1 (hj x (by simp))
      · exact ih h.2 (fun z hz => hj z (by simp [hz])) y hy

theorem setRow_grown (w : World) (b : Nat) (cs : Array Value) : w.grownBy (w.setRow b cs) (some b) :=
  ⟨rfl, rfl, rfl, by simp, fun k _ hne => setRow_other w b k cs (fun e => hne (by rw [e]))⟩

theorem storeVar_run (hT : TOK P T) {t ty : TypeId} {d : TD} (hd : T t = some d) {b off : Nat} {cur : Array Value} {val : Value} (hb : w.heap[b]? = some (.cells cur ty (0, 0))) (hs : val.cells.size = d.size)
    (hl : off + d.size ≤ cur.size) (h1 : ∀ v ∈ val.cells.toList, v.oneCell' = true) :
    (storeVar t ⟨b, off, none⟩ val).run P w = .ok () (w.setRow b (cur.toList.take off ++ val.cells.toList ++ cur.toList.drop (off + val.cells.toList.length)).toArray) := by
  unfold storeVar
  rw [Sem.run_bind, sizeOf_run hT hd]
  simp only [Result.andThen_ok, hs, ne_eq, not_true_eq_false, if_false]
  have := run_storeCells_at (P := P) b off ty val.cells.toList 0 cur w hb (by simp [hs]; omega) h1
  simpa using this

end
end Go.AM
end

section
/-
AM: stores into variables, structs built, numbers, tests, strings, parts. No condition.
-/
namespace Go.AM
open Go
variable [Inhabited ZMem]

section
variable {P : Program} {T : TT} {w : World} {M : Mem} {G : Gh} {H : HL} {R : Type} {C : CT} {base : Nat} {e : Operand → AV} {a : Act} {k : AV → Upd → Option R} {r : R} {o : Oper}

theorem store_box (hT : TOK P T) (hI : Inv w M G H) {t : TypeId} {x y : Operand} (ho : o.op = .store t x y) {b off : Nat} {d : TD} (hd : T t = some d) {s cs : List LV}
    (hx : AVR M G (a.eval x) (.sv (.one (.ptr b off)))) (hy : CR M G (a.eval y).cells.toList s) (hn : ∀ z ∈ s, z ≠ .junk) {tb : TypeId} (hb : hget H b = some (.box tb cs)) (hl : s.length = d.size ∧ off + d.size ≤ cs.length) {n : Nat} :
    Runs P a o w (Good w M G H base n (.sv (.one .junk)) [(b, .box tb (splice cs off s))]) := by
  obtain ⟨bk, hg, hp⟩ := hx
  obtain ⟨b', vs, hg', hheap, hc, hm⟩ := hI.cells _ _ hb
  rw [hg] at hg'
  cases hg'
  have hsz : (a.eval y).cells.size = d.size := by have := hy.len; simp at this; omega
  have hcl := hc.len
  obtain ⟨nv, hnv, hrun⟩ : ∃ nv : Array Value, nv.toList = vs.toList.take off ++ (a.eval y).cells.toList ++ vs.toList.drop (off + (a.eval y).cells.toList.length) ∧
      (storeVar t ⟨bk, off, none⟩ (a.eval y)).run P w = .ok () (w.setRow bk nv) :=
    ⟨_, by simp, storeVar_run (w := w) (off := off) hT hd hheap hsz (by simp at hcl; omega) (hy.oneCell hn)⟩
  refine Runs.skip (w' := w.setRow bk nv) ?_ ?_
  · simp [execOp, ho, hp, Instr.storeAt, Instr.sureAddr, hrun]
  · have hgr := setRow_grown w bk nv
    have hsub : ∀ (ad : Addr) (q : Value), M ad = some q → (w.setRow bk nv).cell? ad = some q := by
      intro ad q h
      rw [cell_setRow_other]
      · exact hI.sub _ _ h
      · intro e; rw [hm ad e] at h; cases h
    refine ⟨M, G, trivial, hI.put b _ hgr (MLe.refl _) (GLe.refl _) (fun _ _ h => .inl h) hsub ?_ ?_ ?_ (fun b1 e => by cases e; exact hI.zsep b _ bk hb trivial (by rw [blk_of hg]; rfl)), Step.put hI hgr (MLe.refl _) (GLe.refl _) (fun _ _ h => .inl h) ?_ ?_, fun _ _ => rfl⟩
    · intro k' c' b1 hne hk' hl' e
      cases e
      exact hI.sep b k' _ c' bk hb hk' trivial hl' (fun q => hne q.symm) (by rw [blk_of hg]; rfl)
    · refine ⟨bk, _, hg, setRow_heap w bk _ _ tb _ hheap, ?_, hm⟩
      rw [hnv]
      exact hc.splice off hy
    · intro b1 _ h; rw [blk_of hg] at h; cases h; exact .inr rfl
    · intro b1 h; cases h; exact ⟨b, _, hb, trivial, by rw [blk_of hg]; rfl⟩
    · intro b1 _ h; rw [blk_of hg] at h; cases h; exact .inr rfl

/-! ### structs built -/
theorem foldl_set (off : Nat) : ∀ (s : List Value) (i : Nat) (cs : Array Value), off + i + s.length ≤ cs.size →
    ((s.zipIdx i).foldl (fun cs (c : Value × Nat) => cs.setIfInBounds (off + c.2) c.1) cs).toList = cs.toList.take (off + i) ++ s ++ cs.toList.drop (off + i + s.length)
  | [], i, cs, _ => by simp
  | v :: s, i, cs, h => by
    simp only [List.zipIdx_cons, List.foldl_cons]
    rw [foldl_set off s (i + 1) _ (by simp at h ⊢; omega)]
    have hlt : off + i < cs.toList.length := by simp at h ⊢; omega
    have e1 : (cs.setIfInBounds (off + i) v).toList = cs.toList.set (off + i) v := by simp
    rw [e1]
    have e2 : (cs.toList.set (off + i) v).take (off + (i + 1)) = cs.toList.take (off + i) ++ [v] := by
      rw [show off + (i + 1) = (off + i) + 1 by omega, List.take_succ_eq_append_getElem (by simpa using hlt)]
      simp [List.take_set]
      rw [List.set_eq_of_length_le (by simp; exact Nat.min_le_left _ _)]
    have e3 : (cs.toList.set (off + i) v).drop (off + (i + 1) + s.length) = cs.toList.drop (off + i + (v :: s).length) := by
      rw [List.drop_set]
      rw [if_pos (by omega)]
      congr 1
      simp; omega
    rw [e2, e3]
    simp

theorem fill_sound (place : Nat → Option (Nat × Nat)) (e : Operand → AV) (he : ∀ x, AVR M G (a.eval x) (e x)) : ∀ (parts : List (Nat × Operand)) (cells : Array Value) (xs xs' : List LV), CR M G cells.toList xs →
    fillL place xs (parts.map fun p => (p.1, e p.2)) = some xs' → ∃ cells', Instr.fill place cells (parts.map fun p => (p.1, a.eval p.2)) = some cells' ∧ CR M G cells'.toList xs'
  | [], cells, xs, xs', hc, h => by
    simp only [List.map_nil, fillL, Option.some.injEq] at h
    subst h
    exact ⟨cells, by simp [Instr.fill], hc⟩
  | (i, x) :: rest, cells, xs, xs', hc, h => by
    simp only [List.map_cons, fillL] at h
    split at h
    · rename_i off size s hp hs
      split at h
      · rename_i hl
        have hcs := cellsA_sound hs (he x)
        have hlen := hcs.len
        have hlc := hc.len
        simp only [Array.length_toList] at hlen hlc
        have hc' := hc.splice off hcs
        have hf := foldl_set off (a.eval x).cells.toList 0 cells (by simp; omega)
        have hz : ((a.eval x).cells.zipIdx.foldl (fun cs (c : Value × Nat) => cs.setIfInBounds (off + c.2) c.1) cells).toList = cells.toList.take off ++ (a.eval x).cells.toList ++ cells.toList.drop (off + (a.eval x).cells.toList.length) := by
          rw [← Array.foldl_toList, Array.toList_zipIdx]
          simpa using hf
        obtain ⟨cells', h1, h2⟩ := fill_sound place e he rest ((a.eval x).cells.zipIdx.foldl (fun cs (c : Value × Nat) => cs.setIfInBounds (off + c.2) c.1) cells) (AM.splice xs off s) xs' (by rw [hz]; exact hc') h
        refine ⟨cells', ?_, h2⟩
        simp only [List.map_cons, Instr.fill, hp]
        rw [if_neg]
        · exact h1
        · simp; omega
      · cases h
    · cases h

end
end Go.AM
end

section
/-
AM: structs built, parts of variables, elements, numbers and tests. No condition.
-/
namespace Go.AM
open Go
variable [Inhabited ZMem]

section
variable {P : Program} {T : TT} {w : World} {M : Mem} {G : Gh} {H : HL} {R : Type} {C : CT} {base n : Nat} {e : Operand → AV} {a : Act} {k : AV → Upd → Option R} {r : R} {o : Oper}

theorem build_struct (hT : TOK P T) (hI : Inv w M G H) (he : ∀ x, AVR M G (a.eval x) (e x)) {t : TypeId} {parts : Array (Nat × Operand)} (ho : o.op = .build t parts) {d : TD} (hd : T t = some d) {fs : Array Field} (hf : d.desc = .struct fs)
    {cs : List LV} (hc : fillL (fun i => d.places[i]?) d.zero (parts.toList.map fun p => (p.1, e p.2)) = some cs) : Runs P a o w (Good w M G H base n (.sv (.agg cs)) []) := by
  have hk := hT t d hd
  obtain ⟨i, z, hi, hz, hs, hb, hm, ha, hzs, _⟩ := hk.info
  have hz0 : CR M G z.cells.toList d.zero := by
    rw [← hm]
    have : ∀ l : List Value, l.all scal = true → CR M G l (l.map LV.val) := by
      intro l
      induction l with
      | nil => intro _; trivial
      | cons x xs ih => intro h; simp only [List.all_cons, Bool.and_eq_true] at h; exact ⟨⟨rfl, h.1⟩, ih h.2⟩
    exact this _ ha
  obtain ⟨cells', h1, h2⟩ := fill_sound (a := a) _ e he parts.toList z.cells d.zero cs hz0 hc
  refine Runs.value (val := .agg cells') (w' := w) ?_ (Good.plain hI ⟨cells', rfl, h2⟩)
  have hb : P.built t ((parts.map fun p => (p.1, a.eval p.2)).toList) = some cells' := by
    unfold Program.built
    rw [hi, hk.und, hf]
    simp only [hz, hk.pl fs hf]
    rw [Array.toList_map]
    simpa using h1
  simp [execOp, ho, run_build w t _ cells' hb]

theorem build_array (hT : TOK P T) (hI : Inv w M G H) (he : ∀ x, AVR M G (a.eval x) (e x)) {t : TypeId} {parts : Array (Nat × Operand)} (ho : o.op = .build t parts) {d de : TD} (hd : T t = some d) {m el : Nat} (hf : d.desc = .array m el) (hde : T el = some de)
    {cs : List LV} (hc : fillL (fun i => some (i * de.size, de.size)) d.zero (parts.toList.map fun p => (p.1, e p.2)) = some cs) : Runs P a o w (Good w M G H base n (.sv (.agg cs)) []) := by
  have hk := hT t d hd
  obtain ⟨i, z, hi, hz, hs, hb, hm, ha, hzs, _⟩ := hk.info
  obtain ⟨ie, ze, hie, _, hse, _⟩ := (hT el de hde).info
  have hz0 : CR M G z.cells.toList d.zero := by
    rw [← hm]
    have : ∀ l : List Value, l.all scal = true → CR M G l (l.map LV.val) := by
      intro l
      induction l with
      | nil => intro _; trivial
      | cons x xs ih => intro h; simp only [List.all_cons, Bool.and_eq_true] at h; exact ⟨⟨rfl, h.1⟩, ih h.2⟩
    exact this _ ha
  obtain ⟨cells', h1, h2⟩ := fill_sound (a := a) _ e he parts.toList z.cells d.zero cs hz0 hc
  refine Runs.value (val := .agg cells') (w' := w) ?_ (Good.plain hI ⟨cells', rfl, h2⟩)
  have hb : P.built t ((parts.map fun p => (p.1, a.eval p.2)).toList) = some cells' := by
    unfold Program.built
    rw [hi, hk.und, hf]
    simp only [hz, hie, hse]
    rw [Array.toList_map]
    exact h1
  simp [execOp, ho, run_build w t _ cells' hb]

theorem nilCheck_sound (hI : Inv w M G H) {x : Operand} (ho : o.op = .nilCheck x) {v : AV} (hx : AVR M G (a.eval x) v) (hv : (∃ b off, v = .sv (.one (.ptr b off))) ∨ (∃ u y off, v = .sv (.one (.rptr u y off))) ∨ (∃ b i sz off, v = .sv (.one (.eptr b i sz off))) ∨ (∃ f cs, v = .sv (.one (.fn f cs)))) :
    Runs P a o w (Good w M G H base n v []) := by
  refine Runs.value (val := a.eval x) (w' := w) ?_ (Good.plain hI hx)
  rcases hv with ⟨b, off, rfl⟩ | ⟨u, y, off, rfl⟩ | ⟨b, i, sz, off, rfl⟩ | ⟨f, cs, rfl⟩
  · obtain ⟨bk, _, hp⟩ := hx; simp [execOp, ho, hp]
  · obtain ⟨ad, vs, hp, _⟩ := hx; simp [execOp, ho, hp]
  · obtain ⟨bk, p0, n, c, _, _, hp⟩ := hx; simp [execOp, ho, hp]
  · obtain ⟨vs, hp, _⟩ := hx; simp [execOp, ho, hp]

theorem fieldOf_sound {s : TypeId} {f : Nat} {fl : Field} (h : fieldOf T s f = some fl) : ∃ d fs, T s = some d ∧ d.desc = .struct fs ∧ fs[f]? = some fl := by
  unfold fieldOf at h
  split at h
  · rename_i d hd
    split at h
    · rename_i fs hfs
      exact ⟨d, fs, hd, hfs, h⟩
    · cases h
  · cases h

theorem fieldAt_run (hT : TOK P T) {s : TypeId} {f : Nat} {fl : Field} (h : fieldOf T s f = some fl) {df : TD} (hdf : T fl.type = some df) (h0 : df.size ≠ 0) (ad : Addr) :
    (Instr.fieldAt s (.pointer (some ad)) f).run P w = .ok (.pointer (some (ad.add fl.offset))) w := by
  obtain ⟨d, fs, hd, hfs, hfl⟩ := fieldOf_sound h
  have hu := (hT s d hd).und
  rw [hfs] at hu
  simp [Instr.fieldAt, run_underlying hu, hfl, Instr.sureAddr, fieldPlace, sizeOf_run hT hdf, h0]

theorem fieldAddr_sound (hT : TOK P T) (hI : Inv w M G H) {s : TypeId} {x : Operand} {f : Nat} (ho : o.op = .fieldAddr s x f) {fl : Field} (h : fieldOf T s f = some fl) {df : TD} (hdf : T fl.type = some df) (h0 : df.size ≠ 0) {v v' : AV} (hx : AVR M G (a.eval x) v)
    (hv : (∃ b off, v = .sv (.one (.ptr b off)) ∧ v' = .sv (.one (.ptr b (off + fl.offset)))) ∨ (∃ u y off, v = .sv (.one (.rptr u y off)) ∧ v' = .sv (.one (.rptr u y (off + fl.offset)))) ∨
      (∃ b i sz off, v = .sv (.one (.eptr b i sz off)) ∧ v' = .sv (.one (.eptr b i sz (off + fl.offset))))) :
    Runs P a o w (Good w M G H base n v' []) := by
  rcases hv with ⟨b, off, rfl, rfl⟩ | ⟨u, y, off, rfl, rfl⟩ | ⟨b, i, sz, off, rfl, rfl⟩
  · obtain ⟨bk, hg, hp⟩ := hx
    refine Runs.value (val := .pointer (some ⟨bk, off + fl.offset, none⟩)) (w' := w) ?_ (Good.plain hI ⟨bk, hg, rfl⟩)
    simp [execOp, ho, hp, fieldAt_run hT h hdf h0, add_pt]
  · obtain ⟨ad, vs, hp, hat, hd⟩ := hx
    refine Runs.value (val := .pointer (some (ad.add (off + fl.offset)))) (w' := w) ?_ (Good.plain hI ⟨ad, vs, rfl, hat, hd⟩)
    simp [execOp, ho, hp, fieldAt_run hT h hdf h0, Addr.add_add']
  · obtain ⟨bk, p0, m, c, hg, hi, hp⟩ := hx
    refine Runs.value (val := .pointer (some ⟨bk, p0 + (i * sz + (off + fl.offset)), none⟩)) (w' := w) ?_ (Good.plain hI ⟨bk, p0, m, c, hg, hi, rfl⟩)
    simp [execOp, ho, hp, fieldAt_run hT h hdf h0, add_pt, Nat.add_assoc]

theorem part_run (hT : TOK P T) {t : TypeId} {d : TD} (hd : T t = some d) {vs : Array Value} {cs : List LV} {off : Nat} (hc : CR M G vs.toList cs) (hl : off + d.size ≤ cs.length) {s : SV}
    (hs : mkSV d.isAgg ((cs.drop off).take d.size) = some s) : ∃ val, (part t vs off).run P w = .ok val w ∧ SVR M G val s := by
  unfold part
  rw [Sem.run_bind, isAgg_run hT hd]
  simp only [Result.andThen_ok]
  have hlen := hc.len
  simp only [Array.length_toList] at hlen
  unfold mkSV at hs
  cases hq : d.isAgg with
  | true =>
    rw [hq] at hs
    simp only [if_true, Option.some.injEq] at hs
    subst hs
    refine ⟨.agg (vs.extract off (off + d.size)), by simp [sizeOf_run hT hd], _, rfl, ?_⟩
    have : (vs.extract off (off + d.size)).toList = (vs.toList.drop off).take d.size := by simp [List.take_drop]
    rw [this]
    exact (hc.drop off).take _
  | false =>
    rw [hq] at hs
    simp only [Bool.false_eq_true, if_false] at hs
    have h2 := (hc.drop off).take d.size
    split at hs
    · rename_i x hx
      cases hs
      rw [hx] at h2
      have hl2 := h2.len
      match hv : (vs.toList.drop off).take d.size, h2, hl2 with
      | [v], h2, _ =>
        have : vs[off]? = some v := by
          have h3 : ((vs.toList.drop off).take d.size)[0]? = some v := by rw [hv]; rfl
          rw [List.getElem?_take] at h3
          split at h3
          · simpa using h3
          · cases h3
        exact ⟨v, by simp [this], h2.1⟩
    · cases hs

theorem field_sound (hT : TOK P T) (hI : Inv w M G H) {s : TypeId} {x : Operand} {f : Nat} (ho : o.op = .field s x f) {fl : Field} (h : fieldOf T s f = some fl) {cs : List LV} (hx : AVR M G (a.eval x) (.sv (.agg cs)))
    {d : TD} (hd : T fl.type = some d) (hl : fl.offset + d.size ≤ cs.length) {sv : SV} (hs : mkSV d.isAgg ((cs.drop fl.offset).take d.size) = some sv) :
    Runs P a o w (Good w M G H base n (.sv sv) []) := by
  obtain ⟨ds, fs, hds, hfs, hfl⟩ := fieldOf_sound h
  have hu := (hT s ds hds).und
  rw [hfs] at hu
  obtain ⟨vs, hp, hc⟩ := hx
  obtain ⟨val, hr, hv⟩ := part_run (w := w) hT hd hc hl hs
  refine Runs.value (val := val) (w' := w) ?_ (Good.plain hI hv)
  simp [execOp, ho, hp, Instr.field, run_underlying hu, hfl, asAgg, hr]

theorem valsL_sound : ∀ {cs : List LV} {l vs : List Value}, valsL cs = some l → CR M G vs cs → vs = l ∧ l.all plain1 = true
  | [], l, vs, h, hc => by
    cases h
    cases vs with
    | nil => exact ⟨rfl, rfl⟩
    | cons v vs => exact hc.elim
  | c :: cs, l, vs, h, hc => by
    cases c with
    | val v =>
      simp only [valsL] at h
      split at h
      · rename_i hp
        split at h
        · rename_i l' hl
          cases h
          cases vs with
          | nil => exact hc.elim
          | cons w ws =>
            obtain ⟨⟨rfl, _⟩, h2⟩ := hc
            obtain ⟨rfl, h3⟩ := valsL_sound hl h2
            exact ⟨rfl, by simp [hp, h3]⟩
        · cases h
      · cases h
    | _ => simp [valsL] at h

theorem makeInterface_sound (hT : TOK P T) (hI : Inv w M G H) {t : TypeId} {x : Operand} (ho : o.op = .makeInterface t x) {d : TD} (hd : T t = some d) (hcn : concrete d.desc = true) {s : SV} (hx : AVR M G (a.eval x) (.sv s)) {p : Value} (hp : payV s = some p) :
    Runs P a o w (Good w M G H base n (.sv (.one (.val (.iface t p)))) []) := by
  have hund := (hT t d hd).und
  have key : a.eval x = p ∧ plainV p = true := by
    cases s with
    | one y =>
      cases y with
      | val v =>
        simp only [payV] at hp
        split at hp
        · rename_i h1
          cases hp
          obtain ⟨h2, _⟩ := hx
          refine ⟨h2, ?_⟩
          cases p <;> first | exact h1 | (simp [plain1] at h1)
        · cases hp
      | _ => simp [payV] at hp
    | agg cs =>
      simp only [payV] at hp
      split at hp
      · rename_i l hl
        cases hp
        obtain ⟨vs, h2, hc⟩ := hx
        obtain ⟨h3, h4⟩ := valsL_sound hl hc
        refine ⟨?_, h4⟩
        rw [h2]
        obtain ⟨vs⟩ := vs
        simp only at h3
        rw [h3]
      · cases hp
  obtain ⟨h1, h2⟩ := key
  refine Runs.value (val := .iface t p) (w' := w) ?_ (Good.plain hI ⟨rfl, h2⟩)
  rw [← h1]
  unfold concrete at hcn
  cases hds : d.desc <;> simp [hds] at hcn <;> simp [execOp, ho, Instr.makeInterface, run_underlying (hund.trans (congrArg some hds))]

theorem plain_cells {p : Value} (h : plainV p = true) : p.cells.toList.all scal = true := by
  have h1 : ∀ v : Value, plain1 v = true → scal v = true := fun v hv => by cases v <;> first | rfl | (simp [plain1] at hv)
  cases p with
  | agg cs =>
    have h2 : cs.toList.all plain1 = true := h
    exact List.all_eq_true.2 fun v hv => h1 v (List.all_eq_true.1 h2 v hv)
  | bool _ => rfl
  | int _ _ => rfl
  | string _ => rfl
  | _ => simp [plainV, plain1] at h

theorem cr_vals (M : Mem) (G : Gh) : ∀ l : List Value, l.all scal = true → CR M G l (l.map LV.val)
  | [], _ => trivial
  | x :: xs, h => by simp only [List.all_cons, Bool.and_eq_true] at h; exact ⟨⟨rfl, h.1⟩, cr_vals M G xs h.2⟩

theorem typeAssert_sound (hT : TOK P T) (hI : Inv w M G H) {x : Operand} {xt ta : TypeId} (ho : o.op = .typeAssert x xt ta true) {d : TD} (hd : T ta = some d) (hcn : concrete d.desc = true) {v : Value} (hx : AVR M G (a.eval x) (.sv (.one (.val v)))) {u : U}
    {q : Option (El u)} (hq : asT ta d.isAgg u v = some q) :
    (∀ y s, q = some y → mkSV d.isAgg (flat u y) = some s → Runs P a o w (Good w M G H base n (.tup [s, .one (.val (.bool true))]) [])) ∧
    (q = none → Runs P a o w (Good w M G H base n (.tup [.one .junk, .one (.val (.bool false))]) [])) := by
  have hk := hT ta d hd
  have hund := hk.und
  obtain ⟨i, z, hi, hz, hsz, hb, hm, ha, hzs, hzu⟩ := hk.info
  obtain ⟨h1, h2⟩ := hx
  have hzv : (zeroValue ta).run P w = .ok z w := by simp [zeroValue, typeInfo, hi, hz]
  have hI0 : Inv w M G [] := ⟨hI.sub, (fun _ _ h => by simp [hget] at h), (fun _ _ _ _ _ h => by simp [hget] at h), hI.zone, (fun _ _ _ h => by simp [hget] at h)⟩
  refine ⟨fun y s hy hs => ?_, fun hn => ?_⟩
  · subst hy
    cases v with
    | iface t p =>
      simp only [asT] at hq
      split at hq
      · rename_i ht
        subst ht
        split at hq
        · rename_i hag
          split at hq
          · rename_i y' hr
            cases hq
            have hu2 : unflat [] u (p.cells.toList.map LV.val) = some (y, []) := by
              unfold readU at hr
              split at hr
              · rename_i y2 he
                cases hr
                exact he
              · cases hr
            have hc := cr_vals M G p.cells.toList (plain_cells h2)
            obtain ⟨d1, d2⟩ := unflat_sound hI0 u _ y [] _ hu2 hc
            have hlen : p.cells.toList.take u.size = p.cells.toList := List.take_of_length_le (by have := d2.len; simp only [List.length_drop, List.length_nil] at this; omega)
            rw [hlen] at d1
            have hcf := d1.cr G
            have hr2 : (Instr.typeAssert (.iface t p) xt t true).run P w = .ok (.tuple #[p, .bool true]) w := by
              unfold concrete at hcn
              cases hds : d.desc <;> simp [hds] at hcn <;> simp [Instr.typeAssert, run_underlying (hund.trans (congrArg some hds))]
            refine Runs.value (val := .tuple #[p, .bool true]) (w' := w) (by rw [← h1] at hr2; simp [execOp, ho, hr2]) (Good.plain hI ⟨_, rfl, ?_, ⟨rfl, rfl⟩, trivial⟩)
            unfold mkSV at hs
            cases hq' : d.isAgg with
            | true =>
              rw [hq'] at hs hag
              simp only [if_true, Option.some.injEq] at hs
              subst hs
              cases p with
              | agg vs => exact ⟨vs, rfl, hcf⟩
              | _ => simp [aggB] at hag
            | false =>
              rw [hq'] at hs hag
              simp only [Bool.false_eq_true, if_false] at hs
              split at hs
              · rename_i x1 hx1
                cases hs
                have hpc : p.cells.toList = [p] := by cases p <;> first | rfl | (simp [aggB] at hag)
                rw [hx1, hpc] at hcf
                exact hcf.1
              · cases hs
          · cases hq
        · cases hq
      · cases hq
    | nilIface => simp [asT] at hq
    | _ => simp [asT] at hq
  · subst hn
    have hr : (Instr.typeAssert v xt ta true).run P w = .ok (.tuple #[z, .bool false]) w := by
      unfold concrete at hcn
      cases v with
      | iface t p =>
        simp only [asT] at hq
        split at hq
        · split at hq
          · split at hq
            · cases hq
            · cases hq
          · cases hq
        · rename_i hne
          cases hds : d.desc <;> simp [hds] at hcn <;> simp [Instr.typeAssert, run_underlying (hund.trans (congrArg some hds)), hzv, hne]
      | nilIface => cases hds : d.desc <;> simp [hds] at hcn <;> simp [Instr.typeAssert, run_underlying (hund.trans (congrArg some hds)), hzv]
      | _ => simp [asT] at hq
    exact Runs.value (val := .tuple #[z, .bool false]) (w' := w) (by rw [← h1] at hr; simp [execOp, ho, hr]) (Good.plain hI ⟨_, rfl, trivial, ⟨rfl, rfl⟩, trivial⟩)

theorem svrs_get : ∀ {vs : List Value} {l : List SV} {i : Nat} {s : SV}, SVRs M G vs l → l[i]? = some s → ∃ v, vs[i]? = some v ∧ SVR M G v s
  | v :: _, _ :: _, 0, _, h, e => by simp at e; subst e; exact ⟨v, rfl, h.1⟩
  | _ :: vs, _ :: _, i + 1, _, h, e => by
    obtain ⟨v, h1, h2⟩ := svrs_get (i := i) h.2 (by simpa using e)
    exact ⟨v, by simpa using h1, h2⟩
  | [], [], _, _, _, e => by simp at e

theorem extract_sound (hI : Inv w M G H) {x : Operand} {i : Nat} (ho : o.op = .extract x i) {l : List SV} (hx : AVR M G (a.eval x) (.tup l)) {s : SV} (hs : l[i]? = some s) :
    Runs P a o w (Good w M G H base n (.sv s) []) := by
  obtain ⟨vs, hp, hr⟩ := hx
  obtain ⟨v, h1, h2⟩ := svrs_get hr hs
  refine Runs.value (val := v) (w' := w) ?_ (Good.plain hI h2)
  have : vs[i]? = some v := by simpa using h1
  simp [execOp, ho, hp, Instr.extract, this]

theorem elemOfT_sound (hT : TOK P T) {t te : TypeId} {u : U} {de : TD} (h : elemOfT T t = some (te, u, de)) : ∃ d, T t = some d ∧ d.desc = .slice te ∧ T te = some de ∧ de.u = some u ∧ P.underlying t = some (.slice te) ∧ u.size = de.size ∧ 0 < de.size := by
  unfold elemOfT at h
  split at h
  · rename_i d hd
    split at h
    · rename_i e' he
      split at h
      · rename_i de' hde
        split at h
        · rename_i u' hu
          cases h
          obtain ⟨i, z, _, _, _, _, _, _, _, hz⟩ := (hT _ _ hde).info
          obtain ⟨h1, h2, _⟩ := hz u hu
          exact ⟨d, hd, he, hde, hu, by rw [(hT t d hd).und, he], h1, h2⟩
        · cases h
      · cases h
    · cases h
  · cases h

theorem indexAt_run (hT : TOK P T) {t te : TypeId} {u : U} {de : TD} (h : elemOfT T t = some (te, u, de)) {ad : Addr} {m c : Nat} {kk : IntKind} {i : Int} (h0 : 0 ≤ i) (h1 : i < (m : Int)) :
    (Instr.indexAt t (.slice (some ad) m c) (.int kk i)).run P w = .ok (.pointer (some (ad.add (i.toNat * u.size)))) w := by
  obtain ⟨d, hd, hdesc, hte, hu, hund, hsz, _⟩ := elemOfT_sound hT h
  have hs := sizeOf_run (w := w) hT hte
  simp [Instr.indexAt, asIntOf, run_underlying hund, hs, h0, h1, hsz]

theorem indexAddr_data (hT : TOK P T) (hI : Inv w M G H) {t : TypeId} {x y : Operand} (ho : o.op = .indexAddr t x y) {te : TypeId} {u : U} {de : TD} (h : elemOfT T t = some (te, u, de)) {z : LV} (hx : LVR M G (a.eval x) z) {kk : IntKind} {i : Int} (hy : a.eval y = .int kk i)
    {l : List (El u)} (hl : getL H u z = some l) (hi : 0 ≤ i ∧ i < (l.length : Int)) : Runs P a o w (Good w M G H base n (.sv (.one (.rptr u (l.getD i.toNat (dflt u)) 0))) []) := by
  obtain ⟨b, c, xs, hv, hlc, hnone, hat, hlen, hrow⟩ := getL_sound hI hl hx
  simp only [List.cons.injEq, and_true] at hv
  have hin : i.toNat < l.length := by omega
  cases b with
  | none => obtain ⟨rfl, _⟩ := hnone rfl; simp at hin
  | some ad =>
    refine Runs.value (val := .pointer (some ((ad.add (i.toNat * u.size)).add 0))) (w' := w) ?_ (Good.plain hI ⟨_, _, rfl, (At.drop (hat ad rfl) (i.toNat * u.size)).take u.size, ?_⟩)
    · have e0 : ∀ q : Addr, q.add 0 = q := fun q => by simp [Addr.add]
      simp [execOp, ho, hv, hy, indexAt_run hT h hi.1 hi.2, e0]
    · have := hrow i.toNat hin
      simpa [List.getD, hin] using this

theorem indexAddr_own (hT : TOK P T) (hI : Inv w M G H) {t : TypeId} {x y : Operand} (ho : o.op = .indexAddr t x y) {te : TypeId} {u : U} {de : TD} (h : elemOfT T t = some (te, u, de)) {b : Nat} (hx : LVR M G (a.eval x) (.own b)) {kk : IntKind} {i : Int} (hy : a.eval y = .int kk i)
    {tt : TypeId} {u' : U} {l : List (El u')} {s : Bool} (hb : hget H b = some (.arr tt u' l s)) (hu : u = u') (hi : 0 ≤ i ∧ i < (l.length : Int)) : Runs P a o w (Good w M G H base n (.sv (.one (.eptr b i.toNat u.size 0))) []) := by
  obtain ⟨v0, xs, hg', hown, hrow, _⟩ := hI.cells _ _ hb
  obtain ⟨hg, _⟩ := hx
  rw [hg] at hg'
  cases hg'
  rcases hown.2 with ⟨_, hz⟩ | ⟨g, p0, cap, cur, hv, _⟩
  · omega
  · rw [hv] at hg
    refine Runs.value (val := .pointer (some ⟨g, p0 + (i.toNat * u.size + 0), none⟩)) (w' := w) ?_ (Good.plain hI ⟨g, p0, _, _, hg, by omega, rfl⟩)
    simp [execOp, ho, hv, hy, indexAt_run hT h hi.1 hi.2, add_pt]

theorem indexAddr_array (hT : TOK P T) (hI : Inv w M G H) {t : TypeId} {x y : Operand} (ho : o.op = .indexAddr t x y) {d : TD} (hd : T t = some d) {len : Nat} {el : TypeId} (hds : d.desc = .array len el) {de : TD} (hde : T el = some de) {b off : Nat} (hx : LVR M G (a.eval x) (.ptr b off)) {kk : IntKind} {i : Int} (hy : a.eval y = .int kk i)
    (hi : 0 ≤ i ∧ i < (len : Int)) : Runs P a o w (Good w M G H base n (.sv (.one (.ptr b (off + i.toNat * de.size)))) []) := by
  have hund := (hT t d hd).und
  rw [hds] at hund
  obtain ⟨bk, hg, hp⟩ := hx
  refine Runs.value (val := .pointer (some ⟨bk, off + i.toNat * de.size, none⟩)) (w' := w) ?_ (Good.plain hI ⟨bk, hg, rfl⟩)
  simp [execOp, ho, hp, hy, Instr.indexAt, asIntOf, run_underlying hund, Instr.sureAddr, sizeOf_run hT hde, hi.1, hi.2, add_pt]

theorem peekL_sound (hI : Inv w M G H) {u : U} {x : LV} {l : List (El u)} (h : peekL H u x = some l) {v : Value} (hv : LVR M G v x) : ∃ b c, v = .slice b l.length c := by
  unfold peekL at h
  split at h
  · split at h
    · rename_i kk _ t u' l' s hk
      obtain ⟨rfl, rfl⟩ := castL_eq h
      obtain ⟨v0, xs, hg', hown, _⟩ := hI.cells _ _ hk
      rw [hv.1] at hg'
      cases hg'
      rcases hown.2 with ⟨rfl, hz⟩ | ⟨g, p0, cap, cur, rfl, _⟩
      · exact ⟨none, 0, by simp [hz]⟩
      · exact ⟨_, _, rfl⟩
    · cases h
  · obtain ⟨b, c, xs, hv', _⟩ := getL_sound hI h hv
    simp only [List.cons.injEq, and_true] at hv'
    exact ⟨b, c, hv'⟩

theorem len_slice (hT : TOK P T) (hI : Inv w M G H) {x : Operand} {t : TypeId} {c : Call} (ho : o.op = .call c) (hc : c = { callee := .builtin .len, args := #[x], argTypes := #[t] }) {te : TypeId} {u : U} {de : TD} (h : elemOfT T t = some (te, u, de)) {z : LV} (hx : LVR M G (a.eval x) z)
    {l : List (El u)} (hl : peekL H u z = some l) : Runs P a o w (Good w M G H base n (.sv (.one (.val (.int .i64 l.length)))) []) := by
  obtain ⟨d, hd, hdesc, hte, hu, hund, hsz, _⟩ := elemOfT_sound hT h
  obtain ⟨b, cc, hv⟩ := peekL_sound hI hl hx
  refine Runs.value (val := .int .i64 l.length) (w' := w) ?_ (Good.plain hI ⟨rfl, rfl⟩)
  subst hc
  simp [execOp, ho, resolve, invoke, builtin, Builtin.len_, hv, run_underlying hund, goInt]

theorem len_string (hT : TOK P T) (hI : Inv w M G H) {x : Operand} {t : TypeId} {c : Call} (ho : o.op = .call c) (hc : c = { callee := .builtin .len, args := #[x], argTypes := #[t] }) {d : TD} (hd : T t = some d) (hds : d.desc = .string) {s : ByteArray} (hx : a.eval x = .string s) :
    Runs P a o w (Good w M G H base n (.sv (.one (.val (.int .i64 s.size)))) []) := by
  have hund := (hT t d hd).und
  rw [hds] at hund
  refine Runs.value (val := .int .i64 s.size) (w' := w) ?_ (Good.plain hI ⟨rfl, rfl⟩)
  subst hc
  simp [execOp, ho, resolve, invoke, builtin, Builtin.len_, hx, run_underlying hund, goInt]

theorem index_string (hT : TOK P T) (hI : Inv w M G H) {x y : Operand} {t : TypeId} (ho : o.op = .index t x y) {d : TD} (hd : T t = some d) (hds : d.desc = .string) {s : ByteArray} (hx : a.eval x = .string s) {kk : IntKind} {i : Int} (hy : a.eval y = .int kk i)
    (hi : 0 ≤ i ∧ i < (s.size : Int)) : Runs P a o w (Good w M G H base n (.sv (.one (.val (.int .u8 (bt s i))))) []) := by
  have hund := (hT t d hd).und
  rw [hds] at hund
  have hin : i.toNat < s.size := by omega
  refine Runs.value (val := .int .u8 (bt s i)) (w' := w) ?_ (Good.plain hI ⟨rfl, rfl⟩)
  have h1 : s[i.toNat]? = some s[i.toNat] := by simp [hin]
  have h2 : bt s i = (s[i.toNat].toNat : Int) := by
    unfold bt
    have h3 : i.toNat < s.data.size := hin
    have : s.data.toList.getD i.toNat 0 = s.data[i.toNat] := by
      have h4 : s.data[i.toNat]? = some s.data[i.toNat] := Array.getElem?_eq_getElem h3
      simp only [List.getD, Array.getElem?_toList, h4, Option.getD_some]
    rw [this]
    rfl
  simp [execOp, ho, hx, hy, Instr.index, asIntOf, run_underlying hund, hi.1, h1, h2]

end
end Go.AM
end

section
/-
AM: arithmetic, comparisons, choices, conversions, closures, slicing. No condition.
-/
namespace Go.AM
open Go
variable [Inhabited ZMem]

section
variable {P : Program} {T : TT} {w : World} {M : Mem} {G : Gh} {H : HL} {R : Type} {C : CT} {base n : Nat} {e : Operand → AV} {a : Act} {k : AV → Upd → Option R} {r : R} {o : Oper}

theorem binV_sound {op : BinOp} {x y : Value} {kk : Value → Option R} {tb : Bool} (h : binV tb op x y kk = some r) (P : Program) (w : World) (t : TypeId) (htb : tb = true → P.underlying t = some .bool) (ox oy : Operand) :
    ∃ v, kk v = some r ∧ scal v = true ∧ (do eqGuard op t ox oy x y; binOp op t x y : Sem Value).run P w = .ok v w := by
  unfold binV at h
  split at h
  · split at h
    · rename_i h0
      exact ⟨_, h, rfl, by simp [eqGuard, binOp, Op.shift, Int.not_lt.mpr h0]⟩
    · cases h
  · split at h
    · rename_i h0
      exact ⟨_, h, rfl, by simp [eqGuard, binOp, Op.shift, Int.not_lt.mpr h0]⟩
    · cases h
  · split at h
    · rename_i hk
      subst hk
      split at h
      · exact ⟨_, h, rfl, by simp [eqGuard, binOp, Op.intArith]⟩
      · exact ⟨_, h, rfl, by simp [eqGuard, binOp, Op.intArith]⟩
      · exact ⟨_, h, rfl, by simp [eqGuard, binOp, Op.intArith]⟩
      · split at h
        · cases h
        · rename_i h0; exact ⟨_, h, rfl, by simp [eqGuard, binOp, Op.intDiv, h0]⟩
      · split at h
        · cases h
        · rename_i h0; exact ⟨_, h, rfl, by simp [eqGuard, binOp, Op.intDiv, h0]⟩
      · exact ⟨_, h, rfl, by simp [eqGuard, binOp, Op.intBits]⟩
      · exact ⟨_, h, rfl, by simp [eqGuard, binOp, Op.intBits]⟩
      · exact ⟨_, h, rfl, by simp [eqGuard, binOp, Op.intBits]⟩
      · exact ⟨_, h, rfl, by simp [eqGuard, binOp, Op.intBits]⟩
      · exact ⟨_, h, rfl, by simp [eqGuard, binOp, Op.intCmp]⟩
      · exact ⟨_, h, rfl, by simp [eqGuard, binOp, Op.intCmp]⟩
      · exact ⟨_, h, rfl, by simp [eqGuard, binOp, Op.intCmp]⟩
      · exact ⟨_, h, rfl, by simp [eqGuard, binOp, Op.intCmp]⟩
      · exact ⟨_, h, rfl, by simp [eqGuard, binOp, Op.intCmp]⟩
      · exact ⟨_, h, rfl, by simp [eqGuard, binOp, Op.intCmp]⟩
      · cases h
    · cases h
  · split at h
    · rename_i hb
      exact ⟨_, h, rfl, by simp [eqGuard, binOp, run_equal_bool w t _ _ (htb hb)]⟩
    · cases h
  · split at h
    · rename_i hb
      exact ⟨_, h, rfl, by simp [eqGuard, binOp, run_equal_bool w t _ _ (htb hb)]⟩
    · cases h
  · split at h
    · rename_i h0
      refine ⟨_, h, rfl, ?_⟩
      have hm : IntKind.i64.max = 9223372036854775807 := by decide
      simp [eqGuard, binOp, Op.stringOp, hm]
      omega
    · cases h
  · exact ⟨_, h, rfl, by simp [eqGuard, binOp, Op.stringOp]⟩
  · exact ⟨_, h, rfl, by simp [eqGuard, binOp, Op.stringOp]⟩
  · exact ⟨_, h, rfl, by simp [eqGuard, binOp, Op.stringOp]⟩
  · exact ⟨_, h, rfl, by simp [eqGuard, binOp, Op.stringOp]⟩
  · exact ⟨_, h, rfl, by simp [eqGuard, binOp, Op.stringOp]⟩
  · exact ⟨_, h, rfl, by simp [eqGuard, binOp, Op.stringOp]⟩
  · cases h
theorem binOp_vals (hT : TOK P T) (hI : Inv w M G H) {op : BinOp} {t t' : TypeId} {x y : Operand} (ho : o.op = .binOp op t x y t') {va vb : Value} (hx : a.eval x = va) (hy : a.eval y = vb)
    (h : (binV (isBoolT T t) op va vb fun v => k (.sv (.one (.val v))) []) = some r) : ∃ v u, k v u = some r ∧ Runs P a o w (Good w M G H base n v u) := by
  have htb : isBoolT T t = true → P.underlying t = some .bool := by
    intro hb
    unfold isBoolT at hb
    split at hb
    · rename_i d hd
      split at hb
      · rename_i hdd; rw [(hT t d hd).und, hdd]
      · cases hb
    · cases hb
  obtain ⟨v, hv, hs, hr⟩ := binV_sound h P w t htb x y
  refine ⟨_, _, hv, Runs.value (val := v) (w' := w) ?_ (Good.plain hI ⟨rfl, hs⟩)⟩
  simp only [execOp, ho, hx, hy]
  rw [Sem.run_bind, hr]
  rfl

theorem binOp_nil (hT : TOK P T) (hI : Inv w M G H) {op : BinOp} {t t' : TypeId} {x y : Operand} (ho : o.op = .binOp op t x y t') (hx : a.eval x = .nilIface) (hy : a.eval y = .nilIface) (hi' : (isIface T t && (isLit x || isLit y)) = true) {b : Bool}
    (hb : (op = .eql ∧ b = true) ∨ (op = .neq ∧ b = false)) : Runs P a o w (Good w M G H base n (.sv (.one (.val (.bool b)))) []) := by
  obtain ⟨hi, hl⟩ : isIface T t = true ∧ (isLit x = true ∨ isLit y = true) := by simpa using hi'
  have hu : ∃ m, P.underlying t = some (.interface m) := by
    unfold isIface at hi
    split at hi
    · rename_i d hd
      split at hi
      · rename_i m hdd
        exact ⟨m, by rw [(hT t d hd).und, hdd]⟩
      · cases hi
    · cases hi
  obtain ⟨m, hu⟩ := hu
  refine Runs.value (val := .bool b) (w' := w) ?_ (Good.plain hI ⟨rfl, rfl⟩)
  have hg : ∀ op : BinOp, op = .eql ∨ op = .neq → (eqGuard op t x y .nilIface .nilIface).run P w = .ok () w := fun op hop => by
    rcases hl with h | h
    · cases x with
      | const v => rcases hop with rfl | rfl <;> rfl
      | _ => cases h
    · cases y with
      | const v => cases x <;> rcases hop with rfl | rfl <;> rfl
      | _ => cases h
  have he : (Op.equalIn Op.maxDepth t .nilIface .nilIface).run P w = .ok true w := by
    have key : ∀ d, (Op.equalIn (d + 1) t .nilIface .nilIface).run P w = .ok true w := fun d => by simp [Op.equalIn, run_underlying hu]
    exact key 9999
  rcases hb with ⟨rfl, rfl⟩ | ⟨rfl, rfl⟩ <;> simp [he, execOp, ho, hx, hy, hg _ (.inl rfl), hg _ (.inr rfl), binOp, Op.equal]

theorem binOp_agg (hT : TOK P T) (hI : Inv w M G H) {op : BinOp} {t t' : TypeId} {x y : Operand} (ho : o.op = .binOp op t x y t') {ca cb : List LV} (hx : AVR M G (a.eval x) (.sv (.agg ca))) (hy : AVR M G (a.eval y) (.sv (.agg cb))) {d : TD} (hd : T t = some d) (hq : d.eqok = true)
    {u : U} (hu : d.u = some u) {xa xb : El u} (ha : unflat [] u ca = some (xa, [])) (hb' : unflat [] u cb = some (xb, [])) {b : Bool} (hb : (op = .eql ∧ b = eqU u xa xb) ∨ (op = .neq ∧ b = !eqU u xa xb)) : Runs P a o w (Good w M G H base n (.sv (.one (.val (.bool b)))) []) := by
  obtain ⟨vx, hpx, hcx⟩ := hx
  obtain ⟨vy, hpy, hcy⟩ := hy
  have hI0 : Inv w M G [] := ⟨hI.sub, (fun _ _ h => by simp [hget] at h), (fun _ _ _ _ _ h => by simp [hget] at h), hI.zone, (fun _ _ _ h => by simp [hget] at h)⟩
  have d1 := unflat_sound hI0 u ca xa [] _ ha hcx
  have d2 := unflat_sound hI0 u cb xb [] _ hb' hcy
  have l1 : vx.toList.take u.size = vx.toList := List.take_of_length_le (by have := d1.2.len; simp only [List.length_drop, List.length_nil] at this; omega)
  have l2 : vy.toList.take u.size = vy.toList := List.take_of_length_le (by have := d2.2.len; simp only [List.length_drop, List.length_nil] at this; omega)
  rw [l1] at d1
  rw [l2] at d2
  obtain ⟨hg, hr⟩ := (hT t d hd).eqv hq u hu w M vx vy xa xb d1.1 d2.1
  refine Runs.value (val := .bool b) (w' := w) ?_ (Good.plain hI ⟨rfl, rfl⟩)
  simp only [execOp, ho, hpx, hpy]
  rcases hb with ⟨rfl, rfl⟩ | ⟨rfl, rfl⟩
  · simp [eqGuard, hg, binOp, hr]
  · simp [eqGuard, hg, binOp, hr]

theorem unOp_sound (hI : Inv w M G H) {op : UnOp} {t : TypeId} {x : Operand} (ho : o.op = .unOp op t x) {v v' : Value} (hx : a.eval x = v)
    (hv : (∃ kk m, op = .neg ∧ v = .int kk m ∧ v' = .int kk (kk.wrap (0 - m))) ∨ (∃ b, op = .not ∧ v = .bool b ∧ v' = .bool (!b)) ∨
      (∃ kk m, op = .xor ∧ v = .int kk m ∧ v' = .int kk (kk.wrap (BitVec.ofInt kk.bits (if kk.signed then -1 else kk.max) ^^^ BitVec.ofInt kk.bits m).toNat))) : Runs P a o w (Good w M G H base n (.sv (.one (.val v'))) []) := by
  rcases hv with ⟨kk, m, rfl, rfl, rfl⟩ | ⟨b, rfl, rfl, rfl⟩ | ⟨kk, m, rfl, rfl, rfl⟩
  · exact Runs.value (w' := w) (by simp [execOp, ho, hx, Op.unary, Op.intArith]) (Good.plain hI ⟨rfl, rfl⟩)
  · exact Runs.value (w' := w) (by simp [execOp, ho, hx, Op.unary]) (Good.plain hI ⟨rfl, rfl⟩)
  · exact Runs.value (w' := w) (by simp [execOp, ho, hx, Op.unary, Op.intBits]) (Good.plain hI ⟨rfl, rfl⟩)

theorem pick_sound (hI : Inv w M G H) {c x y : Operand} (ho : o.op = .pick c x y) {t : Bool} (hc : a.eval c = .bool t) {v : AV} (hv : AVR M G (if t = true then a.eval x else a.eval y) v) : Runs P a o w (Good w M G H base n v []) :=
  Runs.value (w' := w) (val := if t = true then a.eval x else a.eval y) (by simp [execOp, ho, hc, asBool]) (Good.plain hI hv)

theorem convert_int (hT : TOK P T) (hI : Inv w M G H) {s t : TypeId} {x : Operand} (ho : o.op = .convert s t x) {ds dt : TD} (hs : T s = some ds) (ht : T t = some dt) {k1 k2 k3 : IntKind} (h1 : ds.desc = .int k1) (h2 : dt.desc = .int k2) {m : Int} (hx : a.eval x = .int k3 m) :
    Runs P a o w (Good w M G H base n (.sv (.one (.val (.int k2 (k2.wrap m))))) []) := by
  have u1 := (hT s ds hs).und
  have u2 := (hT t dt ht).und
  rw [h1] at u1
  rw [h2] at u2
  exact Runs.value (w' := w) (by simp [execOp, ho, hx, convert, run_underlying u1, run_underlying u2, Conv.intToInt]) (Good.plain hI ⟨rfl, rfl⟩)

theorem convert_str (hT : TOK P T) (hI : Inv w M G H) {s t : TypeId} {x : Operand} (ho : o.op = .convert s t x) {ds dt : TD} (hs : T s = some ds) (ht : T t = some dt) (h1 : ds.desc = .string) (h2 : dt.desc = .string) {m : ByteArray} (hx : a.eval x = .string m) :
    Runs P a o w (Good w M G H base n (.sv (.one (.val (.string m)))) []) := by
  have u1 := (hT s ds hs).und
  have u2 := (hT t dt ht).und
  rw [h1] at u1
  rw [h2] at u2
  exact Runs.value (w' := w) (by simp [execOp, ho, hx, convert, run_underlying u1, run_underlying u2]) (Good.plain hI ⟨rfl, rfl⟩)

theorem slice_string (hT : TOK P T) (hI : Inv w M G H) {t : TypeId} {x : Operand} {lo hi : Option Operand} (ho : o.op = .slice t x lo hi none) {d : TD} (hd : T t = some d) (hds : d.desc = .string) {s : ByteArray} (hx : a.eval x = .string s)
    {i j : Int} (hlo : (lo = none ∧ i = 0) ∨ ∃ y kk, lo = some y ∧ a.eval y = .int kk i) (hhi : (hi = none ∧ j = s.size) ∨ ∃ y kk, hi = some y ∧ a.eval y = .int kk j) (hb : 0 ≤ i ∧ i ≤ j ∧ j ≤ (s.size : Int)) :
    Runs P a o w (Good w M G H base n (.sv (.one (.val (.string (s.extract i.toNat j.toNat))))) []) := by
  have hund := (hT t d hd).und
  rw [hds] at hund
  refine Runs.value (w' := w) (val := .string (s.extract i.toNat j.toNat)) ?_ (Good.plain hI ⟨rfl, rfl⟩)
  have e1 : (j.toNat : Int) = j := by omega
  rcases hlo with ⟨rfl, rfl⟩ | ⟨y, kk, rfl, hy⟩ <;> rcases hhi with ⟨rfl, rfl⟩ | ⟨z, kz, rfl, hz⟩
  · simp [execOp, ho, hx, Instr.sliceAt, run_underlying hund, Instr.slice, Instr.sliceBounds]
  · simp [execOp, ho, hx, hz, Instr.sliceAt, run_underlying hund, Instr.slice, Instr.sliceBounds, Instr.sliceBound, asIntOf, show 0 ≤ j from by omega, hb.2.2]
  · simp [execOp, ho, hx, hy, Instr.sliceAt, run_underlying hund, Instr.slice, Instr.sliceBounds, Instr.sliceBound, asIntOf, hb.1, show i ≤ (s.size : Int) from by omega]
  · simp [execOp, ho, hx, hy, hz, Instr.sliceAt, run_underlying hund, Instr.slice, Instr.sliceBounds, Instr.sliceBound, asIntOf, hb.1, hb.2.2, show 0 ≤ j from by omega, show i ≤ max j 0 from by omega]

end
end Go.AM
end

section
/-
AM: the built-in append onto a row of one's own, whatever the source. No condition.
-/
namespace Go.AM
open Go
variable [Inhabited ZMem]

/-- A source of an append: its length and its cells, in every world that reads as this one does. -/
def Src (P : Program) (w : World) (size : Nat) (xv : Value) (m : Nat) (news : List Value) : Prop :=
  news.length = m * size ∧ (∀ w', (Builtin.lenOf xv).run P w' = .ok m w') ∧
    ∀ w', (∀ (a : Addr) (q : Value), w.cell? a = some q → w'.cell? a = some q) → (Builtin.firstCells size m xv).run P w' = .ok news.toArray w'

theorem Src.slice {P : Program} {w : World} {size m c : Nat} {ad : Addr} {news : List Value} (hl : news.length = m * size) (h : At w.cell? ad news) : Src P w size (.slice (some ad) m c) m news :=
  ⟨hl, fun w' => rfl, fun w' hw => run_firstCells_some (P := P) w' size m ad m c news hl (fun j v e => hw _ _ (h j v e))⟩

theorem Src.none {P : Program} {w : World} {size c : Nat} : Src P w size (.slice none 0 c) 0 [] :=
  ⟨by simp, fun w' => rfl, fun w' _ => rfl⟩

theorem Src.str {P : Program} {w : World} (s : ByteArray) : Src P w 1 (.string s) s.size (Lib.strCells s) :=
  ⟨by simp [Lib.strCells_length], fun w' => rfl, fun w' _ => Lib.run_firstCells_string (P := P) (w := w') 1 s⟩

theorem append_run {P : Program} {w : World} {t tx ty te : TypeId} {i : TypeInfo} {z : Value} {dx : TypeDesc} (ht : P.underlying t = some (.slice te)) (hx : P.underlying tx = some dx) (hxi : (∃ q, dx = .slice q) ∨ dx = .string)
    (hi : P.info? te = some i) (hz : i.zero = some z) (hzs : z.cells.size = i.size) (hsz : 0 < i.size) {v : Value} {n : Nat} {xs : List Value} (hown : ownsAt w te i.size v n xs) {xv : Value} {m : Nat} {news : List Value}
    (hsrc : Src P w i.size xv m news) (h1 : ∀ u ∈ news, u.oneCell' = true) (h63 : n + m ≤ maxLen) (hbytes : (n + m) * i.bytes ≤ 140737488355328) :
    ∃ v' w', (Builtin.append_ #[t, tx] ty #[v, xv]).run P w = .ok v' w' ∧ ownsAt w' te i.size v' (n + m) (xs ++ news) ∧
      ((blkV v' = blkV v ∧ offV v' = offV v ∧ w.grownBy w' (blkV v)) ∨ (blkV v' = some w.heap.size ∧ w.grownBy w' none)) := by
  obtain ⟨hl, hlen, hfirst⟩ := hsrc
  have hml : (xs ++ news).length = (n + m) * i.size := by rw [List.length_append, hown.1, hl, Nat.add_mul]
  have hsmall : n + m ≤ 9223372036854775807 := by simp only [maxLen] at h63; omega
  -- the row grows into a new block
  have grow : ∀ (b : Option Addr) (old : Nat), old < n + m → v = .slice b n old → (∀ w', (∀ (a : Addr) (q : Value), w.cell? a = some q → w'.cell? a = some q) → (Builtin.firstCells i.size n v).run P w' = .ok xs.toArray w') →
      ∃ v' w', (Builtin.append_ #[t, tx] ty #[v, xv]).run P w = .ok v' w' ∧ ownsAt w' te i.size v' (n + m) (xs ++ news) ∧
        ((blkV v' = blkV v ∧ offV v' = offV v ∧ w.grownBy w' (blkV v)) ∨ (blkV v' = some w.heap.size ∧ w.grownBy w' none)) := by
    intro b old ho hv hfo
    have hn : ¬ (n + m ≤ old) := by omega
    have hfit := growslice_fits (bytes := i.bytes) ho hbytes
    have h48' : ¬ (281474976710656 < Builtin.nextslicecap (n + m) old * i.bytes) := by omega
    have h63' : ¬ (9223372036854775807 < ((n : Int) + (m : Int))) := by omega
    have f1 := hfirst w.drew (fun _ _ h => h)
    have f2 := hfo w.drew (fun _ _ h => h)
    subst hv
    have hrun : (Builtin.append_ #[t, tx] ty #[.slice b n old, xv]).run P w =
        .ok (.slice (some ⟨w.heap.size, 0, none⟩) (n + m) (grownCap w (n + m) old te)) (w.drew.alloc (.cells (xs.toArray ++ news.toArray ++ Builtin.zeroCells z.cells (grownCap w (n + m) old te - (n + m))) te)) := by
      rcases hxi with ⟨q, rfl⟩ | rfl <;>
        simp [Builtin.append_, run_underlying ht, run_underlying hx, sizeOf, typeInfo, zeroValue, hi, hz, hlen, hn, h63', h48', Question.forced, f1, f2, newRow, grownCap]
      all_goals
        congr 2
        apply Array.ext'
        simp [List.append_assoc]
    refine ⟨_, _, hrun, ⟨hml, .inr ⟨w.heap.size, 0, _, xs.toArray ++ news.toArray ++ Builtin.zeroCells z.cells (grownCap w (n + m) old te - (n + m)), rfl, by show (w.heap.push _)[w.heap.size]? = _; simp, grownCap_ge _ _ _ _, grownCap_le_maxLen _ _ _ _ h63, ?_, ?_⟩⟩, .inr ⟨rfl, ?_⟩⟩
    · have hg := grownCap_ge w (n + m) old te
      simp only [Array.size_append, List.size_toArray, size_zeroCells, hzs]
      have e1 : xs.length + news.length = (n + m) * i.size := by simpa using hml
      rw [e1, ← Nat.add_mul, Nat.zero_add]
      refine Nat.mul_le_mul_right _ ?_
      omega
    · rw [← hml]
      have e2 : (xs.toArray ++ news.toArray ++ Builtin.zeroCells z.cells (grownCap w (n + m) old te - (n + m))).toList = (xs ++ news) ++ (Builtin.zeroCells z.cells (grownCap w (n + m) old te - (n + m))).toList := by simp
      rw [e2, List.drop_zero]
      exact List.take_left
    · exact ⟨rfl, rfl, rfl, by simp, fun k hk _ => by show (w.heap.push _)[k]? = _; rw [Array.getElem?_push, if_neg (by omega)]⟩
  rcases hown.2 with ⟨rfl, hn0⟩ | ⟨g, p, cap, cur, hv, hg, hnc, hcm, hcs, htake⟩
  · -- nil
    subst hn0
    have hxs : xs = [] := List.eq_nil_of_length_eq_zero (by simpa using hown.1)
    subst hxs
    by_cases hm : m = 0
    · subst hm
      have hnews : news = [] := List.eq_nil_of_length_eq_zero (by simpa using hl)
      subst hnews
      refine ⟨.slice none 0 0, w, ?_, ownsAt_nil w te i.size, .inl ⟨rfl, rfl, grownBy_refl w _⟩⟩
      have f1 := hfirst w (fun _ _ h => h)
      rcases hxi with ⟨q, rfl⟩ | rfl <;>
        simp [Builtin.append_, run_underlying ht, run_underlying hx, sizeOf, typeInfo, hi, hlen, f1]
    · exact grow none 0 (by omega) rfl (fun w' _ => by simp [Builtin.firstCells])
  · by_cases hroom : n + m ≤ cap
    · subst hv
      have hfit : p + n * i.size + news.length ≤ cur.size := by
        have h9 := Nat.mul_le_mul_right i.size hroom
        rw [Nat.add_mul] at h9
        omega
      have hst := run_storeCells_at (P := P) g (p + n * i.size) te news 0 cur w hg (by simpa using hfit) h1
      simp only [Nat.add_zero] at hst
      have f1 := hfirst w (fun _ _ h => h)
      have hrun : (Builtin.append_ #[t, tx] ty #[.slice (some ⟨g, p, none⟩) n cap, xv]).run P w =
          .ok (.slice (some ⟨g, p, none⟩) (n + m) cap) (w.setRow g (cur.toList.take (p + n * i.size) ++ news ++ cur.toList.drop (p + n * i.size + news.length)).toArray) := by
        rcases hxi with ⟨q, rfl⟩ | rfl <;>
          simp [Builtin.append_, run_underlying ht, run_underlying hx, sizeOf, typeInfo, hi, hlen, hroom, f1, Addr.add_lit, hst]
      refine ⟨_, _, hrun, ⟨hml, .inr ⟨g, p, cap, _, rfl, setRow_heap w g cur _ te _ hg, hroom, hcm, ?_, ?_⟩⟩, .inl ⟨rfl, rfl, ?_⟩⟩
      · simp only [List.size_toArray, List.length_append, List.length_take, List.length_drop, Array.length_toList]
        omega
      · have hpl : (cur.toList.take (p + n * i.size)).length = p + n * i.size := by simp; omega
        rw [List.append_assoc, List.drop_append_of_le_length (by rw [hpl]; omega), List.drop_take, Nat.add_sub_cancel_left, htake, ← List.append_assoc, ← hml]
        exact List.take_left
      · exact setRow_grown w g _
    · have hc := hown.cells (g := g) (by rw [hv]; rfl)
      rw [show offV v = p from by rw [hv]; rfl] at hc
      have hx1 := hown.1
      exact grow _ cap (by omega) hv (fun w' hw => by
        rw [hv]
        exact run_firstCells_some (P := P) w' i.size n _ n cap xs hx1 (fun j u e => hw _ _ (hc j u e)))

end Go.AM
end

section
/-
AM: rows of one's own: appended to, made, written; slices of slices. No condition.
-/
namespace Go.AM
open Go
variable [Inhabited ZMem]

theorem chunk_le {i n s : Nat} (h : i < n) : i * s + s ≤ n * s := by
  have := Nat.mul_le_mul_right s (show i + 1 ≤ n from h)
  rw [Nat.succ_mul] at this
  exact this

theorem chunk_left {α : Type} {xs ys : List α} {i n s : Nat} (h : i < n) (hl : xs.length = n * s) : ((xs ++ ys).drop (i * s)).take s = (xs.drop (i * s)).take s := by
  have := chunk_le (s := s) h
  rw [List.drop_append_of_le_length (by omega), List.take_append_of_le_length (by simp; omega)]

theorem chunk_right {α : Type} {xs ys : List α} {i n s : Nat} (h : n ≤ i) (hl : xs.length = n * s) : ((xs ++ ys).drop (i * s)).take s = (ys.drop ((i - n) * s)).take s := by
  have := Nat.mul_le_mul_right s h
  rw [List.drop_append, List.drop_eq_nil_of_le (by omega), hl, ← Nat.sub_mul]
  simp

theorem RowV.append {M : Mem} {u : U} {xs ys : List Value} {l l2 : List (El u)} (h : RowV M u xs l) (k : RowV M u ys l2) : RowV M u (xs ++ ys) (l ++ l2) := by
  refine ⟨by simp [h.1, k.1, Nat.add_mul], fun i hi => ?_⟩
  by_cases hc : i < l.length
  · rw [chunk_left hc h.1, List.getElem_append_left hc]
    exact h.2 i hc
  · rw [chunk_right (by omega) h.1, List.getElem_append_right (by omega)]
    exact k.2 _ _

section
variable {P : Program} {T : TT} {w : World} {M : Mem} {G : Gh} {H : HL} {R : Type} {C : CT} {base n : Nat} {e : Operand → AV} {a : Act} {k : AV → Upd → Option R} {r : R} {o : Oper}

theorem peekL_row (hI : Inv w M G H) {u : U} {x : LV} {l : List (El u)} (h : peekL H u x = some l) {v : Value} (hv : LVR M G v x) :
    ∃ b c xs, v = .slice b l.length c ∧ l.length ≤ c ∧ (b = none → l = [] ∧ c = 0) ∧ (∀ ad, b = some ad → At w.cell? ad xs) ∧ RowV M u xs l := by
  unfold peekL at h
  split at h
  · split at h
    · rename_i kk _ t u' l' s hk
      obtain ⟨rfl, rfl⟩ := castL_eq h
      obtain ⟨v0, xs, hg', hown, hrow, _⟩ := hI.cells _ _ hk
      rw [hv.1] at hg'
      cases hg'
      rcases hown.2 with ⟨rfl, hz⟩ | ⟨g, p0, cap, cur, rfl, _, hnc, _⟩
      · exact ⟨none, 0, xs, by simp [hz], by simp [hz], fun _ => ⟨List.eq_nil_of_length_eq_zero hz, rfl⟩, (fun _ h => by cases h), hrow⟩
      · refine ⟨_, _, xs, rfl, hnc, (fun h => by cases h), fun ad e => ?_, hrow⟩
        cases e
        exact hown.cells (g := g) rfl
    · cases h
  · obtain ⟨b, c, xs, hv', h1, h2, h3, h4, h5⟩ := getL_sound hI h hv
    simp only [List.cons.injEq, and_true] at hv'
    exact ⟨b, c, xs, hv', h1, h2, fun ad e j q hj => hI.sub _ _ (h3 ad e j q hj), h4, h5⟩

theorem Step.weaken {w w' : World} {M M' : Mem} {G G' : Gh} {H H' H'' : HL} (s : Step w M G H w' M' G' H') (h : ∀ k c, hget H'' k = some c → c.live → hget H' k = some c) : Step w M G H w' M' G' H'' :=
  ⟨s.os, s.tape, s.output, s.size, s.mle, s.gle, s.keep, s.mnew, fun k c b hk hl hb => s.bl k c b (h k c hk hl) hl hb⟩

theorem cell_spot {w : World} {ad : Addr} {q : Value} (h : w.cell? ad = some q) : ad.spot = none := by
  unfold World.cell? at h
  split at h
  · split at h
    · cases h
    · rename_i hs; simpa using hs
  · cases h

theorem addr_eta {ad : Addr} (h : ad.spot = none) : ad = ⟨ad.block, ad.off, none⟩ := by
  cases ad; simp_all

/-- A row of one's own takes another's place: appended to, in place or in a new block. -/
theorem own_grown (hI : Inv w M G H) {te : TypeId} {u : U} {v v' : Value} {l l2 : List (El u)} {xs news : List Value} {w' : World} {st : Bool} {b : Nat}
    (hown : ownsAt w te u.size v l.length xs) (hrow : RowV M u xs l) (hnew : RowV M u news l2)
    (hm : ∀ bb, blkV v = some bb → (st = true → ∀ a : Addr, a.block = bb → M a = none) ∧ (st = false → At M ⟨bb, offV v, none⟩ xs ∧ ∀ (a : Addr) (q : Value), M a = some q → a.block = bb → offV v ≤ a.off ∧ a.off < offV v + xs.length))
    (hoth : ∀ k' c' bb, k' ≠ b → hget H k' = some c' → c'.live → blkV v = some bb → blk G k' ≠ some bb) (hb : ∀ bb, blkV v = some bb → ∃ c0, hget H b = some c0 ∧ c0.live ∧ blk G b = some bb)
    (hown' : ownsAt w' te u.size v' (l.length + l2.length) (xs ++ news))
    (hg : (blkV v' = blkV v ∧ offV v' = offV v ∧ w.grownBy w' (blkV v)) ∨ (blkV v' = some w.heap.size ∧ w.grownBy w' none)) (hf : G base = none) :
    Good w M G H base 1 (.sv (.one (.own base))) [(base, .arr te u (l ++ l2) st), (b, .dead)] v' w' := by
  have hlt : ∀ bb, blkV v = some bb → bb < w.heap.size := fun bb hbb => hown.lt bb hbb
  -- the row that may be written, and what is known of the new block
  obtain ⟨row, hgr, hcase⟩ : ∃ row, w.grownBy w' row ∧ ((row = blkV v ∧ blkV v' = blkV v ∧ offV v' = offV v) ∨ (row = none ∧ blkV v' = some w.heap.size)) := by
    rcases hg with ⟨h1, h3, h2⟩ | ⟨h1, h2⟩
    · exact ⟨blkV v, h2, .inl ⟨rfl, h1, h3⟩⟩
    · exact ⟨none, h2, .inr ⟨rfl, h1⟩⟩
  have hrowv : ∀ bb, row = some bb → blkV v = some bb ∧ blkV v' = some bb ∧ offV v' = offV v := by
    intro bb h
    rcases hcase with ⟨h1, h2, h3⟩ | ⟨h1, _⟩
    · rw [h1] at h; exact ⟨h, by rw [h2]; exact h, h3⟩
    · rw [h1] at h; cases h
  have hblk : ∀ bb, blkV v' = some bb → (row = some bb ∧ blkV v = some bb ∧ offV v' = offV v) ∨ bb = w.heap.size := by
    intro bb h
    rcases hcase with ⟨h1, h2, h3⟩ | ⟨_, h2⟩
    · rw [h2] at h; exact .inl ⟨by rw [h1]; exact h, h, h3⟩
    · rw [h2] at h; cases h; exact .inr rfl
  let G' : Gh := fun j => if j = base then some v' else G j
  have hG : GLe G G' := up_ghost G base _ hf
  have hgb : G' base = some v' := by simp [G']
  have hI1 := hI.die b
  have hnone : ∀ (ad : Addr), ad.block = w.heap.size → M ad = none := by
    intro ad h
    cases h1 : M ad with
    | none => rfl
    | some q => have := World.block_lt_of_cell? w ad (hI.sub ad q h1); omega
  have hoth1 : ∀ k' c' bb, k' ≠ base → hget ((b, HC.dead) :: H) k' = some c' → c'.live → row = some bb → blk G k' ≠ some bb := by
    intro k' c' bb _ hk' hl hr
    rw [hget_cons] at hk'
    split at hk'
    · cases hk'; exact hl.elim
    · rename_i hne
      exact hoth k' c' bb (fun q => hne q.symm) hk' hl (hrowv bb hr).1
  have hbb : ∀ bb, (HC.arr te u (l ++ l2) st).live → blk G' base = some bb → w.heap.size ≤ bb ∨ row = some bb := by
    intro bb _ h
    rw [blk_of hgb] at h
    rcases hblk bb h with h1 | h1
    · exact .inr h1.1
    · exact .inl (by omega)
  have hwk : ∀ k c, hget ((base, HC.arr te u (l ++ l2) st) :: (b, HC.dead) :: H) k = some c → c.live → hget ((base, HC.arr te u (l ++ l2) st) :: H) k = some c := by
    intro k c h hl
    rw [hget_cons] at h ⊢
    split at h
    · rename_i q; rw [if_pos q]; exact h
    · rename_i q
      rw [if_neg q]
      rw [hget_cons] at h
      split at h
      · cases h; exact hl.elim
      · exact h
  have hvr : ∀ M', AVR M' G' v' (.sv (.one (.own base))) := fun M' => ⟨hgb, ownsAt_slice hown'⟩
  have hfr : ∀ j, (j < base ∨ base + 1 ≤ j) → G' j = G j := by
    intro j hj
    have : j ≠ base := by omega
    simp [G', this]
  cases st with
  | true =>
    have hsub : ∀ (ad : Addr) (q : Value), M ad = some q → w'.cell? ad = some q := by
      intro ad q h
      refine hgr.cell (hI.sub ad q h) ?_
      intro e
      rw [(hm ad.block (hrowv _ e.symm).1).1 rfl ad rfl] at h
      cases h
    refine ⟨M, G', hvr M, hI1.put base _ hgr (MLe.refl _) hG (fun _ _ h => .inl h) hsub hoth1 ?_ hbb (fun bb h => by obtain ⟨c0, q1, q2, q3⟩ := hb bb (hrowv bb h).1; exact hI.zsep b c0 bb q1 q2 q3), (Step.put hI hgr (MLe.refl _) hG (fun _ _ h => .inl h) (fun bb h => ?_) hbb).weaken hwk, hfr⟩
    · refine ⟨v', xs ++ news, hgb, by simpa using hown', hrow.append hnew, fun bb h => ⟨fun _ ad ha => ?_, fun h => (by cases h)⟩⟩
      rcases hblk bb h with ⟨_, h1, _⟩ | h1
      · exact (hm bb h1).1 rfl ad ha
      · exact hnone ad (by omega)
    · obtain ⟨c0, h1, h2, h3⟩ := hb bb (hrowv bb h).1
      exact ⟨b, c0, h1, h2, h3⟩
  | false =>
    let In : Addr → Prop := fun ad => blkV v' = some ad.block ∧ (offV v' ≤ ad.off ∧ ad.off < offV v' + (xs ++ news).length) ∧ ad.spot = none
    let M' : Mem := fun ad => open Classical in if In ad then w'.cell? ad else M ad
    have hin : ∀ ad, In ad → M' ad = w'.cell? ad := fun ad h => by simp only [M']; rw [if_pos h]
    have hout : ∀ ad, ¬ In ad → M' ad = M ad := fun ad h => by simp only [M']; rw [if_neg h]
    have hcells' : ∀ bb, blkV v' = some bb → ∀ (j : Nat) (q : Value), (xs ++ news)[j]? = some q → w'.cell? ⟨bb, offV v' + j, none⟩ = some q := by
      intro bb h j q hj
      have := hown'.cells (g := bb) h j q hj
      rwa [add_pt] at this
    have hmle : MLe M M' := by
      intro ad q h
      by_cases hi : In ad
      · rw [hin ad hi]
        rcases hblk _ hi.1 with ⟨_, h1, h0⟩ | h1
        · obtain ⟨hat, hoff⟩ := (hm _ h1).2 rfl
          have h2 := (hoff ad q h rfl).2
          have h5 := hi.2.1.1
          have h6 : ad.off - offV v < xs.length := by omega
          have h3 := hat (ad.off - offV v) xs[ad.off - offV v] (List.getElem?_eq_getElem h6)
          have h7 : offV v + (ad.off - offV v) = ad.off := by omega
          rw [add_pt, h7, ← addr_eta hi.2.2, h] at h3
          have h8 := hcells' _ hi.1 (ad.off - offV v) q (by rw [List.getElem?_append_left h6, List.getElem?_eq_getElem h6]; exact h3.symm)
          rw [h0, h7] at h8
          rw [addr_eta hi.2.2]
          exact h8
        · rw [hnone ad h1] at h; cases h
      · rw [hout ad hi]; exact h
    have hnw : ∀ (ad : Addr) (q : Value), M' ad = some q → M ad = some q ∨ w.heap.size ≤ ad.block ∨ row = some ad.block := by
      intro ad q h
      by_cases hi : In ad
      · rcases hblk _ hi.1 with ⟨h1, _⟩ | h1
        · exact .inr (.inr h1)
        · exact .inr (.inl (by omega))
      · rw [hout ad hi] at h; exact .inl h
    have hsub : ∀ (ad : Addr) (q : Value), M' ad = some q → w'.cell? ad = some q := by
      intro ad q h
      by_cases hi : In ad
      · rw [hin ad hi] at h; exact h
      · rw [hout ad hi] at h
        have hc := hI.sub ad q h
        by_cases hr : row = some ad.block
        · exfalso
          obtain ⟨h1, h3, h4⟩ := hrowv _ hr
          have h2 := ((hm _ h1).2 rfl).2 ad q h rfl
          exact hi ⟨h3, by rw [h4]; simp; omega, cell_spot hc⟩
        · exact hgr.cell hc (fun e => hr e.symm)
    refine ⟨M', G', hvr M', hI1.put base _ hgr hmle hG hnw hsub hoth1 ?_ hbb (fun bb h => by obtain ⟨c0, q1, q2, q3⟩ := hb bb (hrowv bb h).1; exact hI.zsep b c0 bb q1 q2 q3), (Step.put hI hgr hmle hG hnw (fun bb h => ?_) hbb).weaken hwk, hfr⟩
    · refine ⟨v', xs ++ news, hgb, by simpa using hown', (hrow.append hnew).mono hmle, fun bb h => ⟨fun h => (by cases h), fun _ => ⟨fun j q hj => ?_, fun ad q hq ha => ?_⟩⟩⟩
      · rw [add_pt]
        rw [hin ⟨bb, offV v' + j, none⟩ ⟨h, ⟨Nat.le_add_right _ _, Nat.add_lt_add_left (List.getElem?_eq_some_iff.1 hj).1 _⟩, rfl⟩]
        exact hcells' bb h j q hj
      · by_cases hi : In ad
        · exact hi.2.1
        · rw [hout ad hi] at hq
          rcases hblk bb h with ⟨_, h1, h0⟩ | h1
          · have := ((hm bb h1).2 rfl).2 ad q hq ha
            rw [h0]; simp; omega
          · rw [hnone ad (by omega)] at hq; cases hq
    · obtain ⟨c0, h1, h2, h3⟩ := hb bb (hrowv bb h).1
      exact ⟨b, c0, h1, h2, h3⟩

end
end Go.AM
end

section
/-
AM: append, literals of slices, make, elements written, slices of slices: the operations. No condition.
-/
namespace Go.AM
open Go
variable [Inhabited ZMem]

theorem Inv.congr {w : World} {M : Mem} {G : Gh} {H H' : HL} (hI : Inv w M G H) (h : ∀ k, hget H' k = hget H k) : Inv w M G H' :=
  ⟨hI.sub, fun k c hk => hI.cells k c (by rw [← h]; exact hk), fun k k' c c' b hk hk' => hI.sep k k' c c' b (by rw [← h]; exact hk) (by rw [← h]; exact hk'), hI.zone, fun k c b hk => hI.zsep k c b (by rw [← h]; exact hk)⟩

section
variable {P : Program} {T : TT} {w : World} {M : Mem} {G : Gh} {H : HL} {R : Type} {C : CT} {base n : Nat} {e : Operand → AV} {a : Act} {k : AV → Upd → Option R} {r : R} {o : Oper}

theorem Good.congr {v : AV} {u u' : Upd} {val : Value} {w' : World} (h : Good w M G H base n v u val w') (hu : ∀ k, hget (u' ++ H) k = hget (u ++ H) k) : Good w M G H base n v u' val w' := by
  obtain ⟨M', G', h1, h2, h3, h4⟩ := h
  exact ⟨M', G', h1, h2.congr hu, h3.weaken (fun k c hk _ => by rw [← hu]; exact hk), h4⟩

theorem Good.after {M1 : Mem} {u1 u : Upd} {v : AV} {val : Value} {w' : World} (s : Step w M G H w M1 G (u1 ++ H)) (h : Good w M1 G (u1 ++ H) base n v u val w') : Good w M G H base n v (u ++ u1) val w' := by
  obtain ⟨M', G', h1, h2, h3, h4⟩ := h
  rw [← List.append_assoc] at h2 h3
  exact ⟨M', G', h1, h2, s.trans h3, h4⟩

/-- A row made by the call: the local heap has it under a new key. -/
theorem own_fresh (hI : Inv w M G H) {te : TypeId} {u : U} {v' : Value} {l : List (El u)} {xs : List Value} {w' : World} (hrow : RowV M u xs l) (hown0 : w'.ownsRow 0 te u.size v' l.length xs)
    (hb0 : v'.ownBlock = some w.heap.size) (hg : w.grownBy w' none) (hf : G base = none) : Good w M G H base 1 (.sv (.one (.own base))) [(base, .arr te u l true)] v' w' := by
  have h0 := ownsAt_nil w te u.size
  have hown' := ownsAt_row hown0
  have hb : blkV v' = some w.heap.size := by rw [← ownBlock_blkV (ownsAt_slice hown')]; exact hb0
  have h1 := own_grown (base := base) (b := base) (st := true) (l := []) (xs := []) (v := .slice none 0 0) hI (te := te) (u := u) h0 ⟨by simp, fun i hi => by simp at hi⟩ hrow
    (fun bb h => by cases h) (fun _ _ _ _ _ _ h => by cases h) (fun bb h => by cases h) (by simpa using hown') (.inr ⟨hb, hg⟩) hf
  refine Good.congr h1 (fun k => ?_)
  simp only [List.cons_append, List.nil_append, hget]
  split <;> rfl

theorem madeCells_chunk {z : Array Value} {n i : Nat} (h : i < n) : (((madeCells z (n * z.size)).toList).drop (i * z.size)).take z.size = z.toList := by
  have hc := chunk_le (s := z.size) h
  have hlen : (madeCells z (n * z.size)).toList.length = n * z.size := by simp [size_madeCells]
  apply List.ext_getElem?
  intro j
  rw [List.getElem?_take]
  by_cases hj : j < z.size
  · rw [if_pos hj, List.getElem?_drop]
    have h1 : i * z.size + j < n * z.size := by omega
    have hm : (i * z.size + j) % z.size = j := by rw [Nat.mul_comm, Nat.mul_add_mod]; exact Nat.mod_eq_of_lt hj
    rw [Array.getElem?_toList, Array.getElem?_toList]
    simp only [madeCells, Array.getElem?_map, Array.getElem?_range, h1, if_true, Option.map_some, hm]
    simp [hj]
  · rw [if_neg hj, List.getElem?_eq_none (by simp; omega)]

theorem row_made (M : Mem) {u : U} {z : Array Value} (hz : DV M u z.toList (dflt u)) (hs : z.size = u.size) (n : Nat) : RowV M u (madeCells z (n * u.size)).toList (List.replicate n (dflt u)) := by
  refine ⟨by simp [size_madeCells], fun i hi => ?_⟩
  have hi' : i < n := by simpa using hi
  have := madeCells_chunk (z := z) hi'
  rw [hs] at this
  rw [this]
  simpa using hz

theorem makeSlice_sound (hT : TOK P T) (hI : Inv w M G H) {t : TypeId} {x y : Operand} (ho : o.op = .makeSlice t x y) {te : TypeId} {u : U} {de : TD} (h : elemOfT T t = some (te, u, de)) {i j : Int} (hx : a.eval x = .int .i64 i) (hy : a.eval y = .int .i64 j)
    (hb : (i = 0 ∨ i = j) ∧ 0 ≤ j ∧ j * de.bytes ≤ 140737488355328 ∧ 0 < de.bytes) (hf : G base = none) : Runs P a o w (Good w M G H base 1 (.sv (.one (.own base))) [(base, .arr te u (List.replicate i.toNat (dflt u)) true)]) := by
  obtain ⟨d, hd, hdesc, hte, hu, hund, hsz, h0⟩ := elemOfT_sound hT h
  obtain ⟨inf, z, hi, hz, hs, hby, _, _, hzs, hrow⟩ := (hT te de hte).info
  obtain ⟨hsu, _, hdz⟩ := hrow u hu
  obtain ⟨hij, hj0, hjb, hb0⟩ := hb
  have hjn : j = (j.toNat : Int) := by omega
  have hdv := dzero_dv M u _ hdz
  have hbytes : inf.bytes * j.toNat ≤ 140737488355328 := by
    have h1 : ((inf.bytes * j.toNat : Nat) : Int) ≤ 140737488355328 := by
      rw [hby, Int.natCast_mul, Int.mul_comm, ← hjn]; exact hjb
    omega
  have hmax : j.toNat ≤ maxLen := by
    have : 1 * j.toNat ≤ inf.bytes * j.toNat := Nat.mul_le_mul_right _ (by omega)
    simp only [maxLen]; omega
  by_cases hi0 : i = j
  · subst hi0
    obtain ⟨w', hrun, hown, hgr⟩ := run_make_full (P := P) w 0 t te inf z u.size hund hi hz (by rw [hs, hsu]) .i64 .i64 i.toNat (by omega) hmax (Nat.zero_le _)
    rw [← hjn] at hrun
    refine Runs.value (val := _) (w' := w') (by simp [execOp, ho, hx, hy, hrun]; rfl) ?_
    exact own_fresh hI (row_made M hdv (by rw [hzs, hsu]) i.toNat) (by simpa using hown) rfl hgr hf
  · obtain rfl : i = 0 := by omega
    obtain ⟨w', hrun, hown, hgr⟩ := run_make_own (P := P) w 0 t te inf z u.size hund hi hz (by rw [hs, hsu]) .i64 .i64 j.toNat (by omega) hmax (Nat.zero_le _)
    rw [← hjn] at hrun
    refine Runs.value (val := _) (w' := w') (by simp [execOp, ho, hx, hy, hrun]; rfl) ?_
    exact own_fresh hI (l := []) (xs := []) ⟨by simp, fun i hi => by simp at hi⟩ (by simpa using hown) rfl hgr hf

theorem unflatN_sound (hI : Inv w M G H) (u : U) : ∀ (n : Nat) (cs : List LV) (l : List (El u)) (vs : List Value), unflatN H u n cs = some l → CR M G vs cs → vs.length = n * u.size → RowV M u vs l ∧ l.length = n
  | 0, cs, l, vs, h, _, hl => by
    simp only [unflatN, Option.some.injEq] at h
    subst h
    exact ⟨⟨by simpa using hl, fun i hi => by simp at hi⟩, rfl⟩
  | n + 1, cs, l, vs, h, hc, hl => by
    simp only [unflatN] at h
    split at h
    · rename_i x rr h1
      split at h
      · rename_i xs h2
        cases h
        obtain ⟨d1, c1⟩ := unflat_sound hI u cs x rr vs h1 hc
        obtain ⟨r1, r2⟩ := unflatN_sound hI u n rr xs _ h2 c1 (by rw [List.length_drop, hl, Nat.succ_mul]; omega)
        refine ⟨⟨by rw [hl]; simp [r2], fun i hi => ?_⟩, by simp [r2]⟩
        cases i with
        | zero => simpa using d1
        | succ i =>
          have := r1.2 i (by simpa using hi)
          rw [List.drop_drop] at this
          rw [Nat.succ_mul, Nat.add_comm]
          simpa using this
      · cases h
    · cases h

theorem part_seg (hT : TOK P T) {t : TypeId} {d : TD} (hd : T t = some d) {vs : Array Value} {seg : List LV} {off : Nat} (h2 : CR M G ((vs.toList.drop off).take d.size) seg) {s : SV}
    (hs : mkSV d.isAgg seg = some s) : ∃ val, (part t vs off).run P w = .ok val w ∧ SVR M G val s := by
  unfold part
  rw [Sem.run_bind, isAgg_run hT hd]
  simp only [Result.andThen_ok]
  unfold mkSV at hs
  cases hq : d.isAgg with
  | true =>
    rw [hq] at hs
    simp only [if_true, Option.some.injEq] at hs
    subst hs
    refine ⟨.agg (vs.extract off (off + d.size)), by simp [sizeOf_run hT hd], _, rfl, ?_⟩
    have : (vs.extract off (off + d.size)).toList = (vs.toList.drop off).take d.size := by simp [List.take_drop]
    rw [this]
    exact h2
  | false =>
    rw [hq] at hs
    simp only [Bool.false_eq_true, if_false] at hs
    split at hs
    · rename_i x
      cases hs
      have hl2 := h2.len
      match hv : (vs.toList.drop off).take d.size, h2, hl2 with
      | [v], h2, _ =>
        have : vs[off]? = some v := by
          have h3 : ((vs.toList.drop off).take d.size)[0]? = some v := by rw [hv]; rfl
          rw [List.getElem?_take] at h3
          split at h3
          · simpa using h3
          · cases h3
        exact ⟨v, by simp [this], h2.1⟩
    · cases hs

theorem index_array (hT : TOK P T) (hI : Inv w M G H) {x y : Operand} {t : TypeId} (ho : o.op = .index t x y) {d : TD} (hd : T t = some d) {len : Nat} {el : TypeId} (hds : d.desc = .array len el) {cs : List LV} (hx : AVR M G (a.eval x) (.sv (.agg cs)))
    {kk : IntKind} {i : Int} (hy : a.eval y = .int kk i) {de : TD} (hde : T el = some de) {u : U} (hu : de.u = some u) {l : List (El u)} (hl : unflatN [] u len cs = some l) (hcs : cs.length = len * de.size) (hi : 0 ≤ i ∧ i < (len : Int)) {s : SV}
    (hs : mkSV de.isAgg (flat u (l.getD i.toNat (dflt u))) = some s) : Runs P a o w (Good w M G H base n (.sv s) []) := by
  have hund := (hT t d hd).und
  rw [hds] at hund
  have hI0 : Inv w M G [] := ⟨hI.sub, (fun _ _ h => by simp [hget] at h), (fun _ _ _ _ _ h => by simp [hget] at h), hI.zone, (fun _ _ _ h => by simp [hget] at h)⟩
  obtain ⟨_, _, _, _, _, _, _, _, _, hz⟩ := (hT _ _ hde).info
  obtain ⟨hus, hpos, _⟩ := hz u hu
  obtain ⟨vs, hp, hc⟩ := hx
  have hlen := hc.len
  obtain ⟨hrow, hll⟩ := unflatN_sound hI0 u len cs l vs.toList hl hc (by rw [hlen, hcs, hus])
  have hin : i.toNat < l.length := by omega
  have hseg := (hrow.2 i.toNat hin).cr G
  have hgd : l.getD i.toNat (dflt u) = l[i.toNat] := by simp [List.getD, hin]
  rw [hgd] at hs
  rw [hus] at hseg
  obtain ⟨val, hr, hv⟩ := part_seg (w := w) hT hde hseg hs
  refine Runs.value (val := val) (w' := w) ?_ (Good.plain hI hv)
  simp [execOp, ho, hp, hy, Instr.index, asIntOf, run_underlying hund, hi.1, hi.2, sizeOf_run hT hde, hr]

theorem repeatL_length (cs : List LV) : ∀ n, (repeatL cs n).length = n * cs.length
  | 0 => by simp [repeatL]
  | n + 1 => by simp [repeatL, repeatL_length cs n, Nat.succ_mul, Nat.add_comm]

theorem fillL_length {place : Nat → Option (Nat × Nat)} : ∀ (parts : List (Nat × AV)) (xs xs' : List LV), fillL place xs parts = some xs' → xs'.length = xs.length
  | [], xs, xs', h => by simp only [fillL, Option.some.injEq] at h; rw [h]
  | (i, v) :: rest, xs, xs', h => by
    simp only [fillL] at h
    split at h
    · split at h
      · rename_i hl
        have := fillL_length rest _ _ h
        rw [this]
        simp [AM.splice]
        omega
      · cases h
    · cases h

theorem made_cr {z : Array Value} {zs : List LV} (hz : CR M G z.toList zs) : ∀ n, CR M G (madeCells z (n * z.size)).toList (repeatL zs n)
  | 0 => by simp [repeatL, madeCells]; trivial
  | n + 1 => by
    have ih := made_cr hz n
    have e1 : (madeCells z ((n + 1) * z.size)).toList = z.toList ++ (madeCells z (n * z.size)).toList := by
      have h1 : ((madeCells z ((n + 1) * z.size)).toList).take z.size = z.toList := by
        have := madeCells_chunk (z := z) (n := n + 1) (i := 0) (by omega)
        simpa using this
      have h2 : ((madeCells z ((n + 1) * z.size)).toList).drop z.size = (madeCells z (n * z.size)).toList := by
        apply List.ext_getElem?
        intro j
        rw [List.getElem?_drop, Array.getElem?_toList, Array.getElem?_toList]
        simp only [madeCells, Array.getElem?_map, Array.getElem?_range]
        by_cases hj : j < n * z.size
        · have hj2 : z.size + j < (n + 1) * z.size := by rw [Nat.succ_mul]; omega
          simp [hj, hj2]
        · have hj2 : ¬ z.size + j < (n + 1) * z.size := by rw [Nat.succ_mul]; omega
          simp [hj, hj2]
      rw [← h1, ← h2, List.take_append_drop]
    rw [e1]
    exact hz.append ih

theorem buildSlice_sound (hT : TOK P T) (hI : Inv w M G H) (he : ∀ x, AVR M G (a.eval x) (e x)) {t : TypeId} {len : Nat} {parts : Array (Nat × Operand)} (ho : o.op = .buildSlice t len parts) {te : TypeId} {u : U} {de : TD} (h : elemOfT T t = some (te, u, de))
    {cs : List LV} (hc : fillL (fun i => some (i * de.size, de.size)) (repeatL de.zero len) (parts.toList.map fun p => (p.1, e p.2)) = some cs) {l : List (El u)} (hl : unflatN (fzU H cs ++ H) u len cs = some l) (h24 : len * de.size ≤ 16777216) (hf : G base = none) :
    Runs P a o w (Good w M G H base 1 (.sv (.one (.own base))) ((base, .arr te u l true) :: fzU H cs)) := by
  obtain ⟨d, hd, hdesc, hte, hu, hund, hsz, h0⟩ := elemOfT_sound hT h
  obtain ⟨inf, z, hi, hz, hs, hby, hzm, hza, hzs, hrow⟩ := (hT te de hte).info
  obtain ⟨M1, i1, s1⟩ := fzU_sound hI cs
  have hz0 : CR M G z.cells.toList de.zero := by
    rw [← hzm]
    have : ∀ l : List Value, l.all scal = true → CR M G l (l.map LV.val) := by
      intro l
      induction l with
      | nil => intro _; trivial
      | cons x xs ih => intro h; simp only [List.all_cons, Bool.and_eq_true] at h; exact ⟨⟨rfl, h.1⟩, ih h.2⟩
    exact this _ hza
  have hm := made_cr hz0 len
  rw [hzs] at hm
  obtain ⟨cells', h1, h2⟩ := fill_sound (a := a) _ e he parts.toList (madeCells z.cells (len * de.size)) _ cs hm hc
  have hcl : cells'.size = len * u.size := by
    have e1 := h2.len
    have e2 := fillL_length _ _ _ hc
    rw [repeatL_length] at e2
    have e3 := hz0.len
    simp only [Array.length_toList] at e1 e3
    rw [e1, e2, ← e3, hzs, hsz]
  obtain ⟨r1, r2⟩ := unflatN_sound i1 u len cs l cells'.toList hl (h2.ext s1.mle (GLe.refl _)) (by simpa using hcl)
  have hown := World.ownsRow_lit (base := 0) (e := te) (size := u.size) w cells' len (Nat.zero_le _) (by simp only [maxLen]; have : len * 1 ≤ len * de.size := Nat.mul_le_mul_left _ h0; omega) hcl
  refine Runs.value (val := .slice (some ⟨w.heap.size, 0, none⟩) len len) (w' := w.alloc (.cells cells' te)) ?_ ?_
  · have hsz' := sizeOf_run (w := w) hT hte
    have hzero : (zeroValue te).run P w = .ok z w := by simp [zeroValue, typeInfo, hi, hz]
    by_cases hlz : len * de.size = 0
    · have e0 : madeCells z.cells (len * de.size) = #[] := by rw [hlz]; simp [madeCells]
      rw [e0] at h1
      have this : Instr.fill (fun i => some (i * de.size, de.size)) #[] (List.map (fun p : Nat × Operand => (p.1, a.eval p.2)) parts.toList) = some cells' := h1
      simp [execOp, ho, Instr.buildSlice, run_underlying hund, hsz', hlz, newRow]
      have e1 : Array.map (fun _ : Nat => (default : Value)) (Array.range 0) = #[] := by simp
      rw [e1, this]
      simp
    · have h24' : ¬ 16777216 < len * de.size := by omega
      have hne : ¬ (len = 0 ∨ de.size = 0) := by
        rintro (h | h) <;> simp [h] at hlz
      have h1' : Instr.fill (fun i => some (i * de.size, de.size)) (Array.map (fun x => z.cells[x % z.cells.size]!) (Array.range (len * de.size))) (List.map (fun p : Nat × Operand => (p.1, a.eval p.2)) parts.toList) = some cells' := h1
      simp [execOp, ho, Instr.buildSlice, run_underlying hund, hsz', h24', hlz, hzero, newRow, h1']
  · have hfr : Good w M1 G (fzU H cs ++ H) base 1 (.sv (.one (.own base))) [(base, .arr te u l true)] (.slice (some ⟨w.heap.size, 0, none⟩) len len) (w.alloc (.cells cells' te)) :=
      own_fresh i1 r1 (by rw [r2]; exact hown) rfl (World.grownBy_alloc w _ none) hf
    exact Good.after s1 hfr

end
end Go.AM
end

section
/-
AM: append, elements written, slices of slices, closures: the operations. No condition.
-/
namespace Go.AM
open Go
variable [Inhabited ZMem]

section
variable {P : Program} {T : TT} {w : World} {M : Mem} {G : Gh} {H : HL} {R : Type} {C : CT} {base n : Nat} {e : Operand → AV} {a : Act} {k : AV → Upd → Option R} {r : R} {o : Oper}

theorem row_str (M : Mem) (s : ByteArray) : RowV M (.int .u8) (Lib.strCells s) (bytesOfStr s) := by
  refine ⟨by simp [Lib.strCells_length, bytesOfStr, U.size], fun i hi => ?_⟩
  have hi' : i < s.data.toList.length := by simpa [bytesOfStr] using hi
  simp only [U.size, Nat.mul_one, DV]
  rw [List.drop_eq_getElem_cons (by simpa [Lib.strCells] using hi')]
  simp [Lib.strCells, bytesOfStr]

/-- What is appended. -/
theorem src_of (hT : TOK P T) (hI : Inv w M G H) {u : U} {tx : TypeId} {dx : TD} (hdx : T tx = some dx) {x : LV} {v : Value} (hv : LVR M G v x) {l : List (El u)}
    (h : srcL H u dx.desc x = some l) :
    ((∃ q, dx.desc = .slice q) ∨ dx.desc = .string) ∧ ∃ news, Src P w u.size v l.length news ∧ RowV M u news l := by
  unfold srcL at h
  split at h
  · rename_i hq
    refine ⟨.inl ⟨_, hq⟩, ?_⟩
    obtain ⟨b, c, xs, rfl, hlc, hnone, hat, hrow⟩ := peekL_row hI h hv
    cases b with
    | none =>
      obtain ⟨rfl, rfl⟩ := hnone rfl
      have : xs = [] := List.eq_nil_of_length_eq_zero (by simpa using hrow.1)
      subst this
      exact ⟨[], Src.none, hrow⟩
    | some ad => exact ⟨xs, Src.slice hrow.1 (hat ad rfl), hrow⟩
  · rename_i hq
    refine ⟨.inr hq, ?_⟩
    split at h
    · rename_i b
      obtain ⟨hu, hl⟩ := castL_eq h
      subst hu
      subst hl
      obtain ⟨rfl, _⟩ := hv
      refine ⟨Lib.strCells b, ?_, row_str M b⟩
      have : (bytesOfStr b).length = b.size := by simp [bytesOfStr]
      show Src P w _ _ (bytesOfStr b).length _
      rw [this]
      exact Src.str b
    · cases h
  · cases h

theorem DV.oneCell {M : Mem} : ∀ (u : U) (vs : List Value) (x : El u), DV M u vs x → ∀ v ∈ vs, v.oneCell' = true
  | .int _, _, _, d, v, hv => by cases d; simp at hv; subst hv; rfl
  | .bool, _, _, d, v, hv => by cases d; simp at hv; subst hv; rfl
  | .str, _, _, d, v, hv => by cases d; simp at hv; subst hv; rfl
  | .nil, _, _, d, v, hv => by cases d; simp at hv
  | .sl _, _, _, ⟨_, _, _, h1, _⟩, v, hv => by rw [h1] at hv; simp at hv; subst hv; rfl
  | .any, _, x, d, v, hv => by
    rw [d.1] at hv
    simp at hv
    subst hv
    have h := d.2
    cases v <;> first | rfl | (simp [ifaceB] at h)
  | .cons a b, vs, _, d, v, hv => by
    rw [← List.take_append_drop a.size vs] at hv
    rcases List.mem_append.1 hv with h | h
    · exact DV.oneCell a _ _ d.1 v h
    · exact DV.oneCell b _ _ d.2 v h

theorem RowV.oneCell {M : Mem} {u : U} {xs : List Value} {l : List (El u)} (h : RowV M u xs l) (h0 : 0 < u.size) : ∀ v ∈ xs, v.oneCell' = true := by
  intro v hv
  obtain ⟨j, hj, rfl⟩ := List.getElem_of_mem hv
  have hi : j / u.size < l.length := by rw [h.1] at hj; exact Nat.div_lt_of_lt_mul (by rw [Nat.mul_comm]; exact hj)
  refine DV.oneCell u _ _ (h.2 _ hi) _ ?_
  have hm := Nat.mod_lt j h0
  have hdm := Nat.div_add_mod j u.size
  rw [Nat.mul_comm] at hdm
  refine List.mem_of_getElem? (i := j % u.size) ?_
  rw [List.getElem?_take, if_pos hm, List.getElem?_drop, hdm]
  exact List.getElem?_eq_getElem hj

theorem append_sound (hT : TOK P T) (hI : Inv w M G H) {s x : Operand} {t tx : TypeId} (ho : o.op = .call { callee := .builtin .append, args := #[s, x], argTypes := #[t, tx] }) {te : TypeId} {u : U} {de dx : TD} (h : elemOfT T t = some (te, u, de)) (hdx : T tx = some dx)
    {ls lx : LV} (hs : LVR M G (a.eval s) ls) (hx : LVR M G (a.eval x) lx) {xs : List (El u)}
    (hxs : srcL H u dx.desc lx = some xs) (hf : G base = none) {l : List (El u)} {st : Bool} {b : Nat}
    (hls : (ls = .val (.slice none 0 0) ∧ l = [] ∧ st = true ∧ b = base) ∨ (ls = .own b ∧ hget H b = some (.arr te u l st))) (hbd : (l.length + xs.length) * de.bytes ≤ 140737488355328) (hb0 : 0 < de.bytes) :
    Runs P a o w (Good w M G H base 1 (.sv (.one (.own base))) [(base, .arr te u (l ++ xs) st), (b, .dead)]) := by
  obtain ⟨d, hd, hdesc, hte, hu, hund, hsz, h0⟩ := elemOfT_sound hT h
  obtain ⟨inf, z, hi, hz, hs', hby, _, _, hzs, hrowz⟩ := (hT te de hte).info
  obtain ⟨hdk, news, hsrc, hrn⟩ := src_of hT hI hdx hx hxs
  have hundx := (hT tx dx hdx).und
  have hsize : inf.size = u.size := by rw [hs', hsz]
  have h63 : l.length + xs.length ≤ maxLen := by
    have : (l.length + xs.length) * 1 ≤ (l.length + xs.length) * de.bytes := Nat.mul_le_mul_left _ hb0
    simp only [maxLen]; omega
  have one := hrn.oneCell (by omega)
  have fin : ∀ (v : Value) (ys : List Value), a.eval s = v → ownsAt w te u.size v l.length ys → RowV M u ys l →
      (∀ bb, blkV v = some bb → (st = true → ∀ a : Addr, a.block = bb → M a = none) ∧ (st = false → At M ⟨bb, offV v, none⟩ ys ∧ ∀ (a : Addr) (q : Value), M a = some q → a.block = bb → offV v ≤ a.off ∧ a.off < offV v + ys.length)) →
      (∀ k' c' bb, k' ≠ b → hget H k' = some c' → c'.live → blkV v = some bb → blk G k' ≠ some bb) → (∀ bb, blkV v = some bb → ∃ c0, hget H b = some c0 ∧ c0.live ∧ blk G b = some bb) →
      Runs P a o w (Good w M G H base 1 (.sv (.one (.own base))) [(base, .arr te u (l ++ xs) st), (b, .dead)]) := by
    intro v ys hv hown hrow hm hoth hbo
    obtain ⟨v', w', hrun, hown', hgr⟩ := append_run (P := P) (w := w) (ty := o.type) (xv := a.eval x) (news := news) (m := xs.length) hund hundx hdk hi hz (by rw [hzs, hs']) (by omega) (by rw [hsize]; exact hown) (by rw [hsize]; exact hsrc) one h63 (by rw [hby]; exact hbd)
    rw [hsize] at hown'
    refine Runs.value (val := v') (w' := w') ?_ (own_grown hI hown hrow hrn hm hoth hbo hown' hgr hf)
    rw [← hv] at hrun
    simp [execOp, ho, resolve, invoke, builtin, hrun]
  rcases hls with ⟨rfl, rfl, rfl, rfl⟩ | ⟨rfl, hb⟩
  · refine fin (.slice none 0 0) [] hs.1 (ownsAt_nil w te u.size) ⟨by simp, fun i hi => by simp at hi⟩ (fun bb h => by cases h) (fun _ _ _ _ _ _ h => by cases h) (fun bb h => by cases h)
  · obtain ⟨v, ys, hg, hown, hrow, hm⟩ := hI.cells _ _ hb
    have hev : a.eval s = v := by have := hs.1; rw [hg] at this; cases this; rfl
    refine fin v ys hev hown hrow hm (fun k' c' bb hne hk' hl' hbb => ?_) (fun bb hbb => ⟨_, hb, trivial, by rw [blk_of hg]; exact hbb⟩)
    exact hI.sep b k' _ c' bb hb hk' trivial hl' (fun q => hne q.symm) (by rw [blk_of hg]; exact hbb)

theorem At.none {M : Mem} {ad : Addr} : At M ad [] := fun j v h => by simp at h

/-- A part of a slice. -/
theorem DV.part {M : Mem} {u : U} {b : Option Addr} {l : List (El u)} {c : Nat} {xs : List Value} (h2 : l.length ≤ c) (h3 : b = none → l = [] ∧ c = 0) (h4 : ∀ ad, b = some ad → At M ad xs) (h5 : xs.length = l.length * u.size)
    (h6 : ∀ (i : Nat) (h : i < l.length), DV M u ((xs.drop (i * u.size)).take u.size) l[i]) {i j : Nat} (hij : i ≤ j) (hj : j ≤ l.length) :
    DV M (.sl u) [.slice (if c = i then b else b.map (·.add (i * u.size))) (j - i) (c - i)] ((l.take j).drop i) := by
  have hlen : ((l.take j).drop i).length = j - i := by simp; omega
  have hji : (j - i) * u.size + i * u.size = j * u.size := by rw [← Nat.add_mul]; congr 1; omega
  have hjl := Nat.mul_le_mul_right u.size hj
  refine ⟨_, c - i, (xs.drop (i * u.size)).take ((j - i) * u.size), by rw [hlen], by omega, ?_, ?_, ?_, ?_⟩
  · intro hn
    have hb : b = none := by
      split at hn
      · exact hn
      · cases b with
        | none => rfl
        | some ad => simp at hn
    obtain ⟨rfl, rfl⟩ := h3 hb
    exact ⟨by simp, by omega⟩
  · intro ad had
    split at had
    · rename_i hc
      have e0 : j - i = 0 := by omega
      rw [e0]
      simpa using At.none
    · cases b with
      | none => simp at had
      | some ad0 =>
        simp only [Option.map_some, Option.some.injEq] at had
        subst had
        exact ((h4 ad0 rfl).drop _).take _
  · rw [hlen]
    simp
    omega
  · intro q hq
    rw [hlen] at hq
    have hqi : i + q < l.length := by omega
    have h7 := h6 (i + q) hqi
    have e1 : ((l.take j).drop i)[q] = l[i + q] := by simp
    rw [e1]
    have hc := chunk_le (s := u.size) hq
    have e2 : (((xs.drop (i * u.size)).take ((j - i) * u.size)).drop (q * u.size)).take u.size = (xs.drop ((i + q) * u.size)).take u.size := by
      rw [List.drop_take, List.take_take, List.drop_drop, ← Nat.add_mul, Nat.min_eq_left (by omega)]
    rw [e2]
    exact h7

theorem fzU_data (hI : Inv w M G H) {u : U} {y : LV} {l : List (El u)} (hl : peekL H u y = some l) {M' : Mem} (hI' : Inv w M' G (fzU H [y] ++ H)) (hm : MLe M M') {v : Value} (hv : LVR M G v y) : DV M' (.sl u) [v] l := by
  unfold peekL at hl
  split at hl
  · rename_i b
    split at hl
    · rename_i t' u' l' s hb
      obtain ⟨rfl, rfl⟩ := castL_eq hl
      have key : hget (fzU H [.own b] ++ H) b = some (.arr t' u' l false) := by
        cases s with
        | true => simp [fzU, hb, hget]
        | false => simp [fzU, hb]
      obtain ⟨v', hg, d⟩ := (hI'.cells _ _ key).data
      have := hv.1
      rw [hg] at this
      cases this
      exact d
    · cases hl
  · exact (getL_sound hI hl hv).mono hm

theorem slice_data (hT : TOK P T) (hI : Inv w M G H) {t : TypeId} {x : Operand} {lo hi : Option Operand} (ho : o.op = .slice t x lo hi none) {te : TypeId} {u : U} {de : TD} (h : elemOfT T t = some (te, u, de)) {y : LV} (hx : LVR M G (a.eval x) y)
    {l : List (El u)} (hl : peekL H u y = some l) {i j : Int} (hlo : (lo = none ∧ i = 0) ∨ ∃ y kk, lo = some y ∧ a.eval y = .int kk i) (hhi : (hi = none ∧ j = l.length) ∨ ∃ y kk, hi = some y ∧ a.eval y = .int kk j) (hb : 0 ≤ i ∧ i ≤ j ∧ j ≤ (l.length : Int)) :
    Runs P a o w (Good w M G H base n (.sv (.one (.sl u ((l.take j.toNat).drop i.toNat)))) (fzU H [y])) := by
  obtain ⟨d, hd, hdesc, hte, hu, hund, hsz, h0⟩ := elemOfT_sound hT h
  have hs := sizeOf_run (w := w) hT hte
  obtain ⟨b, c, xs0, hv, hlc, hnone, _, _⟩ := peekL_row hI hl hx
  obtain ⟨i', rfl⟩ : ∃ m : Nat, i = m := ⟨i.toNat, by omega⟩
  obtain ⟨j', rfl⟩ : ∃ m : Nat, j = m := ⟨j.toNat, by omega⟩
  refine Runs.value (w' := w) (val := .slice (if c = i' then b else b.map (·.add (i' * u.size))) (j' - i') (c - i')) ?_ (Good.frozen hI (fun M' hm hI' => ?_))
  · rcases hlo with ⟨rfl, h1⟩ | ⟨y1, kk, rfl, hy⟩ <;> rcases hhi with ⟨rfl, h2⟩ | ⟨z1, kz, rfl, hz⟩
    · obtain rfl : i' = 0 := by omega
      obtain rfl : j' = l.length := by omega
      simp [execOp, ho, hv, Instr.sliceAt, run_underlying hund, Instr.slice, Instr.sliceBounds, hs]
    · obtain rfl : i' = 0 := by omega
      simp [execOp, ho, hv, hz, Instr.sliceAt, run_underlying hund, Instr.slice, Instr.sliceBounds, Instr.sliceBound, asIntOf, hs, show j' ≤ c from by omega]
    · obtain rfl : j' = l.length := by omega
      simp [execOp, ho, hv, hy, Instr.sliceAt, run_underlying hund, Instr.slice, Instr.sliceBounds, Instr.sliceBound, asIntOf, hs, hsz, show i' ≤ l.length from by omega]
    · simp [execOp, ho, hv, hy, hz, Instr.sliceAt, run_underlying hund, Instr.slice, Instr.sliceBounds, Instr.sliceBound, asIntOf, hs, hsz, show j' ≤ c from by omega, show i' ≤ j' from by omega]
  · have hd := fzU_data hI hl hI' hm hx
    rw [hv] at hd
    obtain ⟨b2, c2, xs, hv2, h2, h3, h4, h5, h6⟩ := hd
    simp only [List.cons.injEq, and_true, Value.slice.injEq, true_and] at hv2
    obtain ⟨rfl, rfl⟩ := hv2
    exact DV.part h2 h3 h4 h5 h6 (by omega) (by omega)

end
end Go.AM
end

section
/-
AM: elements written, closures made, bytes read as strings, the lesser and the greater; constants. No condition.
-/
namespace Go.AM
open Go
variable [Inhabited ZMem]

theorem splice_get {α : Type} {xs ys : List α} {p : Nat} (h : p + ys.length ≤ xs.length) (q : Nat) :
    (xs.take p ++ ys ++ xs.drop (p + ys.length))[q]? = if q < p then xs[q]? else if q < p + ys.length then ys[q - p]? else xs[q]? := by
  have hp : (xs.take p).length = p := by simp; omega
  by_cases h1 : q < p
  · rw [if_pos h1, List.append_assoc, List.getElem?_append_left (by omega), List.getElem?_take, if_pos h1]
  · rw [if_neg h1, List.append_assoc, List.getElem?_append_right (by omega), hp]
    by_cases h2 : q < p + ys.length
    · rw [if_pos h2, List.getElem?_append_left (by omega)]
    · rw [if_neg h2, List.getElem?_append_right (by omega), List.getElem?_drop]
      congr 1
      omega

theorem chunk_get {α : Type} (xs : List α) (a s q : Nat) : ((xs.drop a).take s)[q]? = if q < s then xs[a + q]? else none := by
  rw [List.getElem?_take]
  split <;> simp [List.getElem?_drop]

/-- The chunk that is written. -/
theorem chunk_splice {α : Type} {xs ys : List α} {i n s off : Nat} (h : i < n) (hl : xs.length = n * s) (ho : off + ys.length ≤ s) :
    ((xs.take (i * s + off) ++ ys ++ xs.drop (i * s + off + ys.length)).drop (i * s)).take s =
      ((xs.drop (i * s)).take s).take off ++ ys ++ ((xs.drop (i * s)).take s).drop (off + ys.length) := by
  have hc := chunk_le (s := s) h
  have hcl : ((xs.drop (i * s)).take s).length = s := by simp; omega
  apply List.ext_getElem?
  intro q
  rw [chunk_get, splice_get (by omega), splice_get (by omega), chunk_get]
  by_cases h1 : q < s
  · rw [if_pos h1, if_pos h1]
    by_cases h2 : q < off
    · rw [if_pos (by omega), if_pos h2]
    · rw [if_neg (by omega), if_neg h2]
      by_cases h3 : q < off + ys.length
      · rw [if_pos (by omega), if_pos h3]; congr 1; omega
      · rw [if_neg (by omega), if_neg h3]
  · rw [if_neg h1, if_neg (by omega), if_neg (by omega), if_neg h1]

/-- The other chunks. -/
theorem chunk_other {α : Type} {xs ys : List α} {i j n s off : Nat} (h : i < n) (hj : j < n) (hne : j ≠ i) (hl : xs.length = n * s) (ho : off + ys.length ≤ s) :
    ((xs.take (i * s + off) ++ ys ++ xs.drop (i * s + off + ys.length)).drop (j * s)).take s = (xs.drop (j * s)).take s := by
  have hc := chunk_le (s := s) h
  have hcj := chunk_le (s := s) hj
  apply List.ext_getElem?
  intro q
  rw [chunk_get, splice_get (by omega), chunk_get]
  by_cases h1 : q < s
  · rw [if_pos h1, if_pos h1]
    rcases Nat.lt_or_gt_of_ne hne with h2 | h2
    · have := chunk_le (s := s) h2
      rw [if_pos (by omega)]
    · have := chunk_le (s := s) h2
      rw [if_neg (by omega), if_neg (by omega)]
  · rw [if_neg h1, if_neg h1]

section
variable {P : Program} {T : TT} {w : World} {M : Mem} {G : Gh} {H : HL} {R : Type} {C : CT} {base n : Nat} {e : Operand → AV} {a : Act} {k : AV → Upd → Option R} {r : R} {o : Oper}

theorem RowV.set {u : U} {xs ys : List Value} {l : List (El u)} {i off : Nat} {y : El u} (h : RowV M u xs l) (hi : i < l.length) (ho : off + ys.length ≤ u.size)
    (hy : DV M u (((xs.drop (i * u.size)).take u.size).take off ++ ys ++ ((xs.drop (i * u.size)).take u.size).drop (off + ys.length)) y) :
    RowV M u (xs.take (i * u.size + off) ++ ys ++ xs.drop (i * u.size + off + ys.length)) (l.set i y) := by
  have hc := chunk_le (s := u.size) hi
  have hl := h.1
  refine ⟨by simp; omega, fun j hj => ?_⟩
  have hj' : j < l.length := by simpa using hj
  by_cases e : j = i
  · subst e
    rw [chunk_splice hi hl ho]
    simpa using hy
  · rw [chunk_other hi hj' e hl ho, List.getElem_set_ne (fun q => e q.symm)]
    exact h.2 j hj'

theorem store_elem (hT : TOK P T) (hI : Inv w M G H) {t : TypeId} {x y : Operand} (ho : o.op = .store t x y) {b i sz off : Nat} {d : TD} (hd : T t = some d) {s : List LV}
    (hx : AVR M G (a.eval x) (.sv (.one (.eptr b i sz off)))) (hy : CR M G (a.eval y).cells.toList s) (hn : ∀ z ∈ s, z ≠ .junk) {tu : TypeId} {u : U} {l : List (El u)} (hb : hget (fzU H s ++ H) b = some (.arr tu u l true))
    (hl : s.length = d.size ∧ off + d.size ≤ (flat u (l.getD i (dflt u))).length ∧ sz = u.size) {z : El u} (hun : unflat (fzU H s ++ H) u (splice (flat u (l.getD i (dflt u))) off s) = some (z, [])) :
    Runs P a o w (Good w M G H base n (.sv (.one .junk)) ((b, .arr tu u (l.set i z) true) :: fzU H s)) := by
  obtain ⟨M1, i1, s1⟩ := fzU_sound hI s
  obtain ⟨bk, p0, nn, c, hg, hin, hp⟩ := hx
  obtain ⟨v0, xs, hg', hown, hrow, hm⟩ := i1.cells _ _ hb
  rw [hg] at hg'
  cases hg'
  have hy1 := hy.ext s1.mle (GLe.refl G)
  obtain ⟨cap, cur, hcc, hheap, hnc, hcm, hcs, htake⟩ : ∃ cap cur, (nn = l.length ∧ c = cap) ∧ w.heap[bk]? = some (.cells cur tu (0, 0)) ∧ l.length ≤ cap ∧ cap ≤ maxLen ∧ p0 + cap * u.size ≤ cur.size ∧ (cur.toList.drop p0).take (l.length * u.size) = xs := by
    rcases hown.2 with ⟨h, _⟩ | ⟨g, _, cap, cur, h, h2, h3, h4, h5, h6⟩
    · cases h
    · cases h; exact ⟨_, cur, ⟨rfl, rfl⟩, h2, h3, h4, h5, h6⟩
  obtain ⟨rfl, rfl⟩ := hcc
  have hgd : l.getD i (dflt u) = l[i] := by simp [List.getD, hin]
  rw [hgd] at hl hun
  obtain ⟨hsl, hoff, rfl⟩ := hl
  rw [flat_length] at hoff
  have hsz : (a.eval y).cells.size = d.size := by have := hy.len; simp at this; omega
  have hyl : (a.eval y).cells.toList.length = d.size := by simpa using hsz
  have hcl := chunk_le (s := u.size) hin
  have hxl := hrow.1
  have hcu : p0 + l.length * u.size ≤ cur.size := by have := Nat.mul_le_mul_right u.size hnc; omega
  obtain ⟨nv, hnv, hrun⟩ : ∃ nv : Array Value, nv.toList = cur.toList.take (p0 + (i * u.size + off)) ++ (a.eval y).cells.toList ++ cur.toList.drop (p0 + (i * u.size + off) + (a.eval y).cells.toList.length) ∧
      (storeVar t ⟨bk, p0 + (i * u.size + off), none⟩ (a.eval y)).run P w = .ok () (w.setRow bk nv) :=
    ⟨_, by simp, storeVar_run (w := w) (off := p0 + (i * u.size + off)) hT hd hheap hsz (by omega) (hy.oneCell hn)⟩
  have hnl : nv.size = cur.size := by
    have : nv.toList.length = cur.toList.length := by rw [hnv]; exact at_splice (by simp at hyl ⊢; omega)
    simpa using this
  -- the chunk reads as the new element
  have hz := (unflat_sound i1 u _ z [] _ hun (((hrow.2 i hin).cr G).splice off hy1)).1
  have hzl : (((xs.drop (i * u.size)).take u.size).take off ++ (a.eval y).cells.toList ++ ((xs.drop (i * u.size)).take u.size).drop (off + (a.eval y).cells.toList.length)).length = u.size := by
    simp; omega
  rw [List.take_of_length_le (by omega)] at hz
  have hrow' := hrow.set hin (by omega) hz
  -- the row's cells in the new world
  have hxs' : (nv.toList.drop p0).take (l.length * u.size) = xs.take (i * u.size + off) ++ (a.eval y).cells.toList ++ xs.drop (i * u.size + off + (a.eval y).cells.toList.length) := by
    apply List.ext_getElem?
    intro q
    rw [List.getElem?_take, List.getElem?_drop, hnv, splice_get (by simp; omega), splice_get (by omega), ← htake, List.getElem?_take, List.getElem?_drop]
    by_cases h1 : q < l.length * u.size
    · simp only [h1, if_true]
      by_cases h2 : q < i * u.size + off
      · rw [if_pos (by omega), if_pos h2]
      · rw [if_neg (by omega), if_neg h2]
        by_cases h3 : q < i * u.size + off + (a.eval y).cells.toList.length
        · rw [if_pos (by omega), if_pos h3]; congr 1; omega
        · rw [if_neg (by omega), if_neg h3]
    · simp only [h1, if_false]
      rw [if_neg (by omega), if_neg (by omega)]
  have hown' : ownsAt (w.setRow bk nv) tu u.size (.slice (some ⟨bk, p0, none⟩) l.length c) l.length (xs.take (i * u.size + off) ++ (a.eval y).cells.toList ++ xs.drop (i * u.size + off + (a.eval y).cells.toList.length)) :=
    ⟨by rw [hrow'.1]; simp, .inr ⟨bk, p0, c, nv, rfl, setRow_heap w bk cur nv tu _ hheap, hnc, hcm, by rw [hnl]; exact hcs, hxs'⟩⟩
  have hgr := setRow_grown w bk nv
  have hbk : ∀ ad : Addr, ad.block = bk → M1 ad = none := fun ad h => (hm bk rfl).1 rfl ad h
  have hsub : ∀ (ad : Addr) (q : Value), M1 ad = some q → (w.setRow bk nv).cell? ad = some q := by
    intro ad q h
    rw [cell_setRow_other]
    · exact i1.sub _ _ h
    · intro e; rw [hbk ad e] at h; cases h
  have hgood : Good w M1 G (fzU H s ++ H) base n (.sv (.one .junk)) [(b, .arr tu u (l.set i z) true)] undef (w.setRow bk nv) := by
    refine ⟨M1, G, trivial, i1.put b _ hgr (MLe.refl _) (GLe.refl _) (fun _ _ h => .inl h) hsub ?_ ?_ ?_ (fun b1 h => by cases h; exact i1.zsep b _ _ hb trivial (by rw [blk_of hg]; rfl)), Step.put i1 hgr (MLe.refl _) (GLe.refl _) (fun _ _ h => .inl h) ?_ ?_, fun _ _ => rfl⟩
    · intro k' c' b1 hne hk' hl' e
      cases e
      exact i1.sep b k' _ c' bk hb hk' trivial hl' (fun q => hne q.symm) (by rw [blk_of hg]; rfl)
    · refine ⟨_, _, hg, by simpa using hown', hrow', fun b1 h => ⟨fun _ ad ha => ?_, fun h => by cases h⟩⟩
      cases h; exact hbk ad ha
    · intro b1 _ h; rw [blk_of hg] at h; cases h; exact .inr rfl
    · intro b1 h; cases h; exact ⟨b, _, hb, trivial, by rw [blk_of hg]; rfl⟩
    · intro b1 _ h; rw [blk_of hg] at h; cases h; exact .inr rfl
  refine Runs.skip (w' := w.setRow bk nv) ?_ (Good.after s1 hgood)
  simp [execOp, ho, hp, Instr.storeAt, Instr.sureAddr, hrun]

/-! ### the rest of a row -/
theorem RowV.drop {u : U} {xs : List Value} {l : List (El u)} (h : RowV M u xs l) {i : Nat} (hi : i ≤ l.length) : RowV M u (xs.drop (i * u.size)) (l.drop i) := by
  have hl := h.1
  have hle := Nat.mul_le_mul_right u.size hi
  refine ⟨by simp [hl, Nat.sub_mul], fun j hj => ?_⟩
  have hj' : i + j < l.length := by simp at hj; omega
  have := h.2 (i + j) hj'
  rw [List.drop_drop, ← Nat.add_mul, List.getElem_drop]
  exact this

theorem slice_own (hT : TOK P T) (hI : Inv w M G H) {t : TypeId} {x : Operand} {lo : Option Operand} (ho : o.op = .slice t x lo none none) {te : TypeId} {u : U} {de : TD} (h : elemOfT T t = some (te, u, de)) {b : Nat} (hx : LVR M G (a.eval x) (.own b))
    {te' : TypeId} {l : List (El u)} (hb : hget H b = some (.arr te' u l true)) {i : Int} (hlo : (lo = none ∧ i = 0) ∨ ∃ y kk, lo = some y ∧ a.eval y = .int kk i) (hbd : 0 ≤ i ∧ i ≤ (l.length : Int)) (hf : G base = none) :
    Runs P a o w (Good w M G H base 1 (.sv (.one (.own base))) [(base, .arr te' u (l.drop i.toNat) true), (b, .dead)]) := by
  obtain ⟨d, hd, hdesc, hte, hu, hund, hsz, h0⟩ := elemOfT_sound hT h
  have hs := sizeOf_run (w := w) hT hte
  obtain ⟨v0, xs, hg, hown, hrow, hm⟩ := hI.cells _ _ hb
  have hev : a.eval x = v0 := by have := hx.1; rw [hg] at this; cases this; rfl
  obtain ⟨i', rfl⟩ : ∃ m : Nat, i = m := ⟨i.toNat, by omega⟩
  have hil : i' ≤ l.length := by omega
  -- the value
  obtain ⟨bo, c, hv, hlc⟩ : ∃ bo c, v0 = .slice bo l.length c ∧ l.length ≤ c := by
    rcases hown.2 with ⟨h1, h2⟩ | ⟨g, p, cap, cur, h1, h2, h3, _⟩
    · exact ⟨none, 0, by rw [h2]; exact h1, by omega⟩
    · exact ⟨_, _, h1, h3⟩
  let v' : Value := .slice (if c = i' then bo else bo.map (·.add (i' * u.size))) (l.length - i') (c - i')
  have hblk : blkV v' = blkV v0 := by
    simp only [v', hv]
    split
    · cases bo <;> rfl
    · cases bo with
      | none => rfl
      | some ad => simp [blkV, Addr.add]; split <;> rfl
  have hown' : ownsAt w te' u.size v' (l.drop i').length (xs.drop (i' * u.size)) := by
    have hx1 := hown.1
    refine ⟨by simp [hx1, Nat.sub_mul], ?_⟩
    rw [List.length_drop]
    rcases hown.2 with ⟨h1, h2⟩ | ⟨g, p, cap, cur, h1, h2, h3, h4, h5, h6⟩
    · rw [hv] at h1
      simp only [Value.slice.injEq] at h1
      obtain ⟨rfl, _, rfl⟩ := h1
      exact .inl ⟨by simp [v', h2], by omega⟩
    · rw [hv] at h1
      cases h1
      refine .inr ⟨g, if c = i' then p else p + i' * u.size, c - i', cur, ?_, h2, by omega, by omega, ?_, ?_⟩
      · simp only [v']
        split
        · rfl
        · simp [add_pt]
      · have := Nat.sub_mul c i' u.size
        have := Nat.mul_le_mul_right u.size (show i' ≤ c by omega)
        split
        · omega
        · omega
      · rw [← h6]
        split
        · have e0 : l.length - i' = 0 := by omega
          have e1 : i' = l.length := by omega
          rw [e0, e1]
          simp
        · rw [List.drop_take, List.drop_drop, Nat.sub_mul]
  refine Runs.value (w' := w) (val := v') ?_ ?_
  · rcases hlo with ⟨rfl, h1⟩ | ⟨y1, kk, rfl, hy⟩
    · obtain rfl : i' = 0 := by omega
      simp [execOp, ho, hev, hv, Instr.sliceAt, run_underlying hund, Instr.slice, Instr.sliceBounds, hs, v', hsz]
    · simp [execOp, ho, hev, hv, hy, Instr.sliceAt, run_underlying hund, Instr.slice, Instr.sliceBounds, Instr.sliceBound, asIntOf, hs, hsz, v', show i' ≤ l.length from by omega]
  · let G' : Gh := fun j => if j = base then some v' else G j
    have hG : GLe G G' := up_ghost G base _ hf
    have hgb : G' base = some v' := by simp [G']
    have hgr := grownBy_refl w (blkV v0)
    have hoth : ∀ k' c' bb, k' ≠ base → hget ((b, HC.dead) :: H) k' = some c' → c'.live → blkV v0 = some bb → blk G k' ≠ some bb := by
      intro k' c' bb _ hk' hl hr
      rw [hget_cons] at hk'
      split at hk'
      · cases hk'; exact hl.elim
      · rename_i hne
        exact hI.sep b k' _ c' bb hb hk' trivial hl hne (by rw [blk_of hg]; exact hr)
    have hbb : ∀ bb, (HC.arr te' u (l.drop i') true).live → blk G' base = some bb → w.heap.size ≤ bb ∨ blkV v0 = some bb := by
      intro bb _ h
      rw [blk_of hgb, hblk] at h
      exact .inr h
    have hwk : ∀ k c, hget ((base, HC.arr te' u (l.drop i') true) :: (b, HC.dead) :: H) k = some c → c.live → hget ((base, HC.arr te' u (l.drop i') true) :: H) k = some c := by
      intro k c h hl
      rw [hget_cons] at h ⊢
      split at h
      · rename_i q; rw [if_pos q]; exact h
      · rename_i q
        rw [if_neg q]
        rw [hget_cons] at h
        split at h
        · cases h; exact hl.elim
        · exact h
    refine ⟨M, G', ⟨hgb, ownsAt_slice hown'⟩, (hI.die b).put base _ hgr (MLe.refl _) hG (fun _ _ h => .inl h) hI.sub hoth ?_ hbb (fun bb h => hI.zsep b _ bb hb trivial (by rw [blk_of hg]; exact h)), (Step.put hI hgr (MLe.refl _) hG (fun _ _ h => .inl h) (fun bb h => ⟨b, _, hb, trivial, by rw [blk_of hg]; exact h⟩) hbb).weaken hwk, ?_⟩
    · exact ⟨v', xs.drop (i' * u.size), hgb, hown', hrow.drop hil, fun bb h => ⟨fun _ => (hm bb (by rw [← hblk]; exact h)).1 rfl, fun h => by cases h⟩⟩
    · intro j hj
      have : j ≠ base := by omega
      simp [G', this]

/-! ### closures -/
theorem caps_sound (he : ∀ x, AVR M G (a.eval x) (e x)) : ∀ (xs : List Operand) (l : List Nat), capKeys e xs = some l → capsR G (xs.map a.eval) l
  | [], l, h => by simp [capKeys] at h; subst h; trivial
  | x :: xs, l, h => by
    simp only [capKeys] at h
    split at h
    · rename_i b l' hx hl
      cases h
      have := he x
      rw [hx] at this
      obtain ⟨bk, hg, hp⟩ := this
      exact ⟨⟨bk, hp, by rw [hp]; exact hg⟩, caps_sound he xs l' hl⟩
    · cases h

theorem makeFunc_sound (hI : Inv w M G H) (he : ∀ x, AVR M G (a.eval x) (e x)) {f : Nat} {first captured : Array Operand} (ho : o.op = .makeFunc (.func f) first captured) (hf : first.size = 0) {l : List Nat}
    (hl : capKeys e captured.toList = some l) : Runs P a o w (Good w M G H base n (.sv (.one (.fn f l))) []) := by
  have h0 : first = #[] := Array.eq_empty_of_size_eq_zero hf
  subst h0
  refine Runs.value (w' := w) (val := .func (.func f) #[] (captured.map a.eval)) ?_ (Good.plain hI ⟨_, rfl, ?_⟩)
  · simp [execOp, ho, Instr.makeFunc]
  · simpa using caps_sound he captured.toList l hl

/-! ### bytes -/
theorem row_bytes {xs : List Value} {l : List Int} (h : RowV M (.int .u8) xs l) : xs = l.map (Value.int .u8) := by
  have h1 := h.1
  simp only [U.size, Nat.mul_one] at h1
  apply List.ext_getElem
  · simpa using h1
  · intro i hi hi'
    have hil : i < l.length := by simpa using hi'
    have h2 := h.2 i hil
    simp only [U.size, Nat.mul_one, DV] at h2
    rw [List.drop_eq_getElem_cons hi, List.take_succ_cons, List.take_zero, List.cons.injEq] at h2
    simpa using h2.1

theorem push_bytes (l : List Int) : ∀ r : ByteArray, (l.foldl (fun r n => r.push (UInt8.ofNat n.toNat)) r) = ⟨r.data ++ (l.map fun n => UInt8.ofNat n.toNat).toArray⟩ := by
  induction l with
  | nil => intro r; simp
  | cons x l ih =>
    intro r
    simp only [List.foldl_cons]
    rw [ih]
    simp [ByteArray.push]

theorem convert_bytes (hT : TOK P T) (hI : Inv w M G H) {s t : TypeId} {x : Operand} (ho : o.op = .convert s t x) {ds dt : TD} (hs : T s = some ds) (ht : T t = some dt) {te : TypeId} (h1 : ds.desc = .slice te) (h2 : dt.desc = .string) (h8 : isU8 T te = true)
    {y : LV} (hx : LVR M G (a.eval x) y) {l : List Int} (hl : peekL H (.int .u8) y = some l) : Runs P a o w (Good w M G H base n (.sv (.one (.val (.string (strOfBytes l))))) []) := by
  have u1 := (hT s ds hs).und
  have u2 := (hT t dt ht).und
  rw [h1] at u1
  rw [h2] at u2
  have u3 : P.underlying te = some (.int .u8) := by
    unfold isU8 at h8
    split at h8
    · rename_i d hd
      split at h8
      · rename_i hdd; rw [(hT te d hd).und, hdd]
      · cases h8
    · cases h8
  obtain ⟨b, c, xs, hv, hlc, hnone, hat, hrow⟩ := peekL_row hI hl hx
  have hxs := row_bytes hrow
  refine Runs.value (w' := w) (val := .string (strOfBytes l)) ?_ (Good.plain hI ⟨rfl, rfl⟩)
  have hc := run_convert_bytes_string (P := P) w s t te b l.length c u1 u3 u2
  have hb : (Conv.bytesToString (.slice b l.length c)).run P w = .ok (.string (strOfBytes l)) w := by
    cases b with
    | none =>
      obtain ⟨rfl, _⟩ := hnone rfl
      simp [Conv.bytesToString, strOfBytes]
      rfl
    | some ad =>
      have h3 := run_loadCells_list (P := P) w ad xs (hat ad rfl)
      rw [hxs] at h3
      rw [run_bytesToString w ad l.length c l (by simpa using h3), push_bytes]
      simp [strOfBytes]
  simp only [execOp, ho, hv]
  rw [Sem.run_bind, hc, hb]
  rfl

/-! ### the lesser, the greater -/
theorem min_sound (hI : Inv w M G H) {x y : Operand} {ts : Array TypeId} (ho : o.op = .call { callee := .builtin .min, args := #[x, y], argTypes := ts }) {kk : IntKind} {p q : Int} (hx : a.eval x = .int kk p) (hy : a.eval y = .int kk q) :
    Runs P a o w (Good w M G H base n (.sv (.one (.val (.int kk (if q < p then q else p))))) []) :=
  Runs.value (w' := w) (by simp [execOp, ho, resolve, invoke, builtin, Builtin.min_, Builtin.min2, hx, hy]) (Good.plain hI ⟨rfl, rfl⟩)

theorem max_sound (hI : Inv w M G H) {x y : Operand} {ts : Array TypeId} (ho : o.op = .call { callee := .builtin .max, args := #[x, y], argTypes := ts }) {kk : IntKind} {p q : Int} (hx : a.eval x = .int kk p) (hy : a.eval y = .int kk q) :
    Runs P a o w (Good w M G H base n (.sv (.one (.val (.int kk (if p < q then q else p))))) []) :=
  Runs.value (w' := w) (by simp [execOp, ho, resolve, invoke, builtin, Builtin.max_, Builtin.max2, hx, hy]) (Good.plain hI ⟨rfl, rfl⟩)

/-! ### constants -/
theorem constLV_sound (v : Value) : LVR M G v (constLV v) := by
  unfold constLV
  split
  · rename_i f first caps
    split
    · rename_i h
      have h1 : first = #[] := Array.eq_empty_of_size_eq_zero h.1
      have h2 : caps = #[] := Array.eq_empty_of_size_eq_zero h.2
      subst h1; subst h2
      exact ⟨#[], rfl, trivial⟩
    · trivial
  · split
    · rename_i h; exact ⟨rfl, h⟩
    · trivial

theorem constAV_sound (v : Value) : AVR M G v (constAV v) := by
  unfold constAV
  split
  · rename_i cs
    refine ⟨cs, rfl, ?_⟩
    generalize cs.toList = l
    induction l with
    | nil => trivial
    | cons x xs ih => exact ⟨constLV_sound x, ih⟩
  · exact constLV_sound v

/-- The slots stand for the frame's. -/
def Slots (M : Mem) (G : Gh) (a : Act) (sl : List (Nat × AV)) : Prop := ∀ t, AVR M G (a.tmps.getD t undef) (sget sl t)

theorem ev_sound {st : St} (h : Slots M G a st.slots) (x : Operand) : AVR M G (a.eval x) (ev st x) := by
  cases x with
  | tmp t => exact h t
  | const v => exact constAV_sound v
  | func f => exact ⟨#[], rfl, trivial⟩
  | global g => trivial

end
end Go.AM
end

section
/-
AM: a state is matched with a shape: what it then stands for, its keys numbered anew. No condition.
-/
namespace Go.AM
open Go
variable [Inhabited ZMem]

def Gk (G : Gh) (κ : List KB) : Gh := fun j => match κ[j]? with
  | some (some k) => G k
  | some none => some (.slice none 0 0)
  | none => none

def KOK (G : Gh) (κ : List KB) : Prop := ∀ (i k : Nat), κ[i]? = some (some k) → ∃ v, G k = some v

/-- Variables stay; rows may not be written any more. -/
def Pers (H H' : HL) : Prop := ∀ k, match hget H k with
  | some (.arr t u l s) => ∃ s', hget H' k = some (.arr t u l s') ∧ (s = false → s' = false)
  | c => hget H' k = c

theorem Pers.refl (H : HL) : Pers H H := fun k => by
  cases e : hget H k with
  | none => simp
  | some c => cases c <;> simp

theorem Pers.trans {H H1 H2 : HL} (h : Pers H H1) (g : Pers H1 H2) : Pers H H2 := fun k => by
  have h1 := h k
  have g1 := g k
  cases e : hget H k with
  | none => rw [e] at h1; simp only at h1; rw [h1] at g1; exact g1
  | some c =>
    rw [e] at h1
    cases c with
    | arr t u l s =>
      obtain ⟨s', h2, h3⟩ := h1
      rw [h2] at g1
      obtain ⟨s'', g2, g3⟩ := g1
      exact ⟨s'', g2, fun q => g3 (h3 q)⟩
    | _ => simp only at h1; rw [h1] at g1; exact g1

theorem Pers.cons {H H1 : HL} (h : Pers H H1) {k : Nat} {t : TypeId} {u : U} {l : List (El u)} {s : Bool} (hk : hget H k = some (.arr t u l s)) : Pers H ((k, .arr t u l false) :: H1) := fun j => by
  have h1 := h j
  by_cases e : k = j
  · subst e
    rw [hk]
    exact ⟨false, by simp [hget], fun _ => rfl⟩
  · cases q : hget H j with
    | none => rw [q] at h1; simpa [hget, e] using h1
    | some c =>
      rw [q] at h1
      cases c with
      | arr t' u' l' s' => simpa [hget, e] using h1
      | _ => simpa [hget, e] using h1

theorem fzU_pers (H : HL) : ∀ cs : List LV, Pers H (fzU H cs ++ H)
  | [] => Pers.refl H
  | c :: cs => by
    have ih := fzU_pers H cs
    cases c with
    | own j =>
      cases hj : hget H j with
      | none => simpa [fzU, hj] using ih
      | some d =>
        cases d with
        | dead => simpa [fzU, hj] using ih
        | box _ _ => simpa [fzU, hj] using ih
        | arr t' u' l' s' =>
          cases s' with
          | false => simpa [fzU, hj] using ih
          | true => simpa [fzU, hj] using ih.cons hj
    | _ => simpa [fzU] using ih

structure MGo (w : World) (G : Gh) (m : MS) (M : Mem) (m' : MS) (M' : Mem) : Prop where
  hH : m'.H = m.H
  inv : Inv w M' G m'.h
  step : Step w M G m.h w M' G m'.h
  pers : Pers m.h m'.h
  pre : m.κ <+: m'.κ
  kok : KOK G m.κ → KOK G m'.κ

section
variable {w : World} {M M' M2 : Mem} {G : Gh} {m m' m2 : MS}

theorem MGo.refl (hI : Inv w M G m.h) : MGo w G m M m M := ⟨rfl, hI, Step.refl _ _ _ _, Pers.refl _, List.prefix_rfl, id⟩
theorem MGo.trans (h : MGo w G m M m' M') (g : MGo w G m' M' m2 M2) : MGo w G m M m2 M2 :=
  ⟨g.hH.trans h.hH, g.inv, h.step.trans g.step, h.pers.trans g.pers, h.pre.trans g.pre, fun k => g.kok (h.kok k)⟩

theorem prefix_get {α : Type} {l l' : List α} (h : l <+: l') {i : Nat} {x : α} (hi : l[i]? = some x) : l'[i]? = some x := by
  obtain ⟨r, rfl⟩ := h
  have := (List.getElem?_eq_some_iff.1 hi).1
  rw [List.getElem?_append_left this]
  exact hi

theorem Gk_pre {κ κ' : List KB} (h : κ <+: κ') : GLe (Gk G κ) (Gk G κ') := by
  intro j q hq
  unfold Gk at hq ⊢
  cases e : κ[j]? with
  | none => rw [e] at hq; cases hq
  | some kb => rw [prefix_get h e]; rw [e] at hq; exact hq

theorem MGo.gk (h : MGo w G m M m' M') : GLe (Gk G m.κ) (Gk G m'.κ) := Gk_pre h.pre

/-- Rows are frozen. -/
theorem MGo.fz (hI : Inv w M G m.h) (cs : List LV) : ∃ M', MGo w G m M { m with u := fzU m.h cs ++ m.u } M' := by
  obtain ⟨M', i, s⟩ := fzU_sound hI cs
  have e : (MS.h { m with u := fzU m.h cs ++ m.u }) = fzU m.h cs ++ m.h := by simp [MS.h, List.append_assoc]
  exact ⟨M', rfl, by rw [e]; exact i, by rw [e]; exact s, by rw [e]; exact fzU_pers _ _, List.prefix_rfl, id⟩

theorem bindKey_sound (hI : Inv w M G m.h) {j : Nat} {kb : KB} (h : bindKey m j kb = some m') (hk : ∀ k, kb = some k → ∃ v, G k = some v) : MGo w G m M m' M ∧ m'.κ[j]? = some kb := by
  unfold bindKey at h
  split at h
  · split at h
    · rename_i x a b hx
      split at h
      · rename_i hab
        cases h; subst hab
        exact ⟨MGo.refl hI, hx⟩
      · cases h
    · rename_i x hx
      cases h
      exact ⟨MGo.refl hI, hx⟩
    · cases h
  · split at h
    · rename_i hj
      subst hj
      cases h
      refine ⟨⟨rfl, hI, Step.refl _ _ _ _, Pers.refl _, List.prefix_append _ _, fun q => fun i k' hi => ?_⟩, by simp⟩
      rw [List.getElem?_append] at hi
      split at hi
      · exact q i k' hi
      · have : i - m.κ.length = 0 := by
          rcases Nat.eq_zero_or_pos (i - m.κ.length) with h | h
          · exact h
          · rw [List.getElem?_eq_none (by simp; omega)] at hi; cases hi
        rw [this] at hi
        simp only [List.getElem?_cons_zero, Option.some.injEq] at hi
        exact hk k' hi
    · cases h

theorem bindCaps_sound : ∀ (js ks : List Nat) (m m' : MS) (vs : List Value), Inv w M G m.h → bindCaps m js ks = some m' → capsR G vs ks → MGo w G m M m' M ∧ capsR (Gk G m'.κ) vs js
  | [], [], m, m', [], hI, h, _ => by simp [bindCaps] at h; subst h; exact ⟨MGo.refl hI, trivial⟩
  | j :: js, k :: ks, m, m', v :: vs, hI, h, hc => by
    simp only [bindCaps] at h
    split at h
    · rename_i m1 h1
      obtain ⟨⟨b, rfl, hg⟩, hc2⟩ := hc
      obtain ⟨g1, e1⟩ := bindKey_sound hI h1 (fun k' e => by cases e; exact ⟨_, hg⟩)
      obtain ⟨g2, c2⟩ := bindCaps_sound js ks m1 m' vs g1.inv h hc2
      refine ⟨g1.trans g2, ⟨b, rfl, ?_⟩, c2⟩
      have := prefix_get g2.pre e1
      simp [Gk, this, hg]
    · cases h
  | [], _ :: _, _, _, _, _, h, _ => by simp [bindCaps] at h
  | _ :: _, [], _, _, _, _, h, _ => by simp [bindCaps] at h
  | _ :: _, _ :: _, _, _, [], _, _, hc => hc.elim
  | [], [], _, _, _ :: _, _, _, hc => hc.elim

theorem Gk_some {κ : List KB} {j k : Nat} (h : κ[j]? = some (some k)) : Gk G κ j = G k := by simp [Gk, h]
theorem Gk_none {κ : List KB} {j : Nat} (h : κ[j]? = some none) : Gk G κ j = some (.slice none 0 0) := by simp [Gk, h]

theorem matchL_sound (sh : LSh) (x : LV) (y : sh.Ty) (hI : Inv w M G m.h) (h : matchL sh x m = some (y, m')) {v : Value} (hv : LVR M G v x) : ∃ M', MGo w G m M m' M' ∧ LVR M' (Gk G m'.κ) v (encL id sh y) := by
  unfold matchL at h
  split at h
  · split at h
    · rename_i hk
      cases h; subst hk
      exact ⟨M, MGo.refl hI, hv⟩
    · cases h
  · cases h
    exact ⟨M, MGo.refl hI, hv⟩
  · cases h
    exact ⟨M, MGo.refl hI, hv⟩
  · split at h
    · rename_i e l hl
      cases h
      obtain ⟨M', g⟩ := MGo.fz hI [x]
      have e1 : (MS.h { m with u := fzU m.h [x] ++ m.u }) = fzU m.h [x] ++ m.h := by simp [MS.h, List.append_assoc]
      refine ⟨M', g, ?_⟩
      have hi := g.inv
      rw [e1] at hi
      exact getL_sound hi hl (hv.ext g.step.mle (GLe.refl _))
    · cases h
  · rename_i j k
    split at h
    · rename_i m1 h1
      cases h
      obtain ⟨g, e⟩ := bindKey_sound hI h1 (fun k' q => by cases q; exact ⟨_, hv.1⟩)
      exact ⟨M, g, by show Gk G m'.κ j = _; rw [Gk_some e]; exact hv.1, hv.2⟩
    · cases h
  · rename_i j
    split at h
    · rename_i m1 h1
      cases h
      obtain ⟨g, e⟩ := bindKey_sound hI h1 (fun k' q => by cases q)
      obtain ⟨rfl, _⟩ := hv
      exact ⟨M, g, by show Gk G m'.κ j = _; rw [Gk_none e], _, _, _, rfl⟩
    · cases h
  · rename_i j off k off'
    split at h
    · rename_i ho
      subst ho
      split at h
      · rename_i m1 h1
        cases h
        obtain ⟨b, hg, e2⟩ := hv
        obtain ⟨g, e⟩ := bindKey_sound hI h1 (fun k' q => by cases q; exact ⟨_, hg⟩)
        exact ⟨M, g, b, by show Gk G m'.κ j = _; rw [Gk_some e]; exact hg, e2⟩
      · cases h
    · cases h
  · rename_i f js f' ks
    split at h
    · rename_i hf
      subst hf
      split at h
      · rename_i m1 h1
        cases h
        obtain ⟨vs, e, hc⟩ := hv
        obtain ⟨g, c⟩ := bindCaps_sound js ks m m' vs.toList hI h1 hc
        exact ⟨M, g, vs, e, by simpa using c⟩
      · cases h
    · cases h
  · rename_i j k
    split at h
    · rename_i m1 h1
      cases h
      obtain ⟨b, hg, e2⟩ := hv
      obtain ⟨g, e⟩ := bindKey_sound hI h1 (fun k' q => by cases q; exact ⟨_, hg⟩)
      exact ⟨M, g, b, by show Gk G m'.κ j = _; rw [Gk_some e]; exact hg, e2⟩
    · cases h
  · rename_i j k
    split at h
    · rename_i m1 h1
      cases h
      obtain ⟨b, hg, e2⟩ := hv
      obtain ⟨g, e⟩ := bindKey_sound hI h1 (fun k' q => by cases q; exact ⟨_, hg⟩)
      exact ⟨M, g, b, by show Gk G m'.κ j = _; rw [Gk_some e]; exact hg, .inr e2⟩
    · cases h
  · rename_i j
    split at h
    · rename_i k hk
      split at h
      · rename_i cs hc
        cases h
        obtain ⟨b, vs, h1, _⟩ := hI.cells _ _ hc
        exact ⟨M, MGo.refl hI, b, by show Gk G m.κ j = _; rw [Gk_some hk]; exact h1, .inl hv.1⟩
      · cases h
    · cases h
  · cases h
    exact ⟨M, MGo.refl hI, hv⟩
  · cases h
    exact ⟨M, MGo.refl hI, trivial⟩
  · cases h

theorem matchLs_sound : ∀ (sh : List LSh) (xs : List LV) (y : TyL sh) (m m' : MS) (M : Mem), Inv w M G m.h → matchLs sh xs m = some (y, m') → ∀ {vs : List Value}, CR M G vs xs → ∃ M', MGo w G m M m' M' ∧ CR M' (Gk G m'.κ) vs (encLs id sh y)
  | [], [], y, m, m', M, hI, h, [], _ => by simp [matchLs] at h; subst h; exact ⟨M, MGo.refl hI, trivial⟩
  | s :: ss, x :: xs, y, m, m', M, hI, h, v :: vs, hv => by
    simp only [matchLs] at h
    split at h
    · rename_i a m1 h1
      split at h
      · rename_i b m2 h2
        cases h
        obtain ⟨M1, g1, l1⟩ := matchL_sound s x a hI h1 hv.1
        obtain ⟨M2, g2, l2⟩ := matchLs_sound ss xs b m1 m' M1 g1.inv h2 (hv.2.ext g1.step.mle (GLe.refl _))
        exact ⟨M2, g1.trans g2, l1.ext g2.step.mle g2.gk, l2⟩
      · cases h
    · cases h
  | [], _ :: _, _, _, _, _, _, h, _, _ => by simp [matchLs] at h
  | _ :: _, [], _, _, _, _, _, h, _, _ => by simp [matchLs] at h
  | _ :: _, _ :: _, _, _, _, _, _, _, [], hv => hv.elim
  | [], [], _, _, _, _, _, _, _ :: _, hv => hv.elim

theorem matchR_sound (u : U) (cs : List LV) (y : El u) (hI : Inv w M G m.h) (h : matchR u cs m = some (y, m')) {vs : List Value} (hv : CR M G vs cs) : ∃ M', MGo w G m M m' M' ∧ DV M' u vs y := by
  unfold matchR at h
  split at h
  · rename_i x hx
    cases h
    obtain ⟨M', g⟩ := MGo.fz hI cs
    have e1 : (MS.h { m with u := fzU m.h cs ++ m.u }) = fzU m.h cs ++ m.h := by simp [MS.h, List.append_assoc]
    have hi := g.inv
    rw [e1] at hi
    obtain ⟨d, c⟩ := unflat_sound hi u cs y [] vs hx (hv.ext g.step.mle (GLe.refl _))
    refine ⟨M', g, ?_⟩
    have hl := c.len
    simp only [List.length_drop, List.length_nil] at hl
    rwa [List.take_of_length_le (by omega)] at d
  · cases h

theorem matchS_sound (sh : SSh) (x : SV) (y : sh.Ty) (hI : Inv w M G m.h) (h : matchS sh x m = some (y, m')) {v : Value} (hv : SVR M G v x) : ∃ M', MGo w G m M m' M' ∧ SVR M' (Gk G m'.κ) v (encS id sh y) := by
  unfold matchS at h
  split at h
  · exact matchL_sound _ _ _ hI h hv
  · cases h
    exact ⟨M, MGo.refl hI, trivial⟩
  · obtain ⟨vs, e, c⟩ := hv
    obtain ⟨M', g, d⟩ := matchR_sound _ _ _ hI h c
    exact ⟨M', g, vs, e, d.cr _⟩
  · obtain ⟨vs, e, c⟩ := hv
    obtain ⟨M', g, d⟩ := matchLs_sound _ _ _ _ _ _ hI h c
    exact ⟨M', g, vs, e, d⟩
  · cases h

theorem matchSs_sound : ∀ (sh : List SSh) (xs : List SV) (y : TyS sh) (m m' : MS) (M : Mem), Inv w M G m.h → matchSs sh xs m = some (y, m') → ∀ {vs : List Value}, SVRs M G vs xs → ∃ M', MGo w G m M m' M' ∧ SVRs M' (Gk G m'.κ) vs (encSs id sh y)
  | [], [], y, m, m', M, hI, h, [], _ => by simp [matchSs] at h; subst h; exact ⟨M, MGo.refl hI, trivial⟩
  | s :: ss, x :: xs, y, m, m', M, hI, h, v :: vs, hv => by
    simp only [matchSs] at h
    split at h
    · rename_i a m1 h1
      split at h
      · rename_i b m2 h2
        cases h
        obtain ⟨M1, g1, l1⟩ := matchS_sound s x a hI h1 hv.1
        obtain ⟨M2, g2, l2⟩ := matchSs_sound ss xs b m1 m' M1 g1.inv h2 (hv.2.ext g1.step.mle (GLe.refl _))
        exact ⟨M2, g1.trans g2, l1.ext g2.step.mle g2.gk, l2⟩
      · cases h
    · cases h
  | [], _ :: _, _, _, _, _, _, h, _, _ => by simp [matchSs] at h
  | _ :: _, [], _, _, _, _, _, h, _, _ => by simp [matchSs] at h
  | _ :: _, _ :: _, _, _, _, _, _, _, [], hv => hv.elim
  | [], [], _, _, _, _, _, _, _ :: _, hv => hv.elim


/-- What is known of the cell that key j stands for, once it is matched. -/
def HCP (w : World) (M : Mem) (G : Gh) (κ : List KB) (h : HL) (j : Nat) : HC → Prop
  | .dead => True
  | .box t cs => ∃ (k b : Nat) (vs : Array Value) (cs0 : List LV), κ[j]? = some (some k) ∧ G k = some (.pointer (some ⟨b, 0, none⟩)) ∧ w.heap[b]? = some (.cells vs t (0, 0)) ∧ hget h k = some (.box t cs0) ∧ CR M (Gk G κ) vs.toList cs
  | .arr t u l s => (∃ k s0, κ[j]? = some (some k) ∧ hget h k = some (.arr t u l s0) ∧ (s = false → s0 = false)) ∨ (κ[j]? = some none ∧ l = [])

theorem HCP.go {j : Nat} {c : HC} (h : HCP w M G m.κ m.h j c) (g : MGo w G m M m' M') : HCP w M' G m'.κ m'.h j c := by
  cases c with
  | dead => trivial
  | box tb cs =>
    obtain ⟨k, b, vs, cs0, h1, h2, h3, h4, h5⟩ := h
    refine ⟨k, b, vs, cs0, prefix_get g.pre h1, h2, h3, ?_, h5.ext g.step.mle g.gk⟩
    have := g.pers k
    rw [h4] at this
    exact this
  | arr t u l s =>
    rcases h with ⟨k, s0, h1, h2, h3⟩ | ⟨h1, h2⟩
    · have := g.pers k
      rw [h2] at this
      obtain ⟨s', h4, h5⟩ := this
      exact .inl ⟨k, s', prefix_get g.pre h1, h4, fun q => h5 (h3 q)⟩
    · exact .inr ⟨prefix_get g.pre h1, h2⟩

theorem matchHC_sound (sh : HSh) (kb : KB) (y : sh.Ty) (j : Nat) (hI : Inv w M G m.h) (h : matchHC sh kb m = some (y, m')) (hj : m.κ[j]? = some kb) : ∃ M', MGo w G m M m' M' ∧ HCP w M' G m'.κ m'.h j (encHC id sh y) := by
  unfold matchHC at h
  split at h
  · cases h; exact ⟨M, MGo.refl hI, trivial⟩
  · rename_i tb l k
    split at h
    · rename_i tb' cs hk
      split at h
      · rename_i ht
        subst ht
        obtain ⟨b, vs, h1, h2, h3, _⟩ := hI.cells _ _ hk
        obtain ⟨M', g, c⟩ := matchLs_sound _ _ _ _ _ _ hI h h3
        have hp := g.pers k
        rw [hk] at hp
        exact ⟨M', g, k, b, vs, cs, prefix_get g.pre hj, h1, h2, hp, c⟩
      · cases h
    · cases h
  · rename_i tb u k
    split at h
    · rename_i tb' cs hk
      split at h
      · rename_i ht
        subst ht
        obtain ⟨b, vs, h1, h2, h3, _⟩ := hI.cells _ _ hk
        obtain ⟨M', g, c⟩ := matchR_sound _ _ _ hI h h3
        have hp := g.pers k
        rw [hk] at hp
        exact ⟨M', g, k, b, vs, cs, prefix_get g.pre hj, h1, h2, hp, c.cr _⟩
      · cases h
    · cases h
  · rename_i t e s k
    split at h
    · rename_i t' e' l s0 hk
      split at h
      · rename_i ht
        subst ht
        split at h
        · rename_i l' hl
          obtain ⟨rfl, rfl⟩ := castL_eq hl
          cases h
          cases s with
          | true =>
            refine ⟨M, ?_, .inl ⟨k, s0, hj, hk, fun q => by cases q⟩⟩
            exact MGo.refl hI
          | false =>
            obtain ⟨M', g⟩ := MGo.fz hI [.own k]
            refine ⟨M', g, .inl ⟨k, false, hj, ?_, fun _ => rfl⟩⟩
            cases s0 with
            | true => simp [MS.h, fzU] at hk ⊢; simp [hk, hget]
            | false => simp [MS.h, fzU] at hk ⊢; simp [hk]
        · cases h
      · cases h
    · cases h
  · cases h
    exact ⟨M, MGo.refl hI, .inr ⟨hj, rfl⟩⟩
  · cases h

theorem matchHs_sound : ∀ (sh : List HSh) (j : Nat) (y : TyH sh) (m m' : MS) (M : Mem), Inv w M G m.h → matchHs sh j m = some (y, m') → ∃ M', MGo w G m M m' M' ∧ (∀ i c, hget (encHs id j sh y) i = some c → HCP w M' G m'.κ m'.h i c) ∧ j + sh.length = m'.κ.length
  | [], j, y, m, m', M, hI, h => by
    simp only [matchHs] at h
    split at h
    · rename_i hj
      cases h
      exact ⟨M, MGo.refl hI, fun i c hi => by simp [encHs, hget] at hi, by simpa using hj⟩
    · cases h
  | s :: ss, j, y, m, m', M, hI, h => by
    simp only [matchHs] at h
    split at h
    · rename_i kb hkb
      split at h
      · rename_i a m1 h1
        split at h
        · rename_i b m2 h2
          cases h
          obtain ⟨M1, g1, p1⟩ := matchHC_sound s kb a j hI h1 hkb
          obtain ⟨M2, g2, p2, p3⟩ := matchHs_sound ss (j + 1) b m1 m' M1 g1.inv h2
          refine ⟨M2, g1.trans g2, fun i c hi => ?_, by simp; omega⟩
          simp only [encHs, hget_cons] at hi
          split at hi
          · rename_i e
            cases hi
            cases e
            exact p1.go g2
          · exact p2 i c hi
        · cases h
      · cases h
    · cases h

theorem encHs_keys (ρ : Nat → Nat) : ∀ (sh : List HSh) (j : Nat) (y : TyH sh) (k : Nat) (c : HC), hget (encHs ρ j sh y) k = some c → ∃ i s z, ρ (j + i) = k ∧ i < sh.length ∧ sh[i]? = some s ∧ c = encHC ρ s z
  | [], _, _, _, _, h => by simp [encHs, hget] at h
  | s :: ss, j, y, k, c, h => by
    simp only [encHs, hget_cons] at h
    split at h
    · rename_i e
      cases h
      exact ⟨0, s, y.1, e, by simp, by simp, rfl⟩
    · obtain ⟨i, s', z, h1, h2, h3, h4⟩ := encHs_keys ρ ss (j + 1) y.2 k c h
      exact ⟨i + 1, s', z, by rw [← h1]; congr 1; omega, by simp; omega, by simpa using h3, h4⟩

theorem stoOk_sound : ∀ (sh : List HSh) (κ : List KB) (H : HL) (j0 : Nat) (y : TyH sh), stoOk sh κ H = true → ∀ (i : Nat) (t : TypeId) (u : U) (l : List (El u)), hget (encHs id j0 sh y) i = some (.arr t u l true) → ∀ k, κ[i - j0]? = some (some k) → j0 ≤ i →
    ∃ t' u' l', hget H k = some (.arr t' u' l' true)
  | [], _, _, _, _, _, _, _, _, _, h, _, _, _ => by simp [encHs, hget] at h
  | s :: ss, [], H, j0, y, hs, i, t, u, l, h, k, hk, hj => by simp at hk
  | s :: ss, kb :: κ, H, j0, y, hs, i, t, u, l, h, k, hk, hj => by
    simp only [encHs, hget_cons, id] at h
    by_cases e : j0 = i
    · subst e
      rw [if_pos rfl] at h
      simp at hk
      subst hk
      cases s with
      | dead => simp [encHC] at h
      | box _ _ => simp [encHC] at h
      | boxr _ _ => simp [encHC] at h
      | arr t0 e0 s0 =>
        simp only [encHC, Option.some.injEq] at h
        have : s0 = true := by injection h
        subst this
        simp only [stoOk, Bool.and_eq_true] at hs
        have h1 := hs.1
        split at h1
        · rename_i t' u' l' hh; exact ⟨_, _, _, hh⟩
        · cases h1
    · rw [if_neg e] at h
      have hs2 : stoOk ss κ H = true := by
        cases s with
        | arr t0 e0 s0 =>
          cases s0 with
          | false => cases kb <;> exact hs
          | true =>
            cases kb with
            | none => exact hs
            | some kk => simp only [stoOk, Bool.and_eq_true] at hs; exact hs.2
        | _ => cases kb <;> exact hs
      have h2 : κ[i - (j0 + 1)]? = some (some k) := by
        have e2 : i - j0 = (i - (j0 + 1)) + 1 := by omega
        rw [e2] at hk
        simpa using hk
      exact stoOk_sound ss κ H (j0 + 1) y.2 hs2 i t u l h k h2 (by omega)

/-- The cell that key j stands for, at the end. -/
theorem HCP.hcr {j : Nat} {c : HC} (hI : Inv w M G m.h) (h : HCP w M G m.κ m.h j c) (hs : ∀ t u l, c = .arr t u l true → ∀ k, m.κ[j]? = some (some k) → ∃ t' u' l', hget m.h k = some (.arr t' u' l' true)) : HCR w M (Gk G m.κ) j c := by
  cases c with
  | dead => trivial
  | box tb cs =>
    obtain ⟨k, b, vs, cs0, h1, h2, h3, h4, h5⟩ := h
    obtain ⟨b', vs', g1, g2, _, g4⟩ := hI.cells _ _ h4
    rw [h2] at g1
    cases g1
    exact ⟨b, vs, by rw [Gk_some h1]; exact h2, h3, h5, g4⟩
  | arr t u l s =>
    rcases h with ⟨k, s0, h1, h2, h3⟩ | ⟨h1, h2⟩
    · have hss : s0 = s := by
        cases s with
        | false => exact h3 rfl
        | true =>
          obtain ⟨t', u', l', h4⟩ := hs t u l rfl k h1
          rw [h2] at h4
          simp only [Option.some.injEq] at h4
          injection h4
      subst hss
      obtain ⟨v, xs, g1, g2, g3, g4⟩ := hI.cells _ _ h2
      exact ⟨v, xs, by rw [Gk_some h1]; exact g1, g2, g3, g4⟩
    · subst h2
      exact ⟨.slice none 0 0, [], by rw [Gk_none h1], ownsAt_nil w t u.size, ⟨by simp, fun i hi => by simp at hi⟩, fun b hb => by cases hb⟩

/-- A live key of the numbered heap stands for a live key, or for nil. -/
theorem HCP.live {j : Nat} {c : HC} (h : HCP w M G m.κ m.h j c) (hl : c.live) : m.κ[j]? = some none ∨ ∃ k c', m.κ[j]? = some (some k) ∧ hget m.h k = some c' ∧ c'.live := by
  cases c with
  | dead => exact hl.elim
  | box tb cs => obtain ⟨k, b, vs, cs0, h1, _, _, h4, _⟩ := h; exact .inr ⟨k, _, h1, h4, trivial⟩
  | arr t u l s =>
    rcases h with ⟨k, s0, h1, h2, _⟩ | ⟨h1, _⟩
    · exact .inr ⟨k, _, h1, h2, trivial⟩
    · exact .inl h1

theorem mem_liveKeys : ∀ (sh : List HSh) (κ : List KB) (j k : Nat), κ[j]? = some (some k) → (∃ s, sh[j]? = some s ∧ s ≠ .dead) → k ∈ liveKeys sh κ
  | [], _, _, _, _, ⟨_, h, _⟩ => by simp at h
  | _ :: _, [], _, _, h, _ => by simp at h
  | s :: ss, kb :: κ, 0, k, h, ⟨s', h1, h2⟩ => by
    simp at h h1
    subst h
    subst h1
    cases s with
    | dead => exact absurd rfl h2
    | _ => simp [liveKeys]
  | s :: ss, kb :: κ, j + 1, k, h, ⟨s', h1, h2⟩ => by
    have ih := mem_liveKeys ss κ j k (by simpa using h) ⟨s', by simpa using h1, h2⟩
    cases s with
    | dead => exact ih
    | _ => cases kb <;> simp [liveKeys, ih]

theorem live_once : ∀ (sh : List HSh) (κ : List KB) (j j' k : Nat), nodupK (liveKeys sh κ) = true → κ[j]? = some (some k) → κ[j']? = some (some k) → (∃ s, sh[j]? = some s ∧ s ≠ .dead) → (∃ s, sh[j']? = some s ∧ s ≠ .dead) → j = j'
  | [], _, _, _, _, _, _, _, ⟨_, h, _⟩, _ => by simp at h
  | _ :: _, [], _, _, _, _, h, _, _, _ => by simp at h
  | s :: ss, kb :: κ, 0, 0, k, _, _, _, _, _ => rfl
  | s :: ss, kb :: κ, j + 1, j' + 1, k, hn, h, h', ⟨t, h1, h2⟩, ⟨t', h3, h4⟩ => by
    have hn' : nodupK (liveKeys ss κ) = true := by
      cases s with
      | dead => exact hn
      | _ =>
        cases kb with
        | none => exact hn
        | some q => simp only [liveKeys, nodupK, Bool.and_eq_true] at hn; exact hn.2
    rw [live_once ss κ j j' k hn' (by simpa using h) (by simpa using h') ⟨t, by simpa using h1, h2⟩ ⟨t', by simpa using h3, h4⟩]
  | s :: ss, kb :: κ, 0, j' + 1, k, hn, h, h', ⟨t, h1, h2⟩, ⟨t', h3, h4⟩ => by
    simp at h h1
    subst h
    subst h1
    have hm := mem_liveKeys ss κ j' k (by simpa using h') ⟨t', by simpa using h3, h4⟩
    cases s with
    | dead => exact absurd rfl h2
    | _ =>
      simp only [liveKeys, nodupK, Bool.and_eq_true] at hn
      have := List.all_eq_true.1 hn.1 k hm
      simp at this
  | s :: ss, kb :: κ, j + 1, 0, k, hn, h, h', ⟨t, h1, h2⟩, ⟨t', h3, h4⟩ => by
    simp at h' h3
    subst h'
    subst h3
    have hm := mem_liveKeys ss κ j k (by simpa using h) ⟨t, by simpa using h1, h2⟩
    cases s with
    | dead => exact absurd rfl h4
    | _ =>
      simp only [liveKeys, nodupK, Bool.and_eq_true] at hn
      have := List.all_eq_true.1 hn.1 k hm
      simp at this

theorem enc_live {sh : List HSh} {y : TyH sh} {j : Nat} {c : HC} (h : hget (encHs id 0 sh y) j = some c) (hl : c.live) : ∃ s, sh[j]? = some s ∧ s ≠ .dead := by
  obtain ⟨i, s, z, h1, _, h2, h3⟩ := encHs_keys id sh 0 y j c h
  have h1' : i = j := by simpa using h1
  subst h1'
  refine ⟨s, h2, fun e => ?_⟩
  subst e
  subst h3
  exact hl

structure Matched (w : World) (G : Gh) (m : MS) (M : Mem) (vs : List Value) (sh : Shape) (y : sh.Ty) (m' : MS) (M' : Mem) : Prop where
  go : MGo w G m M m' M'
  vals : SVRs M' (Gk G m'.κ) vs (encSs id sh.slots y.1)
  inv : Inv w M' (Gk G m'.κ) (encHs id 0 sh.heap y.2)
  len : sh.heap.length = m'.κ.length
  live : ∀ j c, hget (encHs id 0 sh.heap y.2) j = some c → c.live → m'.κ[j]? = some none ∨ ∃ k c', m'.κ[j]? = some (some k) ∧ hget m'.h k = some c' ∧ c'.live

theorem matchAll_sound {sh : Shape} {xs : List SV} {y : sh.Ty} (hI : Inv w M G m.h) (hk : KOK G m.κ) (h : matchAll sh xs m = some (y, m')) {vs : List Value} (hv : SVRs M G vs xs) : ∃ M', Matched w G m M vs sh y m' M' := by
  unfold matchAll at h
  split at h
  · rename_i a m1 h1
    split at h
    · rename_i b m2 h2
      split at h
      · rename_i hs
        simp only [Bool.and_eq_true] at hs
        obtain ⟨hs, hnd⟩ := hs
        cases h
        obtain ⟨M1, g1, v1⟩ := matchSs_sound _ _ _ _ _ _ hI h1 hv
        obtain ⟨M2, g2, p2, p3⟩ := matchHs_sound _ _ _ _ _ _ g1.inv h2
        have live := fun j c hj hl => (p2 j c hj).live hl
        have kok := (g1.trans g2).kok hk
        refine ⟨M2, g1.trans g2, v1.ext g2.step.mle g2.gk, ⟨g2.inv.sub, fun j c hj => (p2 j c hj).hcr g2.inv (fun t u l e k hk' => ?_), ?_, g2.inv.zone, fun j c bb hj hl e => ?_⟩, by simpa using p3, live⟩
        · subst e
          exact stoOk_sound sh.heap m'.κ m'.h 0 b hs j t u l hj k (by simpa using hk') (Nat.zero_le _)
        · intro j j' c c' bb hj hj' hl hl' hne e e'
          rcases live j c hj hl with h3 | ⟨k, d, h3, h4, h5⟩
          · rw [blk_of (Gk_none h3)] at e; cases e
          · rcases live j' c' hj' hl' with h6 | ⟨k', d', h6, h7, h8⟩
            · rw [blk_of (Gk_none h6)] at e'; cases e'
            · have e1 : blk G k = some bb := by rw [← e]; simp [blk, Gk_some h3]
              have e2 : blk G k' = some bb := by rw [← e']; simp [blk, Gk_some h6]
              refine g2.inv.sep k k' d d' bb h4 h7 h5 h8 (fun q => ?_) e1 e2
              subst q
              exact hne (live_once sh.heap m'.κ j j' k hnd h3 h6 (enc_live hj hl) (enc_live hj' hl'))
        · rcases live j c hj hl with h3 | ⟨k, d, h3, h4, h5⟩
          · rw [blk_of (Gk_none h3)] at e; cases e
          · exact g2.inv.zsep k d bb h4 h5 (by rw [← e]; simp [blk, Gk_some h3])
      · cases h
    · cases h
  · cases h

end
end Go.AM
end

section
/-
AM: calls: what a callee's contract says, told in the caller's keys. No condition.
-/
namespace Go.AM
open Go
variable [Inhabited ZMem]

/-- A call of a function, by its text or by the library's own form: it returns, and R. -/
def CallsR (P : Program) (f : FuncId) (args : Array Value) (w : World) (R : Value → World → Prop) : Prop :=
  (∃ v w', (callFunc f args).run P w = .ok (.value v) w' ∧ R v w') ∨
  ((callFunc f args).run P w = .ok (.enter f args) w ∧ Calls P f args w fun
    | .returned v, w' => R v w'
    | _, _ => False)

theorem CallsR.mono {P : Program} {f : FuncId} {args : Array Value} {w : World} {R R' : Value → World → Prop} (h : CallsR P f args w R) (hr : ∀ v w', R v w' → R' v w') : CallsR P f args w R' := by
  rcases h with ⟨v, w', h1, h2⟩ | ⟨h1, h2⟩
  · exact .inl ⟨v, w', h1, hr _ _ h2⟩
  · refine .inr ⟨h1, h2.mono fun e w' h => ?_⟩
    cases e with
    | returned v => exact hr _ _ h
    | panicked _ => exact h
    | outgrown => exact h

def Ret (w : World) (M : Mem) (G : Gh) (H : HL) (sr : Shape) (y : sr.Ty) (v : Value) (w' : World) : Prop :=
  ∃ M' G', AVR M' G' v (retAV (encSs id sr.slots y.1)) ∧ Inv w' M' G' (encHs id 0 sr.heap y.2) ∧ Step w M G H w' M' G' (encHs id 0 sr.heap y.2) ∧ ∀ j, sr.heap.length ≤ j → G' j = none

structure Contract (P : Program) (f : FuncId) (fc : FC) : Prop where
  len : fc.sa.heap.length ≤ fc.sr.heap.length
  calls : ∀ (w : World) (M : Mem) (G : Gh) (x : fc.sa.Ty) (vals : Array Value), Inv w M G (encHs id 0 fc.sa.heap x.2) → SVRs M G vals.toList (encSs id fc.sa.slots x.1) → (∀ j, fc.sa.heap.length ≤ j → G j = none) → (∀ j, j < fc.sa.heap.length → ∃ v, G j = some v) →
    ∀ y, fc.f x = some y → CallsR P f vals w (Ret w M G (encHs id 0 fc.sa.heap x.2) fc.sr y)

def COK (P : Program) (C : CT) : Prop := ∀ f fc, fc ∈ C f → Contract P f fc

/-! ### keys renamed -/
def Ren (ρ : Nat → Nat) (G' G2 : Gh) : Prop := ∀ i q, G' i = some q → G2 (ρ i) = some q

section
variable {ρ : Nat → Nat} {G' G2 : Gh} {M : Mem} (hr : Ren ρ G' G2)
include hr

theorem capsR_ren : ∀ {vs : List Value} {ks : List Nat}, capsR G' vs ks → capsR G2 vs (ks.map ρ)
  | [], [], _ => trivial
  | _ :: _, _ :: _, ⟨⟨b, e, g⟩, r⟩ => ⟨⟨b, e, hr _ _ g⟩, capsR_ren r⟩

theorem encL_ren (s : LSh) (z : s.Ty) {v : Value} (h : LVR M G' v (encL id s z)) : LVR M G2 v (encL ρ s z) := by
  cases s with
  | int k => exact h
  | bool => exact h
  | str => exact h
  | sl e => exact h
  | own j => exact ⟨hr _ _ h.1, h.2⟩
  | ptr j off => obtain ⟨b, g, e⟩ := h; exact ⟨b, hr _ _ g, e⟩
  | fn f js => obtain ⟨vs, e, c⟩ := h; exact ⟨vs, e, by simpa using capsR_ren hr c⟩
  | oself j => obtain ⟨b, g, e⟩ := h; exact ⟨b, hr _ _ g, e⟩
  | inil => exact h
  | junk => trivial

theorem encLs_ren : ∀ (sh : List LSh) (z : TyL sh) {vs : List Value}, CR M G' vs (encLs id sh z) → CR M G2 vs (encLs ρ sh z)
  | [], _, [], _ => trivial
  | s :: ss, z, v :: vs, h => ⟨encL_ren hr s z.1 h.1, encLs_ren ss z.2 h.2⟩
  | [], _, _ :: _, h => h.elim
  | _ :: _, _, [], h => h.elim

theorem flat_ren (u : U) (x : El u) {vs : List Value} (h : CR M G' vs (flat u x)) : CR M G2 vs (flat u x) := by
  have : ∀ (xs : List LV) (vs : List Value), (∀ y ∈ xs, keysL y = []) → CR M G' vs xs → CR M G2 vs xs := by
    intro xs
    induction xs with
    | nil => intro vs _ h; cases vs with
      | nil => trivial
      | cons _ _ => exact h.elim
    | cons y ys ih =>
      intro vs hk h
      cases vs with
      | nil => exact h.elim
      | cons v vs =>
        refine ⟨?_, ih vs (fun z hz => hk z (by simp [hz])) h.2⟩
        have h1 := hk y (by simp)
        have h2 := h.1
        cases y with
        | val x => exact h2
        | sl e l => exact h2
        | own k => simp [keysL] at h1
        | ptr k off => simp [keysL] at h1
        | rptr e x off => exact h2
        | eptr k i sz off => simp [keysL] at h1
        | fn f caps =>
          simp only [keysL] at h1
          subst h1
          obtain ⟨vs, e, c⟩ := h2
          exact ⟨vs, e, by simpa using capsR_ren hr c⟩
        | oself k => simp [keysL] at h1
        | junk => trivial
  refine this _ _ ?_ h
  have key : ∀ (u : U) (x : El u), ∀ y ∈ flat u x, keysL y = [] := by
    intro u
    induction u with
    | cons a b iha ihb =>
      intro x y hy
      simp only [flat, List.mem_append] at hy
      rcases hy with h | h
      · exact iha _ _ h
      · exact ihb _ _ h
    | nil => intro x y hy; simp [flat] at hy
    | _ => intro x y hy; simp [flat] at hy; subst hy; rfl
  exact key u x

theorem encS_ren (s : SSh) (z : s.Ty) {v : Value} (h : SVR M G' v (encS id s z)) : SVR M G2 v (encS ρ s z) := by
  cases s with
  | one x => exact encL_ren hr x z h
  | row u => obtain ⟨vs, e, c⟩ := h; exact ⟨vs, e, flat_ren hr u z c⟩
  | agg l => obtain ⟨vs, e, c⟩ := h; exact ⟨vs, e, encLs_ren hr l z c⟩

theorem encSs_ren : ∀ (sh : List SSh) (z : TyS sh) {vs : List Value}, SVRs M G' vs (encSs id sh z) → SVRs M G2 vs (encSs ρ sh z)
  | [], _, [], _ => trivial
  | s :: ss, z, v :: vs, h => ⟨encS_ren hr s z.1 h.1, encSs_ren ss z.2 h.2⟩
  | [], _, _ :: _, h => h.elim
  | _ :: _, _, [], h => h.elim

theorem ret_ren (sh : List SSh) (z : TyS sh) {v : Value} (h : AVR M G' v (retAV (encSs id sh z))) : AVR M G2 v (retAV (encSs ρ sh z)) := by
  match sh, z, h with
  | [], _, h => obtain ⟨vs, e, c⟩ := h; exact ⟨vs, e, encSs_ren hr [] _ c⟩
  | [s], z, h => exact encS_ren hr s z.1 h
  | s :: s2 :: ss, z, h => obtain ⟨vs, e, c⟩ := h; exact ⟨vs, e, encSs_ren hr (s :: s2 :: ss) z c⟩

theorem encHC_ren {w : World} {j : Nat} (s : HSh) (z : s.Ty) (h : HCR w M G' j (encHC id s z)) : HCR w M G2 (ρ j) (encHC ρ s z) := by
  cases s with
  | dead => trivial
  | box tb l =>
    obtain ⟨b, vs, h1, h2, h3, h4⟩ := h
    exact ⟨b, vs, hr _ _ h1, h2, encLs_ren hr l z h3, h4⟩
  | boxr tb u =>
    obtain ⟨b, vs, h1, h2, h3, h4⟩ := h
    exact ⟨b, vs, hr _ _ h1, h2, flat_ren hr u z h3, h4⟩
  | arr t e s =>
    obtain ⟨v, xs, h1, h2⟩ := h
    exact ⟨v, xs, hr _ _ h1, h2⟩
end

theorem encHC_live (ρ : Nat → Nat) (s : HSh) (z : s.Ty) : (encHC ρ s z).live → (encHC id s z).live := by
  cases s <;> exact fun h => h

theorem encHs_inv (ρ : Nat → Nat) : ∀ (sh : List HSh) (j0 : Nat) (y : TyH sh) (k : Nat) (c : HC), hget (encHs ρ j0 sh y) k = some c →
    ∃ (i : Nat) (s : HSh) (z : s.Ty), ρ (j0 + i) = k ∧ i < sh.length ∧ c = encHC ρ s z ∧ hget (encHs id j0 sh y) (j0 + i) = some (encHC id s z)
  | [], _, _, _, _, h => by simp [encHs, hget] at h
  | s :: ss, j0, y, k, c, h => by
    simp only [encHs, hget_cons] at h
    split at h
    · rename_i e
      cases h
      exact ⟨0, s, y.1, e, by simp, rfl, by simp [encHs, hget]⟩
    · obtain ⟨i, s', z, h1, h2, h3, h4⟩ := encHs_inv ρ ss (j0 + 1) y.2 k c h
      refine ⟨i + 1, s', z, by rw [← h1]; congr 1; omega, by simp; omega, h3, ?_⟩
      simp only [encHs, hget_cons, id]
      rw [if_neg (by omega), show j0 + (i + 1) = j0 + 1 + i by omega]
      exact h4

theorem encHs_none (ρ : Nat → Nat) : ∀ (sh : List HSh) (j0 : Nat) (y : TyH sh) (k : Nat), hget (encHs ρ j0 sh y) k = none → ∀ i, i < sh.length → ρ (j0 + i) ≠ k
  | [], _, _, _, _, i, hi => by simp at hi
  | s :: ss, j0, y, k, h, i, hi => by
    simp only [encHs, hget_cons] at h
    split at h
    · cases h
    · rename_i e
      cases i with
      | zero => exact e
      | succ i =>
        have := encHs_none ρ ss (j0 + 1) y.2 k h i (by simpa using hi)
        rwa [show j0 + 1 + i = j0 + (i + 1) by omega] at this

/-- A cell whose block is left alone. -/
theorem HCR.left {w w' : World} {M M' : Mem} {G G' : Gh} {k : Nat} {c : HC} (h : HCR w M G k c) (hl : c.live) (hm : MLe M M') (hG : GLe G G')
    (hb : ∀ b, blk G k = some b → w'.heap[b]? = w.heap[b]? ∧ ∀ (a : Addr) (q : Value), a.block = b → M' a = some q → M a = some q) : HCR w' M' G' k c := by
  cases c with
  | dead => exact hl.elim
  | box tb cs =>
    obtain ⟨b, vs, h1, h2, h3, h4⟩ := h
    obtain ⟨e1, e2⟩ := hb b (by rw [blk_of h1]; rfl)
    refine ⟨b, vs, hG _ _ h1, by rw [e1]; exact h2, h3.ext hm hG, fun a ha => ?_⟩
    cases e : M' a with
    | none => rfl
    | some q => have := e2 a q ha e; rw [h4 a ha] at this; cases this
  | arr t u l s =>
    obtain ⟨v, xs, h1, h2, h3, h4⟩ := h
    refine ⟨v, xs, hG _ _ h1, ?_, h3.mono hm, fun b e => ?_⟩
    · refine ⟨h2.1, ?_⟩
      rcases h2.2 with h5 | ⟨g, p0, cap, cur, h5, h7, h8⟩
      · exact .inl h5
      · obtain ⟨e1, _⟩ := hb g (by rw [blk_of h1, h5]; rfl)
        exact .inr ⟨g, p0, cap, cur, h5, by rw [e1]; exact h7, h8⟩
    · obtain ⟨_, e2⟩ := hb b (by rw [blk_of h1]; exact e)
      refine ⟨fun hs a ha => ?_, fun hs => ⟨((h4 b e).2 hs).1.mono hm, fun a q hq ha => ((h4 b e).2 hs).2 a q (e2 a q ha hq) ha⟩⟩
      cases e' : M' a with
      | none => rfl
      | some q => have := e2 a q ha e'; rw [(h4 b e).1 hs a ha] at this; cases this

section
variable {P : Program} {T : TT} {w : World} {M : Mem} {G : Gh} {H : HL} {R : Type} {C : CT} {base n : Nat} {e : Operand → AV} {a : Act} {k : AV → Upd → Option R} {r : R} {o : Oper}

theorem callK_sound {f : FuncId} : ∀ (fcs : List FC), (∀ fc ∈ fcs, Contract P f fc) → ∀ {args : List SV}, callK fcs args base H k = some r → Inv w M G H → ∀ {vals : Array Value}, SVRs M G vals.toList args →
    (∀ j, base ≤ j → j < base + 12 → G j = none) → ∃ v u, k v u = some r ∧ CallsR P f vals w (Good w M G H base 12 v u)
  | [], _, _, h, _, _, _, _ => by simp [callK] at h
  | fc :: fcs, hc, args, h, hI, vals, hv, hf => by
    simp only [callK] at h
    split at h
    · rename_i x m hm
      split at h
      · rename_i hn
        obtain ⟨M1, mt⟩ := matchAll_sound (m := ⟨H, [], []⟩) (M := M) hI (fun i k h => by simp at h) hm hv
        have hcc := hc fc (by simp)
        have kok : KOK G m.κ := mt.go.kok (fun i k h => by simp at h)
        have hH : m.H = H := mt.go.hH
        cases hf' : fc.f x with
        | none =>
          rw [hf'] at h
          exact callK_sound fcs (fun fc hfc => hc fc (by simp [hfc])) h hI hv hf
        | some y0 =>
        rw [hf'] at h
        obtain ⟨y, hy, hk⟩ : ∃ y, fc.f x = some y ∧ k (retAV (encSs (keyOf m.κ base) fc.sr.slots y.1)) (encHs (keyOf m.κ base) 0 fc.sr.heap y.2 ++ m.u) = some r := ⟨y0, hf', h⟩
        have hn := Nat.le_of_ble_eq_true hn
        have hcall := hcc.calls w M1 (Gk G m.κ) x vals mt.inv mt.vals (fun j hj => by
          have h1 := mt.len
          simp only [Gk]
          rw [List.getElem?_eq_none (by omega)]) (fun j hj => by
          have h1 := mt.len
          have h2 : j < m.κ.length := by omega
          cases h3 : m.κ[j]? with
          | none => rw [List.getElem?_eq_getElem h2] at h3; cases h3
          | some kb =>
            cases kb with
            | none => exact ⟨_, Gk_none h3⟩
            | some k => obtain ⟨v, hv⟩ := kok j k h3; exact ⟨v, by rw [Gk_some h3]; exact hv⟩) y hy
        refine ⟨_, _, hk, hcall.mono fun v w' hret => ?_⟩
        obtain ⟨M', G', hav, hinv, hst, hfr⟩ := hret
        let ρ := keyOf m.κ base
        let G2 : Gh := fun k => if base ≤ k ∧ k < base + 12 then (match m.κ[k - base]? with
          | some (some _) => none
          | _ => G' (k - base)) else G k
        have hNfresh : ∀ k v, G k = some v → G2 k = G k := by
          intro k v hk
          have : ¬ (base ≤ k ∧ k < base + 12) := fun q => by rw [hf k q.1 q.2] at hk; cases hk
          simp only [G2, if_neg this]
        have gle : GLe G G2 := fun k q hk => by rw [hNfresh k q hk]; exact hk
        have ren : Ren ρ G' G2 := by
          intro i q hq
          have hiN : i < fc.sr.heap.length := by
            rcases Nat.lt_or_ge i fc.sr.heap.length with h | h
            · exact h
            · rw [hfr i h] at hq; cases hq
          have other : m.κ[i]? = none ∨ m.κ[i]? = some none → G2 (ρ i) = some q := by
            intro h1
            have e1 : ρ i = base + i := by
              show keyOf m.κ base i = _
              unfold keyOf
              rcases h1 with h1 | h1 <;> rw [h1]
            rw [e1]
            have e2 : base ≤ base + i ∧ base + i < base + 12 := ⟨by omega, by omega⟩
            simp only [G2]
            rw [if_pos e2, show base + i - base = i by omega]
            rcases h1 with h1 | h1 <;> rw [h1] <;> exact hq
          cases hi : m.κ[i]? with
          | none => exact other (.inl hi)
          | some kb =>
            cases kb with
            | none => exact other (.inr hi)
            | some k =>
              have e1 : ρ i = k := by show keyOf m.κ base i = _; unfold keyOf; rw [hi]
              obtain ⟨v0, hv0⟩ := kok i k hi
              have h2 := hst.gle i v0 (by rw [Gk_some hi]; exact hv0)
              rw [hq] at h2
              cases h2
              rw [e1, hNfresh k q hv0]
              exact hv0
        have hlen := hcc.len
        have hml := mt.len
        -- a live key of the callee's first heap is one of the caller's
        have back : ∀ j c b, hget (encHs id 0 fc.sa.heap x.2) j = some c → c.live → blk (Gk G m.κ) j = some b → ∃ k c', hget m.h k = some c' ∧ c'.live ∧ blk G k = some b ∧ ρ j = k ∧ j < fc.sr.heap.length := by
          intro j c b hj hl hb
          rcases mt.live j c hj hl with h1 | ⟨k, c', h1, h2, h3⟩
          · rw [blk_of (Gk_none h1)] at hb; cases hb
          · refine ⟨k, c', h2, h3, by rw [← hb]; simp [blk, Gk_some h1], by show keyOf m.κ base j = _; unfold keyOf; rw [h1], ?_⟩
            have := (List.getElem?_eq_some_iff.1 h1).1
            omega
        let HX := encHs ρ 0 fc.sr.heap y.2
        have hget2 : ∀ k, hget (HX ++ m.h) k = match hget HX k with
          | some c => some c
          | none => hget m.h k := fun k => hget_app _ _ _
        have apart : ∀ k c b, hget m.h k = some c → c.live → hget HX k = none → blk G k = some b → ∀ j cj, hget (encHs id 0 fc.sa.heap x.2) j = some cj → cj.live → blk (Gk G m.κ) j ≠ some b := by
          intro k c b hk hl hx hb j cj hj hlj hbj
          obtain ⟨k', c', h1, h2, h3, h4, h5⟩ := back j cj b hj hlj hbj
          by_cases e : k' = k
          · subst e
            have := encHs_none ρ fc.sr.heap 0 y.2 k' hx j h5
            rw [Nat.zero_add] at this
            exact this h4
          · exact mt.go.inv.sep k' k c' c b h1 hk h2 hl e h3 hb
        have ghost : ∀ k c, hget m.h k = some c → c.live → ∃ v0, G k = some v0 ∧ ∀ b, blkV v0 = some b → b < w.heap.size := fun k c hk hl => (mt.go.inv.cells k c hk).ghost hl
        have blk2 : ∀ k c b, hget m.h k = some c → c.live → blk G2 k = some b → blk G k = some b ∧ b < w.heap.size := by
          intro k c b hk hl hb
          obtain ⟨v0, h1, h2⟩ := ghost k c hk hl
          have h3 := hNfresh k v0 h1
          have h4 : blk G k = some b := by rw [← hb]; simp [blk, h3]
          exact ⟨h4, h2 b (by rw [blk_of h1] at h4; exact h4)⟩
        have blkX : ∀ k c b, hget HX k = some c → c.live → blk G2 k = some b → ∃ j c', j < fc.sr.heap.length ∧ ρ j = k ∧ hget (encHs id 0 fc.sr.heap y.2) j = some c' ∧ c'.live ∧ blk G' j = some b := by
          intro k c b hk hl hb
          obtain ⟨i, s, z, h1, h2, h3, h4⟩ := encHs_inv ρ _ 0 y.2 k c hk
          rw [Nat.zero_add] at h1 h4
          subst h3
          have hl' := encHC_live ρ s z hl
          obtain ⟨v0, h5, _⟩ := (hinv.cells i _ h4).ghost hl'
          have h6 := ren i v0 h5
          refine ⟨i, _, h2, h1, h4, hl', ?_⟩
          rw [← h1, blk_of h6] at hb
          rw [blk_of h5]
          exact hb
        have inv2 : Inv w' M' G2 (HX ++ m.h) := by
          refine ⟨hinv.sub, fun k c hk => ?_, fun k k' c c' b hk hk' hl hl' hne hb hb' => ?_, hinv.zone, fun k c b hk hl hb => ?_⟩
          · rw [hget2] at hk
            cases hx : hget HX k with
            | some c0 =>
              rw [hx] at hk
              cases hk
              obtain ⟨i, s, z, h1, h2, h3, h4⟩ := encHs_inv ρ _ 0 y.2 k c hx
              rw [Nat.zero_add] at h1 h4
              subst h3
              rw [← h1]
              exact encHC_ren ren s z (hinv.cells i _ h4)
            | none =>
              rw [hx] at hk
              by_cases hl : c.live
              · refine (mt.go.inv.cells k c hk).left hl hst.mle gle (fun b hb => ?_)
                obtain ⟨v0, h1, h2⟩ := ghost k c hk hl
                have hblt := h2 b (by rw [blk_of h1] at hb; exact hb)
                have hap := apart k c b hk hl hx hb
                refine ⟨hst.keep b hblt (fun j cj hj hlj => hap j cj hj hlj), fun ad q had hq => ?_⟩
                rcases hst.mnew ad q hq with h3 | h3 | ⟨j, cj, h3, h4, h5⟩
                · exact h3
                · omega
                · rw [had] at h5; exact (hap j cj h3 h4 h5).elim
              · cases c with
                | dead => trivial
                | box _ _ => exact absurd trivial hl
                | arr _ _ _ _ => exact absurd trivial hl
          · rw [hget2] at hk hk'
            have mixed : ∀ k k' c c', hget HX k = some c → c.live → blk G2 k = some b → hget HX k' = none → hget m.h k' = some c' → c'.live → blk G2 k' = some b → False := by
              intro k k' c c' h1 h2 h3 h4 h5 h6 h7
              obtain ⟨j, cj, _, _, j3, j4, j5⟩ := blkX k c b h1 h2 h3
              obtain ⟨o1, o2⟩ := blk2 k' c' b h5 h6 h7
              rcases hst.bl j cj b j3 j4 j5 with h8 | ⟨k0, c0, h8, h9, h10⟩
              · omega
              · exact apart k' c' b h5 h6 h4 o1 k0 c0 h8 h9 h10
            cases hx : hget HX k with
            | some c0 =>
              rw [hx] at hk
              cases hk
              cases hx' : hget HX k' with
              | some c1 =>
                rw [hx'] at hk'
                cases hk'
                obtain ⟨j, cj, _, j2, j3, j4, j5⟩ := blkX k c b hx hl hb
                obtain ⟨j', cj', _, i2, i3, i4, i5⟩ := blkX k' c' b hx' hl' hb'
                exact hinv.sep j j' cj cj' b j3 i3 j4 i4 (fun q => hne (by rw [← j2, ← i2, q])) j5 i5
              | none =>
                rw [hx'] at hk'
                exact mixed k k' c c' hx hl hb hx' hk' hl' hb'
            | none =>
              rw [hx] at hk
              cases hx' : hget HX k' with
              | some c1 =>
                rw [hx'] at hk'
                cases hk'
                exact mixed k' k c' c hx' hl' hb' hx hk hl hb
              | none =>
                rw [hx'] at hk'
                exact mt.go.inv.sep k k' c c' b hk hk' hl hl' hne (blk2 k c b hk hl hb).1 (blk2 k' c' b hk' hl' hb').1
          · rw [hget2] at hk
            cases hx : hget HX k with
            | some c0 =>
              rw [hx] at hk
              cases hk
              obtain ⟨j, cj, _, j2, j3, j4, j5⟩ := blkX k c b hx hl hb
              exact hinv.zsep j cj b j3 j4 j5
            | none =>
              rw [hx] at hk
              exact mt.go.inv.zsep k c b hk hl (blk2 k c b hk hl hb).1
        have step2 : Step w M1 G m.h w' M' G2 (HX ++ m.h) := by
          refine ⟨hst.os, hst.tape, hst.output, hst.size, hst.mle, gle, fun b hb hno => hst.keep b hb (fun j c hj hl hbj => ?_), fun ad q hq => ?_, fun k c b hk hl hb => ?_⟩
          · obtain ⟨k, c', h1, h2, h3, _⟩ := back j c b hj hl hbj
            exact hno k c' h1 h2 h3
          · rcases hst.mnew ad q hq with h3 | h3 | ⟨j, cj, h3, h4, h5⟩
            · exact .inl h3
            · exact .inr (.inl h3)
            · obtain ⟨k, c', h6, h7, h8, _⟩ := back j cj _ h3 h4 h5
              exact .inr (.inr ⟨k, c', h6, h7, h8⟩)
          · rw [hget2] at hk
            cases hx : hget HX k with
            | some c0 =>
              rw [hx] at hk
              cases hk
              obtain ⟨j, cj, _, _, j3, j4, j5⟩ := blkX k c b hx hl hb
              rcases hst.bl j cj b j3 j4 j5 with h8 | ⟨k0, c0, h8, h9, h10⟩
              · exact .inl h8
              · obtain ⟨k1, c1, h6, h7, h8', _⟩ := back k0 c0 b h8 h9 h10
                exact .inr ⟨k1, c1, h6, h7, h8'⟩
            | none =>
              rw [hx] at hk
              exact .inr ⟨k, c, hk, hl, (blk2 k c b hk hl hb).1⟩
        have eH : (encHs ρ 0 fc.sr.heap y.2 ++ m.u) ++ H = HX ++ m.h := by
          show _ = HX ++ (m.u ++ m.H)
          rw [hH, List.append_assoc]
        refine ⟨M', G2, ret_ren ren _ _ hav, ?_, ?_, fun j hj => ?_⟩
        · rw [eH]; exact inv2
        · rw [eH]; exact mt.go.step.trans step2
        · have : ¬ (base ≤ j ∧ j < base + 12) := by omega
          simp only [G2, if_neg this]
      · cases h
    · exact callK_sound fcs (fun fc hfc => hc fc (by simp [hfc])) h hI hv hf

theorem toSVs_sound (he : ∀ x, AVR M G (a.eval x) (e x)) : ∀ (xs : List Operand) (l : List SV), toSVs (xs.map e) = some l → SVRs M G (xs.map a.eval) l
  | [], l, h => by simp [toSVs] at h; subst h; trivial
  | x :: xs, l, h => by
    simp only [List.map_cons] at h
    have hx := he x
    generalize e x = v at h hx
    cases v with
    | tup _ => simp [toSVs] at h
    | sv s =>
      simp only [toSVs] at h
      split at h
      · rename_i l' hl
        cases h
        exact ⟨hx, toSVs_sound he xs l' hl⟩
      · cases h

theorem SVRs.append : ∀ {vs : List Value} {xs : List SV} {vs' : List Value} {xs' : List SV}, SVRs M G vs xs → SVRs M G vs' xs' → SVRs M G (vs ++ vs') (xs ++ xs')
  | [], [], _, _, _, k => k
  | _ :: _, _ :: _, _, _, h, k => ⟨h.1, h.2.append k⟩

theorem caps_svrs : ∀ {vs : List Value} {ks : List Nat}, capsR G vs ks → SVRs M G vs (ks.map fun b => .one (.ptr b 0))
  | [], [], _ => trivial
  | _ :: _, _ :: _, ⟨⟨b, e, g⟩, r⟩ => ⟨⟨b, by rw [← e]; exact g, e⟩, caps_svrs r⟩

theorem call_sound (hC : COK P C) (hI : Inv w M G H) (he : ∀ x, AVR M G (a.eval x) (e x)) {c : Call} {f : Operand} (ho : o.op = .call c) (hcf : c.callee = .value f) {g : Nat} {caps : List Nat} (hf : e f = .sv (.one (.fn g caps))) {args : List SV} (ha : toSVs (c.args.toList.map e) = some args)
    (hk : callK (C g) (args ++ caps.map fun b => .one (.ptr b 0)) base H k = some r) (hfr : ∀ j, base ≤ j → j < base + 12 → G j = none) : ∃ v u, k v u = some r ∧ Runs P a o w (Good w M G H base 12 v u) := by
  have h1 := he f
  rw [hf] at h1
  obtain ⟨vs, e1, hcap⟩ := h1
  have hsv : SVRs M G ((c.args.map a.eval) ++ vs).toList (args ++ caps.map fun b => .one (.ptr b 0)) := by
    have := (toSVs_sound he _ _ ha).append (caps_svrs (M := M) hcap)
    simpa using this
  obtain ⟨v, u, h2, h3⟩ := callK_sound (C g) (fun fc hfc => hC g fc hfc) hk hI hsv hfr
  refine ⟨v, u, h2, ?_⟩
  intro next Q hn
  have hrun : (execOp a.eval o).run P w = (callFunc g (c.args.map a.eval ++ vs)).run P w := by
    simp [execOp, ho, resolve, hcf, e1, Deferred.ofValue, invoke]
  unfold Oper.wp
  rw [hrun]
  rcases h3 with ⟨val, w', h4, h5⟩ | ⟨h4, h5⟩
  · rw [h4]
    exact hn _ _ h5
  · rw [h4]
    refine h5.mono fun e w' h => ?_
    cases e with
    | returned v => exact hn _ _ h
    | panicked _ => exact h.elim
    | outgrown => exact h.elim

end
end Go.AM
end
