/-
  Operations, calls and regions are sound on states whose data are typed.
-/
import Derived.Test.YtcaahmielncmpaaGreatLabB
set_option linter.unusedSimpArgs false
set_option linter.unusedVariables false
namespace Go.Proofs.YtcaahmielncmpaaGreat
open Go Go.RowKit

/-! ## Typed data: abstract states whose data are trees and lists of them -/
def Tm.kind : Tm → Int | .mk k _ _ _ _ => k
def Tm.i : Tm → Int | .mk _ i _ _ _ => i
def Tm.j : Tm → Int | .mk _ _ j _ _ => j
def Tm.n : Tm → Int | .mk _ _ _ n _ => n
def Dv.rule : Dv → Int | .mk r _ _ => r
def Dv.i : Dv → Int | .mk _ i _ => i

structure Ent where
  a : Tm
  i : Int
structure Jd where
  eq : Bool
  u : Tm
  v : Tm
  a : Tm
  i : Int
structure Fl where
  ctx : List Dv
  d : Dv

/-- The program's two levels, a type, and one beneath it. -/
structure Fm where
  i : Int
  j : Int
  a : Tm
  b : Tm

inductive Ty where | int | bool | str | flt | tm | dv | ent | jd | fl | fm

abbrev Ty.den : Ty → Type
  | .int => Int | .bool => Bool | .str => ByteArray | .flt => Nat | .tm => Tm | .dv => Dv | .ent => Ent | .jd => Jd | .fl => Fl | .fm => Fm

inductive TC where
  | int (n : Int) | bool (b : Bool) | str (s : ByteArray) | flt (x : Nat) | sl (T : Ty) (l : List T.den) | nil

/-- A datum's typed cells. -/
def Ty.tcs : (T : Ty) → T.den → List TC
  | .int, n => [.int n]
  | .bool, b => [.bool b]
  | .str, s => [.str s]
  | .flt, x => [.flt x]
  | .tm, t => [.int t.kind, .int t.i, .int t.j, .int t.n, .sl .tm t.kids]
  | .dv, d => [.int d.rule, .int d.i, .sl .dv d.kids]
  | .ent, e => [.int e.a.kind, .int e.a.i, .int e.a.j, .int e.a.n, .sl .tm e.a.kids, .int e.i]
  | .jd, j => [.bool j.eq, .int j.u.kind, .int j.u.i, .int j.u.j, .int j.u.n, .sl .tm j.u.kids, .int j.v.kind, .int j.v.i, .int j.v.j, .int j.v.n, .sl .tm j.v.kids,
      .int j.a.kind, .int j.a.i, .int j.a.j, .int j.a.n, .sl .tm j.a.kids, .int j.i]
  | .fl, f => [.sl .dv f.ctx, .int f.d.rule, .int f.d.i, .sl .dv f.d.kids]
  | .fm, f => [.int f.i, .int f.j, .int f.a.kind, .int f.a.i, .int f.a.j, .int f.a.n, .sl .tm f.a.kids, .int f.b.kind, .int f.b.i, .int f.b.j, .int f.b.n, .sl .tm f.b.kids]

def Ty.size : Ty → Nat
  | .int | .bool | .str | .flt => 1 | .tm => 5 | .dv => 3 | .ent => 6 | .jd => 17 | .fl => 4 | .fm => 12

def entC (e : Ent) : List C := e.a.cells ++ [.int e.i]
def jdC (j : Jd) : List C := .bool j.eq :: (j.u.cells ++ j.v.cells ++ j.a.cells ++ [.int j.i])
def fmC (f : Fm) : List C := .int f.i :: .int f.j :: (f.a.cells ++ f.b.cells)
def flC (f : Fl) : List C := .slice (Dv.rows f.ctx) :: f.d.cells

def Ty.cells : (T : Ty) → T.den → List C
  | .int, n => [.int n]
  | .bool, b => [.bool b]
  | .str, s => [.str s]
  | .flt, x => [.flt x]
  | .tm, t => t.cells
  | .dv, d => d.cells
  | .ent, e => entC e
  | .jd, j => jdC j
  | .fl, f => flC f
  | .fm, f => fmC f

def TC.toC : TC → C
  | .int n => .int n
  | .bool b => .bool b
  | .str s => .str s
  | .flt x => .flt x
  | .sl T l => .slice (l.map T.cells)
  | .nil => .slice []

/-- From cells back to the datum. -/
def TC.tms : TC → Option (List Tm)
  | .sl .tm l => some l
  | .nil => some []
  | _ => none
def TC.dvs : TC → Option (List Dv)
  | .sl .dv l => some l
  | .nil => some []
  | _ => none

def packTm : List TC → Option Tm
  | [.int a, .int b, .int c, .int d, x] => match x.tms with
    | some l => some (.mk a b c d l)
    | none => none
  | _ => none
def packDv : List TC → Option Dv
  | [.int a, .int b, x] => match x.dvs with
    | some l => some (.mk a b l)
    | none => none
  | _ => none

def pack : (T : Ty) → List TC → Option T.den
  | .int, [.int n] => some n
  | .bool, [.bool b] => some b
  | .str, [.str s] => some s
  | .flt, [.flt x] => some x
  | .tm, l => packTm l
  | .dv, l => packDv l
  | .ent, l => match packTm (l.take 5), l.drop 5 with
    | some a, [.int i] => some ⟨a, i⟩
    | _, _ => none
  | .jd, l => match l with
    | .bool e :: l => match packTm (l.take 5), packTm ((l.drop 5).take 5), packTm ((l.drop 10).take 5), l.drop 15 with
      | some u, some v, some a, [.int i] => some ⟨e, u, v, a, i⟩
      | _, _, _, _ => none
    | _ => none
  | .fl, l => match l with
    | x :: l => match x.dvs, packDv l with
      | some c, some d => some ⟨c, d⟩
      | _, _ => none
    | _ => none
  | .fm, l => match l with
    | .int i :: .int j :: l => match packTm (l.take 5), packTm (l.drop 5) with
      | some a, some b => some ⟨i, j, a, b⟩
      | _, _ => none
    | _ => none
  | _, _ => none

def castL : (T T' : Ty) → List T'.den → Option (List T.den)
  | .int, .int, l => some l
  | .bool, .bool, l => some l
  | .str, .str, l => some l
  | .flt, .flt, l => some l
  | .tm, .tm, l => some l
  | .dv, .dv, l => some l
  | .ent, .ent, l => some l
  | .jd, .jd, l => some l
  | .fl, .fl, l => some l
  | .fm, .fm, l => some l
  | _, _, _ => none

/-- A value handed over. -/
inductive SI where
  | one (x : TC) | st (T : Ty) (x : T.den) | agg (xs : List TC) | ro (xs : List TC) | roT (T : Ty) (x : T.den) (off : Nat)
def SI.to : SI → IV
  | .one x => .one x.toC
  | .st T x => .agg (T.cells x)
  | .agg xs => .agg (xs.map TC.toC)
  | .ro xs => .ro (xs.map TC.toC)
  | .roT T x off => .ro ((T.cells x).drop off)

/-- A struct within a struct. -/
def subD : (T : Ty) → T.den → (off size : Nat) → Option ((U : Ty) × U.den)
  | .ent, e, off, size => if off = 0 ∧ size = 6 then some ⟨.ent, e⟩ else if off = 0 ∧ size = 5 then some ⟨.tm, e.a⟩ else none
  | .jd, j, off, size => if off = 0 ∧ size = 17 then some ⟨.jd, j⟩ else if off = 1 ∧ size = 5 then some ⟨.tm, j.u⟩ else if off = 6 ∧ size = 5 then some ⟨.tm, j.v⟩ else if off = 11 ∧ size = 5 then some ⟨.tm, j.a⟩ else none
  | .fl, f, off, size => if off = 0 ∧ size = 4 then some ⟨.fl, f⟩ else if off = 1 ∧ size = 3 then some ⟨.dv, f.d⟩ else none
  | .fm, f, off, size => if off = 0 ∧ size = 12 then some ⟨.fm, f⟩ else if off = 2 ∧ size = 5 then some ⟨.tm, f.a⟩ else if off = 7 ∧ size = 5 then some ⟨.tm, f.b⟩ else none
  | T, x, off, size => if off = 0 ∧ size = T.size then some ⟨T, x⟩ else none
def subOK : Ty → Nat → Nat → Bool
  | .ent, off, size => (off == 0 && size == 6) || (off == 0 && size == 5)
  | .jd, off, size => (off == 0 && size == 17) || (off == 1 && size == 5) || (off == 6 && size == 5) || (off == 11 && size == 5)
  | .fl, off, size => (off == 0 && size == 4) || (off == 1 && size == 3)
  | .fm, off, size => (off == 0 && size == 12) || (off == 2 && size == 5) || (off == 7 && size == 5)
  | T, off, size => off == 0 && size == T.size

/-! ### typed states -/
inductive SC where
  | c (x : TC) (fr : Bool)
  | nils
  | ptr (id off : Nat)
  | el (id sz : Nat) (i : Int) (off : Nat)
  | arr (id : Nat)
  | ro (T : Ty) (x : T.den) (off : Nat)
  | rc (xs : List TC)
  | nilp
  | fn (f id : Nat)
  | pre (id : Nat) (n : Int)
  /-- Nil, or a pointer to new memory of its own: a number and a row of numbers. -/
  | fb (o : Option (Int × List Int))
  | any

inductive S1 where
  | one (x : SC)
  | st (T : Ty) (x : T.den) (fr : Bool)
  | agg (xs : List SC)

inductive SV where
  | v (x : S1)
  | tup (xs : List S1)
  | undef
  | old (x : SI)
  | sh (T : Ty) (l : List T.den)
  | rp (T : Ty) (x : T.den)

inductive SOb where
  | box (cells : List SC)
  | bst (T : Ty) (x : T.den) (fr : Bool)
  | row (e : Nat) (T : Ty) (l : List T.den) (fr : Bool)

structure SS where
  env : List (Nat × SV)
  heap : List (Nat × Option SOb)
  next : Nat

def fbTo (o : Option (Int × List Int)) : Option (Int × Nat × List Int) := o.map fun p => (p.1, fbE, p.2)
def SC.to : SC → AC
  | .c x fr => .c x.toC fr
  | .nils => .nils
  | .ptr id off => .ptr id off
  | .el id sz i off => .el id sz i.toNat off
  | .arr id => .arr id
  | .ro T x off => .ro ((T.cells x).drop off)
  | .rc xs => .ro (xs.map TC.toC)
  | .nilp => .nilp
  | .fn f id => .fn f id
  | .pre id n => .pre id n.toNat
  | .fb o => .fb (fbTo o)
  | .any => .any
def S1.to : S1 → A1
  | .one x => .one x.to
  | .st T x fr => .agg ((T.cells x).map (.c · fr))
  | .agg xs => .agg (xs.map SC.to)
def SV.to : SV → AV
  | .v x => .v x.to
  | .tup xs => .tup (xs.map S1.to)
  | .undef => .undef
  | .old x => .old x.to
  | .sh T l => .sh (l.map T.cells)
  | .rp T x => .rp (T.cells x)
def SOb.to : SOb → Ob
  | .box cells => .box (cells.map SC.to)
  | .bst T x fr => .box ((T.cells x).map (.c · fr))
  | .row e T l fr => .row e T.size (l.map T.cells) fr
def upTo (p : Nat × Option SOb) : Nat × Option Ob := (p.1, p.2.map SOb.to)
def SS.to (s : SS) : AS := { env := s.env.map (fun p => (p.1, p.2.to)), heap := s.heap.map upTo, next := s.next }

def SS.get (s : SS) (t : Nat) : Option SV := s.env.lookup t
def SS.obj (s : SS) (id : Nat) : Option SOb := (s.heap.lookup id).join
def SS.ups (s : SS) (l : List (Nat × Option SOb)) : SS := { s with heap := l.reverse ++ s.heap }
def SS.put (s : SS) (d : Option Nat) (v : SV) : SS := match d with
  | some d => { s with env := (d, v) :: s.env }
  | none => s

def S1.cells : S1 → List SC
  | .one x => [x]
  | .st T x fr => (T.tcs x).map (.c · fr)
  | .agg xs => xs

/-- The cells of a box. -/
def SOb.cells : SOb → Option (List SC)
  | .box cells => some cells
  | .bst T x fr => some ((T.tcs x).map (.c · fr))
  | _ => none
def S1.ob : S1 → SOb
  | .st T x fr => .bst T x fr
  | a => .box a.cells

/-! ### what operations do -/
def scOf : Value → SC
  | .int .i64 n => .c (.int n) true
  | .bool b => .c (.bool b) true
  | .string s => .c (.str s) true
  | .float .f64 x => .c (.flt x) true
  | .slice none 0 0 => .nils
  | .pointer none => .nilp
  | _ => .any
def svOf (v : Value) : Option SV :=
  match v with
  | .agg cs => if cs.toList.all (·.oneCell') then some (.v (.agg (cs.toList.map scOf))) else none
  | .tuple _ => none
  | v => some (.v (.one (scOf v)))

def SI.arg : SI → SV
  | .one x => .v (.one (.c x false))
  | .st T x => .v (.st T x false)
  | .agg xs => .v (.agg (xs.map (.c · false)))
  | .ro xs => .v (.one (.rc xs))
  | .roT T x off => .v (.one (.ro T x off))
def SV.now : SV → SV
  | .old x => x.arg
  | y => y
def SS.ev (s : SS) : Operand → Option SV
  | .tmp t => (s.get t).map SV.now
  | .const v => svOf v
  | _ => none

def ofAC : AC → Option SC
  | .c (.int n) fr => some (.c (.int n) fr)
  | .c (.bool n) fr => some (.c (.bool n) fr)
  | .c (.str n) fr => some (.c (.str n) fr)
  | .c (.flt n) fr => some (.c (.flt n) fr)
  | .nils => some .nils
  | .nilp => some .nilp
  | _ => none
def ofACs : List AC → Option (List SC)
  | [] => some []
  | x :: xs => match ofAC x, ofACs xs with
    | some y, some ys => some (y :: ys)
    | _, _ => none

def TC.flat : TC → Bool
  | .sl _ _ => false
  | .nil => false
  | _ => true

def SS.resC (s : SS) : SC → Option (TC × Bool × List Nat)
  | .c x fr => some (x, fr || x.flat, [])
  | .nils => some (.nil, true, [])
  | .arr id => match s.obj id with
    | some (.row _ T l fr) => some (.sl T l, fr, [id])
    | _ => none
  | .pre id n => match s.obj id with
    | some (.row _ T l fr) => some (.sl T ((l.take n.toNat).drop (0 : Int).toNat), fr, [id])
    | _ => none
  | _ => none
def SS.resCs (s : SS) : List SC → Option (List TC × Bool × List Nat)
  | [] => some ([], true, [])
  | x :: xs => match s.resC x, s.resCs xs with
    | some (c, f, i), some (cs, f', i') => some (c :: cs, f && f', i ++ i')
    | _, _ => none

section
variable {β : Type}
/-- A choice. -/
def ifB (b : Bool) (x y : Option β) : Option β := match b with | true => x | false => y
theorem ifB_eq (b : Bool) (x y : Option β) : ifB b x y = if b = true then x else y := by cases b <;> rfl
/-- Whether an int64 holds a number (so written that the kernel is stuck early on a number that it does not know). -/
def inB : Int → Bool
  | .ofNat m => Nat.ble m 9223372036854775807
  | .negSucc m => Nat.ble m 9223372036854775807
theorem inB_iff (n : Int) : inB n = true ↔ -9223372036854775808 ≤ n ∧ n ≤ 9223372036854775807 := by
  cases n with
  | ofNat m => simp only [inB, Nat.ble_eq, Int.ofNat_eq_natCast]; omega
  | negSucc m => simp only [inB, Nat.ble_eq]; omega
/-- A sum or difference that stays an int. -/
def ckI (n : Int) (x : Option β) : Option β := ifB (inB n) x none
theorem ckI_eq {n : Int} {x : Option β} (h : -9223372036854775808 ≤ n ∧ n ≤ 9223372036854775807) : ckI n x = x := by
  unfold ckI
  rw [(inB_iff n).2 h]; rfl
/-- The element at an index. -/
def atI {α : Type} (l : List α) (n : Int) (k : α → Option β) : Option β := if 0 ≤ n then (match l[n.toNat]? with | some x => k x | none => none) else none
/-- The element at a place. -/
def atN {α : Type} (l : List α) (n : Nat) (k : α → Option β) : Option β := match l[n]? with | some x => k x | none => none
def ckB (b : Bool) (x : Option β) : Option β := if b then x else none

/-- Order of floats. -/
def fLt (a b : Nat) : Bool := FloatKind.f64.format.order a b == some .lt
def fLe (a b : Nat) : Bool := FloatKind.f64.format.order a b == some .lt || FloatKind.f64.format.order a b == some .eq
def fGt (a b : Nat) : Bool := FloatKind.f64.format.order a b == some .gt
def fGe (a b : Nat) : Bool := FloatKind.f64.format.order a b == some .gt || FloatKind.f64.format.order a b == some .eq
def fOf (n : Int) : Nat := FloatKind.f64.nearest n

/-- A sum as the machine keeps it. -/
def wrI (n : Int) : Int := IntKind.i64.wrap n
def binT (tab : Nat → Option TE) (op : BinOp) (xT : Nat) (k : SV → Option β) : SV → SV → Option β
  | .v (.one (.c (.int a) _)), .v (.one (.c (.int b) _)) =>
    match op with
    | .add => match tab xT with
      | some _ => ckI (a + b) (k (.v (.one (.c (.int (a + b)) true))))
      | none => k (.v (.one (.c (.int (wrI (a + b))) true)))
    | .sub => ckI (a - b) (k (.v (.one (.c (.int (a - b)) true))))
    | .eql => k (.v (.one (.c (.bool (decide (a = b))) true)))
    | .neq => k (.v (.one (.c (.bool (!decide (a = b))) true)))
    | .lss => k (.v (.one (.c (.bool (decide (a < b))) true)))
    | .leq => k (.v (.one (.c (.bool (decide (a ≤ b))) true)))
    | .gtr => k (.v (.one (.c (.bool (decide (b < a))) true)))
    | .geq => k (.v (.one (.c (.bool (decide (b ≤ a))) true)))
    | _ => none
  | .v (.one (.c (.bool a) _)), .v (.one (.c (.bool b) _)) =>
    match tab xT with
    | some te => if te.isBool then
        match op with
        | .eql => k (.v (.one (.c (.bool (a == b)) true)))
        | .neq => k (.v (.one (.c (.bool (!(a == b))) true)))
        | _ => none
      else none
    | none => none
  | .v (.one (.c (.str a) _)), .v (.one (.c (.str b) _)) =>
    match op with
    | .eql => k (.v (.one (.c (.bool (a.toList == b.toList)) true)))
    | .neq => k (.v (.one (.c (.bool (!(a.toList == b.toList))) true)))
    | _ => none
  | .v (.one (.c (.flt a) _)), .v (.one (.c (.flt b) _)) =>
    match op with
    | .lss => k (.v (.one (.c (.bool (fLt a b)) true)))
    | .leq => k (.v (.one (.c (.bool (fLe a b)) true)))
    | .gtr => k (.v (.one (.c (.bool (fGt a b)) true)))
    | .geq => k (.v (.one (.c (.bool (fGe a b)) true)))
    | _ => none
  | .v (.one .nilp), .v (.one .nilp) =>
    match tab xT with
    | some te => if te.isPtr then
        match op with
        | .eql => k (.v (.one (.c (.bool true) true)))
        | .neq => k (.v (.one (.c (.bool false) true)))
        | _ => none
      else none
    | none => none
  | .v (.one (.fb o)), .v (.one .nilp) =>
    match tab xT with
    | some te => if te.isPtr then
        match op with
        | .eql => k (.v (.one (.c (.bool (!o.isSome)) true)))
        | .neq => k (.v (.one (.c (.bool o.isSome) true)))
        | _ => none
      else none
    | none => none
  | _, _ => none
end

def fillS (flds : List (Nat × Nat × Bool)) : List (Nat × S1) → List SC → Option (List SC)
  | [], cs => some cs
  | (i, x) :: rest, cs => match flds[i]? with
    | some (off, size, _) => if x.cells.length = size ∧ off + size ≤ cs.length then fillS flds rest (cs.take off ++ x.cells ++ cs.drop (off + size)) else none
    | none => none

def SS.evParts (s : SS) : List (Nat × Operand) → Option (List (Nat × S1))
  | [] => some []
  | (i, x) :: rest => match s.ev x, s.evParts rest with
    | some (.v a), some l => some ((i, a) :: l)
    | _, _ => none

def SS.fillL (s : SS) (T : Ty) : List (Nat × S1) → List T.den → Bool → Option (List T.den × Bool × List Nat)
  | [], l, fr => some (l, fr, [])
  | (i, x) :: rest, l, fr => match s.resCs x.cells with
    | some (cs, f, ids) => match pack T cs with
      | some d => if i < l.length then
          match s.fillL T rest (l.set i d) (fr && f) with
          | some (rs, f', ids') => some (rs, f', ids ++ ids')
          | none => none
        else none
      | none => none
    | none => none

/-- The rows of a slice, of which type its elements are known to be. -/
def SS.rowsOf (s : SS) (T : Ty) : SV → Option (List T.den × Bool × List Nat)
  | .v (.one (.c (.sl T' l) fr)) => match castL T T' l with
    | some l => some (l, fr, [])
    | none => none
  | .v (.one (.c .nil fr)) => some ([], fr, [])
  | .v (.one .nils) => some ([], true, [])
  | .v (.one (.arr id)) => match s.obj id with
    | some (.row _ T' l fr) => match castL T T' l with
      | some l => some (l, fr, [id])
      | none => none
    | _ => none
  | _ => none

section
variable {β : Type}

/-- The cells behind a pointer. -/
def SS.behind (s : SS) (p : SV) (k : List SC → List Nat → Option β) : Option β := match p with
  | .v (.one (.ptr id off)) => match (s.obj id).bind SOb.cells with
    | some cells => k (cells.drop off) [id]
    | none => none
  | .v (.one (.el id sz i off)) => match s.obj id with
    | some (.row _ T l fr) => if T.size = sz then atN l i.toNat (fun x => k (((T.tcs x).map (SC.c · fr)).drop off) [id]) else none
    | _ => none
  | .v (.one (.ro T x off)) => k (((T.tcs x).map (SC.c · false)).drop off) []
  | .v (.one (.rc xs)) => k (xs.map (SC.c · false)) []
  | .rp T x => k ((T.tcs x).map (SC.c · false)) []
  | _ => none

/-- A datum, or a struct within it, that a pointer leads to as a whole. -/
def SS.whole (s : SS) (p : SV) (size : Nat) (k : S1 → List Nat → Option β) : Option (Option β) := match p with
  | .v (.one (.ptr id off)) => match s.obj id with
    | some (.bst T x fr) => match subD T x off size with
      | some ⟨U, y⟩ => some (k (.st U y fr) [id])
      | none => none
    | _ => none
  | .v (.one (.el id sz i off)) => match s.obj id with
    | some (.row _ T l fr) => if T.size = sz ∧ subOK T off size = true then some (atN l i.toNat (fun x => match subD T x off size with
        | some ⟨U, y⟩ => k (.st U y fr) [id]
        | none => none)) else none
    | _ => none
  | .v (.one (.ro T x off)) => match subD T x off size with
    | some ⟨U, y⟩ => some (k (.st U y false) [])
    | none => none
  | .rp T x => match subD T x 0 size with
    | some ⟨U, y⟩ => some (k (.st U y false) [])
    | none => none
  | _ => none

def loadT (te : TE) (s : SS) (p : SV) (k : SV → List (Nat × Option SOb) → List Nat → Option β) : Option β :=
  if te.agg then match s.whole p te.size (fun x ids => k (.v x) [] ids) with
    | some r => r
    | none => s.behind p fun cells ids =>
      if cells.length = te.size then k (.v (.agg cells)) [] ids
      else if te.size ≤ cells.length then k (.v (.agg (cells.take te.size))) [] ids
      else none
  else s.behind p fun cells ids => match cells with
    | x :: _ => k (.v (.one x)) [] ids
    | [] => none

def storeT (te : TE) (s : SS) (p : SV) (a : S1) (k : SV → List (Nat × Option SOb) → List Nat → Option β) : Option β := match p with
  | .v (.one (.ptr id off)) => match (s.obj id).bind SOb.cells with
    | some cells =>
      if a.cells.length = te.size ∧ off + te.size ≤ cells.length then
        if off = 0 ∧ te.size = cells.length then k .undef [(id, some a.ob)] []
        else k .undef [(id, some (.box (splice cells off a.cells)))] []
      else none
    | none => none
  | .v (.one (.el id sz i off)) => match s.obj id, s.resCs a.cells with
    | some (.row e T l fr), some (cs, f, ids) =>
      if off = 0 then match pack T cs with
        | some d => if T.size = sz ∧ cs.length = te.size ∧ te.size = sz ∧ id ∉ ids then
            ckB (decide (i.toNat < l.length)) (k .undef (ids.map (·, none) ++ [(id, some (.row e T (l.set i.toNat d) (fr && f)))]) ids)
          else none
        | none => none
      else if T.size = sz ∧ cs.length = te.size ∧ off + te.size ≤ sz ∧ id ∉ ids then
        atN l i.toNat fun x => match pack T (splice (T.tcs x) off cs) with
          | some d => k .undef (ids.map (·, none) ++ [(id, some (.row e T (l.set i.toNat d) (fr && f)))]) ids
          | none => none
      else none
    | _, _ => none
  | _ => none

def sliceT (T : Ty) (l : List T.den) (fr : Bool) (ids : List Nat) (lo hi : Option SV) (k : SV → List (Nat × Option SOb) → List Nat → Option β) : Option β :=
  match (match lo with | none => some (SV.v (.one (.c (.int 0) true))) | some v => some v), (match hi with | none => some (SV.v (.one (.c (.int l.length) true))) | some v => some v) with
  | some (.v (.one (.c (.int a) _))), some (.v (.one (.c (.int b) _))) =>
    ckB (decide (0 ≤ a) && (decide (a ≤ b) && decide (b ≤ l.length))) (k (.v (.one (.c (.sl T ((l.take b.toNat).drop a.toNat)) (fr && decide (a = 0))))) (ids.map (·, none)) ids)
  | _, _ => none

/-- Whether a slice is taken, from its start, of a row of the call's own. -/
def SS.isPre (s : SS) (x : Operand) (lo hi : Option Operand) : Bool :=
  match lo, hi, s.ev x with
  | none, some _, some (.v (.one (.arr _))) => true
  | none, some _, some (.v (.one (.pre _ _))) => true
  | _, _, _ => false
def SS.preOf (s : SS) : SV → Option (Nat × Nat × Nat)
  | .v (.one (.arr id)) => match s.obj id with
    | some (.row _ T l _) => some (id, T.size, l.length)
    | _ => none
  | .v (.one (.pre id _)) => match s.obj id with
    | some (.row _ T l _) => some (id, T.size, l.length)
    | _ => none
  | _ => none
def preT (tab : Nat → Option TE) (s : SS) (T : TypeId) (x : Operand) (hi : Option Operand) (k : SV → List (Nat × Option SOb) → List Nat → Option β) : Option β :=
  match tab T, s.ev x, (match hi with | none => none | some o => s.ev o) with
  | some te, some xv, some (.v (.one (.c (.int n) _))) => match te.elem, s.preOf xv with
    | some E, some (id, sz, len) => match tab E with
      | some tE => if tE.size = sz then ckB (decide (0 ≤ n) && decide (n ≤ len)) (k (.v (.one (.pre id n))) [] [id]) else none
      | none => none
    | _, _ => none
  | _, _, _ => none

/-- One operation: its value, what it writes, what it looks at are handed on. -/
def evOp (tab : Nat → Option TE) (ty : Nat → Option Ty) (nid : Nat) (op : Op) (s : SS) (k : SV → List (Nat × Option SOb) → List Nat → Option β) : Option β :=
  match op with
  | .move x | .assign x => match s.ev x with
    | some v => k v [] []
    | none => none
  | .pick c a b => match s.ev c, s.ev a, s.ev b with
    | some (.v (.one (.c (.bool t) _))), some va, some vb => ifB t (k va [] []) (k vb [] [])
    | _, _, _ => none
  | .alloc T => match tab T with
    | some te => match ofACs te.zero with
      | some z => k (.v (.one (.ptr nid 0))) [(nid, some (.box z))] []
      | none => none
    | none => none
  | .box T x => match tab T, s.ev x with
    | some _, some (.v a) => k (.v (.one (.ptr nid 0))) [(nid, some a.ob)] []
    | _, _ => none
  | .build T parts => match tab T, s.evParts parts.toList with
    | some te, some ps => match ofACs te.zero with
      | some z => match (if te.okf then fillS te.flds ps z else none) with
        | some cs => k (.v (.agg cs)) [] []
        | none => none
      | none => none
    | _, _ => none
  | .buildSlice T n parts => match tab T, s.evParts parts.toList with
    | some te, some ps => match te.elem with
      | some E => match tab E, ty E with
        | some tE, some Y => match ofACs tE.zero with
          | some z => match s.resCs z with
            | some (zc, _, _) => match pack Y zc with
              | some d => match (if Y.size = tE.size ∧ 0 < tE.size ∧ n * tE.size ≤ 16777216 then s.fillL Y ps (List.replicate n d) true else none) with
                | some (rows, fr, ids) => k (.v (.one (.arr nid))) (ids.map (·, none) ++ [(nid, some (.row E Y rows fr))]) ids
                | none => none
              | none => none
            | none => none
          | none => none
        | _, _ => none
      | none => none
    | _, _ => none
  | .load T p => match tab T, s.ev p with
    | some te, some pv => loadT te s pv k
    | _, _ => none
  | .store T p x => match tab T, s.ev p, s.ev x with
    | some te, some pv, some (.v a) => storeT te s pv a k
    | _, _, _ => none
  | .nilCheck x => match s.ev x with
    | some (.v (.one (.ptr id off))) => if (s.obj id).isSome then k (.v (.one (.ptr id off))) [] [id] else none
    | some (.v (.one (.ro T y off))) => k (.v (.one (.ro T y off))) [] []
    | some (.v (.one (.rc xs))) => k (.v (.one (.rc xs))) [] []
    | _ => none
  | .binOp op xT x y _ => match s.ev x, s.ev y with
    | some (.v (.one (.ptr id _))), some (.v (.one .nilp)) => match tab xT with
      | some te => if te.isPtr = true ∧ (s.obj id).isSome = true then
          match op with
          | .eql => k (.v (.one (.c (.bool false) true))) [] [id]
          | .neq => k (.v (.one (.c (.bool true) true))) [] [id]
          | _ => none
        else none
      | none => none
    | some a, some b => binT tab op xT (fun v => k v [] []) a b
    | _, _ => none
  | .convert S T x => match tab S, tab T, s.ev x with
    | some _, some te, some (.v (.one (.c (.int n) _))) => if te.isF64 then k (.v (.one (.c (.flt (fOf n)) true))) [] [] else none
    | _, _, _ => none
  | .unOp .not _ x => match s.ev x with
    | some (.v (.one (.c (.bool b) _))) => k (.v (.one (.c (.bool (!b)) true))) [] []
    | _ => none
  | .makeSlice T l c => match tab T, s.ev l, s.ev c with
    | some te, some (.v (.one (.c (.int l) _))), some (.v (.one (.c (.int c) _))) => match te.elem with
      | some E => match tab E, ty E with
        | some tE, some Y => match ofACs tE.zero with
          | some z => match s.resCs z with
            | some (zc, _, _) => match pack Y zc with
              | some d => if Y.size = tE.size ∧ 0 < tE.size ∧ 1 ≤ tE.bytes then
                  ckB (decide (0 ≤ l) && (decide (l ≤ c) && decide (tE.bytes * c ≤ 281474976710656))) (k (.v (.one (.arr nid))) [(nid, some (.row E Y (List.replicate l.toNat d) true))] [])
                else none
              | none => none
            | none => none
          | none => none
        | _, _ => none
      | none => none
    | _, _, _ => none
  | .slice T x lo hi none => match s.isPre x lo hi with
    | true => preT tab s T x hi k
    | false => match tab T, s.ev x with
      | some te, some xv => match te.elem with
        | some E => match tab E, ty E with
          | some tE, some Y => match s.rowsOf Y xv, (match lo with | none => some none | some o => (s.ev o).map some), (match hi with | none => some none | some o => (s.ev o).map some) with
            | some (l, fr, ids), some lv, some hv => if Y.size = tE.size then sliceT Y l fr ids lv hv k else none
            | _, _, _ => none
          | _, _ => none
        | none => none
      | _, _ => none
  | .fieldAddr T p f => match tab T, s.ev p with
    | some te, some (.v (.one pv)) => match te.flds[f]? with
      | some (off, size, _) => match decide (size = 0) with | true => none | false => match pv with
        | .ptr id o => match (s.obj id).isSome with | true => k (.v (.one (.ptr id (o + off)))) [] [id] | false => none
        | .el id sz i o => match (s.obj id).isSome with | true => k (.v (.one (.el id sz i (o + off)))) [] [id] | false => none
        | .ro Y y o => k (.v (.one (.ro Y y (o + off)))) [] []
        | .rc xs => k (.v (.one (.rc (xs.drop off)))) [] []
        | _ => none
      | none => none
    | _, _ => none
  | .field T x f => match tab T, s.ev x with
    | some te, some (.v (.one _)) => none
    | some te, some (.v a) => match te.flds[f]? with
      | some (off, size, ag) => if ag = false then match a.cells[off]? with
          | some c => k (.v (.one c)) [] []
          | none => none
        else if 0 < size ∧ te.fok = true then match a with
          | .st T y fr => match subD T y off size with
            | some ⟨U, z⟩ => k (.v (.st U z fr)) [] []
            | none => none
          | .agg xs => k (.v (.agg ((xs.drop off).take size))) [] []
          | .one _ => none
        else none
      | none => none
    | _, _ => none
  | .indexAddr T x i => match tab T, s.ev x, s.ev i with
    | some te, some (.sh Y l), some (.v (.one (.c (.int n) _))) => match te.elem with
      | some E => match tab E with
        | some tE => if Y.size = tE.size then atI l n (fun y => k (.rp Y y) [] []) else none
        | none => none
      | none => none
    | some te, some (.v (.one xv)), some (.v (.one (.c (.int n) _))) => match te.elem with
      | some E => match tab E with
        | some tE => match xv with
          | .c (.sl Y l) _ => if Y.size = tE.size then atI l n (fun y => k (.v (.one (.ro Y y 0))) [] []) else none
          | .arr id => match s.obj id with
            | some (.row _ Y l _) => if Y.size = tE.size then ckB (decide (0 ≤ n) && decide (n < l.length)) (k (.v (.one (.el id Y.size n 0))) [] [id]) else none
            | _ => none
          | .pre id m => match s.obj id with
            | some (.row _ Y l _) => if Y.size = tE.size then ckB (decide (0 ≤ n) && (decide (n < m) && decide (m ≤ l.length))) (k (.v (.one (.el id Y.size n 0))) [] [id]) else none
            | _ => none
          | _ => none
        | none => none
      | none => none
    | _, _, _ => none
  | .makeFunc (.func f) first cap => match first.toList, cap.toList with
    | [], [x] => match s.ev x with
      | some (.v (.one (.ptr id 0))) => if (s.obj id).isSome = true then k (.v (.one (.fn f id))) [] [id] else none
      | _ => none
    | _, _ => none
  | .extract x i => match s.ev x with
    | some (.tup xs) => match xs[i]? with
      | some y => k (.v y) [] []
      | none => none
    | _ => none
  | .call { callee := .builtin b, args := args, argTypes := ts } =>
    match b, args.toList, ts.toList with
    | .len, [x], [T] => match tab T, s.ev x with
      | some te, some (.sh _ l) => match te.elem with
        | some _ => k (.v (.one (.c (.int l.length) true))) [] []
        | none => none
      | some te, some xv => match te.elem with
        | some E => match ty E with
          | some Y => match s.rowsOf Y xv with
            | some (l, _, ids) => k (.v (.one (.c (.int l.length) true))) [] ids
            | none => none
          | none => none
        | none => none
      | _, _ => none
    | .max, [x, y], _ => match s.ev x, s.ev y with
      | some (.v (.one (.c (.int a) _))), some (.v (.one (.c (.int b) _))) => k (.v (.one (.c (.int (max a b)) true))) [] []
      | _, _ => none
    | .min, [x, y], _ => match s.ev x, s.ev y with
      | some (.v (.one (.c (.int a) _))), some (.v (.one (.c (.int b) _))) => k (.v (.one (.c (.int (min a b)) true))) [] []
      | _, _ => none
    | .append, [x, y], [T, T'] => if T ≠ T' then none else match tab T, s.ev x, s.ev y with
      | some te, some xv, some yv => match te.elem with
        | some E => match tab E, ty E with
          | some tE, some Y => match s.rowsOf Y yv with
            | some (new, f, ids) => if Y.size = tE.size ∧ 0 < tE.size then match xv with
              | .v (.one .nils) => ckB (decide (new.length * tE.bytes ≤ 140737488355328) && decide (new.length ≤ 9223372036854775807)) (k (.v (.one (.arr nid))) [(nid, some (.row E Y new f))] ids)
              | .v (.one (.arr id)) => match s.obj id with
                | some (.row e Y' l fr) => match castL Y Y' l with
                  | some l => if e = E ∧ Y'.size = tE.size ∧ id ∉ ids then
                      ckB (decide ((l.length + new.length) * tE.bytes ≤ 140737488355328) && decide (l.length + new.length ≤ 9223372036854775807)) (k (.v (.one (.arr nid))) [(id, none), (nid, some (.row E Y (l ++ new) (fr && f)))] (id :: ids))
                    else none
                  | none => none
                | _ => none
              | _ => none
              else none
            | none => none
          | _, _ => none
        | none => none
      | _, _, _ => none
    | _, _, _ => none
  | _ => none
end
end Go.Proofs.YtcaahmielncmpaaGreat

namespace Go.Proofs.YtcaahmielncmpaaGreat
open Go Go.RowKit

theorem sv_v (x : S1) : (SV.v x).to = .v x.to := rfl
theorem sv_tup (x : List S1) : (SV.tup x).to = .tup (x.map S1.to) := rfl
theorem sv_undef : SV.undef.to = .undef := rfl
theorem s1_one (x : SC) : (S1.one x).to = .one x.to := rfl
theorem s1_st (T : Ty) (x : T.den) (fr : Bool) : (S1.st T x fr).to = .agg ((T.cells x).map (.c · fr)) := rfl
theorem s1_agg (xs : List SC) : (S1.agg xs).to = .agg (xs.map SC.to) := rfl
theorem sc_c (x : TC) (fr : Bool) : (SC.c x fr).to = .c x.toC fr := rfl
theorem sc_nils : SC.nils.to = .nils := rfl
theorem sc_ptr (i o : Nat) : (SC.ptr i o).to = .ptr i o := rfl
theorem sc_el (id sz : Nat) (i : Int) (off : Nat) : (SC.el id sz i off).to = .el id sz i.toNat off := rfl
theorem sc_arr (i : Nat) : (SC.arr i).to = .arr i := rfl
theorem sc_nilp : SC.nilp.to = .nilp := rfl
theorem sc_fb (o : Option (Int × List Int)) : (SC.fb o).to = .fb (fbTo o) := rfl
theorem fbTo_isSome (o : Option (Int × List Int)) : (fbTo o).isSome = o.isSome := by cases o <;> rfl
theorem sc_pre (i : Nat) (n : Int) : (SC.pre i n).to = .pre i n.toNat := rfl
theorem sc_fn (f i : Nat) : (SC.fn f i).to = .fn f i := rfl
theorem sc_ro (T : Ty) (x : T.den) (off : Nat) : (SC.ro T x off).to = .ro ((T.cells x).drop off) := rfl
theorem sc_rc (xs : List TC) : (SC.rc xs).to = .ro (xs.map TC.toC) := rfl
theorem tc_int (n : Int) : (TC.int n).toC = .int n := rfl
theorem tc_bool (n : Bool) : (TC.bool n).toC = .bool n := rfl
theorem tc_str (n : ByteArray) : (TC.str n).toC = .str n := rfl
theorem tc_flt (n : Nat) : (TC.flt n).toC = .flt n := rfl
theorem tc_sl (T : Ty) (l : List T.den) : (TC.sl T l).toC = .slice (l.map T.cells) := rfl
theorem tc_nil : TC.nil.toC = .slice [] := rfl
theorem so_box (l : List SC) : (SOb.box l).to = .box (l.map SC.to) := rfl
theorem so_bst (T : Ty) (x : T.den) (fr : Bool) : (SOb.bst T x fr).to = .box ((T.cells x).map (.c · fr)) := rfl
theorem so_row (e : Nat) (T : Ty) (l : List T.den) (fr : Bool) : (SOb.row e T l fr).to = .row e T.size (l.map T.cells) fr := rfl
theorem up_some (i : Nat) (o : SOb) : upTo (i, some o) = (i, some o.to) := rfl
theorem up_none (i : Nat) : upTo (i, none) = (i, none) := rfl

theorem TC.toC_flat (x : TC) : x.toC.flat = x.flat := by cases x <;> rfl

theorem lookup_map {α β : Type} (f : α → β) (l : List (Nat × α)) (t : Nat) : (l.map (fun p => (p.1, f p.2))).lookup t = (l.lookup t).map f := by
  induction l with
  | nil => rfl
  | cons p l ih =>
    obtain ⟨i, a⟩ := p
    simp only [List.map_cons, List.lookup_cons]
    split <;> simp_all

theorem SS.get_to (s : SS) (t : Nat) : s.to.get t = (s.get t).map SV.to := lookup_map SV.to s.env t
theorem SS.obj_to (s : SS) (id : Nat) : s.to.obj id = (s.obj id).map SOb.to := by
  unfold AS.obj SS.obj SS.to
  show ((s.heap.map upTo).lookup id).join = _
  rw [show s.heap.map upTo = s.heap.map (fun p => (p.1, (fun (o : Option SOb) => o.map SOb.to) p.2)) from rfl, lookup_map]
  cases s.heap.lookup id <;> rfl
theorem SS.get_some {s : SS} {t : Nat} {v : SV} (h : s.get t = some v) : s.to.get t = some v.to := by rw [SS.get_to, h]; rfl
theorem SS.obj_some {s : SS} {t : Nat} {v : SOb} (h : s.obj t = some v) : s.to.obj t = some v.to := by rw [SS.obj_to, h]; rfl

theorem scOf_to (v : Value) : (scOf v).to = acOf v := by
  unfold scOf acOf
  split <;> first | rfl | simp [SC.to]

theorem svOf_to {v : Value} {sv : SV} (h : svOf v = some sv) : avOf v = some sv.to := by
  unfold svOf at h
  unfold avOf
  split at h
  · split at h
    · rename_i h1
      cases h
      simp only [h1, if_true]
      simp [SV.to, S1.to, Function.comp_def, scOf_to]
    · cases h
  · cases h
  · cases h
    rename_i h1 h2
    simp [SV.to, S1.to, scOf_to]

theorem map_c0 (l : List TC) (fr : Bool) : (l.map (SC.c · fr)).map SC.to = (l.map TC.toC).map (.c · fr) := by simp [Function.comp_def, SC.to]
theorem SI.arg_to (x : SI) : x.arg.to = argAV x.to := by
  cases x <;> simp only [SI.arg, SI.to, argAV, sv_v, s1_one, s1_st, s1_agg, sc_c, sc_rc, sc_ro, map_c0]
theorem now_to (v : SV) : v.now.to = v.to.now := by
  cases v with
  | old x => exact SI.arg_to x
  | _ => rfl

theorem SS.ev_to {s : SS} {x : Operand} {v : SV} (h : s.ev x = some v) : s.to.ev x = some v.to := by
  cases x with
  | tmp t =>
    obtain ⟨v0, h1, rfl⟩ := Option.map_eq_some_iff.1 h
    show (s.to.get t).map AV.now = _
    rw [SS.get_some h1, now_to]; rfl
  | const v => exact svOf_to h
  | _ => cases h

theorem ofAC_to {x : AC} {y : SC} (h : ofAC x = some y) : y.to = x := by
  unfold ofAC at h
  split at h <;> first | (cases h; rfl) | cases h
theorem ofACs_to : ∀ {xs : List AC} {ys : List SC}, ofACs xs = some ys → ys.map SC.to = xs
  | [], ys, h => by cases h; rfl
  | x :: xs, ys, h => by
    simp only [ofACs] at h
    split at h
    · rename_i y ys' h1 h2
      cases h
      simp [ofAC_to h1, ofACs_to h2]
    · cases h

theorem Tm.cells_eq (t : Tm) : t.cells = [.int t.kind, .int t.i, .int t.j, .int t.n, .slice (t.kids.map Tm.cells)] := by
  cases t; simp [Tm.cells, Tm.rows_eq, Tm.kind, Tm.i, Tm.j, Tm.n, Tm.kids]
theorem Dv.cells_eq (t : Dv) : t.cells = [.int t.rule, .int t.i, .slice (t.kids.map Dv.cells)] := by
  cases t; simp [Dv.cells, Dv.rows_eq, Dv.rule, Dv.i, Dv.kids]

theorem cellsTm : Ty.cells .tm = Tm.cells := rfl
theorem cellsDv : Ty.cells .dv = Dv.cells := rfl

theorem tcs_toC : ∀ (T : Ty) (x : T.den), (T.tcs x).map TC.toC = T.cells x
  | .int, n => rfl
  | .bool, n => rfl
  | .str, n => rfl
  | .flt, n => rfl
  | .tm, t => by simp [Ty.tcs, Ty.cells, TC.toC, Tm.cells_eq t, cellsTm]
  | .dv, t => by simp [Ty.tcs, Ty.cells, TC.toC, Dv.cells_eq t, cellsDv]
  | .ent, t => by simp [Ty.tcs, Ty.cells, TC.toC, entC, Tm.cells_eq t.a, cellsTm]
  | .jd, t => by simp [Ty.tcs, Ty.cells, TC.toC, jdC, Tm.cells_eq t.a, Tm.cells_eq t.u, Tm.cells_eq t.v, cellsTm]
  | .fl, t => by simp [Ty.tcs, Ty.cells, TC.toC, flC, Dv.cells_eq t.d, cellsDv, Dv.rows_eq]
  | .fm, t => by simp [Ty.tcs, Ty.cells, TC.toC, fmC, Tm.cells_eq t.a, Tm.cells_eq t.b, cellsTm]

theorem tcs_length (T : Ty) (x : T.den) : (T.tcs x).length = T.size := by cases T <;> rfl
theorem cells_length (T : Ty) (x : T.den) : (T.cells x).length = T.size := by rw [← tcs_toC, List.length_map, tcs_length]

theorem subD_cells {T : Ty} {x : T.den} {off size : Nat} {z : (U : Ty) × U.den} (h : subD T x off size = some z) : ((T.cells x).drop off).take size = z.1.cells z.2 ∧ z.1.size = size ∧ off + size ≤ T.size := by
  unfold subD at h
  split at h
  · rename_i e
    split at h
    · rename_i hc; cases h; obtain ⟨rfl, rfl⟩ := hc
      exact ⟨List.take_of_length_le (by simp [cells_length, Ty.size]), rfl, Nat.le_refl _⟩
    · split at h
      · rename_i hc; cases h; obtain ⟨rfl, rfl⟩ := hc
        refine ⟨?_, rfl, by simp [Ty.size]⟩
        show ((entC e).drop 0).take 5 = Tm.cells e.a
        rw [entC, Tm.cells_eq]; rfl
      · cases h
  · rename_i j
    split at h
    · rename_i hc; cases h; obtain ⟨rfl, rfl⟩ := hc
      exact ⟨List.take_of_length_le (by simp [cells_length, Ty.size]), rfl, Nat.le_refl _⟩
    · split at h
      · rename_i hc; cases h; obtain ⟨rfl, rfl⟩ := hc
        refine ⟨?_, rfl, by simp [Ty.size]⟩
        show ((jdC j).drop 1).take 5 = Tm.cells j.u
        rw [jdC, Tm.cells_eq, Tm.cells_eq, Tm.cells_eq]; rfl
      · split at h
        · rename_i hc; cases h; obtain ⟨rfl, rfl⟩ := hc
          refine ⟨?_, rfl, by simp [Ty.size]⟩
          show ((jdC j).drop 6).take 5 = Tm.cells j.v
          rw [jdC, Tm.cells_eq, Tm.cells_eq, Tm.cells_eq]; rfl
        · split at h
          · rename_i hc; cases h; obtain ⟨rfl, rfl⟩ := hc
            refine ⟨?_, rfl, by simp [Ty.size]⟩
            show ((jdC j).drop 11).take 5 = Tm.cells j.a
            rw [jdC, Tm.cells_eq, Tm.cells_eq, Tm.cells_eq]; rfl
          · cases h
  · rename_i f
    split at h
    · rename_i hc; cases h; obtain ⟨rfl, rfl⟩ := hc
      exact ⟨List.take_of_length_le (by simp [cells_length, Ty.size]), rfl, Nat.le_refl _⟩
    · split at h
      · rename_i hc; cases h; obtain ⟨rfl, rfl⟩ := hc
        refine ⟨?_, rfl, by simp [Ty.size]⟩
        show ((flC f).drop 1).take 3 = Dv.cells f.d
        rw [flC, Dv.cells_eq]; rfl
      · cases h
  · rename_i f
    split at h
    · rename_i hc; cases h; obtain ⟨rfl, rfl⟩ := hc
      exact ⟨List.take_of_length_le (by simp [cells_length, Ty.size]), rfl, Nat.le_refl _⟩
    · split at h
      · rename_i hc; cases h; obtain ⟨rfl, rfl⟩ := hc
        refine ⟨?_, rfl, by simp [Ty.size]⟩
        show ((fmC f).drop 2).take 5 = Tm.cells f.a
        rw [fmC, Tm.cells_eq, Tm.cells_eq]; rfl
      · split at h
        · rename_i hc; cases h; obtain ⟨rfl, rfl⟩ := hc
          refine ⟨?_, rfl, by simp [Ty.size]⟩
          show ((fmC f).drop 7).take 5 = Tm.cells f.b
          rw [fmC, Tm.cells_eq, Tm.cells_eq]; rfl
        · cases h
  · split at h
    · rename_i hc; cases h; obtain ⟨rfl, rfl⟩ := hc
      exact ⟨List.take_of_length_le (by simp [cells_length]), rfl, by omega⟩
    · cases h

theorem map_c (l : List TC) (fr : Bool) : (l.map (SC.c · fr)).map SC.to = (l.map TC.toC).map (.c · fr) := by simp [Function.comp_def, SC.to]

theorem S1.cells_to (x : S1) : x.cells.map SC.to = x.to.cells := by
  cases x with
  | one x => rfl
  | st T x fr => simp only [S1.cells, S1.to, A1.cells, map_c, tcs_toC]
  | agg xs => rfl
theorem S1.cells_len (x : S1) : x.to.cells.length = x.cells.length := by rw [← S1.cells_to, List.length_map]

theorem SOb.cells_to {o : SOb} {cells : List SC} (h : o.cells = some cells) : o.to = .box (cells.map SC.to) := by
  cases o with
  | box l => cases h; rfl
  | bst T x fr =>
    cases h
    rw [so_bst, map_c, tcs_toC]
  | row => cases h
theorem SS.box_some {s : SS} {id : Nat} {cells : List SC} (h : (s.obj id).bind SOb.cells = some cells) : s.to.obj id = some (.box (cells.map SC.to)) := by
  obtain ⟨o, h1, h2⟩ := Option.bind_eq_some_iff.1 h
  rw [SS.obj_some h1, SOb.cells_to h2]
theorem S1.ob_to (a : S1) : a.ob.to = .box a.to.cells := by
  rw [← S1.cells_to]
  cases a with
  | one x => rfl
  | st T x fr => simp only [S1.ob, so_bst, S1.cells, map_c, tcs_toC]
  | agg xs => rfl
theorem TC.tms_toC {x : TC} {l : List Tm} (h : x.tms = some l) : x.toC = .slice (l.map Tm.cells) := by
  unfold TC.tms at h
  split at h <;> cases h <;> rfl
theorem TC.dvs_toC {x : TC} {l : List Dv} (h : x.dvs = some l) : x.toC = .slice (l.map Dv.cells) := by
  unfold TC.dvs at h
  split at h <;> cases h <;> rfl
theorem packTm_cells {l : List TC} {t : Tm} (h : packTm l = some t) : l.map TC.toC = t.cells := by
  unfold packTm at h
  split at h
  · split at h
    · rename_i hx
      cases h
      simp only [List.map_cons, List.map_nil, TC.tms_toC hx]
      simp [TC.toC, Tm.cells, Tm.rows_eq]
    · cases h
  · cases h
theorem packDv_cells {l : List TC} {t : Dv} (h : packDv l = some t) : l.map TC.toC = t.cells := by
  unfold packDv at h
  split at h
  · split at h
    · rename_i hx
      cases h
      simp only [List.map_cons, List.map_nil, TC.dvs_toC hx]
      simp [TC.toC, Dv.cells, Dv.rows_eq]
    · cases h
  · cases h

theorem pack_cells : ∀ {T : Ty} {l : List TC} {d : T.den}, pack T l = some d → l.map TC.toC = T.cells d := by
  intro T l d h
  unfold pack at h
  split at h
  · cases h; rfl
  · cases h; rfl
  · cases h; rfl
  · cases h; rfl
  · exact packTm_cells h
  · exact packDv_cells h
  · split at h
    · rename_i a i h1 h2
      cases h
      have e := List.take_append_drop 5 l
      rw [← e, List.map_append, packTm_cells h1, h2]
      rfl
    · cases h
  · split at h
    · rename_i e l
      split at h
      · rename_i u v a i h1 h2 h3 h4
        cases h
        have e1 := List.take_append_drop 5 l
        have e2 := List.take_append_drop 5 (l.drop 5)
        have e3 := List.take_append_drop 5 (l.drop 10)
        rw [List.drop_drop] at e2 e3
        rw [List.map_cons, ← e1, ← e2, ← e3, List.map_append, List.map_append, List.map_append, packTm_cells h1, packTm_cells h2, packTm_cells h3, h4]
        simp [TC.toC, Ty.cells, jdC]
      · cases h
    · cases h
  · split at h
    · rename_i x l
      split at h
      · rename_i c d h1 h2
        cases h
        simp [Ty.cells, flC, TC.dvs_toC h1, packDv_cells h2, Dv.rows_eq]
      · cases h
    · cases h
  · split at h
    · rename_i i j l
      split at h
      · rename_i a b h1 h2
        cases h
        have e := List.take_append_drop 5 l
        rw [List.map_cons, List.map_cons, ← e, List.map_append, packTm_cells h1, packTm_cells h2]
        rfl
      · cases h
    · cases h
  · cases h

theorem castL_rows {T T' : Ty} {l' : List T'.den} {l : List T.den} (h : castL T T' l' = some l) : l.map T.cells = l'.map T'.cells := by
  unfold castL at h
  split at h <;> cases h <;> rfl
theorem castL_ty {T T' : Ty} {l' : List T'.den} {l : List T.den} (h : castL T T' l' = some l) : T = T' := by
  unfold castL at h
  split at h <;> cases h <;> rfl

theorem SS.resC_to {s : SS} {x : SC} {c : TC} {f : Bool} {ids : List Nat} (h : s.resC x = some (c, f, ids)) : s.to.resC x.to = some (c.toC, f, ids) := by
  unfold SS.resC at h
  split at h
  · cases h; simp [SC.to, AS.resC, TC.toC_flat]
  · cases h; rfl
  · split at h
    · rename_i ho
      cases h
      simp [SC.to, AS.resC, SS.obj_some ho, SOb.to, TC.toC]
    · cases h
  · split at h
    · rename_i ho
      cases h
      simp [SC.to, AS.resC, SS.obj_some ho, SOb.to, TC.toC, List.map_take]
    · cases h
  · cases h

theorem SS.resCs_to {s : SS} : ∀ {xs : List SC} {cs : List TC} {f : Bool} {ids : List Nat}, s.resCs xs = some (cs, f, ids) → s.to.resCs (xs.map SC.to) = some (cs.map TC.toC, f, ids)
  | [], cs, f, ids, h => by cases h; rfl
  | x :: xs, cs, f, ids, h => by
    simp only [SS.resCs] at h
    split at h
    · rename_i h1 h2
      cases h
      simp [AS.resCs, SS.resC_to h1, SS.resCs_to h2]
    · cases h

theorem SS.rowsOf_to {s : SS} {T : Ty} {v : SV} {l : List T.den} {f : Bool} {ids : List Nat} (h : s.rowsOf T v = some (l, f, ids)) : s.to.rowsOf v.to = some (l.map T.cells, f, ids) := by
  unfold SS.rowsOf at h
  split at h
  · split at h
    · rename_i hc
      cases h
      simp [SV.to, S1.to, SC.to, TC.toC, AS.rowsOf, castL_rows hc]
    · cases h
  · cases h; rfl
  · cases h; rfl
  · split at h
    · rename_i ho
      split at h
      · rename_i hc
        cases h
        simp [SV.to, S1.to, SC.to, AS.rowsOf, SS.obj_some ho, SOb.to, castL_rows hc]
      · cases h
    · cases h
  · cases h

theorem fillS_to {flds : List (Nat × Nat × Bool)} : ∀ {ps : List (Nat × S1)} {cs : List SC} {r : List SC}, fillS flds ps cs = some r → fillA flds (ps.map (fun p => (p.1, p.2.to))) (cs.map SC.to) = some (r.map SC.to)
  | [], cs, r, h => by cases h; rfl
  | (i, x) :: rest, cs, r, h => by
    simp only [fillS] at h
    split at h
    · rename_i off size _ hf
      split at h
      · rename_i hc
        have := fillS_to h
        simp only [List.map_append, List.map_take, List.map_drop, S1.cells_to] at this
        simp only [List.map_cons, fillA, hf, S1.cells_len, List.length_map]
        rw [if_pos hc]
        exact this
      · cases h
    · cases h

theorem SS.evParts_to {s : SS} : ∀ {ps : List (Nat × Operand)} {l : List (Nat × S1)}, s.evParts ps = some l → s.to.evParts ps = some (l.map (fun p => (p.1, p.2.to)))
  | [], l, h => by cases h; rfl
  | (i, x) :: rest, l, h => by
    simp only [SS.evParts] at h
    split at h
    · rename_i h1 h2
      cases h
      simp [AS.evParts, SS.ev_to h1, SV.to, SS.evParts_to h2]
    · cases h

theorem SS.fillL_to {s : SS} {T : Ty} : ∀ {ps : List (Nat × S1)} {l : List T.den} {fr : Bool} {r : List T.den} {f : Bool} {ids : List Nat}, s.fillL T ps l fr = some (r, f, ids) →
    s.to.fillRows T.size (ps.map (fun p => (p.1, p.2.to))) (l.map T.cells) fr = some (r.map T.cells, f, ids)
  | [], l, fr, r, f, ids, h => by cases h; rfl
  | (i, x) :: rest, l, fr, r, f, ids, h => by
    simp only [SS.fillL] at h
    split at h
    · rename_i cs f1 ids1 h1
      split at h
      · rename_i d hd
        split at h
        · rename_i hi
          split at h
          · rename_i h2
            cases h
            have h3 := SS.fillL_to h2
            have h4 := SS.resCs_to h1
            rw [S1.cells_to, pack_cells hd] at h4
            simp only [List.map_set] at h3
            simp only [List.map_cons, AS.fillRows, h4, cells_length, List.length_map, hi, and_self, if_true, h3]
          · cases h
        · cases h
      · cases h
    · cases h

section
variable {β : Type}
theorem ckI_some {n : Int} {x : Option β} {r : β} (h : ckI n x = some r) : InI64 n ∧ x = some r := by
  unfold ckI at h
  cases hb : inB n with
  | true =>
    rw [hb] at h
    exact ⟨(inB_iff n).1 hb, h⟩
  | false => rw [hb] at h; cases h
theorem ckB_some {b : Bool} {x : Option β} {r : β} (h : ckB b x = some r) : b = true ∧ x = some r := by
  unfold ckB at h
  split at h
  · exact ⟨by assumption, h⟩
  · cases h
theorem atN_some {α : Type} {l : List α} {n : Nat} {k : α → Option β} {r : β} (h : atN l n k = some r) : ∃ x, l[n]? = some x ∧ k x = some r := by
  unfold atN at h
  split at h
  · exact ⟨_, by assumption, h⟩
  · cases h
theorem atI_some {α : Type} {l : List α} {n : Int} {k : α → Option β} {r : β} (h : atI l n k = some r) : 0 ≤ n ∧ ∃ x, l[n.toNat]? = some x ∧ k x = some r := by
  unfold atI at h
  split at h
  · exact ⟨by assumption, atN_some h⟩
  · cases h

/-- What the typed operation hands on is the operation's effect. -/
def OpOk (P : Program) (nid : Nat) (op : Op) (s : SS) (k : SV → List (Nat × Option SOb) → List Nat → Option β) (r : β) : Prop :=
  ∃ sv ups rd, k sv ups rd = some r ∧ ∃ e, effOp P nid op s.to = some e ∧ e.val = sv.to ∧ e.ups = ups.map upTo ∧ e.rd = rd ∧ e.side

theorem OpOk.mk {P : Program} {nid : Nat} {op : Op} {s : SS} {k : SV → List (Nat × Option SOb) → List Nat → Option β} {r : β} {sv : SV} {ups : List (Nat × Option SOb)} {rd : List Nat} (hk : k sv ups rd = some r)
    {side : Prop} (hs : side) (he : effOp P nid op s.to = some { val := sv.to, ups := ups.map upTo, rd := rd, side := side }) : OpOk P nid op s k r :=
  ⟨sv, ups, rd, hk, _, he, rfl, rfl, rfl, hs⟩

theorem binT_ok {P : Program} {tab : Nat → Option TE} (htab : ∀ T te, tab T = some te → tabOf P T = some te) {nid : Nat} {s : SS} {op : BinOp} {xT yT : Nat} {x y : Operand} {a b : SV} (h1 : s.ev x = some a) (h2 : s.ev y = some b)
    {k : SV → List (Nat × Option SOb) → List Nat → Option β} {r : β} (h : binT tab op xT (fun v => k v [] []) a b = some r) : OpOk P nid (.binOp op xT x y yT) s k r := by
  have e1 := SS.ev_to h1
  have e2 := SS.ev_to h2
  unfold binT at h
  split at h
  · split at h
    · split at h
      · obtain ⟨hi, h⟩ := ckI_some h
        exact .mk h trivial (by simp [effOp, e1, e2, effBin, SV.to, S1.to, SC.to, TC.toC, wrap_id hi])
      · exact .mk h trivial (by simp [effOp, e1, e2, effBin, SV.to, S1.to, SC.to, TC.toC, wrI])
    all_goals first | (obtain ⟨hi, h⟩ := ckI_some h; exact .mk h hi (by simp [effOp, e1, e2, effBin, SV.to, S1.to, SC.to, TC.toC])) |
      exact .mk h trivial (by simp [effOp, e1, e2, effBin, SV.to, S1.to, SC.to, TC.toC]) | cases h
  · split at h
    · rename_i te ht
      split at h
      · rename_i hb
        split at h <;> first | exact .mk h trivial (by simp [effOp, e1, e2, effBin, SV.to, S1.to, SC.to, TC.toC, htab _ _ ht, hb]) | cases h
      · cases h
    · cases h
  · split at h <;> first | exact .mk h trivial (by simp [effOp, e1, e2, effBin, SV.to, S1.to, SC.to, TC.toC]) | cases h
  · split at h <;> first | exact .mk h trivial (by simp [effOp, e1, e2, effBin, SV.to, S1.to, SC.to, TC.toC, fLt, fLe, fGt, fGe]) | cases h
  · split at h
    · rename_i te ht
      split at h
      · rename_i hb
        split at h <;> first | exact .mk h trivial (by simp [effOp, e1, e2, effBin, SV.to, S1.to, SC.to, TC.toC, htab _ _ ht, hb]) | cases h
      · cases h
    · cases h
  · split at h
    · rename_i te ht
      split at h
      · rename_i hb
        split at h <;> first | exact .mk h trivial (by simp [effOp, e1, e2, effBin, SV.to, S1.to, SC.to, TC.toC, htab _ _ ht, hb, fbTo_isSome]) | cases h
      · cases h
    · cases h
  · cases h

theorem behind_ok {s : SS} {p : SV} {k : List SC → List Nat → Option β} {r : β} (h : s.behind p k = some r) :
    ∃ cells ids, k cells ids = some r ∧ ∃ side, s.to.behind p.to = some (cells.map SC.to, ids, side) ∧ side := by
  unfold SS.behind at h
  split at h
  · split at h
    · rename_i ho
      exact ⟨_, _, h, _, by simp only [sv_v, s1_one, sc_ptr, AS.behind, SS.box_some ho, List.map_drop], trivial⟩
    · cases h
  · rename_i id sz i off
    split at h
    · rename_i e T l fr ho
      split at h
      · rename_i hsz
        obtain ⟨x, hx, hk⟩ := atN_some h
        refine ⟨_, _, hk, _, by simp only [SV.to, S1.to, SC.to, AS.behind, SS.obj_some ho, SOb.to, hsz, if_true]; rw [List.map_drop, List.map_drop, map_c, tcs_toC]; simp [hx]; rfl, ?_⟩
        have := (List.getElem?_eq_some_iff.1 hx).1
        simpa using this
      · cases h
    · cases h
  · exact ⟨_, _, h, _, by simp only [SV.to, S1.to, SC.to, AS.behind]; rw [List.map_drop, List.map_drop, map_c, tcs_toC], trivial⟩
  · exact ⟨_, _, h, _, by simp only [SV.to, S1.to, SC.to, AS.behind]; rw [map_c], trivial⟩
  · exact ⟨_, _, h, _, by simp only [SV.to, AS.behind]; rw [map_c, tcs_toC], trivial⟩
  · cases h

theorem whole_ok {s : SS} {p : SV} {size : Nat} {k : S1 → List Nat → Option β} {o : Option β} (h : s.whole p size k = some o) {r : β} (hr : o = some r) :
    ∃ x ids, k x ids = some r ∧ ∃ side cells, s.to.behind p.to = some (cells, ids, side) ∧ side ∧ size ≤ cells.length ∧ x.to = .agg (cells.take size) := by
  have len : ∀ {T : Ty} {x : T.den} {off : Nat} {z : (U : Ty) × U.den}, subD T x off size = some z → size ≤ ((T.cells x).drop off).length := fun {T x off z} hz => by
    have := (subD_cells hz).2.2
    simp [cells_length]
    omega
  unfold SS.whole at h
  split at h
  · split at h
    · rename_i T x fr ho
      split at h
      · rename_i U y hz
        simp only [Option.some.injEq] at h
        rw [hr] at h
        refine ⟨_, _, h, _, _, by simp only [sv_v, s1_one, sc_ptr, AS.behind, SS.obj_some ho, so_bst]; rfl, trivial, ?_, ?_⟩
        · rw [← List.map_drop, List.length_map]; exact len hz
        · rw [s1_st, ← List.map_drop, ← List.map_take, (subD_cells hz).1]
      · cases h
    · cases h
  · rename_i id sz i off
    split at h
    · rename_i e T l fr ho
      split at h
      · rename_i hsz
        simp only [Option.some.injEq] at h
        rw [hr] at h
        obtain ⟨x, hx, hk⟩ := atN_some h
        split at hk
        · rename_i U y hz
          refine ⟨_, _, hk, _, _, by simp only [SV.to, S1.to, SC.to, AS.behind, SS.obj_some ho, SOb.to, hsz.1, if_true]; rfl, ?_, ?_, ?_⟩
          · have := (List.getElem?_eq_some_iff.1 hx).1
            simpa using this
          · rw [List.length_map]
            simpa [hx] using len hz
          · rw [s1_st, ← List.map_take]
            have e : (l.map T.cells).getD i.toNat [] = T.cells x := by simp [hx]
            rw [e, (subD_cells hz).1]
        · cases hk
      · cases h
    · cases h
  · rename_i T x off
    split at h
    · rename_i U y hz
      simp only [Option.some.injEq] at h
      rw [hr] at h
      refine ⟨_, _, h, _, _, by simp only [SV.to, S1.to, SC.to, AS.behind]; rfl, trivial, ?_, ?_⟩
      · rw [List.length_map]; exact len hz
      · rw [s1_st, ← List.map_take, (subD_cells hz).1]
    · cases h
  · rename_i T x
    split at h
    · rename_i U y hz
      simp only [Option.some.injEq] at h
      rw [hr] at h
      refine ⟨_, _, h, _, _, by simp only [SV.to, AS.behind]; rfl, trivial, ?_, ?_⟩
      · rw [List.length_map]; exact len hz
      · rw [s1_st, ← List.map_take]
        have := (subD_cells hz).1
        rw [List.drop_zero] at this
        rw [this]
    · cases h
  · cases h
end
end Go.Proofs.YtcaahmielncmpaaGreat

namespace Go.Proofs.YtcaahmielncmpaaGreat
open Go Go.RowKit
section
variable {β : Type} {P : Program} {tab : Nat → Option TE} {ty : Nat → Option Ty} {nid : Nat} {s : SS} {k : SV → List (Nat × Option SOb) → List Nat → Option β} {r : β}

theorem load_ok (htab : ∀ T te, tab T = some te → tabOf P T = some te) {T : TypeId} {p : Operand} {te : TE} {pv : SV} (h1 : tab T = some te) (h2 : s.ev p = some pv) (h : loadT te s pv k = some r) : OpOk P nid (.load T p) s k r := by
  have e1 := htab _ _ h1
  have e2 := SS.ev_to h2
  unfold loadT at h
  split at h
  · rename_i hagg
    split at h
    · rename_i o ho
      obtain ⟨x, ids, hk, side, cells, hb, hs, hl, hx⟩ := whole_ok ho h
      refine .mk hk hs ?_
      simp only [effOp, e1, e2, hb, hagg, if_true]
      by_cases hlen : cells.length = te.size
      · rw [if_pos hlen, sv_v, hx, List.take_of_length_le (by omega)]
        rfl
      · rw [if_neg hlen, if_pos hl, sv_v, hx]
        rfl
    · obtain ⟨cells, ids, hk, side, hb, hs⟩ := behind_ok h
      split at hk
      · rename_i hl
        refine .mk hk hs ?_
        simp only [effOp, e1, e2, hb, hagg, if_true]
        rw [if_pos (by simpa using hl)]
        rfl
      · rename_i hl
        split at hk
        · rename_i hl2
          refine .mk hk hs ?_
          simp only [effOp, e1, e2, hb, hagg, if_true]
          rw [if_neg (by simpa using hl), if_pos (by simpa using hl2)]
          simp [List.map_take, sv_v, sv_tup, sv_undef, s1_one, s1_st, s1_agg, sc_c, sc_nils, sc_ptr, sc_el, sc_arr, sc_ro, sc_rc, tc_int, tc_bool, tc_str, tc_flt, tc_sl, tc_nil, so_box, so_row, up_some, up_none]
        · cases hk
  · rename_i hagg
    obtain ⟨cells, ids, hk, side, hb, hs⟩ := behind_ok h
    split at hk
    · refine .mk hk hs ?_
      simp only [List.map_cons] at hb
      simp only [effOp, e1, e2, hb, hagg]
      rfl
    · cases hk

theorem kill_map (ids : List Nat) : (ids.map (fun i => ((i, none) : Nat × Option SOb))).map upTo = ids.map (fun i => ((i, none) : Nat × Option Ob)) := by
  simp [upTo, Function.comp_def]

theorem store_ok (htab : ∀ T te, tab T = some te → tabOf P T = some te) {T : TypeId} {p x : Operand} {te : TE} {pv : SV} {a : S1} (h1 : tab T = some te) (h2 : s.ev p = some pv) (h3 : s.ev x = some (.v a)) (h : storeT te s pv a k = some r) :
    OpOk P nid (.store T p x) s k r := by
  have e1 := htab _ _ h1
  have e2 := SS.ev_to h2
  have e3 := SS.ev_to h3
  unfold storeT at h
  split at h
  · rename_i id off
    split at h
    · rename_i cells ho
      split at h
      · rename_i hc
        have e4 := SS.box_some ho
        simp only [sv_v, s1_one, sc_ptr] at e2 e3
        split at h
        · rename_i hw
          refine .mk h trivial ?_
          simp only [effOp, e1, e2, e3, e4, S1.cells_len, List.length_map]
          rw [if_pos hc]
          have hsp : splice (cells.map SC.to) off a.to.cells = a.to.cells := by
            unfold splice
            rw [if_pos ⟨hw.1, by rw [S1.cells_len, List.length_map]; omega⟩]
          simp [up_some, S1.ob_to, hsp, sv_undef]
        · refine .mk h trivial ?_
          have hsp : (splice cells off a.cells).map SC.to = splice (cells.map SC.to) off a.to.cells := by
            unfold splice
            rw [← S1.cells_to]
            simp only [List.length_map]
            split
            · rfl
            · simp only [List.map_append, List.map_take, List.map_drop]
          simp only [effOp, e1, e2, e3, e4, S1.cells_len, List.length_map]
          rw [if_pos hc]
          simp [up_some, so_box, hsp, sv_undef]
      · cases h
    · cases h
  · rename_i id sz i off
    split at h
    · rename_i e Y l fr cs f ids ho hres
      have e4 := SS.obj_some ho
      have e5 := SS.resCs_to hres
      rw [S1.cells_to] at e5
      split at h
      · rename_i hoff
        subst hoff
        split at h
        · rename_i d hd
          split at h
          · rename_i hc
            obtain ⟨c1, c2, c3, c4⟩ := hc
            obtain ⟨hlt, hk⟩ := ckB_some h
            have hlt : i.toNat < l.length := by simpa using hlt
            refine .mk hk (side := i.toNat < (l.map Y.cells).length) (by simpa using hlt) ?_
            simp only [effOp, e1, e2, e3, e4, e5, List.length_map, sv_v, sv_tup, sv_undef, s1_one, s1_st, s1_agg, sc_c, sc_nils, sc_ptr, sc_el, sc_arr, sc_ro, sc_rc, tc_int, tc_bool, tc_str, tc_flt, tc_sl, tc_nil, so_box, so_row, up_some, up_none]
            rw [if_pos ⟨c1, c2, by omega, c4⟩]
            have hsp : splice ((l.map Y.cells).getD i.toNat []) 0 (cs.map TC.toC) = Y.cells d := by
              unfold splice
              have e9 : (l.map Y.cells).getD i.toNat [] = Y.cells (l[i.toNat]) := by simp [hlt]
              rw [pack_cells hd, e9, cells_length, cells_length, if_pos ⟨rfl, rfl⟩]
            rw [hsp]
            simp [kill_map, List.map_set, c1, sv_v, sv_tup, sv_undef, s1_one, s1_st, s1_agg, sc_c, sc_nils, sc_ptr, sc_el, sc_arr, sc_ro, sc_rc, tc_int, tc_bool, tc_str, tc_flt, tc_sl, tc_nil, so_box, so_row, up_some, up_none]
          · cases h
        · cases h
      · rename_i hoff
        split at h
        · rename_i hc
          obtain ⟨c1, c2, c3, c4⟩ := hc
          obtain ⟨x, hx, hk⟩ := atN_some h
          split at hk
          · rename_i d hd
            have hlt := (List.getElem?_eq_some_iff.1 hx).1
            refine .mk hk (side := i.toNat < (l.map Y.cells).length) (by simpa using hlt) ?_
            simp only [effOp, e1, e2, e3, e4, e5, List.length_map, sv_v, sv_tup, sv_undef, s1_one, s1_st, s1_agg, sc_c, sc_nils, sc_ptr, sc_el, sc_arr, sc_ro, sc_rc, tc_int, tc_bool, tc_str, tc_flt, tc_sl, tc_nil, so_box, so_row, up_some, up_none]
            rw [if_pos ⟨c1, c2, c3, c4⟩]
            have hsp : splice ((l.map Y.cells).getD i.toNat []) off (cs.map TC.toC) = Y.cells d := by
              have h1 := pack_cells hd
              have : (l.map Y.cells).getD i.toNat [] = Y.cells x := by simp [hx]
              rw [this, ← h1, ← tcs_toC]
              unfold splice
              simp only [List.length_map]
              split
              · rfl
              · simp only [List.map_append, List.map_take, List.map_drop]
            rw [hsp]
            simp [kill_map, List.map_set, c1, sv_v, sv_tup, sv_undef, s1_one, s1_st, s1_agg, sc_c, sc_nils, sc_ptr, sc_el, sc_arr, sc_ro, sc_rc, tc_int, tc_bool, tc_str, tc_flt, tc_sl, tc_nil, so_box, so_row, up_some, up_none]
          · cases hk
        · cases h
    · cases h
  · cases h

theorem SS.isPre_to {x : Operand} {v : SV} (h : s.ev x = some v) (lo hi : Option Operand) : s.to.isPre x lo hi = s.isPre x lo hi := by
  unfold AS.isPre SS.isPre
  rw [SS.ev_to h, h]
  cases lo with
  | some _ => rfl
  | none =>
  cases hi with
  | none => rfl
  | some _ =>
  cases v with
  | v y =>
    cases y with
    | one c => cases c <;> rfl
    | st T y fr => rfl
    | agg xs => rfl
  | tup xs => rfl
  | undef => rfl
  | old y => cases y <;> rfl
  | sh T l => rfl
  | rp T x => rfl
theorem pre_ok (htab : ∀ T te, tab T = some te → tabOf P T = some te) {T : TypeId} {x : Operand} {lo hi : Option Operand} (hp : s.isPre x lo hi = true) (h : preT tab s T x hi k = some r) : OpOk P nid (.slice T x lo hi none) s k r := by
  unfold preT at h
  split at h
  · rename_i te xv n _ h1 h2 h3
    split at h
    · rename_i E id sz len h4 h5
      split at h
      · rename_i tE h6
        split at h
        · rename_i hsz
          obtain ⟨hb, hk⟩ := ckB_some h
          simp only [Bool.and_eq_true, decide_eq_true_eq] at hb
          have h0 := (SS.isPre_to h2 lo hi).trans hp
          obtain ⟨oh, rfl⟩ : ∃ oh, hi = some oh := by
            cases hi with
            | some oh => exact ⟨oh, rfl⟩
            | none => cases h3
          have e3 := SS.ev_to h3
          simp only [sv_v, s1_one, sc_c, tc_int] at e3
          have hq : ∃ rows, s.to.preOf xv.to = some (id, sz, rows) ∧ rows.length = len := by
            unfold SS.preOf at h5
            split at h5
            · split at h5
              · rename_i ho
                cases h5
                exact ⟨_, by simp only [sv_v, s1_one, sc_arr, AS.preOf, SS.obj_some ho, so_row]; rfl, by simp⟩
              · cases h5
            · split at h5
              · rename_i ho
                cases h5
                exact ⟨_, by simp only [sv_v, s1_one, sc_pre, AS.preOf, SS.obj_some ho, so_row]; rfl, by simp⟩
              · cases h5
            · cases h5
          obtain ⟨rows, hq, hlen⟩ := hq
          refine .mk hk (side := 0 ≤ n ∧ n ≤ rows.length) (by rw [hlen]; exact hb) ?_
          simp only [effOp, h0, if_true, AS.preSl, htab _ _ h1, SS.ev_to h2, e3, h4, hq, htab _ _ h6, if_pos hsz]
          rfl
        · cases h
      · cases h
    · cases h
  · cases h
theorem slice_ok (htab : ∀ T te, tab T = some te → tabOf P T = some te) {T : TypeId} {x : Operand} {lo hi : Option Operand} {te tE : TE} {xv : SV} {E : Nat} {Y : Ty} {l : List Y.den} {fr : Bool} {ids : List Nat} {lv hv : Option SV}
    (h1 : tab T = some te) (h2 : s.ev x = some xv) (h3 : te.elem = some E) (h4 : tab E = some tE) (h6 : s.rowsOf Y xv = some (l, fr, ids))
    (h7 : (match lo with | none => some none | some o => (s.ev o).map some) = some lv) (h8 : (match hi with | none => some none | some o => (s.ev o).map some) = some hv) (hc : Y.size = tE.size) (hp : s.isPre x lo hi = false)
    (h : sliceT Y l fr ids lv hv k = some r) : OpOk P nid (.slice T x lo hi none) s k r := by
  have h0 : s.to.isPre x lo hi = false := (SS.isPre_to h2 lo hi).trans hp
  have e2 := SS.ev_to h2
  have e6 := SS.rowsOf_to h6
  unfold sliceT at h
  split at h
  · rename_i a fa b fb q1 q2
    obtain ⟨hb, hk⟩ := ckB_some h
    simp only [Bool.and_eq_true, decide_eq_true_eq] at hb
    have g1 : (match lo with | none => some (iv 0) | some o => s.to.ev o) = some (AV.v (.one (.c (.int a) fa))) := by
      cases lo with
      | none =>
        simp only [Option.some.injEq] at h7
        subst h7
        simp only [Option.some.injEq, SV.v.injEq, S1.one.injEq, SC.c.injEq, TC.int.injEq] at q1
        obtain ⟨rfl, rfl⟩ := q1
        rfl
      | some o =>
        obtain ⟨v, hv1, hv2⟩ := Option.map_eq_some_iff.1 h7
        subst hv2
        simp only [Option.some.injEq] at q1
        subst q1
        exact SS.ev_to hv1
    have g2 : (match hi with | none => some (iv (l.map Y.cells).length) | some o => s.to.ev o) = some (AV.v (.one (.c (.int b) fb))) := by
      cases hi with
      | none =>
        simp only [Option.some.injEq] at h8
        subst h8
        simp only [Option.some.injEq, SV.v.injEq, S1.one.injEq, SC.c.injEq, TC.int.injEq] at q2
        obtain ⟨rfl, rfl⟩ := q2
        simp [iv]
      | some o =>
        obtain ⟨v, hv1, hv2⟩ := Option.map_eq_some_iff.1 h8
        subst hv2
        simp only [Option.some.injEq] at q2
        subst q2
        exact SS.ev_to hv1
    refine .mk hk (side := 0 ≤ a ∧ a ≤ b ∧ b ≤ (l.map Y.cells).length ∧ ∀ r ∈ l.map Y.cells, r.length = tE.size) ⟨hb.1, hb.2.1, by simpa using hb.2.2, fun r hr => ?_⟩ ?_
    · obtain ⟨y, _, rfl⟩ := List.mem_map.1 hr
      rw [cells_length, hc]
    · simp only [sv_v, s1_one, sc_c, tc_sl, List.map_drop, List.map_take, kill_map]
      revert g1 g2
      cases lo <;> cases hi <;> intro g1 g2 <;> dsimp only at g1 g2 <;> simp only [effOp, h0, Bool.false_eq_true, if_false, htab _ _ h1, e2, h3, e6, htab _ _ h4, g1, g2]
  · cases h

theorem len_ok (htab : ∀ T te, tab T = some te → tabOf P T = some te) {T : TypeId} {x : Operand} {te : TE} {xv : SV} {E : Nat} {Y : Ty} {l : List Y.den} {fr : Bool} {ids : List Nat} {args : Array Operand} {ts : Array TypeId}
    (ha : args.toList = [x]) (ht : ts.toList = [T]) (h1 : tab T = some te) (h2 : s.ev x = some xv) (h3 : te.elem = some E) (h6 : s.rowsOf Y xv = some (l, fr, ids))
    (h : k (.v (.one (.c (.int l.length) true))) [] ids = some r) : OpOk P nid (.call { callee := .builtin .len, args := args, argTypes := ts }) s k r := by
  have e2 := SS.ev_to h2
  have e6 := SS.rowsOf_to h6
  refine .mk h trivial ?_
  obtain ⟨z, rfl⟩ : ∃ z, xv = .v z := by cases xv <;> first | exact ⟨_, rfl⟩ | cases h6
  rw [sv_v] at e2 e6
  simp only [effOp, ha, ht, htab _ _ h1, e2, h3, Option.isSome_some, if_true, e6]
  simp [sv_v, s1_one, sc_c, tc_int, iv]

theorem max_ok {x y : Operand} {args : Array Operand} {ts : Array TypeId} {a b : Int} {fa fb : Bool} (ha : args.toList = [x, y]) (h1 : s.ev x = some (.v (.one (.c (.int a) fa)))) (h2 : s.ev y = some (.v (.one (.c (.int b) fb))))
    (h : k (.v (.one (.c (.int (max a b)) true))) [] [] = some r) : OpOk P nid (.call { callee := .builtin .max, args := args, argTypes := ts }) s k r := by
  have e1 := SS.ev_to h1
  have e2 := SS.ev_to h2
  simp only [sv_v, s1_one, sc_c, tc_int] at e1 e2
  refine .mk h trivial ?_
  simp [effOp, ha, e1, e2, sv_v, s1_one, sc_c, tc_int]
theorem min_ok {x y : Operand} {args : Array Operand} {ts : Array TypeId} {a b : Int} {fa fb : Bool} (ha : args.toList = [x, y]) (h1 : s.ev x = some (.v (.one (.c (.int a) fa)))) (h2 : s.ev y = some (.v (.one (.c (.int b) fb))))
    (h : k (.v (.one (.c (.int (min a b)) true))) [] [] = some r) : OpOk P nid (.call { callee := .builtin .min, args := args, argTypes := ts }) s k r := by
  have e1 := SS.ev_to h1
  have e2 := SS.ev_to h2
  simp only [sv_v, s1_one, sc_c, tc_int] at e1 e2
  refine .mk h trivial ?_
  simp [effOp, ha, e1, e2, sv_v, s1_one, sc_c, tc_int]

theorem append_nil_ok (htab : ∀ T te, tab T = some te → tabOf P T = some te) {T : TypeId} {x y : Operand} {te tE : TE} {yv : SV} {E : Nat} {Y : Ty} {new : List Y.den} {f : Bool} {ids : List Nat} {args : Array Operand} {ts : Array TypeId}
    (ha : args.toList = [x, y]) (ht : ts.toList = [T, T]) (h1 : tab T = some te) (h2 : s.ev x = some (.v (.one .nils))) (h2' : s.ev y = some yv) (h3 : te.elem = some E) (h4 : tab E = some tE) (h6 : s.rowsOf Y yv = some (new, f, ids)) (hc : Y.size = tE.size ∧ 0 < tE.size)
    (h : ckB (decide (new.length * tE.bytes ≤ 140737488355328) && decide (new.length ≤ 9223372036854775807)) (k (.v (.one (.arr nid))) [(nid, some (.row E Y new f))] ids) = some r) :
    OpOk P nid (.call { callee := .builtin .append, args := args, argTypes := ts }) s k r := by
  have e2 := SS.ev_to h2
  simp only [sv_v, s1_one, sc_nils] at e2
  have e6 := SS.rowsOf_to h6
  obtain ⟨hb, hk⟩ := ckB_some h
  simp only [Bool.and_eq_true, decide_eq_true_eq] at hb
  refine .mk hk (side := (new.map Y.cells).length * tE.bytes ≤ 140737488355328 ∧ (new.map Y.cells).length ≤ 9223372036854775807 ∧ ∀ r ∈ new.map Y.cells, r.length = tE.size) ⟨by simpa using hb.1, by simpa using hb.2, fun r hr => ?_⟩ ?_
  · obtain ⟨y, _, rfl⟩ := List.mem_map.1 hr
    rw [cells_length, hc.1]
  · simp only [effOp, ha, ht, ne_eq, not_true_eq_false, if_false, htab _ _ h1, e2, SS.ev_to h2', h3, htab _ _ h4, e6, hc.2, if_true]
    simp [sv_v, s1_one, sc_arr, up_some, so_row, hc.1]

theorem append_arr_ok (htab : ∀ T te, tab T = some te → tabOf P T = some te) {T : TypeId} {x y : Operand} {te tE : TE} {yv : SV} {E : Nat} {Y Y' : Ty} {new l : List Y.den} {l' : List Y'.den} {e id : Nat} {f fr : Bool} {ids : List Nat} {args : Array Operand} {ts : Array TypeId}
    (ha : args.toList = [x, y]) (ht : ts.toList = [T, T]) (h1 : tab T = some te) (h2 : s.ev x = some (.v (.one (.arr id)))) (h2' : s.ev y = some yv) (h3 : te.elem = some E) (h4 : tab E = some tE) (h6 : s.rowsOf Y yv = some (new, f, ids)) (hc : Y.size = tE.size ∧ 0 < tE.size)
    (ho : s.obj id = some (.row e Y' l' fr)) (hl : castL Y Y' l' = some l) (hd : e = E ∧ Y'.size = tE.size ∧ id ∉ ids)
    (h : ckB (decide ((l.length + new.length) * tE.bytes ≤ 140737488355328) && decide (l.length + new.length ≤ 9223372036854775807)) (k (.v (.one (.arr nid))) [(id, none), (nid, some (.row E Y (l ++ new) (fr && f)))] (id :: ids)) = some r) :
    OpOk P nid (.call { callee := .builtin .append, args := args, argTypes := ts }) s k r := by
  have e2 := SS.ev_to h2
  simp only [sv_v, s1_one, sc_arr] at e2
  have e6 := SS.rowsOf_to h6
  have e7 := SS.obj_some ho
  have e8 := castL_rows hl
  obtain ⟨hb, hk⟩ := ckB_some h
  simp only [Bool.and_eq_true, decide_eq_true_eq] at hb
  have hlen : l'.length = l.length := by have := congrArg List.length e8; simpa using this.symm
  refine .mk hk (side := ((l'.map Y'.cells).length + (new.map Y.cells).length) * tE.bytes ≤ 140737488355328 ∧ (l'.map Y'.cells).length + (new.map Y.cells).length ≤ 9223372036854775807 ∧ ∀ r ∈ new.map Y.cells, r.length = tE.size)
    ⟨by simpa [hlen] using hb.1, by simpa [hlen] using hb.2, fun r hr => ?_⟩ ?_
  · obtain ⟨y, _, rfl⟩ := List.mem_map.1 hr
    rw [cells_length, hc.1]
  · simp only [effOp, ha, ht, ne_eq, not_true_eq_false, if_false, htab _ _ h1, e2, SS.ev_to h2', h3, htab _ _ h4, e6, hc.2, if_true, e7, so_row]
    rw [if_pos hd]
    simp [sv_v, s1_one, sc_arr, up_some, up_none, so_row, hc.1, e8]

theorem field_cells (a : S1) (h0 : ∀ x, a = .one x → False) {off : Nat} {c : SC} (hc : a.cells[off]? = some c) : ∃ cells, a.to = .agg cells ∧ cells[off]? = some c.to := by
  cases a with
  | one x => exact (h0 x rfl).elim
  | st T x fr =>
    refine ⟨_, rfl, ?_⟩
    have e : (T.cells x).map (AC.c · fr) = (S1.st T x fr).cells.map SC.to := (S1.cells_to (S1.st T x fr)).symm
    rw [e, List.getElem?_map, hc]; rfl
  | agg xs =>
    refine ⟨_, rfl, ?_⟩
    have e : xs.map SC.to = (S1.agg xs).cells.map SC.to := (S1.cells_to (S1.agg xs)).symm
    rw [e, List.getElem?_map, hc]; rfl

theorem evOp_ok (htab : ∀ T te, tab T = some te → tabOf P T = some te) {op : Op} (h : evOp tab ty nid op s k = some r) : OpOk P nid op s k r := by
  unfold evOp at h
  split at h
  · split at h
    · rename_i h1
      exact .mk h trivial (by simp [effOp, SS.ev_to h1])
    · cases h
  · split at h
    · rename_i h1
      exact .mk h trivial (by simp [effOp, SS.ev_to h1])
    · cases h
  · -- pick
    split at h
    · rename_i t _ va vb h1 h2 h3
      have e1 := SS.ev_to h1
      simp only [sv_v, sv_tup, sv_undef, s1_one, s1_st, s1_agg, sc_c, sc_nils, sc_ptr, sc_el, sc_arr, sc_ro, sc_rc, tc_int, tc_bool, tc_str, tc_flt, tc_sl, tc_nil, so_box, so_row, up_some, up_none] at e1
      rw [ifB_eq] at h
      split at h
      · rename_i ht
        exact .mk h trivial (by simp [effOp, e1, ht, SS.ev_to h2])
      · rename_i ht
        exact .mk h trivial (by simp [effOp, e1, ht, SS.ev_to h3])
    · cases h
  · -- alloc
    split at h
    · rename_i te h1
      split at h
      · rename_i z h2
        exact .mk h trivial (by simp [effOp, htab _ _ h1, ofACs_to h2, sv_v, sv_tup, sv_undef, s1_one, s1_st, s1_agg, sc_c, sc_nils, sc_ptr, sc_el, sc_arr, sc_ro, sc_rc, tc_int, tc_bool, tc_str, tc_flt, tc_sl, tc_nil, so_box, so_row, up_some, up_none])
      · cases h
    · cases h
  · -- box
    split at h
    · rename_i te a h1 h2
      have e2 := SS.ev_to h2
      rw [sv_v] at e2
      exact .mk h trivial (by simp [effOp, htab _ _ h1, e2, up_some, S1.ob_to, sv_v, s1_one, sc_ptr])
    · cases h
  · -- build
    split at h
    · rename_i te ps h1 h2
      split at h
      · rename_i z h3
        split at h
        · rename_i cs h4
          split at h4
          · rename_i hok
            have h5 := fillS_to h4
            rw [ofACs_to h3] at h5
            exact .mk h trivial (by simp [effOp, htab _ _ h1, SS.evParts_to h2, hok, h5, sv_v, sv_tup, sv_undef, s1_one, s1_st, s1_agg, sc_c, sc_nils, sc_ptr, sc_el, sc_arr, sc_ro, sc_rc, tc_int, tc_bool, tc_str, tc_flt, tc_sl, tc_nil, so_box, so_row, up_some, up_none])
          · cases h4
        · cases h
      · cases h
    · cases h
  · -- buildSlice
    rename_i T n parts
    split at h
    · rename_i te ps h1 h2
      split at h
      · rename_i E h3
        split at h
        · rename_i tE Y h4 h5
          split at h
          · rename_i z h6
            split at h
            · rename_i zc q1 q2 h7
              split at h
              · rename_i d h8
                split at h
                · rename_i rows fr ids h9
                  split at h9
                  · rename_i hc
                    have h10 := SS.fillL_to h9
                    have h11 := SS.resCs_to h7
                    rw [ofACs_to h6, pack_cells h8] at h11
                    rw [List.map_replicate, hc.1] at h10
                    refine .mk h trivial ?_
                    simp only [effOp, htab _ _ h1, SS.evParts_to h2, h3, htab _ _ h4, h11, hc.2, and_self, if_true, h10]
                    simp [kill_map, hc.1, sv_v, sv_tup, sv_undef, s1_one, s1_st, s1_agg, sc_c, sc_nils, sc_ptr, sc_el, sc_arr, sc_ro, sc_rc, tc_int, tc_bool, tc_str, tc_flt, tc_sl, tc_nil, so_box, so_row, up_some, up_none]
                  · cases h9
                · cases h
              · cases h
            · cases h
          · cases h
        · cases h
      · cases h
    · cases h
  · -- load
    split at h
    · rename_i h1 h2
      exact load_ok htab h1 h2 h
    · cases h
  · -- store
    split at h
    · rename_i h1 h2 h3
      exact store_ok htab h1 h2 h3 h
    · cases h
  · -- nilCheck
    split at h
    · rename_i h1
      split at h
      · rename_i ho
        have e1 := SS.ev_to h1
        simp only [sv_v, sv_tup, sv_undef, s1_one, s1_st, s1_agg, sc_c, sc_nils, sc_ptr, sc_el, sc_arr, sc_ro, sc_rc, tc_int, tc_bool, tc_str, tc_flt, tc_sl, tc_nil, so_box, so_row, up_some, up_none] at e1
        exact .mk h trivial (by simp [effOp, e1, SS.obj_to, ho, sv_v, sv_tup, sv_undef, s1_one, s1_st, s1_agg, sc_c, sc_nils, sc_ptr, sc_el, sc_arr, sc_ro, sc_rc, tc_int, tc_bool, tc_str, tc_flt, tc_sl, tc_nil, so_box, so_row, up_some, up_none])
      · cases h
    · rename_i h1
      have e1 := SS.ev_to h1
      simp only [sv_v, sv_tup, sv_undef, s1_one, s1_st, s1_agg, sc_c, sc_nils, sc_ptr, sc_el, sc_arr, sc_ro, sc_rc, tc_int, tc_bool, tc_str, tc_flt, tc_sl, tc_nil, so_box, so_row, up_some, up_none] at e1
      exact .mk h trivial (by simp [effOp, e1, sv_v, sv_tup, sv_undef, s1_one, s1_st, s1_agg, sc_c, sc_nils, sc_ptr, sc_el, sc_arr, sc_ro, sc_rc, tc_int, tc_bool, tc_str, tc_flt, tc_sl, tc_nil, so_box, so_row, up_some, up_none])
    · rename_i h1
      have e1 := SS.ev_to h1
      simp only [sv_v, sv_tup, sv_undef, s1_one, s1_st, s1_agg, sc_c, sc_nils, sc_ptr, sc_el, sc_arr, sc_ro, sc_rc, tc_int, tc_bool, tc_str, tc_flt, tc_sl, tc_nil, so_box, so_row, up_some, up_none] at e1
      exact .mk h trivial (by simp [effOp, e1, sv_v, sv_tup, sv_undef, s1_one, s1_st, s1_agg, sc_c, sc_nils, sc_ptr, sc_el, sc_arr, sc_ro, sc_rc, tc_int, tc_bool, tc_str, tc_flt, tc_sl, tc_nil, so_box, so_row, up_some, up_none])
    · cases h
  · -- binOp
    split at h
    · rename_i id off h1 h2
      have e1 := SS.ev_to h1
      have e2 := SS.ev_to h2
      simp only [sv_v, s1_one, sc_ptr, sc_nilp] at e1 e2
      split at h
      · rename_i te ht
        split at h
        · rename_i hc
          split at h <;> first | exact .mk h trivial (by simp only [effOp, e1, e2, effPtr, htab _ _ ht, SS.obj_to, Option.isSome_map]; rw [if_pos hc]; rfl) | cases h
        · cases h
      · cases h
    · rename_i h1 h2
      exact binT_ok htab h1 h2 h
    · cases h
  · -- convert
    split at h
    · rename_i te n _ hS hT hx
      have e1 := SS.ev_to hx
      simp only [sv_v, s1_one, sc_c, tc_int] at e1
      split at h
      · rename_i hf
        exact .mk h trivial (by simp only [effOp, e1, htab _ _ hS, htab _ _ hT]; rw [if_pos hf]; rfl)
      · cases h
    · cases h
  · -- not
    split at h
    · rename_i h1
      have e1 := SS.ev_to h1
      simp only [sv_v, sv_tup, sv_undef, s1_one, s1_st, s1_agg, sc_c, sc_nils, sc_ptr, sc_el, sc_arr, sc_ro, sc_rc, tc_int, tc_bool, tc_str, tc_flt, tc_sl, tc_nil, so_box, so_row, up_some, up_none] at e1
      exact .mk h trivial (by simp [effOp, e1, sv_v, sv_tup, sv_undef, s1_one, s1_st, s1_agg, sc_c, sc_nils, sc_ptr, sc_el, sc_arr, sc_ro, sc_rc, tc_int, tc_bool, tc_str, tc_flt, tc_sl, tc_nil, so_box, so_row, up_some, up_none])
    · cases h
  · -- makeSlice
    split at h
    · rename_i T _ _ te l _ c _ h1 h2 h3
      have e2 := SS.ev_to h2
      have e3 := SS.ev_to h3
      simp only [sv_v, sv_tup, sv_undef, s1_one, s1_st, s1_agg, sc_c, sc_nils, sc_ptr, sc_el, sc_arr, sc_ro, sc_rc, tc_int, tc_bool, tc_str, tc_flt, tc_sl, tc_nil, so_box, so_row, up_some, up_none] at e2 e3
      split at h
      · rename_i E h4
        split at h
        · rename_i tE Y h5 h6
          split at h
          · rename_i z h7
            split at h
            · rename_i zc q1 q2 h8
              split at h
              · rename_i d h9
                split at h
                · rename_i hc
                  obtain ⟨hb, hk⟩ := ckB_some h
                  simp only [Bool.and_eq_true, decide_eq_true_eq] at hb
                  have h11 := SS.resCs_to h8
                  rw [ofACs_to h7, pack_cells h9] at h11
                  refine .mk hk (side := 0 ≤ l ∧ l ≤ c ∧ tE.bytes * c ≤ 281474976710656 ∧ c ≤ 9223372036854775807) ⟨hb.1, hb.2.1, hb.2.2, ?_⟩ ?_
                  · have h3 : (1 : Int) * c ≤ tE.bytes * c := Int.mul_le_mul_of_nonneg_right (by have := hc.2.2; omega) (by omega)
                    omega
                  · simp [effOp, htab _ _ h1, e2, e3, h4, htab _ _ h5, h11, hc.2.1, List.map_replicate, hc.1, sv_v, sv_tup, sv_undef, s1_one, s1_st, s1_agg, sc_c, sc_nils, sc_ptr, sc_el, sc_arr, sc_ro, sc_rc, tc_int, tc_bool, tc_str, tc_flt, tc_sl, tc_nil, so_box, so_row, up_some, up_none]
                · cases h
              · cases h
            · cases h
          · cases h
        · cases h
      · cases h
    · cases h
  · -- slice
    split at h
    · rename_i hp
      exact pre_ok htab hp h
    rename_i hp
    split at h
    · rename_i h1 h2
      split at h
      · rename_i h3
        split at h
        · rename_i h4 h5
          split at h
          · rename_i h6 h7 h8
            split at h
            · rename_i hc
              exact slice_ok htab h1 h2 h3 h4 h6 h7 h8 hc hp h
            · cases h
          · cases h
        · cases h
      · cases h
    · cases h
  · -- fieldAddr
    split at h
    · rename_i T p f te pv h1 h2
      have e2 := SS.ev_to h2
      split at h
      · rename_i off size _ h3
        split at h
        · cases h
        · rename_i hsz
          have hsz : ¬ size = 0 := of_decide_eq_false hsz
          split at h
          · split at h
            · rename_i ho
              simp only [sv_v, sv_tup, sv_undef, s1_one, s1_st, s1_agg, sc_c, sc_nils, sc_ptr, sc_el, sc_arr, sc_ro, sc_rc, tc_int, tc_bool, tc_str, tc_flt, tc_sl, tc_nil, so_box, so_row, up_some, up_none] at e2
              exact .mk h trivial (by simp [effOp, htab _ _ h1, e2, h3, hsz, SS.obj_to, ho, sv_v, sv_tup, sv_undef, s1_one, s1_st, s1_agg, sc_c, sc_nils, sc_ptr, sc_el, sc_arr, sc_ro, sc_rc, tc_int, tc_bool, tc_str, tc_flt, tc_sl, tc_nil, so_box, so_row, up_some, up_none])
            · cases h
          · split at h
            · rename_i ho
              simp only [sv_v, sv_tup, sv_undef, s1_one, s1_st, s1_agg, sc_c, sc_nils, sc_ptr, sc_el, sc_arr, sc_ro, sc_rc, tc_int, tc_bool, tc_str, tc_flt, tc_sl, tc_nil, so_box, so_row, up_some, up_none] at e2
              exact .mk h trivial (by simp [effOp, htab _ _ h1, e2, h3, hsz, SS.obj_to, ho, sv_v, sv_tup, sv_undef, s1_one, s1_st, s1_agg, sc_c, sc_nils, sc_ptr, sc_el, sc_arr, sc_ro, sc_rc, tc_int, tc_bool, tc_str, tc_flt, tc_sl, tc_nil, so_box, so_row, up_some, up_none])
            · cases h
          · simp only [sv_v, sv_tup, sv_undef, s1_one, s1_st, s1_agg, sc_c, sc_nils, sc_ptr, sc_el, sc_arr, sc_ro, sc_rc, tc_int, tc_bool, tc_str, tc_flt, tc_sl, tc_nil, so_box, so_row, up_some, up_none] at e2
            exact .mk h trivial (by simp [effOp, htab _ _ h1, e2, h3, hsz, sv_v, sv_tup, sv_undef, s1_one, s1_st, s1_agg, sc_c, sc_nils, sc_ptr, sc_el, sc_arr, sc_ro, sc_rc, tc_int, tc_bool, tc_str, tc_flt, tc_sl, tc_nil, so_box, so_row, up_some, up_none])
          · simp only [sv_v, sv_tup, sv_undef, s1_one, s1_st, s1_agg, sc_c, sc_nils, sc_ptr, sc_el, sc_arr, sc_ro, sc_rc, tc_int, tc_bool, tc_str, tc_flt, tc_sl, tc_nil, so_box, so_row, up_some, up_none] at e2
            exact .mk h trivial (by simp [effOp, htab _ _ h1, e2, h3, hsz, List.map_drop, sv_v, sv_tup, sv_undef, s1_one, s1_st, s1_agg, sc_c, sc_nils, sc_ptr, sc_el, sc_arr, sc_ro, sc_rc, tc_int, tc_bool, tc_str, tc_flt, tc_sl, tc_nil, so_box, so_row, up_some, up_none])
          · cases h
      · cases h
    · cases h
  · -- field
    split at h
    · cases h
    · rename_i T x f te a h0 h1 h2
      have e2 := SS.ev_to h2
      split at h
      · rename_i off fsize ag h3
        split at h
        · rename_i hag
          split at h
          · rename_i c hc
            have e3 : ∃ cells, a.to = .agg cells ∧ cells[off]? = some c.to := by
              exact field_cells a (fun x h => h0 x h) hc
            obtain ⟨cells, e3, e4⟩ := e3
            simp only [e3, sv_v, sv_tup, sv_undef, s1_one, s1_st, s1_agg, sc_c, sc_nils, sc_ptr, sc_el, sc_arr, sc_ro, sc_rc, tc_int, tc_bool, tc_str, tc_flt, tc_sl, tc_nil, so_box, so_row, up_some, up_none] at e2
            exact .mk h trivial (by simp [effOp, htab _ _ h1, e2, h3, hag, e4, sv_v, sv_tup, sv_undef, s1_one, s1_st, s1_agg, sc_c, sc_nils, sc_ptr, sc_el, sc_arr, sc_ro, sc_rc, tc_int, tc_bool, tc_str, tc_flt, tc_sl, tc_nil, so_box, so_row, up_some, up_none])
          · cases h
        · rename_i hag
          split at h
          · rename_i hpf
            split at h
            · rename_i T' y fr
              split at h
              · rename_i U z hz
                rw [sv_v, s1_st] at e2
                exact .mk h trivial (by
                  simp only [effOp, htab _ _ h1, e2, h3]
                  rw [if_neg hag, if_pos hpf, ← List.map_drop, ← List.map_take, (subD_cells hz).1]
                  rfl)
              · cases h
            · rename_i xs
              rw [sv_v, s1_agg] at e2
              exact .mk h trivial (by
                simp only [effOp, htab _ _ h1, e2, h3]
                rw [if_neg hag, if_pos hpf, ← List.map_drop, ← List.map_take]
                rfl)
            · cases h
          · cases h
      · cases h
    · cases h
  · -- indexAddr
    split at h
    · rename_i T x i te Y l n _ h1 h2 h3
      have e2 := SS.ev_to h2
      have e3 := SS.ev_to h3
      simp only [sv_v, s1_one, sc_c, tc_int] at e3
      split at h
      · rename_i E h4
        split at h
        · rename_i tE h5
          split at h
          · rename_i hc
            obtain ⟨h0, y, hy, hk⟩ := atI_some h
            have hlt := (List.getElem?_eq_some_iff.1 hy).1
            have hr : (l.map Y.cells).getD n.toNat [] = Y.cells y := by simp [hy]
            refine .mk hk (side := 0 ≤ n ∧ n < (l.map Y.cells).length ∧ ((l.map Y.cells).getD n.toNat []).length = tE.size) ⟨h0, by simp; omega, by rw [hr, cells_length, hc]⟩ ?_
            simp only [SV.to] at e2
            simp only [effOp, htab _ _ h1, e2, e3, h4, htab _ _ h5, hr, SV.to]
            simp
          · cases h
        · cases h
      · cases h
    · rename_i T x i te xv n _ h1 h2 h3
      have e2 := SS.ev_to h2
      have e3 := SS.ev_to h3
      simp only [sv_v, sv_tup, sv_undef, s1_one, s1_st, s1_agg, sc_c, sc_nils, sc_ptr, sc_el, sc_arr, sc_ro, sc_rc, tc_int, tc_bool, tc_str, tc_flt, tc_sl, tc_nil, so_box, so_row, up_some, up_none] at e2 e3
      split at h
      · rename_i E h4
        split at h
        · rename_i tE h5
          split at h
          · rename_i Y l _
            split at h
            · rename_i hc
              obtain ⟨h0, y, hy, hk⟩ := atI_some h
              have hlt := (List.getElem?_eq_some_iff.1 hy).1
              have hr : (l.map Y.cells).getD n.toNat [] = Y.cells y := by simp [hy]
              refine .mk hk (side := 0 ≤ n ∧ n < (l.map Y.cells).length ∧ ((l.map Y.cells).getD n.toNat []).length = tE.size) ⟨h0, by simp; omega, by rw [hr, cells_length, hc]⟩ ?_
              simp only [sv_v, sv_tup, sv_undef, s1_one, s1_st, s1_agg, sc_c, sc_nils, sc_ptr, sc_el, sc_arr, sc_ro, sc_rc, tc_int, tc_bool, tc_str, tc_flt, tc_sl, tc_nil, so_box, so_row, up_some, up_none] at e2
              simp only [effOp, htab _ _ h1, e2, e3, h4, htab _ _ h5, hr, sv_v, sv_tup, sv_undef, s1_one, s1_st, s1_agg, sc_c, sc_nils, sc_ptr, sc_el, sc_arr, sc_ro, sc_rc, tc_int, tc_bool, tc_str, tc_flt, tc_sl, tc_nil, so_box, so_row, up_some, up_none]
              simp
            · cases h
          · rename_i id
            split at h
            · rename_i e Y l fr ho
              split at h
              · rename_i hc
                obtain ⟨hb, hk⟩ := ckB_some h
                simp only [Bool.and_eq_true, decide_eq_true_eq] at hb
                refine .mk hk (side := 0 ≤ n ∧ n < (l.map Y.cells).length) (by simpa using hb) ?_
                simp only [sv_v, sv_tup, sv_undef, s1_one, s1_st, s1_agg, sc_c, sc_nils, sc_ptr, sc_el, sc_arr, sc_ro, sc_rc, tc_int, tc_bool, tc_str, tc_flt, tc_sl, tc_nil, so_box, so_row, up_some, up_none] at e2
                simp [effOp, htab _ _ h1, e2, e3, h4, htab _ _ h5, SS.obj_some ho, hc, sv_v, sv_tup, sv_undef, s1_one, s1_st, s1_agg, sc_c, sc_nils, sc_ptr, sc_el, sc_arr, sc_ro, sc_rc, tc_int, tc_bool, tc_str, tc_flt, tc_sl, tc_nil, so_box, so_row, up_some, up_none]
              · cases h
            · cases h
          · rename_i id m
            split at h
            · rename_i e Y l fr ho
              split at h
              · rename_i hc
                obtain ⟨hb, hk⟩ := ckB_some h
                simp only [Bool.and_eq_true, decide_eq_true_eq] at hb
                refine .mk hk (side := 0 ≤ n ∧ n < (m.toNat : Int) ∧ m.toNat ≤ (l.map Y.cells).length) (by simp only [List.length_map]; omega) ?_
                simp only [sv_v, sv_tup, sv_undef, s1_one, s1_st, s1_agg, sc_c, sc_nils, sc_ptr, sc_el, sc_arr, sc_pre, sc_ro, sc_rc, tc_int, tc_bool, tc_str, tc_flt, tc_sl, tc_nil, so_box, so_row, up_some, up_none] at e2
                simp [effOp, htab _ _ h1, e2, e3, h4, htab _ _ h5, SS.obj_some ho, hc, sv_v, sv_tup, sv_undef, s1_one, s1_st, s1_agg, sc_c, sc_nils, sc_ptr, sc_el, sc_arr, sc_pre, sc_ro, sc_rc, tc_int, tc_bool, tc_str, tc_flt, tc_sl, tc_nil, so_box, so_row, up_some, up_none]
              · cases h
            · cases h
          · cases h
        · cases h
      · cases h
    · cases h
  · -- makeFunc
    split at h
    · rename_i x hf hc
      split at h
      · rename_i id hx
        have e1 := SS.ev_to hx
        simp only [sv_v, s1_one, sc_ptr] at e1
        split at h
        · rename_i hl
          exact .mk h trivial (by simp only [effOp, hf, hc, e1, SS.obj_to, Option.isSome_map]; rw [if_pos hl]; rfl)
        · cases h
      · cases h
    · cases h
  · -- extract
    split at h
    · rename_i h1
      have e1 := SS.ev_to h1
      simp only [sv_v, sv_tup, sv_undef, s1_one, s1_st, s1_agg, sc_c, sc_nils, sc_ptr, sc_el, sc_arr, sc_ro, sc_rc, tc_int, tc_bool, tc_str, tc_flt, tc_sl, tc_nil, so_box, so_row, up_some, up_none] at e1
      split at h
      · rename_i h2
        exact .mk h trivial (by simp [effOp, e1, h2, sv_v, sv_tup, sv_undef, s1_one, s1_st, s1_agg, sc_c, sc_nils, sc_ptr, sc_el, sc_arr, sc_ro, sc_rc, tc_int, tc_bool, tc_str, tc_flt, tc_sl, tc_nil, so_box, so_row, up_some, up_none])
      · cases h
    · cases h
  · -- builtins
    split at h
    · split at h
      · rename_i ha hts _ _ te Y l h1 h2
        split at h
        · rename_i E h3
          have e2 := SS.ev_to h2
          simp only [SV.to] at e2
          refine .mk h trivial ?_
          simp only [effOp, ha, hts, htab _ _ h1, e2, h3, Option.isSome_some, if_true]
          simp [sv_v, s1_one, sc_c, tc_int, iv]
        · cases h
      · rename_i h1 h2
        split at h
        · rename_i h3
          split at h
          · split at h
            · rename_i h5
              exact len_ok htab ‹_› ‹_› h1 h2 h3 h5 h
            · cases h
          · cases h
        · cases h
      · cases h
    · split at h
      · rename_i h1 h2
        exact max_ok ‹_› h1 h2 h
      · cases h
    · split at h
      · rename_i h1 h2
        exact min_ok ‹_› h1 h2 h
      · cases h
    · split at h
      · cases h
      · rename_i hT
        simp only [ne_eq, Decidable.not_not] at hT
        subst hT
        split at h
        · rename_i h1 h2 h2'
          split at h
          · rename_i h3
            split at h
            · rename_i h4 h5
              split at h
              · rename_i h6
                split at h
                · rename_i hc
                  split at h
                  · exact append_nil_ok htab ‹_› ‹_› h1 h2 h2' h3 h4 h6 hc h
                  · split at h
                    · rename_i ho
                      split at h
                      · rename_i hl
                        split at h
                        · rename_i hd
                          exact append_arr_ok htab ‹_› ‹_› h1 h2 h2' h3 h4 h6 hc ho hl hd h
                        · cases h
                      · cases h
                    · cases h
                  · cases h
                · cases h
              · cases h
            · cases h
          · cases h
        · cases h
    · cases h
  · cases h
end
end Go.Proofs.YtcaahmielncmpaaGreat

namespace Go.Proofs.YtcaahmielncmpaaGreat
open Go Go.RowKit

/-! ## Calls, typed -/
inductive SR where
  | v (x : SI) | tup (xs : List SI) | own (e : Nat) (T : Ty) (l : List T.den) | pass (x : SI) | tupb (xs : List SI) (o : Option (Int × List Int)) | tupS (k : Nat) (xs : List SI)
def SR.to : SR → RV
  | .v x => .v x.to
  | .tup xs => .tup (xs.map SI.to)
  | .own e T l => .own e T.size (l.map T.cells)
  | .pass x => .pass x.to
  | .tupb xs o => .tupb (xs.map SI.to) (fbTo o)
  | .tupS k xs => .tupS k (xs.map SI.to)

def SS.resIV (s : SS) : SV → Option (SI × List Nat)
  | .v (.one (.ptr id off)) => match (s.obj id).bind SOb.cells with
    | some cells => match s.resCs (cells.drop off) with
      | some (cs, _, ids) => some (.ro cs, id :: ids)
      | none => none
    | none => none
  | .v (.one (.ro T x off)) => some (.roT T x off, [])
  | .v (.one (.rc xs)) => some (.ro xs, [])
  | .v (.one (.c x _)) => some (.one x, [])
  | .v (.one .nils) => some (.one .nil, [])
  | .v (.one (.arr id)) => match s.resC (.arr id) with
    | some (c, _, ids) => some (.one c, ids)
    | none => none
  | .v (.one (.pre id n)) => match s.resC (.pre id n) with
    | some (c, _, ids) => some (.one c, ids)
    | none => none
  | .v (.st T x _) => some (.st T x, [])
  | .v (.agg xs) => match s.resCs xs with
    | some (cs, _, ids) => some (.agg cs, ids)
    | none => none
  | _ => none

/-- Whether an argument is new. -/
def SS.frIV (s : SS) : SV → Bool
  | .v (.one (.c x fr)) => fr || x.flat
  | .v (.one .nils) => true
  | .v (.one (.arr id)) => match s.resC (.arr id) with
    | some (_, f, _) => f
    | none => false
  | .v (.st _ _ fr) => fr
  | .v (.agg xs) => match s.resCs xs with
    | some (_, f, _) => f
    | none => false
  | _ => false
def SS.frArgs (s : SS) : List Operand → Bool
  | [] => true
  | x :: xs => match (match s.ev x with
    | some av => s.frIV av
    | none => false) with
    | true => s.frArgs xs
    | false => false

def SS.resArgs (s : SS) : List Operand → Option (List SI × List Nat)
  | [] => some ([], [])
  | x :: xs => match s.ev x with
    | some av => match s.resIV av, s.resArgs xs with
      | some (iv, ids), some (ivs, ids') => some (iv :: ivs, ids ++ ids')
      | _, _ => none
    | none => none

def SS.flat0 (s : SS) (x : Operand) : Bool := match s.ev x with
  | some av => (match s.resIV av with
    | some (_, []) => true
    | _ => false)
  | none => false
def SS.shOK (s : SS) : Nat → List Operand → Bool
  | 0, x :: xs => match s.ev x with
    | some (.v (.one (.arr _))) => xs.all s.flat0
    | _ => false
  | k + 1, x :: xs => match s.flat0 x with
    | true => s.shOK k xs
    | false => false
  | _, [] => false

def SI.sv (fr : Bool) : SI → Option S1
  | .one x => some (.one (.c x fr))
  | .st T x => some (.st T x fr)
  | .agg xs => some (.agg (xs.map (.c · fr)))
  | _ => none
def SI.svs (fr : Bool) : List SI → Option (List S1)
  | [] => some []
  | x :: xs => match x.sv fr, SI.svs fr xs with
    | some y, some ys => some (y :: ys)
    | _, _ => none

section
variable {β : Type}
def effC (nid : Nat) (ids : List Nat) (fr : Bool) (r : SR) (k : SV → List (Nat × Option SOb) → List Nat → Option β) : Option β := match r with
  | .v x => match x.sv fr with
    | some y => k (.v y) (if fr then [] else ids.map (·, none)) ids
    | none => none
  | .tup xs => match SI.svs fr xs with
    | some ys => k (.tup ys) (if fr then [] else ids.map (·, none)) ids
    | none => none
  | .own e T l => k (.v (.one (.arr nid))) ((if fr then [] else ids.map (·, none)) ++ [(nid, some (.row e T l fr))]) ids
  | .pass x => match x.sv true with
    | some y => k (.v y) (ids.map (·, none)) ids
    | none => none
  | .tupb xs o => match SI.svs fr xs with
    | some ys => k (.tup (ys ++ [.one (.fb o)])) (if fr then [] else ids.map (·, none)) ids
    | none => none
  | .tupS _ xs => match SI.svs fr xs with
    | some ys => k (.tup ys) [] ids
    | none => none
/-- A result that is new if the arguments are asks that they are. -/
def passC (ok : Bool) (sh : Nat → Bool) (r : SR) (x : Option β) : Option β := match r with
  | .pass _ => (match ok with
    | true => x
    | false => none)
  | .tupS k _ => (match sh k with
    | true => x
    | false => none)
  | _ => x

/-- What is known of the callees: their result is handed on. -/
abbrev Phi (β : Type) := Nat → List SI → (SR → Bool → Option β) → Option β
def Phi.Ok (P : Program) (Φ : Phi β) : Prop := ∀ f args k r, Φ f args k = some r → ∃ res fr, k res fr = some r ∧ ACalls P f (args.map SI.to) res.to fr

def evOne (tab : Nat → Option TE) (ty : Nat → Option Ty) (Φ : Phi β) (nid : Nat) (op : Op) (s : SS) (k : SV → List (Nat × Option SOb) → List Nat → Option β) : Option β :=
  match calleeOf op with
  | some (f, args) => match s.resArgs args with
    | some (sis, ids) => Φ f sis fun r fr => passC (s.frArgs args) (s.shOK · args) r (effC nid ids fr r k)
    | none => none
  | none => match op with
    | .call { callee := .value (.tmp t), args := args, .. } => match s.ev (.tmp t), s.resArgs args.toList with
      | some (.v (.one (.fn f id))), some (sis, ids) => match s.resIV (.v (.one (.ptr id 0))) with
        | some (si, ids') => Φ f (sis ++ [si]) fun r fr => passC false (fun _ => false) r (effC nid (ids ++ ids') fr r k)
        | none => none
      | _, _ => none
    | _ => evOp tab ty nid op s k

/-! ## Regions -/
def gd (b want : Bool) (x y : Option β) : Option β := match want with
  | true => ifB b x y
  | false => ifB b y x

def repl (d : Nat) (v : SV) : List (Nat × SV) → List (Nat × SV)
  | [] => []
  | p :: l => if d = p.1 then (d, v) :: l else p :: repl d v l
def SS.rep (s : SS) (d : Nat) (v : SV) : SS := { s with env := repl d v s.env }
/-- On either way the guard's slot holds what is then known of it. -/
def evGuard (ops : Array Oper) (s : SS) (o : Oper) (x y : SS → Option β) : Option β :=
  match o.guard with
  | none => x s
  | some (j, want) => match (ops[j]?).bind (·.dst) with
    | some d => match s.get d with
      | some (.v (.one (.c (.bool b) fr))) => gd b want (x (s.rep d (.v (.one (.c (.bool want) fr))))) (y (s.rep d (.v (.one (.c (.bool (!want)) fr)))))
      | some .undef => y s
      | _ => none
    | none => none

structure Sk where
  rd : List Nat
  wr : List Nat
def Sk.fx (k : Sk) : Fx := { dst := none, val := .undef, ups := k.wr.map (·, none), rd := k.rd, side := True, call := none }
def Fx.sk (e : Fx) : Sk := ⟨e.rd, e.wr⟩

def evOps (tab : Nat → Option TE) (ty : Nat → Option Ty) (Φ : Phi β) (nt : Nat) (ops : Array Oper) (base : Nat) : List Oper → Nat → SS → List Sk → (SS → List Sk → Option β) → Option β
  | [], _, s, acc, k => k s acc.reverse
  | o :: rest, i, s, acc, k =>
    match dstOK nt o.dst with
    | true =>
      evGuard ops s o
        (fun s => evOne tab ty Φ (base + i) o.op s fun v ups rd => evOps tab ty Φ nt ops base rest (i + 1) ((s.ups ups).put o.dst v) (⟨rd, ups.map (·.1)⟩ :: acc) k)
        (fun s => evOps tab ty Φ nt ops base rest (i + 1) ((s.ups []).put o.dst .undef) (⟨[], []⟩ :: acc) k)
    | false => none

/-- Against all that is behind it an operation may be done first. -/
def restC (md : Region.Mode) (ops : Array Oper) (k : Nat) (o : Oper) (s : Sk) : Nat → List (Oper × Sk) → Bool
  | _, [] => true
  | j, (oj, sj) :: r => (oj.after.any (fun e => Region.binds md e && e.on == k) || ((o.apart ops oj && disj s.wr (sj.rd ++ sj.wr) && disj sj.wr (s.rd ++ s.wr)) || reachB md ops 4 j k)) && restC md ops k o s (j + 1) r
def lexC (md : Region.Mode) (ops : Array Oper) : Nat → List (Oper × Sk) → Bool
  | _, [] => true
  | k, (o, s) :: r => o.after.all (fun e => !(Region.binds md e) || decide (e.on < k)) && (restC md ops k o s (k + 1) r && lexC md ops (k + 1) r)
def lexOK (ops : Array Oper) (n : Nat) (sk : List Sk) : Bool := decide (sk.length = n) && lexC .any ops 0 (ops.toList.zip sk)

theorem restC_spec {md : Region.Mode} {ops : Array Oper} {k : Nat} {o : Oper} {s : Sk} : ∀ {r : List (Oper × Sk)} {j : Nat}, restC md ops k o s j r = true → ∀ i oj sj, r[i]? = some (oj, sj) →
    (oj.after.any (fun e => Region.binds md e && e.on == k) || ((o.apart ops oj && disj s.wr (sj.rd ++ sj.wr) && disj sj.wr (s.rd ++ s.wr)) || reachB md ops 4 (j + i) k)) = true
  | [], j, _, i, oj, sj, hi => by simp at hi
  | (a, b) :: r, j, h, 0, oj, sj, hi => by
    simp only [restC, Bool.and_eq_true] at h
    simp only [List.getElem?_cons_zero, Option.some.injEq, Prod.mk.injEq] at hi
    obtain ⟨rfl, rfl⟩ := hi
    exact h.1
  | (a, b) :: r, j, h, i + 1, oj, sj, hi => by
    simp only [restC, Bool.and_eq_true] at h
    have := restC_spec h.2 i oj sj (by simpa using hi)
    rwa [show j + 1 + i = j + (i + 1) by omega] at this

theorem lexC_sound {md : Region.Mode} {ops : Array Oper} {sk : List Sk} (hl : sk.length = ops.size) : ∀ (r : List (Oper × Sk)) (k : Nat) (listed : Array Bool), r = (ops.toList.zip sk).drop k → k + r.length = ops.size → listed.size = ops.size →
    (∀ i, i < ops.size → listed[i]? = some (decide (i < k))) → lexC md ops k r = true → lexFromA md ops (fun i => (sk[i]?).map Sk.fx) r.length k listed = true
  | [], k, listed, hr, hk, hsz, hget, h => by
    simp only [List.length_nil, lexFromA]
    rw [List.isEmpty_iff]
    refine List.eq_nil_iff_forall_not_mem.2 fun i hi => ?_
    obtain ⟨h1, o, h2, _⟩ := mem_ready.1 hi
    have hlt : i < ops.size := (Array.getElem?_eq_some_iff.1 h2).1
    have := hget i hlt
    rw [Array.getD_eq_getD_getElem?, this] at h1
    simp only [Option.getD_some, decide_eq_false_iff_not] at h1
    simp only [List.length_nil] at hk
    omega
  | (o, s) :: r, k, listed, hr, hk, hsz, hget, h => by
    simp only [lexC, Bool.and_eq_true] at h
    obtain ⟨h1, h2, h3⟩ := h
    simp only [List.length_cons] at hk
    have hz : ∀ i, ((o, s) :: r)[i]? = (ops.toList.zip sk)[k + i]? := fun i => by rw [hr, List.getElem?_drop]
    have hzip : ∀ i a b, ((o, s) :: r)[i]? = some (a, b) → ops[k + i]? = some a ∧ sk[k + i]? = some b := fun i a b hi => by
      rw [hz i, List.getElem?_zip_eq_some] at hi
      exact ⟨by simpa using hi.1, hi.2⟩
    have hget' : ∀ (d : Bool) i, i < ops.size → listed.getD i d = decide (i < k) := fun d i hi => by
      rw [Array.getD_eq_getD_getElem?, hget i hi]; rfl
    obtain ⟨ho, hs⟩ := hzip 0 o s rfl
    rw [Nat.add_zero] at ho hs
    simp only [List.length_cons, lexFromA, Bool.and_eq_true]
    refine ⟨⟨?_, ?_⟩, ?_⟩
    · rw [List.contains_iff_mem, mem_ready]
      refine ⟨by rw [hget' true k (by omega)]; simp, o, ho, fun e he hb => ?_⟩
      have := (Array.all_eq_true'.1 h1) e he
      rw [hb] at this
      simp only [Bool.not_true, Bool.false_or, decide_eq_true_eq] at this
      rw [hget' false _ (by omega)]
      simpa using this
    · unfold freeA
      refine List.all_eq_true.2 fun j hj => ?_
      have hj := List.mem_range.1 hj
      rcases Nat.lt_trichotomy j k with hlt | rfl | hgt
      · rw [hget' true j hj]; simp [hlt]
      · simp
      · have hjr : ∃ a b, r[j - (k + 1)]? = some (a, b) := by
          have : j - (k + 1) < r.length := by omega
          exact ⟨_, _, List.getElem?_eq_getElem this⟩
        obtain ⟨a, b, hab⟩ := hjr
        have h4 := restC_spec h2 _ a b hab
        have h5 := hzip (j - (k + 1) + 1) a b (by simpa using hab)
        have e1 : k + (j - (k + 1) + 1) = j := by omega
        rw [e1] at h5
        have e2 : k + 1 + (j - (k + 1)) = j := by omega
        rw [e2] at h4
        simp only [h5.1]
        have hind : indep ops (fun i => (sk[i]?).map Sk.fx) k j = (o.apart ops a && disj s.wr (b.rd ++ b.wr) && disj b.wr (s.rd ++ s.wr)) := by
          unfold indep
          simp only [ho, h5.1, hs, h5.2, Option.map_some]
          simp [Sk.fx, Fx.wr, Function.comp_def]
        rw [hind]
        simp only [Bool.or_eq_true] at h4 ⊢
        exact .inr h4
    · refine lexC_sound hl r (k + 1) _ ?_ (by omega) (by simpa using hsz) (fun i hi => ?_) h3
      · have : r = ((o, s) :: r).drop 1 := rfl
        rw [this, hr, List.drop_drop]
      · rw [Array.getElem?_setIfInBounds]
        by_cases e : k = i
        · subst e
          rw [if_pos rfl, if_pos (by omega)]
          simp
        · rw [if_neg e, hget i hi]
          congr 1
          simp only [decide_eq_decide]
          omega

theorem lexOK_sound {ops : Array Oper} {sk : List Sk} (h : lexOK ops ops.toList.length sk = true) : lexFromA .any ops (fun i => (sk[i]?).map Sk.fx) ops.toList.length 0 (Array.replicate ops.toList.length false) = true := by
  unfold lexOK at h
  simp only [Bool.and_eq_true, decide_eq_true_eq] at h
  have hz : (ops.toList.zip sk).length = ops.size := by
    rw [List.length_zip, h.1]; simp
  have := lexC_sound (md := .any) (ops := ops) (sk := sk) (by rw [h.1]; simp) (ops.toList.zip sk) 0 (Array.replicate ops.toList.length false) rfl (by rw [hz]; omega) (by simp) (fun i hi => by
    rw [Array.getElem?_replicate, if_pos (by simpa using hi)]
    simp) h.2
  rw [hz] at this
  simpa using this

def evRegion (tab : Nat → Option TE) (ty : Nat → Option Ty) (Φ : Phi β) (nt : Nat) (mixed : Bool) (ops : Array Oper) (draw : Bool) (s : SS) (k : SS → Option β) : Option β :=
  evOps tab ty Φ nt ops s.next ops.toList 0 s [] fun s' sk =>
    match draw with
    | false => k { s' with next := s.next + ops.toList.length }
    | true => if (mixed && lexOK ops ops.toList.length sk) = true then k { s' with next := s.next + ops.toList.length } else none
end

section
variable {β : Type} {P : Program} {tab : Nat → Option TE} {ty : Nat → Option Ty} {Φ : Phi β}

theorem SS.resIV_to {s : SS} {v : SV} {i : SI} {ids : List Nat} (h : s.resIV v = some (i, ids)) : s.to.resIV v.to = some (i.to, ids) := by
  unfold SS.resIV at h
  split at h
  · split at h
    · rename_i ho
      split at h
      · rename_i hc
        cases h
        have := SS.resCs_to hc
        rw [List.map_drop] at this
        simp [sv_v, s1_one, sc_ptr, AS.resIV, SS.box_some ho, this, SI.to]
      · cases h
    · cases h
  · cases h; rfl
  · cases h; rfl
  · cases h; rfl
  · cases h; rfl
  · split at h
    · rename_i hc
      cases h
      have := SS.resC_to hc
      simp only [sc_arr] at this
      simp [sv_v, s1_one, sc_arr, AS.resIV, this, SI.to]
    · cases h
  · split at h
    · rename_i hc
      cases h
      have := SS.resC_to hc
      simp only [sc_pre] at this
      simp [sv_v, s1_one, sc_pre, AS.resIV, this, SI.to]
    · cases h
  · cases h
    simp only [sv_v, s1_st, AS.resIV, resCs_map, SI.to]
  · split at h
    · rename_i hc
      cases h
      have := SS.resCs_to hc
      simp [sv_v, s1_agg, AS.resIV, this, SI.to]
    · cases h
  · cases h

theorem SS.resArgs_to {s : SS} : ∀ {xs : List Operand} {l : List SI} {ids : List Nat}, s.resArgs xs = some (l, ids) → s.to.resArgs xs = some (l.map SI.to, ids)
  | [], l, ids, h => by cases h; rfl
  | x :: xs, l, ids, h => by
    simp only [SS.resArgs] at h
    split at h
    · rename_i h1
      split at h
      · rename_i h2 h3
        cases h
        simp [AS.resArgs, SS.ev_to h1, SS.resIV_to h2, SS.resArgs_to h3]
      · cases h
    · cases h

theorem SS.frIV_to {s : SS} {v : SV} (h : s.frIV v = true) : s.to.frIV v.to = true := by
  unfold SS.frIV at h
  split at h
  · rename_i x fr
    simp only [sv_v, s1_one, sc_c, AS.frIV, AS.resC, TC.toC_flat]
    exact h
  · rfl
  · split at h
    · rename_i c f ids hc
      have := SS.resC_to hc
      rw [sc_arr] at this
      simp only [sv_v, s1_one, sc_arr, AS.frIV, this]
      exact h
    · cases h
  · rename_i T x fr
    subst h
    simp only [sv_v, s1_st, AS.frIV]
    have : ∀ l : List C, ∃ cs ids, s.to.resCs (l.map (AC.c · true)) = some (cs, true, ids) := by
      intro l
      induction l with
      | nil => exact ⟨_, _, rfl⟩
      | cons y l ih =>
        obtain ⟨cs, ids, ih⟩ := ih
        exact ⟨y :: cs, [] ++ ids, by simp only [List.map_cons, AS.resCs, AS.resC, ih, Bool.true_or, Bool.true_and]⟩
    obtain ⟨cs, ids, hh⟩ := this (T.cells x)
    rw [hh]
  · split at h
    · rename_i cs f ids hc
      have := SS.resCs_to hc
      simp only [sv_v, s1_agg, AS.frIV, this]
      exact h
    · cases h
  · cases h
theorem SS.frArgs_to {s : SS} : ∀ {xs : List Operand}, s.frArgs xs = true → s.to.frArgs xs = true
  | [], _ => rfl
  | x :: xs, h => by
    simp only [SS.frArgs] at h
    split at h
    · rename_i h1
      simp only [AS.frArgs, Bool.and_eq_true]
      refine ⟨?_, SS.frArgs_to h⟩
      split at h1
      · rename_i hx
        rw [SS.ev_to hx]
        exact SS.frIV_to h1
      · cases h1
    · cases h
theorem SS.flat0_to {s : SS} {x : Operand} (h : s.flat0 x = true) : s.to.flat0 x = true := by
  unfold SS.flat0 at h
  unfold AS.flat0
  split at h
  · rename_i hx
    rw [SS.ev_to hx]
    split at h
    · rename_i hr
      simp only [SS.resIV_to hr]
      rfl
    · cases h
  · cases h
theorem SS.shOK_to {s : SS} : ∀ {k : Nat} {xs : List Operand}, s.shOK k xs = true → s.to.shOK k xs = true
  | 0, x :: xs, h => by
    simp only [SS.shOK] at h
    split at h
    · rename_i hx
      have e := SS.ev_to hx
      simp only [sv_v, s1_one, sc_arr] at e
      simp only [AS.shOK, e, Bool.true_and, List.all_eq_true] at h ⊢
      exact fun y hy => SS.flat0_to (h y hy)
    · cases h
  | k + 1, x :: xs, h => by
    simp only [SS.shOK] at h
    split at h
    · rename_i h1
      simp only [AS.shOK, Bool.and_eq_true]
      exact ⟨SS.flat0_to h1, SS.shOK_to h⟩
    · cases h
  | 0, [], h => by cases h
  | _ + 1, [], h => by cases h

theorem passC_ok {ok : Bool} {sh : Nat → Bool} {r : SR} {x : Option β} {y : β} (h : passC ok sh r x = some y) : x = some y ∧ (r.to.isPass = true → ok = true) ∧ (∀ k, r.to.sh = some k → sh k = true) := by
  unfold passC at h
  split at h
  · split at h
    · exact ⟨h, fun _ => rfl, fun k hk => by cases hk⟩
    · cases h
  · split at h
    · rename_i hs
      exact ⟨h, (fun hp => by cases hp), (fun k hk => by cases hk; exact hs)⟩
    · cases h
  · rename_i hn hn2
    refine ⟨h, fun hp => ?_, fun k hk => ?_⟩
    · cases r with
      | pass z => exact (hn z rfl).elim
      | _ => cases hp
    · cases r with
      | tupS k z => exact (hn2 k z rfl).elim
      | _ => cases hk
theorem passOK_of {s : AS} {op : Op} {f : FuncId} {args : List Operand} (hc : calleeOf op = some (f, args)) {r : RV} (h1 : r.isPass = true → s.frArgs args = true) (h2 : ∀ k, r.sh = some k → s.shOK k args = true) : s.passOK op r = true := by
  unfold AS.passOK
  cases hs : r.sh with
  | some k => simp only [hc]; exact h2 k hs
  | none =>
    cases hp : r.isPass with
    | false => rfl
    | true => simp only [hc]; exact h1 hp

theorem SI.sv_to {fr : Bool} {x : SI} {y : S1} (h : x.sv fr = some y) : ivAV fr x.to = some y.to := by
  unfold SI.sv at h
  split at h
  · cases h; rfl
  · cases h; rfl
  · cases h
    simp only [SI.to, ivAV, s1_agg, map_c]
  · cases h
theorem SI.svs_to {fr : Bool} : ∀ {xs : List SI} {ys : List S1}, SI.svs fr xs = some ys → ivAVs fr (xs.map SI.to) = some (ys.map S1.to)
  | [], ys, h => by cases h; rfl
  | x :: xs, ys, h => by
    simp only [SI.svs] at h
    split at h
    · rename_i h1 h2
      cases h
      simp [ivAVs, SI.sv_to h1, SI.svs_to h2]
    · cases h

theorem effC_ok {nid : Nat} {ids : List Nat} {fr : Bool} {r : SR} {k : SV → List (Nat × Option SOb) → List Nat → Option β} {x : β} (h : effC nid ids fr r k = some x) :
    ∃ sv ups rd, k sv ups rd = some x ∧ effCall nid ids fr r.to = some { val := sv.to, ups := ups.map upTo, rd := rd } := by
  have hk : (if fr = true then [] else ids.map (fun i => ((i, none) : Nat × Option SOb))).map upTo = if fr = true then [] else ids.map (fun i => ((i, none) : Nat × Option Ob)) := by
    cases fr
    · simpa using kill_map ids
    · rfl
  unfold effC at h
  split at h
  · split at h
    · rename_i h1
      refine ⟨_, _, _, h, ?_⟩
      simp only [SR.to, effCall, SI.sv_to h1, hk]; rfl
    · cases h
  · split at h
    · rename_i h1
      refine ⟨_, _, _, h, ?_⟩
      simp only [SR.to, effCall, SI.svs_to h1, hk]; rfl
    · cases h
  · refine ⟨_, _, _, h, ?_⟩
    simp only [SR.to, effCall, List.map_append, hk]; rfl
  · split at h
    · rename_i h1
      refine ⟨_, _, _, h, ?_⟩
      have hk2 : (ids.map (fun i => ((i, none) : Nat × Option SOb))).map upTo = ids.map (fun i => ((i, none) : Nat × Option Ob)) := by simpa using kill_map ids
      simp only [SR.to, effCall, SI.sv_to h1, hk2]; rfl
    · cases h
  · split at h
    · rename_i h1
      refine ⟨_, _, _, h, ?_⟩
      simp only [SR.to, effCall, SI.svs_to h1, hk, sv_tup, List.map_append, List.map_cons, List.map_nil, s1_one, sc_fb]
    · cases h
  · split at h
    · rename_i h1
      refine ⟨_, _, _, h, ?_⟩
      simp only [SR.to, effCall, SI.svs_to h1]; rfl
    · cases h

theorem ups_to (s : SS) (l : List (Nat × Option SOb)) : (s.ups l).to = s.to.ups (l.map upTo) := by
  simp [SS.ups, SS.to, AS.ups]
theorem put_to (s : SS) (d : Option Nat) (v : SV) : (s.put d v).to = s.to.put d v.to := by cases d <;> rfl

theorem evOne_ok (htab : ∀ T te, tab T = some te → tabOf P T = some te) (hΦ : Phi.Ok P Φ) {nid : Nat} {o : Oper} {s : SS} {k : SV → List (Nat × Option SOb) → List Nat → Option β} {r : β} (h : evOne tab ty Φ nid o.op s k = some r) :
    ∃ sv ups rd, k sv ups rd = some r ∧ ∃ orc e, runOp P nid o s.to orc = some e ∧ e.dst = o.dst ∧ e.val = sv.to ∧ e.ups = ups.map upTo ∧ e.rd = rd ∧ e.Holds P := by
  unfold evOne at h
  split at h
  · rename_i f args hc
    split at h
    · rename_i sis ids hr
      obtain ⟨res, fr, hk, hA⟩ := hΦ _ _ _ _ h
      obtain ⟨hk, hps⟩ := passC_ok hk
      obtain ⟨sv, ups, rd, h1, h2⟩ := effC_ok hk
      have hpo : s.to.passOK o.op res.to = true := passOK_of hc (fun hp => SS.frArgs_to (hps.1 hp)) fun k hk => SS.shOK_to (hps.2 k hk)
      refine ⟨sv, ups, rd, h1, some (res.to, fr), { dst := o.dst, val := sv.to, ups := ups.map upTo, rd := rd, side := True, call := some (f, sis.map SI.to, res.to, fr) }, ?_, rfl, rfl, rfl, rfl, trivial, hA⟩
      simp only [runOp, AS.callOf, hc, SS.resArgs_to hr, h2, hpo]
    · cases h
  · rename_i hc
    split at h
    · rename_i t args ts hop
      split at h
      · rename_i f id sis ids hf hr
        split at h
        · rename_i si ids' hiv
          obtain ⟨res, fr, hk, hA⟩ := hΦ _ _ _ _ h
          obtain ⟨hk, hps⟩ := passC_ok hk
          obtain ⟨sv, ups, rd, h1, h2⟩ := effC_ok hk
          have hpo : ∀ op : Op, s.to.passOK op res.to = true := by
            intro op
            unfold AS.passOK
            cases hs : res.to.sh with
            | some k => cases hps.2 k hs
            | none =>
              cases hp : res.to.isPass with
              | false => rfl
              | true => cases hps.1 hp
          have e1 := SS.ev_to hf
          have e3 := SS.resIV_to hiv
          simp only [sv_v, s1_one, sc_fn, sc_ptr] at e1 e3
          refine ⟨sv, ups, rd, h1, some (res.to, fr), { dst := o.dst, val := sv.to, ups := ups.map upTo, rd := rd, side := True, call := some (f, (sis ++ [si]).map SI.to, res.to, fr) }, ?_, rfl, rfl, rfl, rfl, trivial, hA⟩
          simp only [runOp, AS.callOf, hop, calleeOf, e1, SS.resArgs_to hr, e3, h2, hpo, List.map_append, List.map_cons, List.map_nil]
        · cases h
      · cases h
    · rename_i hnc
      obtain ⟨sv, ups, rd, h1, e, h2, h3, h4, h5, h6⟩ := evOp_ok htab h
      refine ⟨sv, ups, rd, h1, none, { dst := o.dst, val := e.val, ups := e.ups, rd := e.rd, side := e.side, call := none }, ?_, rfl, h3, h4, h5, h6, trivial⟩
      have hcall : s.to.callOf o.op = none := by
        unfold AS.callOf
        rw [hc]
        split
        · rename_i h1; cases h1
        · split
          · rename_i t args ts hop
            exact (hnc t args ts hop).elim
          · rfl
      simp only [runOp, hcall, h2]

theorem fxs_congr {ops : Array Oper} {nt base : Nat} : ∀ {l : List Oper} {i : Nat} {s : AS} {orc orc' : List (Nat × RV × Bool)}, (∀ j, i ≤ j → orc.lookup j = orc'.lookup j) → fxs P ops nt base orc l i s = fxs P ops nt base orc' l i s
  | [], i, s, orc, orc', h => rfl
  | o :: rest, i, s, orc, orc', h => by
    simp only [fxs]
    rw [h i (Nat.le_refl _)]
    split
    · rw [fxs_congr (fun j hj => h j (by omega))]
    · rfl

theorem repl_same (d : Nat) (v : SV) : ∀ {l : List (Nat × SV)}, l.lookup d = some v → repl d v l = l
  | [], h => by cases h
  | (i, a) :: l, h => by
    simp only [List.lookup_cons] at h
    simp only [repl]
    split at h
    · rename_i e
      cases h
      have e : d = i := by simpa using e
      rw [if_pos e, e]
    · rename_i e
      have e : d ≠ i := by simpa using e
      rw [if_neg e, repl_same d v h]
theorem rep_same {s : SS} {d : Nat} {v : SV} (h : s.get d = some v) : s.rep d v = s := by
  unfold SS.rep
  rw [repl_same d v h]

theorem guard_to {ops : Array Oper} {s : SS} {o : Oper} {x y : SS → Option β} {r : β} (h : evGuard ops s o x y = some r) : (guardA ops s.to o = some true ∧ x s = some r) ∨ (guardA ops s.to o = some false ∧ y s = some r) := by
  unfold evGuard at h
  unfold guardA
  cases hg : o.guard with
  | none =>
    rw [hg] at h
    left; exact ⟨rfl, h⟩
  | some p =>
    obtain ⟨j, want⟩ := p
    rw [hg] at h
    simp only at h ⊢
    split at h
    · rename_i d hd
      split at h
      · rename_i b fr hb
        have e := SS.get_some hb
        simp only [sv_v, s1_one, sc_c, tc_bool] at e
        rw [hd]
        simp only [e]
        unfold gd ifB at h
        cases want <;> cases b <;> simp only [Bool.not_true, Bool.not_false, if_true, Bool.false_eq_true, if_false] at h <;> rw [rep_same hb] at h <;> first | exact .inl ⟨rfl, h⟩ | exact .inr ⟨rfl, h⟩
      · rename_i hb
        have e := SS.get_some hb
        simp only [sv_undef] at e
        right
        rw [hd]
        simp only [e]
        exact ⟨trivial, h⟩
      · cases h
    · cases h

def orcJ (i : Nat) (o : Option (RV × Bool)) (orc : List (Nat × RV × Bool)) : List (Nat × RV × Bool) := match o with
  | some x => (i, x) :: orc.filter (fun p => decide (i < p.1))
  | none => orc.filter (fun p => decide (i < p.1))
theorem orcF_up (i : Nat) (l : List (Nat × RV × Bool)) (j : Nat) (hj : i < j) : (l.filter (fun p => decide (i < p.1))).lookup j = l.lookup j := by
  induction l with
  | nil => rfl
  | cons p l ih =>
    obtain ⟨a, b⟩ := p
    by_cases hp : i < a
    · simp only [List.filter_cons, hp, decide_true, if_true, List.lookup_cons, ih]
    · simp only [List.filter_cons, hp, decide_false, Bool.false_eq_true, if_false, List.lookup_cons, ih]
      rw [show (j == a) = false by simp; omega]
theorem orcF_at (i : Nat) (l : List (Nat × RV × Bool)) : (l.filter (fun p => decide (i < p.1))).lookup i = none := by
  induction l with
  | nil => rfl
  | cons p l ih =>
    obtain ⟨a, b⟩ := p
    by_cases hp : i < a
    · simp only [List.filter_cons, hp, decide_true, if_true, List.lookup_cons, ih]
      rw [show (i == a) = false by simp; omega]
    · simp only [List.filter_cons, hp, decide_false, Bool.false_eq_true, if_false, ih]
theorem orcJ_at (i : Nat) (o : Option (RV × Bool)) (orc : List (Nat × RV × Bool)) : (orcJ i o orc).lookup i = o := by
  cases o with
  | none => exact orcF_at i orc
  | some x => simp [orcJ]
theorem orcJ_up (i : Nat) (o : Option (RV × Bool)) (orc : List (Nat × RV × Bool)) (j : Nat) (hj : i + 1 ≤ j) : (orcJ i o orc).lookup j = orc.lookup j := by
  cases o with
  | none => exact orcF_up i orc j hj
  | some x =>
    simp only [orcJ, List.lookup_cons]
    rw [show (j == i) = false by simp; omega]
    exact orcF_up i orc j hj

theorem evOps_ok (htab : ∀ T te, tab T = some te → tabOf P T = some te) (hΦ : Phi.Ok P Φ) {nt : Nat} {ops : Array Oper} {base : Nat} : ∀ {l : List Oper} {i : Nat} {s : SS} {acc : List Sk} {k : SS → List Sk → Option β} {r : β},
    evOps tab ty Φ nt ops base l i s acc k = some r →
    ∃ orc es s', fxs P ops nt base orc l i s.to = some es ∧ (∀ e ∈ es, e.Holds P) ∧ k s' (acc.reverse ++ es.map Fx.sk) = some r ∧ s'.to = s.to.apps es
  | [], i, s, acc, k, r, h => ⟨[], [], s, rfl, by simp, by simpa [evOps] using h, rfl⟩
  | o :: rest, i, s, acc, k, r, h => by
    simp only [evOps] at h
    split at h
    · rename_i hd
      rcases guard_to h with ⟨hg, h⟩ | ⟨hg, h⟩
      · obtain ⟨sv, ups, rd, h1, orc0, e, h2, e1, e2, e3, e4, hh⟩ := evOne_ok htab hΦ h
        obtain ⟨orc, es, s', h3, h4, h5, h6⟩ := evOps_ok htab hΦ h1
        have happ : s.to.app e = ((s.ups ups).put o.dst sv).to := by
          rw [put_to, ups_to]
          unfold AS.app
          rw [e1, e2, e3]
        refine ⟨orcJ i orc0 orc, e :: es, s', ?_, ?_, ?_, ?_⟩
        · have hlk := orcJ_at i orc0 orc
          have hlk2 := orcJ_up i orc0 orc
          simp only [fxs]
          rw [hlk]
          have : fxOf P ops nt (base + i) o s.to orc0 = some e := by
            unfold fxOf
            rw [if_pos hd, hg]
            exact h2
          rw [this]
          simp only
          rw [fxs_congr hlk2, happ, h3]
        · intro e' he'
          rcases List.mem_cons.1 he' with rfl | he'
          · exact hh
          · exact h4 _ he'
        · have hsk : Fx.sk e = ⟨rd, ups.map (·.1)⟩ := by
            unfold Fx.sk Fx.wr
            rw [e4, e3]
            simp [Function.comp_def, upTo]
          rw [List.map_cons, hsk]
          simpa using h5
        · simp only [AS.apps]
          rw [happ]
          exact h6
      · obtain ⟨orc, es, s', h3, h4, h5, h6⟩ := evOps_ok htab hΦ h
        have happ : s.to.app { dst := o.dst, val := .undef, ups := [], rd := [], side := True, call := none } = ((s.ups []).put o.dst .undef).to := by
          rw [put_to, ups_to]
          rfl
        refine ⟨orc, { dst := o.dst, val := .undef, ups := [], rd := [], side := True, call := none } :: es, s', ?_, ?_, ?_, ?_⟩
        · simp only [fxs]
          have : fxOf P ops nt (base + i) o s.to (orc.lookup i) = some { dst := o.dst, val := .undef, ups := [], rd := [], side := True, call := none } := by
            unfold fxOf
            rw [if_pos hd, hg]
          rw [this]
          simp only
          rw [happ, h3]
        · intro e' he'
          rcases List.mem_cons.1 he' with rfl | he'
          · exact ⟨trivial, trivial⟩
          · exact h4 _ he'
        · simpa [Fx.sk, Fx.wr] using h5
        · simp only [AS.apps]
          rw [happ]
          exact h6
    · cases h

theorem indep_sk {ops : Array Oper} {E E' : Nat → Option Fx} (h : ∀ i, (E i).map Fx.sk = (E' i).map Fx.sk) (i j : Nat) : indep ops E i j = indep ops E' i j := by
  have h1 := h i
  have h2 := h j
  unfold indep
  cases hi : E i <;> cases hi' : E' i <;> cases hj : E j <;> cases hj' : E' j <;> rw [hi, hi'] at h1 <;> rw [hj, hj'] at h2 <;> simp [Fx.sk] at h1 h2 <;> cases ops[i]? <;> cases ops[j]? <;> simp_all
theorem lex_sk {ops : Array Oper} {E E' : Nat → Option Fx} (h : ∀ i, (E i).map Fx.sk = (E' i).map Fx.sk) {md : Region.Mode} : ∀ (n k : Nat) (listed : Array Bool), lexFromA md ops E n k listed = lexFromA md ops E' n k listed
  | 0, k, listed => rfl
  | n + 1, k, listed => by
    simp only [lexFromA, lex_sk h n]
    have : freeA md ops E listed k = freeA md ops E' listed k := by
      unfold freeA
      congr 1
      funext j
      congr 1
      split
      · rw [indep_sk h]
      · rfl
    rw [this]

theorem evRegion_ok {cx : Cx} (hP : cx.P = P) (htab : ∀ T te, tab T = some te → tabOf P T = some te) (hΦ : Phi.Ok P Φ) {mixed : Bool} (hm : mixed = true → P.follows .mixedOrders = true) {id : Nat} {ops : Array Oper} {draw : Bool} {s : SS} {k : SS → Option β} {r : β}
    (h : evRegion tab ty Φ cx.nt mixed ops draw s k = some r) {Q : Exit → AS → Prop} (hQ : ∀ s', k s' = some r → Q .normal s'.to) : awp cx (.region id ops draw) Q s.to := by
  subst hP
  unfold evRegion at h
  obtain ⟨orc, es, s', h1, h2, h3, h4⟩ := evOps_ok htab hΦ h
  have hlen : es.length = ops.toList.length := by
    have : ∀ (l : List Oper) (i : Nat) (s : AS) (es : List Fx), fxs cx.P ops cx.nt s'.next orc l i s = some es → True := fun _ _ _ _ _ => trivial
    have key : ∀ (l : List Oper) (i : Nat) (st : AS) (es : List Fx) (base : Nat), fxs cx.P ops cx.nt base orc l i st = some es → es.length = l.length := by
      intro l
      induction l with
      | nil => intro i s es base h; simp only [fxs, Option.some.injEq] at h; subst h; rfl
      | cons o l ih =>
        intro i s es base h
        simp only [fxs] at h
        split at h
        · split at h
          · rename_i es' hes
            cases h
            simp [ih _ _ _ _ hes]
          · cases h
        · cases h
    exact key _ _ _ _ _ h1
  have hbeh : s.to.behindRegion es = ({ s' with next := s.next + ops.toList.length } : SS).to := by
    unfold AS.behindRegion
    rw [← h4, hlen]
    rfl
  have hops : ops.toList.toArray = ops := by simp
  cases draw with
  | false =>
    simp only at h3
    have := awp_region (cx := cx) (id := id) (l := ops.toList) (s := s.to) (Q := Q) orc (by rw [hops]; exact h1) h2 (by rw [hbeh]; exact hQ _ h3)
    rwa [hops] at this
  | true =>
    simp only at h3
    split at h3
    · rename_i hl
      simp only [Bool.and_eq_true] at hl
      have hl2 : lexFromA .any ops.toList.toArray (fun i => es[i]?) ops.toList.length 0 (Array.replicate ops.toList.length false) = true := by
        rw [hops]
        have := lexOK_sound hl.2
        rw [lex_sk (E' := fun i => es[i]?) (fun i => ?_)] at this
        · exact this
        · simp only [List.reverse_nil, List.nil_append, List.getElem?_map, Option.map_map]
          congr 1
          funext e
          simp [Sk.fx, Fx.sk, Fx.wr, Function.comp_def]
      have := awp_region_draw (cx := cx) (id := id) (l := ops.toList) (s := s.to) (Q := Q) (hm hl.1) orc (by rw [hops]; exact h1) hl2 h2 (by rw [hbeh]; exact hQ _ h3)
      rwa [hops] at this
    · cases h3
end
end Go.Proofs.YtcaahmielncmpaaGreat
