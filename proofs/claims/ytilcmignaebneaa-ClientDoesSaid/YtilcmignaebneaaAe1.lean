/- The abstract evaluator AE, proved: part 1. -/
import Derived.Calls
import Derived.Still
import Derived.KernelRfl
import Derived.StillTail
import Derived.Deep.Quiet
import Derived.Below
import Derived.MapKept
import Derived.Deep.MidRow
import Derived.ChangeKeysEq
import Derived.Laws.StructEq
set_option linter.unusedVariables false
set_option linter.unusedSimpArgs false
namespace Go.AE

/-- A program's numbers of two types: of what byte rows are rows of, and of strings.Builder; and of methods, by type and name. -/
class BT where
  byte : Nat
  bld : Nat
  meths : List (Nat × String × Nat)
def methGo : List (Nat × String × Nat) → Nat → String → Option Nat
  | [], _, _ => none
  | (t, n, g) :: r, t', n' => cond (Nat.beq t t' && n == n') (some g) (methGo r t' n')

/-! ### Data types: what an element of a slice may be, by value -/
inductive Ty where
  | int (k : IntKind)
  | bool
  | str
  | unit
  | st (fs : Ty)
  | pair (a b : Ty)
  | list (e : Ty)
  deriving DecidableEq, Inhabited

@[reducible] def Ty.T : Ty → Type
  | .int _ => Int
  | .bool => Bool
  | .str => List UInt8
  | .unit => Unit
  | .st f => f.T
  | .pair a b => a.T × b.T
  | .list e => List e.T

def Ty.size : Ty → Nat
  | .unit => 0
  | .st f => f.size
  | .pair a b => a.size + b.size
  | _ => 1

def Ty.flat : Ty → Bool      -- no slice inside
  | .st f => f.flat
  | .pair a b => a.flat && b.flat
  | .list _ => false
  | _ => true

/-! ### Values -/
inductive AV where
  | unk
  | bool (b : Bool)
  | int (k : IntKind) (n : Int)
  | str (s : List UInt8)
  | nilp
  | ptr (i off : Nat)
  | eptr (i idx off : Nat)
  | rptr (t : Ty) (x : t.T) (off : Nat)
  | nils
  | own (i : Nat)
  | sub (i off len esz : Nat)
  | ro (t : Ty) (l : List t.T)
  | nilm
  | map (i : Nat)
  | fn (f : Fn) (first cap : List AV)
  | nilf
  | nili
  | ifc (t : Nat) (v : AV)
  | agg (cs : List AV)
  | tup (vs : List AV)
  /-- a ghost: what an iterator has yet to tell -/
  | gh (l : List Int)

def cells : (t : Ty) → t.T → List AV
  | .int k, n => [.int k n]
  | .bool, b => [.bool b]
  | .str, s => [.str s]
  | .unit, _ => []
  | .st f, x => cells f x
  | .pair a b, x => cells a x.1 ++ cells b x.2
  | .list e, l => [.ro e l]

def enc : (t : Ty) → t.T → AV
  | .int k, n => .int k n
  | .bool, b => .bool b
  | .str, s => .str s
  | .unit, _ => .agg []
  | .st f, x => .agg (cells f x)
  | .pair a b, x => .agg (cells a x.1 ++ cells b x.2)
  | .list e, l => .ro e l

def castL (e e' : Ty) (l : List e'.T) : Option (List e.T) :=
  match decEq e' e with
  | isTrue h => some (h ▸ l)
  | isFalse _ => none

def dec : (t : Ty) → List AV → Option (t.T × List AV)
  | .int k, cs => match cs with
    | .int k' n :: r => match decEq k' k with | isTrue _ => some (n, r) | isFalse _ => none
    | _ => none
  | .bool, cs => match cs with
    | .bool b :: r => some (b, r)
    | _ => none
  | .str, cs => match cs with
    | .str s :: r => some (s, r)
    | _ => none
  | .unit, r => some ((), r)
  | .st f, r => dec f r
  | .pair a b, r => match dec a r with
    | some (x, r') => match dec b r' with
      | some (y, r'') => some ((x, y), r'')
      | none => none
    | none => none
  | .list e, cs => match cs with
    | .ro e' l :: r => match castL e e' l with | some l' => some (l', r) | none => none
    | .nils :: r => some ([], r)
    | _ => none

def decAll (t : Ty) (cs : List AV) : Option t.T :=
  match dec t cs with
  | some (x, []) => some x
  | _ => none

/-- A value's cells. -/
def AV.cellsOf : AV → List AV
  | .agg cs => cs
  | v => [v]

/-- One cell's value: what may be stored. -/
def AV.cellOk : AV → Bool
  | .unk => false
  | .agg _ => false
  | .tup _ => false
  | .gh _ => false
  | .eptr .. => true
  | _ => true

inductive Obj where
  | dead
  | cells (cs : List AV)
  | arr (t : Ty) (l : List t.T)
  /-- a strings.Builder: its first cell is nil, or leads to itself; the others -/
  | bcells (cs : List AV)
  /-- a strings.Builder whose bytes have been told -/
  | btold (s : List Int)
  | mp (k : IntKind) (v : Ty) (l : List (Int × v.T))

/-! ### Maps: rows of what was put, in order -/
def Ty.sc : Ty → Bool
  | .int _ => true
  | .bool => true
  | .str => true
  | _ => false
def mget {α : Type} (n : Int) (z : α) : List (Int × α) → α
  | [] => z
  | (m, x) :: r => cond (n == m) x (mget n z r)
def mhas {α : Type} (n : Int) : List (Int × α) → Bool
  | [] => false
  | (m, _) :: r => cond (n == m) true (mhas n r)
def mput {α : Type} (n : Int) (x : α) : List (Int × α) → List (Int × α)
  | [] => [(n, x)]
  | (m, y) :: r => cond (n == m) ((n, x) :: r) ((m, y) :: mput n x r)
def castM (k : IntKind) (e : Ty) (k' : IntKind) (e' : Ty) (l : List (Int × e'.T)) : Option (List (Int × e.T)) :=
  match decEq k' k with
  | isTrue _ => match decEq e' e with
    | isTrue h => some (h ▸ l)
    | isFalse _ => none
  | isFalse _ => none

/-! ### The table of types -/
inductive TK where
  | sc                              -- one cell
  | ptr (e : Nat)
  | slice (e : Nat)
  | array (n e : Nat)
  | struct (fs : List (Nat × Nat))  -- each field's type and offset
  | map (k e : Nat)

structure TI where
  k : TK
  size : Nat
  bytes : Nat
  zero : List AV
  ty : Option Ty

abbrev Tab := List (Nat × TI)

def Tab.get : Tab → Nat → Option TI
  | [], _ => none
  | (n, i) :: r, t => cond (Nat.beq n t) (some i) (Tab.get r t)

def TI.isAgg (i : TI) : Bool :=
  match i.k with
  | .struct _ => true
  | .array _ _ => true
  | _ => false

/-! ### State -/
abbrev Tmps := List (Nat × AV)

def getT : Tmps → Nat → AV
  | [], _ => .unk
  | (d, v) :: r, t => cond (Nat.beq d t) v (getT r t)

structure St where
  env : Tmps
  stk : List Tmps
  H : List Obj
  blk : Nat

inductive Ex where
  | norm
  | exit (id : Nat)
  | ret
  | goto (l : Nat)

abbrev Ans := Option (AV × List Obj)
abbrev KV := AV → St → Ans

def constCell : Value → AV
  | .bool b => .bool b
  | .int k n => .int k n
  | .string s => .str s.data.toList
  | .pointer none => .nilp
  | .slice none 0 0 => .nils
  | .map none => .nilm
  | .nilFunc => .nilf
  | .nilIface => .nili
  | _ => .unk

def ofConst : Value → AV
  | .agg cs => .agg (cs.toList.map constCell)
  | v => constCell v

def opd (env : Tmps) : Operand → AV
  | .tmp t => getT env t
  | .const v => ofConst v
  | .global _ => .unk
  | .func f => .fn (.func f) [] []

/-! ### References: taken away, or looked for -/
mutual
def AV.mapR (g : AV → AV) : AV → AV
  | .fn f a b => .fn f (AV.mapRs g a) (AV.mapRs g b)
  | .ifc t v => .ifc t (v.mapR g)
  | .agg cs => .agg (AV.mapRs g cs)
  | .tup vs => .tup (AV.mapRs g vs)
  | .unk => .unk
  | .bool b => .bool b
  | .int k n => .int k n
  | .str s => .str s
  | .nilp => .nilp
  | .nils => .nils
  | .nilm => .nilm
  | .nilf => .nilf
  | .nili => .nili
  | .ro t l => .ro t l
  | .rptr t x o => .rptr t x o
  | .gh l => .gh l
  | .ptr i o => g (.ptr i o)
  | .eptr i n o => g (.eptr i n o)
  | .own i => g (.own i)
  | .sub i o l e => g (.sub i o l e)
  | .map i => g (.map i)
def AV.mapRs (g : AV → AV) : List AV → List AV
  | [] => []
  | v :: r => v.mapR g :: AV.mapRs g r
end

/-- References to a row's cells are no more. -/
def killR (i : Nat) : AV → AV
  | .own j => cond (Nat.beq i j) .unk (.own j)
  | .sub j o l e => cond (Nat.beq i j) .unk (.sub j o l e)
  | .eptr j n o => cond (Nat.beq i j) .unk (.eptr j n o)
  | .ptr j o => cond (Nat.beq i j) .unk (.ptr j o)
  | .map j => cond (Nat.beq i j) .unk (.map j)
  | v => v

/-- A row is read only from here on: it is told by value. -/
def freezeR (i : Nat) (t : Ty) (l : List t.T) : AV → AV
  | .own j => cond (Nat.beq i j) (.ro t l) (.own j)
  | .sub j o n e => cond (Nat.beq i j) (.ro t ((l.drop o).take n)) (.sub j o n e)
  | .eptr j n o => cond (Nat.beq i j) .unk (.eptr j n o)
  | .ptr j o => cond (Nat.beq i j) .unk (.ptr j o)
  | .map j => cond (Nat.beq i j) .unk (.map j)
  | v => v

def mapTmps (g : AV → AV) : Tmps → Tmps
  | [] => []
  | (d, v) :: r => (d, v.mapR g) :: mapTmps g r
def Obj.mapR (g : AV → AV) : Obj → Obj
  | .cells cs => .cells (AV.mapRs g cs)
  | .bcells cs => .bcells (AV.mapRs g cs)
  | o => o
def mapObjs (g : AV → AV) : List Obj → List Obj
  | [] => []
  | o :: r => o.mapR g :: mapObjs g r
def mapStk (g : AV → AV) : List Tmps → List Tmps
  | [] => []
  | e :: r => mapTmps g e :: mapStk g r
def St.mapR (g : AV → AV) (s : St) : St := { s with env := mapTmps g s.env, stk := mapStk g s.stk, H := mapObjs g s.H }

def getH : List Obj → Nat → Obj
  | [], _ => .dead
  | o :: _, 0 => o
  | _ :: r, i + 1 => getH r i
def setH : List Obj → Nat → Obj → List Obj
  | [], _, _ => []
  | _ :: r, 0, x => x :: r
  | o :: r, i + 1, x => o :: setH r i x

mutual
def AV.refs : AV → List Nat
  | .ptr i _ => [i]
  | .eptr i _ _ => [i]
  | .own i => [i]
  | .sub i _ _ _ => [i]
  | .map i => [i]
  | .fn _ a b => AV.refsL a ++ AV.refsL b
  | .ifc _ v => v.refs
  | .agg cs => AV.refsL cs
  | .tup vs => AV.refsL vs
  | .unk => []
  | .bool _ => []
  | .int _ _ => []
  | .str _ => []
  | .nilp => []
  | .nils => []
  | .nilm => []
  | .nilf => []
  | .nili => []
  | .ro _ _ => []
  | .rptr _ _ _ => []
  | .gh _ => []
def AV.refsL : List AV → List Nat
  | [] => []
  | v :: r => v.refs ++ AV.refsL r
end
def Obj.refs : Obj → List Nat
  | .cells cs => AV.refsL cs
  | .bcells cs => AV.refsL cs
  | _ => []
def refsT : Tmps → List Nat
  | [] => []
  | (_, v) :: r => v.refs ++ refsT r
def refsS : List Tmps → List Nat
  | [] => []
  | e :: r => refsT e ++ refsS r
def refsH : List Obj → List Nat
  | [] => []
  | o :: r => o.refs ++ refsH r
def hasN : List Nat → Nat → Bool
  | [], _ => false
  | a :: r, n => cond (Nat.beq a n) true (hasN r n)

/-- Objects at the end that nobody leads to are forgotten. -/
def trimH (roots : List Nat) : Nat → List Obj → List Obj
  | 0, H => H
  | n + 1, H =>
    match H.length with
    | 0 => H
    | m + 1 => cond (hasN (roots ++ refsH (H.take m)) m) H (trimH roots n (H.take m))

def keepT (env : Tmps) : List Nat → Tmps
  | [] => []
  | d :: r => (d, getT env d) :: keepT env r

/-- At the head of a loop: temporaries that aren't kept are forgotten, and what nobody leads to. -/
def St.head (s : St) (keep : List Nat) : St :=
  let env := keepT s.env keep
  { s with env, H := trimH (refsT env ++ refsS s.stk) s.H.length s.H }

/-! ### Small things -/
def nth {α : Type} (l : List α) (i : Int) : Option α := if 0 ≤ i then l[i.toNat]? else none

def oneCell (cs : List AV) : Option AV := match cs with | [v] => some v | _ => none
def takeN {α : Type} : Nat → List α → Option (List α)     -- just so many
  | 0, _ => some []
  | n + 1, x :: r => match takeN n r with | some l => some (x :: l) | none => none
  | _ + 1, [] => none

/-- cells from 'off' on are replaced. -/
def putCells (cs : List AV) (off : Nat) (new : List AV) : Option (List AV) :=
  match takeN off cs with
  | none => none
  | some a => match takeN new.length (cs.drop off) with
    | none => none
    | some _ => some (a ++ new ++ (cs.drop off).drop new.length)

def cellsAt (cs : List AV) (off n : Nat) : Option (List AV) := takeN n (cs.drop off)

def bytesOf (l : List Int) : List UInt8 := l.map fun n => UInt8.ofNat n.toNat
def intsOf (s : List UInt8) : List Int := s.map fun c => (c.toNat : Int)

def bindO {α β : Type} (o : Option α) (k : α → Option β) : Option β := match o with | some a => k a | none => none
def asInt (v : AV) (k : Int → Ans) : Ans := match v with | .int _ n => k n | _ => none

def allOk : List AV → Bool
  | [] => true
  | v :: r => v.cellOk && allOk r

/-! ### Equality -/
def eqSc : List AV → AV → AV → Option Bool
  | [.bool _], .bool a, .bool b => some (a == b)
  | [.int _ _], .int k a, .int k' b => match decEq k k' with | isTrue _ => some (a == b) | isFalse _ => none
  | [.str _], .str a, .str b => some (a == b)
  | [.nilf], .nilf, .nilf => some true
  | [.nilf], .nilf, .fn _ _ _ => some false
  | [.nilf], .fn _ _ _, .nilf => some false
  | [.nili], .nili, .ifc _ _ => some false
  | [.nili], .ifc _ _, .nili => some false
  | _, _, _ => none
def eqPtr : AV → AV → Option Bool
  | .nilp, .nilp => some true
  | .nilp, .ptr _ _ => some false
  | .ptr _ _, .nilp => some false
  | .nilp, .eptr _ _ _ => some false
  | .eptr _ _ _, .nilp => some false
  | .nilp, .rptr _ _ _ => some false
  | .rptr _ _ _, .nilp => some false
  | _, _ => none
def eqMap : AV → AV → Option Bool
  | .nilm, .nilm => some true
  | .nilm, .map _ => some false
  | .map _, .nilm => some false
  | _, _ => none
def eqSlice : AV → AV → Option Bool
  | .nils, .nils => some true
  | _, _ => none
def partAt (T : Tab) (t : Nat) (cs : List AV) (off : Nat) : Option AV :=
  match Tab.get T t with
  | some i => match cellsAt cs off i.size with
    | some a => match i.isAgg with
      | true => some (.agg a)
      | false => oneCell a
    | none => none
  | none => none
/-- No interface values among a type's cells. -/
def noIf : List AV → Bool
  | [] => true
  | .nili :: _ => false
  | _ :: r => noIf r
mutual
def eqV (T : Tab) : Nat → Nat → AV → AV → Option Bool
  | 0, _, _, _ => none
  | d + 1, t, x, y => match Tab.get T t with
    | none => none
    | some i => match i.k with
      | .sc => eqSc i.zero x y
      | .ptr _ => eqPtr x y
      | .map _ _ => eqMap x y
      | .slice _ => eqSlice x y
      | .struct fs => match noIf i.zero with
        | true => match x, y with
          | .agg xs, .agg ys => eqFs T d fs xs ys
          | _, _ => none
        | false => none
      | .array n e => match noIf i.zero with
        | true => match x, y with
          | .agg xs, .agg ys => match Tab.get T e with
            | some j => eqAs T d (List.range n) e j.size xs ys
            | none => none
          | _, _ => none
        | false => none
def eqFs (T : Tab) : Nat → List (Nat × Nat) → List AV → List AV → Option Bool
  | 0, _, _, _ => none
  | _ + 1, [], _, _ => some true
  | d + 1, (t, off) :: r, xs, ys =>
    match partAt T t xs off, partAt T t ys off with
    | some a, some b => match eqV T d t a b with
      | some p => match eqFs T d r xs ys with
        | some q => some (p && q)
        | none => none
      | none => none
    | _, _ => none
def eqAs (T : Tab) : Nat → List Nat → Nat → Nat → List AV → List AV → Option Bool
  | 0, _, _, _, _, _ => none
  | _ + 1, [], _, _, _, _ => some true
  | d + 1, n :: r, t, sz, xs, ys =>
    match partAt T t xs (n * sz), partAt T t ys (n * sz) with
    | some a, some b => match eqV T d t a b with
      | some p => match eqAs T d r t sz xs ys with
        | some q => some (p && q)
        | none => none
      | none => none
    | _, _ => none
end

/-! ### Operators -/
def intBin (op : BinOp) (k : IntKind) (a b : Int) (K : AV → Ans) : Ans :=
  match op with
  | .add => K (.int k (k.wrap (a + b)))
  | .sub => K (.int k (k.wrap (a - b)))
  | .mul => K (.int k (k.wrap (a * b)))
  | .quo => cond (b == 0) none (K (.int k (k.wrap (a.tdiv b))))
  | .rem => cond (b == 0) none (K (.int k (a.tmod b)))
  | .and => K (.int k (k.wrap (((a % 2 ^ k.bits).toNat &&& (b % 2 ^ k.bits).toNat : Nat) : Int)))
  | .or => K (.int k (k.wrap (((a % 2 ^ k.bits).toNat ||| (b % 2 ^ k.bits).toNat : Nat) : Int)))
  | .xor => K (.int k (k.wrap (((a % 2 ^ k.bits).toNat ^^^ (b % 2 ^ k.bits).toNat : Nat) : Int)))
  | .andNot => K (.int k (k.wrap (((a % 2 ^ k.bits).toNat &&& (2 ^ k.bits - 1 - (b % 2 ^ k.bits).toNat) : Nat) : Int)))
  | .eql => K (.bool (a == b))
  | .neq => K (.bool (a != b))
  | .lss => K (.bool (decide (a < b)))
  | .leq => K (.bool (decide (a ≤ b)))
  | .gtr => K (.bool (decide (a > b)))
  | .geq => K (.bool (decide (a ≥ b)))
  | _ => none

def shiftBin (op : BinOp) (k : IntKind) (a b : Int) (K : AV → Ans) : Ans :=
  cond (decide (b < 0)) none
    (match op with
     | .shl => K (.int k (k.wrap (a * 2 ^ min b.toNat k.bits)))
     | .shr => K (.int k (a.fdiv (2 ^ min b.toNat k.bits)))
     | _ => none)

def strBin (op : BinOp) (a b : List UInt8) (K : AV → Ans) : Ans :=
  match op with
  | .add => cond (Nat.ble (a.length + b.length) 9223372036854775807) (K (.str (a ++ b))) none
  | .eql => K (.bool (a == b))
  | .neq => K (.bool (!(a == b)))
  | .lss => K (.bool (Op.bytesLess a b))
  | .leq => K (.bool (Op.bytesLess a b || a == b))
  | .gtr => K (.bool (!(Op.bytesLess a b || a == b)))
  | .geq => K (.bool (!(Op.bytesLess a b)))
  | _ => none

def isShift : BinOp → Bool
  | .shl => true
  | .shr => true
  | _ => false

def binOp (T : Tab) (op : BinOp) (t : Nat) (x y : AV) (K : AV → Ans) : Ans :=
  match x, y with
  | .int k a, .int k' b =>
    cond (isShift op) (shiftBin op k a b K) (match decEq k k' with | isTrue _ => intBin op k a b K | isFalse _ => none)
  | .str a, .str b => strBin op a b K
  | x, y => match op with
    | .eql => bindO (eqV T 40 t x y) fun b => K (.bool b)
    | .neq => bindO (eqV T 40 t x y) fun b => K (.bool (!b))
    | _ => none

def unOp (op : UnOp) (x : AV) (K : AV → Ans) : Ans :=
  match op, x with
  | .neg, .int k n => K (.int k (k.wrap (0 - n)))
  | .xor, .int k n => intBin .xor k (if k.signed then -1 else k.max) n K
  | .not, .bool b => K (.bool (!b))
  | _, _ => none

/-! ### Memory -/
def bigArr (n : Nat) : Bool := Nat.ble 5 n

/-- A pointer's own cells. -/
def load (T : Tab) (s : St) (t : Nat) (p : AV) (K : AV → Ans) : Ans :=
  bindO (Tab.get T t) fun i =>
    let back (cs : List AV) : Ans := cond i.isAgg (K (.agg cs)) (bindO (oneCell cs) K)
    match p with
    | .ptr n off => match getH s.H n with
      | .cells cs => bindO (cellsAt cs off i.size) back
      | .bcells cs => cond (Nat.ble 1 off) (bindO (cellsAt cs (Nat.sub off 1) i.size) back) none
      | _ => none
    | .eptr n idx off => match getH s.H n with
      | .arr ty l => bindO (l[idx]?) fun x => bindO (cellsAt (cells ty x) off i.size) back
      | _ => none
    | .rptr ty x off => bindO (cellsAt (cells ty x) off i.size) back
    | _ => none

def fieldAddr (T : Tab) (t : Nat) (p : AV) (f : Nat) (K : AV → Ans) : Ans :=
  bindO (Tab.get T t) fun i => match i.k with
    | .struct fs => bindO (fs[f]?) fun (ft, off) => bindO (Tab.get T ft) fun j => cond (Nat.beq j.size 0) none
      (match p with
       | .ptr n o => K (.ptr n (o + off))
       | .eptr n x o => K (.eptr n x (o + off))
       | .rptr ty x o => K (.rptr ty x (o + off))
       | _ => none)
    | _ => none

def field (T : Tab) (t : Nat) (x : AV) (f : Nat) (K : AV → Ans) : Ans :=
  bindO (Tab.get T t) fun i => match i.k, x with
    | .struct fs, .agg cs => bindO (fs[f]?) fun (ft, off) => bindO (partAt T ft cs off) K
    | _, _ => none

def inR (i : Int) (n : Nat) : Bool := decide (0 ≤ i) && decide (i < (n : Int))

def isStr (i : TI) : Bool :=
  match i.zero with
  | [.str _] => true
  | _ => false

/-- One of so few: each by itself. -/
def pickN (len : Nat) (i : Int) (K : Nat → Ans) : Ans :=
  match len with
  | 1 => cond (i == 0) (K 0) none
  | 2 => cond (i == 0) (K 0) (cond (i == 1) (K 1) none)
  | len => cond (inR i len) (K i.toNat) none
theorem pickN_eq (len : Nat) (i : Int) (K : Nat → Ans) : pickN len i K = cond (inR i len) (K i.toNat) none := by
  unfold pickN
  split
  · by_cases h : i = 0
    · subst h; rfl
    · have h1 : inR i 1 = false := by
        unfold inR
        simp only [Bool.and_eq_false_iff, decide_eq_false_iff_not]
        omega
      have hb : (i == 0) = false := by simpa using h
      rw [h1, hb]
      rfl
  · by_cases h : i = 0
    · subst h; rfl
    · by_cases h2 : i = 1
      · subst h2; rfl
      · have h1 : inR i 2 = false := by
          unfold inR
          simp only [Bool.and_eq_false_iff, decide_eq_false_iff_not]
          omega
        have hb : (i == 0) = false := by simpa using h
        have hc : (i == 1) = false := by simpa using h2
        rw [h1, hb, hc]
        rfl
  · rfl
def indexAddr (T : Tab) (s : St) (t : Nat) (x ix : AV) (K : AV → Ans) : Ans :=
  asInt ix fun i => bindO (Tab.get T t) fun ti => match ti.k with
    | .slice e => bindO (Tab.get T e) fun ei => match x with
      | .own n => match getH s.H n with
        | .arr ty l => cond (Nat.beq ei.size ty.size) (cond (inR i l.length) (K (.eptr n i.toNat 0)) none) none
        | _ => none
      | .sub n off len e' => cond (Nat.beq ei.size e') (match getH s.H n with
        | .arr _ _ => cond (inR i len) (K (.eptr n (off + i.toNat) 0)) none
        | .cells _ => cond (inR i len) (K (.ptr n ((off + i.toNat) * ei.size))) none
        | _ => none) none
      | .ro ty l => cond (Nat.beq ei.size ty.size) (bindO (nth l i) fun y => K (.rptr ty y 0)) none
      | _ => none
    | .array len e => bindO (Tab.get T e) fun ei => match x with
      | .ptr n off => match getH s.H n with
        | .cells _ => pickN len i fun j => K (.ptr n (off + j * ei.size))
        | .arr ty l => cond (Nat.beq off 0 && Nat.beq ei.size ty.size && inR i len) (K (.eptr n i.toNat 0)) none
        | _ => none
      | .eptr n x off => pickN len i fun j => K (.eptr n x (off + j * ei.size))
      | .rptr ty x off => pickN len i fun j => K (.rptr ty x (off + j * ei.size))
      | _ => none
    | _ => none

def index (T : Tab) (t : Nat) (x ix : AV) (K : AV → Ans) : Ans :=
  asInt ix fun i => bindO (Tab.get T t) fun ti => match ti.k with
    | .sc => cond (isStr ti) (match x with
      | .str s => bindO (nth s i) fun c => K (.int .u8 (c.toNat : Int))
      | _ => none) none
    | .array len e => bindO (Tab.get T e) fun ei => match x with
      | .agg cs => pickN len i fun j => bindO (partAt T e cs (j * ei.size)) K
      | _ => none
    | _ => none

/-- 'x[lo:hi]': both ends, of so many. -/
def bounds (len : Nat) (lo hi : Option AV) (K : Nat → Nat → Ans) : Ans :=
  match lo, hi with
  | none, none => K 0 len
  | some l, none => asInt l fun a => cond (inR a (len + 1)) (K a.toNat len) none
  | none, some h => asInt h fun b => cond (inR b (len + 1)) (K 0 b.toNat) none
  | some l, some h => asInt l fun a => asInt h fun b => cond (inR b (len + 1) && inR a (b.toNat + 1)) (K a.toNat b.toNat) none

/-- What a slice of a list is, by which ends are told. -/
def cutL {α : Type} (l : List α) (lo hi : Option AV) (a b : Nat) : List α :=
  match lo, hi with
  | none, none => l
  | some _, none => l.drop a
  | none, some _ => l.take b
  | some _, some _ => (l.drop a).take (b - a)

def cutOwn (n : Nat) (lo hi : Option AV) (a b size : Nat) : AV :=
  match lo, hi with
  | none, none => .own n
  | _, _ => .sub n a (b - a) size

def slice (T : Tab) (s : St) (t : Nat) (x : AV) (lo hi mx : Option AV) (K : AV → Ans) : Ans :=
  match mx with
  | some _ => none
  | none => bindO (Tab.get T t) fun ti => match ti.k with
    | .sc => cond (isStr ti) (match x with
      | .str a => bounds a.length lo hi fun i j => K (.str (cutL a lo hi i j))
      | _ => none) none
    | .slice e => bindO (Tab.get T e) fun ei => match x with
      | .own n => match getH s.H n with
        | .arr ty l => cond (Nat.beq ei.size ty.size) (bounds l.length lo hi fun a b => K (cutOwn n lo hi a b ty.size)) none
        | _ => none
      | .sub n off len e' => cond (Nat.beq ei.size e') (bounds len lo hi fun a b => K (.sub n (off + a) (b - a) e')) none
      | .ro ty l => cond (Nat.beq ei.size ty.size) (bounds l.length lo hi fun a b => K (.ro ty (cutL l lo hi a b))) none
      | .nils => bounds 0 lo hi fun _ _ => K .nils
      | _ => none
    | .array len e => bindO (Tab.get T e) fun ei => match x with
      | .ptr n off => match getH s.H n with
        | .arr ty l => cond (Nat.beq off 0 && Nat.beq l.length len && Nat.beq ei.size ty.size) (bounds l.length lo hi fun a b => K (cutOwn n lo hi a b ty.size)) none
        | .cells cs => cond (Nat.beq off 0 && Nat.beq cs.length (len * ei.size)) (bounds len lo hi fun a b => K (.sub n a (b - a) ei.size)) none
        | _ => none
      | _ => none
    | _ => none

/-- A struct or array, put together. -/
def fillCells (place : Nat → Option (Nat × Nat)) : List AV → List (Nat × AV) → Option (List AV)
  | cs, [] => some cs
  | cs, (i, v) :: r => match place i with
    | none => none
    | some (off, size) => cond (Nat.beq v.cellsOf.length size && allOk v.cellsOf) (match putCells cs off v.cellsOf with
      | some cs' => fillCells place cs' r
      | none => none) none

def placeOf (T : Tab) (i : TI) (n : Nat) : Option (Nat × Nat) :=
  match i.k with
  | .struct fs => match fs[n]? with
    | some (ft, off) => match Tab.get T ft with
      | some j => some (off, j.size)
      | none => none
    | none => none
  | .array _ e => match Tab.get T e with
    | some j => some (n * j.size, j.size)
    | none => none
  | _ => none

def buildOk (T : Tab) (i : TI) : Bool :=
  match i.k with
  | .struct fs => fs.all fun f => (Tab.get T f.1).isSome
  | .array _ e => (Tab.get T e).isSome
  | _ => false

def repCells (z : List AV) : Nat → List AV
  | 0 => []
  | n + 1 => z ++ repCells z n

def decRow (t : Ty) : Nat → List AV → Option (List t.T)
  | 0, [] => some []
  | 0, _ :: _ => none
  | n + 1, cs => match dec t cs with
    | some (x, r) => match decRow t n r with
      | some l => some (x :: l)
      | none => none
    | none => none

def Ty.isU8 : Ty → Bool
  | .int .u8 => true
  | _ => false
/-- A new variable's object. -/
def varObj [BT] (T : Tab) (t : Nat) (zero : List AV) : Obj :=
  match Tab.get T t with
  | some i => match i.k with
    | .array n e => cond (bigArr n) (match Tab.get T e with
        | some j => match j.ty with
          | some ty => cond ty.isU8 (.cells zero) (match decRow ty n zero with
            | some l => .arr ty l
            | none => .cells zero)
          | none => .cells zero
        | none => .cells zero) (.cells zero)
    | _ => match zero with
      | .nilp :: r => cond (Nat.beq t BT.bld) (.bcells r) (.cells zero)
      | _ => .cells zero
  | none => .cells zero

abbrev nilL (α : Type) : List α := []

/-- The data that a slice holds now, by value. -/
def dataOf (s : St) (t : Ty) (v : AV) : Option (List t.T) :=
  match v with
  | .nils => some []
  | .ro t' l => castL t t' l
  | .own n => match getH s.H n with
    | .arr t' l => castL t t' l
    | _ => none
  | .sub n off len e => match getH s.H n with
    | .arr t' l => match castL t t' l with
      | some l' => cond (Nat.ble (off + len) l'.length) (some ((l'.drop off).take len)) none
      | none => none
    | .cells cs => cond (Nat.beq e t.size) (decRow t len ((cs.drop (off * e)).take (len * e))) none
    | _ => none
  | _ => none

/-- The same, for what comes after. -/
def dataK (s : St) (t : Ty) (v : AV) (K : List t.T → Ans) : Ans :=
  match v with
  | .nils => K []
  | .ro t' l => bindO (castL t t' l) K
  | .own n => match getH s.H n with
    | .arr t' l => bindO (castL t t' l) K
    | _ => none
  | .sub n off len e => match getH s.H n with
    | .arr t' l => bindO (castL t t' l) fun l' => cond (Nat.ble (off + len) l'.length) (K ((l'.drop off).take len)) none
    | .cells cs => cond (Nat.beq e t.size) (bindO (decRow t len ((cs.drop (off * e)).take (len * e))) K) none
    | _ => none
  | _ => none
theorem bindO_some_c {α β : Type} (c : Bool) (x : α) (K : α → Option β) : bindO (cond c (some x) none) K = cond c (K x) none := by cases c <;> rfl
theorem bindO_c {α β : Type} (c : Bool) (x : Option α) (K : α → Option β) : bindO (cond c x none) K = cond c (bindO x K) none := by cases c <;> rfl
theorem dataK_eq (s : St) (t : Ty) (v : AV) (K : List t.T → Ans) : dataK s t v K = bindO (dataOf s t v) K := by
  unfold dataK dataOf
  cases v <;> try rfl
  case own n =>
    simp only
    cases getH s.H n <;> rfl
  case sub n off len e =>
    simp only
    cases getH s.H n <;> try rfl
    case cells cs => simp only [bindO_c]
    case arr t' l =>
      simp only
      cases castL t t' l with
      | none => rfl
      | some l' => exact (bindO_some_c _ _ _).symm

/-! ### Forcing (for the kernel's sake: each is 'K x') -/
def lits : List Nat := [0, 1, 2, 3, 4, 5, 6, 7, 8, 9, 10, 11, 12, 13, 14, 15, 16, 17, 18, 19, 20, 21, 22, 23, 24, 25, 26, 27, 28, 29, 30, 31, 32, 33, 34, 35, 36, 37, 38, 39, 40, 41, 42, 43, 44, 45, 46, 47, 48, 49, 50, 51, 52, 53, 54, 55, 56, 57, 58, 59, 60, 61, 62, 63]
def litGo (n : Nat) (K : Nat → Ans) : List Nat → Ans
  | [] => K n
  | a :: r => cond (Nat.beq n a) (K a) (litGo n K r)
/-- A number as a literal. -/
def lit (n : Nat) (K : Nat → Ans) : Ans := litGo n K lits

mutual
def forceV (v : AV) (K : AV → Ans) : Ans :=
  match v with
  | .unk => K .unk
  | .bool b => K (.bool b)
  | .int k n => K (.int k n)
  | .str s => K (.str s)
  | .nilp => K .nilp
  | .ptr i o => lit i fun i => K (.ptr i o)
  | .eptr i n o => lit i fun i => K (.eptr i n o)
  | .rptr t x o => K (.rptr t x o)
  | .nils => K .nils
  | .own i => lit i fun i => K (.own i)
  | .sub i o l e => lit i fun i => K (.sub i o l e)
  | .ro t l => K (.ro t l)
  | .nilm => K .nilm
  | .map i => lit i fun i => K (.map i)
  | .fn f a b => forceVs a fun a => forceVs b fun b => K (.fn f a b)
  | .nilf => K .nilf
  | .nili => K .nili
  | .ifc t v => forceV v fun v => K (.ifc t v)
  | .agg cs => forceVs cs fun cs => K (.agg cs)
  | .tup vs => forceVs vs fun vs => K (.tup vs)
  | .gh l => K (.gh l)
def forceVs (l : List AV) (K : List AV → Ans) : Ans :=
  match l with
  | [] => K []
  | v :: r => forceV v fun v => forceVs r fun r => K (v :: r)
end
def forceO (o : Obj) (K : Obj → Ans) : Ans :=
  match o with
  | .dead => K .dead
  | .cells cs => forceVs cs fun cs => K (.cells cs)
  | .bcells cs => forceVs cs fun cs => K (.bcells cs)
  | .btold s => K (.btold s)
  | .arr t l => K (.arr t l)
  | .mp k v l => K (.mp k v l)
def forceH (l : List Obj) (K : List Obj → Ans) : Ans :=
  match l with
  | [] => K []
  | o :: r => forceO o fun o => forceH r fun r => K (o :: r)
def forceT (l : Tmps) (K : Tmps → Ans) : Ans :=
  match l with
  | [] => K []
  | (d, v) :: r => forceV v fun v => forceT r fun r => K ((d, v) :: r)
def forceS (l : List Tmps) (K : List Tmps → Ans) : Ans :=
  match l with
  | [] => K []
  | e :: r => forceT e fun e => forceS r fun r => K (e :: r)
def forceB (n : Nat) (K : Nat → Ans) : Ans :=
  match n with
  | 0 => K 0
  | n + 1 => K (n + 1)
def forceSt (s : St) (K : St → Ans) : Ans :=
  match s with
  | ⟨env, stk, H, blk⟩ => forceB blk fun blk => forceT env fun env => forceS stk fun stk => forceH H fun H => K ⟨env, stk, H, blk⟩
/-- A new object. -/
def newObj (s : St) (o : Obj) (K : Nat → St → Ans) : Ans :=
  match s with
  | ⟨env, stk, H, blk⟩ => lit H.length fun i => forceH (H ++ [o]) fun H => K i ⟨env, stk, H, blk⟩
/-- An object turned. -/
def updObj (s : St) (i : Nat) (o : Obj) (K : St → Ans) : Ans :=
  match s with
  | ⟨env, stk, H, blk⟩ => forceH (setH H i o) fun H => K ⟨env, stk, H, blk⟩

def store (T : Tab) (s : St) (t : Nat) (p v : AV) (K : St → Ans) : Ans :=
  bindO (Tab.get T t) fun i =>
    let vs := v.cellsOf
    cond (Nat.beq vs.length i.size && allOk vs)
      (match p with
       | .ptr n off => match getH s.H n with
         | .cells cs => bindO (putCells cs off vs) fun cs' => updObj s n (.cells cs') K
         | .bcells cs => cond (Nat.ble 1 off) (bindO (putCells cs (Nat.sub off 1) vs) fun cs' => updObj s n (.bcells cs') K) none
         | _ => none
       | .eptr n idx off => match getH s.H n with
         | .arr ty l => bindO (l[idx]?) fun x => bindO (putCells (cells ty x) off vs) fun cs' => bindO (decAll ty cs') fun x' => updObj s n (.arr ty (l.set idx x')) K
         | _ => none
       | _ => none)
      none

/-- Rows that values lead to are told by value from here on. -/
def freezeK : List Nat → List AV → St → (List AV → St → Ans) → Ans
  | [], vs, s, K => K vs s
  | i :: r, vs, s, K => match getH s.H i with
    | .arr t l => forceVs (AV.mapRs (freezeR i t l) vs) fun vs => forceSt { s.mapR (freezeR i t l) with H := setH (mapObjs (freezeR i t l) s.H) i .dead } fun s => freezeK r vs s K
    | _ => freezeK r vs s K

end Go.AE
namespace Go.AE

/-! ### Specifications of functions -/
/-- What is known of a code's loops: beside the code, a tree of its form. -/
inductive Ann where
  | none
  | seq (a b : Ann)
  | cond (a b : Ann)
  | block (a : Ann)
  | loop (a : Ann)
  /-- a loop's summary -/
  | sum (G : (Ex → St → Ans) → St → Ans)
  /-- objects are numbered anew at a loop's head, but for the first ones -/
  | pack (k0 : Nat) (a : Ann)
  /-- a part's summary: ahead of it, only the temporaries of a list are kept, and objects are numbered anew, but for the first ones -/
  | cut (k0 : Nat) (keep : List Nat) (G : (Ex → St → Ans) → St → Ans)
  /-- a loop whose head keeps the temporaries of a list -/
  | at (k0 : Nat) (keep : List Nat) (a : Ann)
  /-- behind a region: the temporaries that are kept, and objects numbered anew, but for the first ones -/
  | norm (k0 : Nat) (keep : List Nat)
  /-- rounds of a range over a function are under way -/
  | rnd (a : Ann)
  /-- a loop whose first round stands alone: behind it, what comes after is told by a summary -/
  | peel (k0 : Nat) (keep : List Nat) (a : Ann) (G : (Ex → St → Ans) → St → Ans)
def Ann.fst : Ann → Ann
  | .pack _ a => a.fst
  | .at _ _ a => a.fst
  | .peel _ _ a _ => a
  | .seq a _ => a
  | .cond a _ => a
  | .block a => a
  | .loop a => a
  | _ => .none
def Ann.snd : Ann → Ann
  | .seq _ b => b
  | .cond _ b => b
  | _ => .none

def Ann.sum? : Ann → Option ((Ex → St → Ans) → St → Ans)
  | .sum G => some G
  | .peel _ _ _ G => some G
  | .pack _ a => a.sum?
  | _ => Option.none
def Ann.pack? : Ann → Option Nat
  | .pack n _ => some n
  | _ => Option.none
def Ann.at? : Ann → Option (Nat × List Nat)
  | .at n l _ => some (n, l)
  | .peel n l _ _ => some (n, l)
  | _ => Option.none

inductive FSpec where
  /-- walked in place: temporaries, results, body -/
  | inline (nt : Nat) (res : List ResultVar) (ann : Ann) (body : Code)
  /-- reads only: slices are lent, nothing else leads anywhere; the answer leads nowhere -/
  | pure (F : List AV → (AV → Ans) → Ans)
  /-- may turn what its arguments lead to; slices are told by value -/
  | func (F : List AV → List Obj → (AV → List Obj → Ans) → Ans)
  /-- an iterator: what it begins with, out of what it has captured and the heap; at each call of yield: nothing is left, or what is told and what is left -/
  | iter (start : List AV → List Obj → (List Int → Ans) → Ans) (next : List AV → List Obj → List Int → Ans → (List AV → List Int → Ans) → Ans)

abbrev Env := List (Nat × FSpec)
def Env.get : Env → Nat → Option FSpec
  | [], _ => none
  | (n, i) :: r, t => cond (Nat.beq n t) (some i) (Env.get r t)

abbrev Hint := Nat → List Nat     -- which temporaries are kept at a loop's head (by the function's number * 4096 + the block round it)
def inBlk (blk id : Nat) : Nat := Nat.add (Nat.sub blk (Nat.mod blk 4096)) id

/-! ### Calls by specification: what the arguments lead to -/
def reach (H : List Obj) : Nat → List Nat → List Nat → List Nat
  | 0, _, done => done
  | _ + 1, [], done => done
  | n + 1, i :: r, done => cond (hasN done i) (reach H n r done) (reach H n (r ++ (getH H i).refs) (done ++ [i]))

def idxOf : List Nat → Nat → Nat
  | [], _ => 0
  | a :: r, i => cond (Nat.beq a i) 0 (idxOf r i + 1)

def AV.reId (f : Nat → Nat) : AV → AV
  | .ptr i o => .ptr (f i) o
  | .eptr i n o => .eptr (f i) n o
  | .own i => .own (f i)
  | .sub i o l e => .sub (f i) o l e
  | .map i => .map (f i)
  | v => v

def getN : List Nat → Nat → Nat
  | [], _ => 0
  | a :: _, 0 => a
  | _ :: r, i + 1 => getN r i

def toCaller (sel : List Nat) (base : Nat) (j : Nat) : Nat := cond (Nat.blt j sel.length) (getN sel j) (base + (j - sel.length))

def pickObjs (H : List Obj) (f : Nat → Nat) : List Nat → List Obj
  | [] => []
  | i :: r => (getH H i).mapR (AV.reId f) :: pickObjs H f r

def backObjs (f : Nat → Nat) : List Nat → List Obj → List Obj → List Obj     -- selected ids, what they hold now, the caller's heap
  | [], news, H => H ++ mapObjs (AV.reId f) news
  | i :: r, o :: os, H => backObjs f r os (setH H i (o.mapR (AV.reId f)))
  | _ :: _, [], H => H

/-- Slices that an argument holds, by value. -/
def lendR (H : List Obj) : AV → AV
  | .own n => match getH H n with
    | .arr t l => .ro t l
    | _ => .own n
  | .sub n off len e => match getH H n with
    | .arr t l => cond (Nat.ble (off + len) l.length) (.ro t ((l.drop off).take len)) (.sub n off len e)
    | _ => .sub n off len e
  | v => v

/-- What a call may have turned is known no more; but a pointer to cells stands. -/
def killSel (H : List Obj) (sel : List Nat) : AV → AV
  | .own j => cond (hasN sel j) .unk (.own j)
  | .sub j o l e => cond (hasN sel j) .unk (.sub j o l e)
  | .eptr j n o => cond (hasN sel j) .unk (.eptr j n o)
  | .map j => cond (hasN sel j) (match getH H j with | .mp _ _ _ => .map j | _ => .unk) (.map j)
  | .ptr j o => cond (hasN sel j) (match getH H j with | .cells _ => .ptr j o | .bcells _ => .ptr j o | .btold _ => .ptr j o | _ => .unk) (.ptr j o)
  | v => v

def subN : List Nat → List Nat → Bool
  | [], _ => true
  | a :: r, l => hasN l a && subN r l
def nodupN : List Nat → Bool
  | [] => true
  | a :: r => !hasN r a && nodupN r
def insideN (n : Nat) : List Nat → Bool
  | [] => true
  | a :: r => Nat.blt a n && insideN n r
def closedN (H : List Obj) (sel : List Nat) : List Nat → Bool
  | [] => true
  | a :: r => subN (getH H a).refs sel && closedN H sel r
def forceN (l : List Nat) (K : List Nat → Ans) : Ans :=
  match l with
  | [] => K []
  | a :: r => lit a fun a => forceN r fun r => K (a :: r)

def selOk (H : List Obj) (roots sel : List Nat) : Bool := nodupN sel && insideN H.length sel && subN roots sel && closedN H sel sel

/-- Objects are numbered anew, but for the first ones; what nobody leads to is forgotten. -/
def packSt0 (k0 : Nat) (s : St) (K : St → Ans) : Ans :=
  forceN (reach s.H 400 (List.range k0 ++ (refsS s.stk ++ refsT s.env)) []) fun sel =>
  cond (selOk s.H (List.range k0 ++ (refsS s.stk ++ refsT s.env)) sel)
    (forceSt ⟨mapTmps (AV.reId (idxOf sel)) s.env, mapStk (AV.reId (idxOf sel)) s.stk, pickObjs s.H (idxOf sel) sel, s.blk⟩ K) none
def arrO : Obj → Bool
  | .arr _ _ => true
  | _ => false
/-- The first objects' places; in a row's place nothing. -/
def slotsN (H : List Obj) (L : Nat) : List Nat → List Nat
  | [] => []
  | j :: r => cond (arrO (getH H j)) (Nat.add L j) j :: slotsN H L r
def selOk' (H : List Obj) (roots sel : List Nat) : Bool := nodupN sel && subN roots sel && closedN H sel sel
/-- The same, but rows of the first ones move, too. -/
def moveSt (k0 : Nat) (s : St) (K : St → Ans) : Ans :=
  lit s.H.length fun L =>
  forceN (slotsN s.H L (List.range k0)) fun sl =>
  forceN (reach s.H 400 (sl ++ (refsS s.stk ++ refsT s.env)) []) fun sel =>
  cond (selOk' s.H (sl ++ (refsS s.stk ++ refsT s.env)) sel)
    (forceSt ⟨mapTmps (AV.reId (idxOf sel)) s.env, mapStk (AV.reId (idxOf sel)) s.stk, pickObjs s.H (idxOf sel) sel, s.blk⟩ K) none
/-- A whole row is a part of itself. -/
def looseR (j len e : Nat) : AV → AV
  | .own i => cond (Nat.beq i j) (.sub j 0 len e) (.own i)
  | v => v
/-- What one cell of a block leads to is told as a part. -/
def looseSt (b c : Nat) (s : St) (K : St → Ans) : Ans :=
  match getH s.H b with
  | .cells cs => match cs[c]? with
    | some (.own j) => match getH s.H j with
      | .arr t l => forceSt (s.mapR (looseR j l.length t.size)) K
      | _ => K s
    | _ => K s
  | _ => K s
def packB (b b2 : Bool) (q c k1 k0 : Nat) (s : St) (K : St → Ans) : Ans := cond b (cond b2 (moveSt k1 s fun s => looseSt q c s K) (moveSt k1 s K)) (packSt0 k0 s K)
/-- From 100000 on: rows move; from 200000 on: and one cell's row is told as a part. -/
def packSt (k0 : Nat) (s : St) (K : St → Ans) : Ans :=
  packB (Nat.ble 100000 k0) (Nat.ble 200000 k0) (Nat.div (Nat.sub (Nat.div k0 100000) 2) 16) (Nat.mod (Nat.sub (Nat.div k0 100000) 2) 16) (Nat.mod k0 100000) k0 s K
def fixedN (sel : List Nat) : List Nat → Bool
  | [] => true
  | j :: r => Nat.beq (idxOf sel j) j && fixedN sel r
/-- The same of an answer. -/
def packV (k0 : Nat) (v : AV) (H : List Obj) (K : AV → List Obj → Ans) : Ans :=
  forceN (reach H 400 (List.range k0 ++ v.refs) []) fun sel =>
  cond (selOk H (List.range k0 ++ v.refs) sel && fixedN sel (List.range k0))
    (forceV (v.mapR (AV.reId (idxOf sel))) fun v => forceH (pickObjs H (idxOf sel) sel) fun H => K v H) none

def isNil {α : Type} : List α → Bool
  | [] => true
  | _ => false
/-- Parts of rows among the arguments, by value. -/
def lendTopK (H : List Obj) : List AV → (List AV → Ans) → Ans
  | [], K => K []
  | .sub n off len e :: r, K => (match getH H n with
    | .arr t l => cond (Nat.ble (off + len) l.length) (lendTopK H r fun r => K (.ro t ((l.drop off).take len) :: r)) none
    | _ => lendTopK H r fun r => K (.sub n off len e :: r))
  | v :: r, K => lendTopK H r fun r => K (v :: r)
def callPure (F : List AV → (AV → Ans) → Ans) (s : St) (args : List AV) (K : KV) : Ans :=
  lendTopK s.H args fun args => forceVs (AV.mapRs (lendR s.H) args) fun args => cond (isNil (AV.refsL args)) (F args fun r => K r s) none

def callFuncK (F : List AV → List Obj → (AV → List Obj → Ans) → Ans) (s : St) (args : List AV) (K : List Nat → KV) : Ans :=
  freezeK (AV.refsL args) args s fun args s =>
  forceN (reach s.H 40 (AV.refsL args) []) fun sel =>
  cond (nodupN sel && insideN s.H.length sel && subN (AV.refsL args) sel && closedN s.H sel sel)
    (lit s.H.length fun base =>
     forceVs (AV.mapRs (AV.reId (idxOf sel)) args) fun args' => forceH (pickObjs s.H (idxOf sel) sel) fun H' =>
     F args' H' fun r H' => cond (Nat.ble sel.length H'.length)
       (forceV (r.mapR (AV.reId (toCaller sel base))) fun r =>
        forceSt { s.mapR (killSel s.H sel) with H := backObjs (toCaller sel base) sel H' (mapObjs (killSel s.H sel) s.H) } fun s => K sel r s) none)
    none

def callFunc (F : List AV → List Obj → (AV → List Obj → Ans) → Ans) (s : St) (args : List AV) (K : KV) : Ans := callFuncK F s args fun _ r s => K r s

/-! ### Operations -/
/-- nil of a slice's type whose elements are plain: a row of its own, without elements. -/
def nilTy (T : Tab) (t : Nat) (v : AV) : Option Ty :=
  match v with
  | .nils => match Tab.get T t with
    | some i => match i.k with
      | .slice e => match Tab.get T e with
        | some j => j.ty
        | none => none
      | _ => none
    | none => none
  | _ => none

def typedNil (T : Tab) (t : Nat) (v : AV) (s : St) (K : KV) : Ans :=
  match nilTy T t v with
  | some ty => newObj s (.arr ty []) fun i s' => K (.own i) s'
  | none => K v s

def typedNils (T : Tab) : List (Nat × Nat) → List AV → St → (List AV → St → Ans) → Ans     -- a struct's fields (type, offset) | its cells
  | [], cs, s, K => K cs s
  | (t, off) :: r, cs, s, K => match cs.drop off with
    | .nils :: _ => typedNil T t .nils s fun v s' => match putCells cs off [v] with
      | some cs' => typedNils T r cs' s' K
      | none => none
    | _ => typedNils T r cs s K

def zeroCells (T : Tab) (t : Nat) (s : St) (K : List AV → St → Ans) : Ans :=
  bindO (Tab.get T t) fun i => match i.k with
    | .struct fs => typedNils T fs i.zero s K
    | .slice _ => match i.zero with
      | [v] => typedNil T t v s fun v' s' => K [v'] s'
      | _ => none
    | _ => K i.zero s

def elemTy (T : Tab) (t : Nat) : Option (Nat × TI) :=
  match Tab.get T t with
  | some i => match i.k with
    | .slice e => match Tab.get T e with
      | some j => some (e, j)
      | none => none
    | _ => none
  | none => none

def buildSlice (T : Tab) (t len : Nat) (parts : List (Nat × AV)) (s : St) (K : KV) : Ans :=
  bindO (elemTy T t) fun (_, j) => cond (Nat.ble (len * j.size) 16777216)
    (bindO (fillCells (fun i => some (i * j.size, j.size)) (repCells j.zero len) parts) fun cs =>
      match j.ty with
      | some ty =>
        freezeK (AV.refsL cs) cs s fun cs s =>
        bindO (decRow ty len cs) fun l => newObj s (.arr ty l) fun i s => K (.own i) s
      | none => newObj s (.cells cs) fun i s => K (.sub i 0 len j.size) s)
    none

def notInt (i : TI) : Bool :=
  match i.k with
  | .slice _ => true
  | .sc => isStr i
  | _ => false

def append (T : Tab) (t t2 : Nat) (x y : AV) (s : St) (K : KV) : Ans :=
  bindO (Tab.get T t2) fun i2 => cond (notInt i2) (bindO (elemTy T t) fun (_, j) => cond (Nat.beq j.bytes 0) none (bindO j.ty fun ty =>
    let news : Option (List ty.T) := match y with
      | .str a => castL ty (.int .u8) (intsOf a)
      | y => dataOf s ty y
    bindO news fun b =>
      let put (i : Nat) (a : List ty.T) (s : St) : Ans := cond (Nat.ble ((a.length + b.length) * j.bytes) 140737488355328)
        (forceSt (s.mapR (killR i)) fun s' => updObj s' i (.arr ty (a ++ b)) fun s' => K (.own i) s') none
      match x with
      | .own i => match getH s.H i with
        | .arr t' l => bindO (castL ty t' l) fun a => put i a s
        | _ => none
      | .sub i off len _ => match getH s.H i with
        | .arr t' l => cond (Nat.beq off 0 && Nat.ble len l.length) (bindO (castL ty t' l) fun a => put i (a.take len) s) none
        | _ => none
      | _ => none)) none

def makeSlice (T : Tab) (t : Nat) (l c : AV) (s : St) (K : KV) : Ans :=
  bindO (elemTy T t) fun (_, j) => bindO j.ty fun ty => bindO (decAll ty j.zero) fun z => asInt l fun a => asInt c fun b =>
    cond (decide (0 ≤ a) && decide (a ≤ b) && decide (j.bytes * b ≤ 281474976710656) && decide (b ≤ 9223372036854775807))
      (newObj s (.arr ty (List.replicate a.toNat z)) fun i s => K (.own i) s) none

def kindOf (i : TI) : Option IntKind :=
  match i.k, i.zero with
  | .sc, [.int k _] => some k
  | _, _ => none
def isIface (i : TI) : Bool :=
  match i.k, i.zero with
  | .sc, [.nili] => true
  | _, _ => false
def isByte [BT] (T : Tab) (e : Nat) : Bool :=
  Nat.beq e BT.byte && match Tab.get T e with
  | some i => match kindOf i with
    | some .u8 => true
    | _ => false
  | none => false

def convert [BT] (T : Tab) (src dst : Nat) (x : AV) (s : St) (K : KV) : Ans :=
  bindO (Tab.get T src) fun si => bindO (Tab.get T dst) fun di =>
    match x with
    | .int _ n => bindO (kindOf di) fun k => K (.int k (k.wrap n)) s
    | .str a => match di.k with
      | .slice e => cond (isByte T e) (cond (Nat.ble a.length 140737488355328) (newObj s (.arr (.int .u8) (intsOf a)) fun i s => K (.own i) s) none) none
      | .sc => cond (isStr di) (K (.str a) s) none
      | _ => none
    | x => match si.k, di.k with
      | .slice e, .sc => cond (isByte T e && isStr di) (bindO (dataOf s (.int .u8) x) fun l => K (.str (bytesOf l)) s) none
      | _, _ => none

def lenOf (T : Tab) (t : Nat) (x : AV) (s : St) (K : AV → Ans) : Ans :=
  bindO (Tab.get T t) fun i => match i.k with
  | .sc => cond (isStr i) (match x with
    | .str a => K (.int .i64 a.length)
    | _ => none) none
  | .slice _ => match x with
    | .nils => K (.int .i64 0)
    | .own n => match getH s.H n with
      | .arr _ l => K (.int .i64 l.length)
      | _ => none
    | .sub _ _ len _ => K (.int .i64 len)
    | .ro _ l => K (.int .i64 l.length)
    | _ => none
  | .array n _ => K (.int .i64 n)
  | .map _ _ => match x with
    | .nilm => K (.int .i64 0)
    | _ => none
  | _ => none

/-! ### Maps -/
def mapTy (T : Tab) (t : Nat) : Option (IntKind × TI × Ty) :=
  match Tab.get T t with
  | some i => match i.k with
    | .map k e => match Tab.get T k, Tab.get T e with
      | some ki, some ei => match kindOf ki, ei.ty with
        | some kk, some ty => cond ty.sc (some (kk, ei, ty)) none
        | _, _ => none
      | _, _ => none
    | _ => none
  | none => none
def mapOf (s : St) (kk : IntKind) (ty : Ty) (x : AV) : Option (List (Int × ty.T)) :=
  match x with
  | .nilm => some []
  | .map i => match getH s.H i with
    | .mp k' t' l => castM kk ty k' t' l
    | _ => none
  | _ => none
def asKey (kk : IntKind) (ix : AV) : Option Int :=
  match ix with
  | .int k n => match decEq k kk with
    | isTrue _ => some n
    | isFalse _ => none
  | _ => none
def lookupOp (T : Tab) (t : Nat) (x ix : AV) (ok : Bool) (s : St) (K : AV → Ans) : Ans :=
  bindO (mapTy T t) fun (kk, ei, ty) => bindO (asKey kk ix) fun n => bindO (mapOf s kk ty x) fun l => bindO (decAll ty ei.zero) fun z =>
    cond ok (K (.tup [enc ty (mget n z l), .bool (mhas n l)])) (K (enc ty (mget n z l)))
def mapPut (T : Tab) (t : Nat) (x ix y : AV) (s : St) (K : KV) : Ans :=
  match x with
  | .map i => bindO (mapTy T t) fun (kk, _, ty) => bindO (asKey kk ix) fun n => bindO (mapOf s kk ty (.map i)) fun l => bindO (decAll ty [y]) fun z =>
      updObj s i (.mp kk ty (mput n z l)) fun s => K .unk s
  | _ => none
def makeMapOp (T : Tab) (t : Nat) (r : Option Operand) (s : St) (K : KV) : Ans :=
  match r with
  | none => bindO (mapTy T t) fun (kk, _, ty) => newObj s (.mp kk ty []) fun i s => K (.map i) s
  | some _ => none
def mapLen (x : AV) (s : St) (K : KV) : Ans :=
  match x with
  | .map i => match getH s.H i with
    | .mp _ _ l => K (.int .i64 l.length) s
    | _ => none
  | _ => none
def clearOp (x : AV) (s : St) (K : KV) : Ans :=
  match x with
  | .nilm => K (.tup []) s
  | .map i => match getH s.H i with
    | .mp k t _ => updObj s i (.mp k t []) fun s => K (.tup []) s
    | _ => none
  | _ => none
def isMapV : AV → Bool
  | .map _ => true
  | _ => false
/-- What is copied: a slice's data, or a string's bytes. -/
def srcK (s : St) (t : Ty) (y : AV) (K : List t.T → Ans) : Ans :=
  match y with
  | .str a => bindO (castL t (.int .u8) (intsOf a)) K
  | y => dataK s t y K
/-- copy: into a row of its own. -/
def copyOp (T : Tab) (t : Nat) (x y : AV) (s : St) (K : KV) : Ans :=
  bindO (elemTy T t) fun (_, j) => bindO j.ty fun ty => srcK s ty y fun b =>
    match x with
    | .nils => K (.int .i64 0) s
    | .own i => match getH s.H i with
      | .arr t' l => bindO (castL ty t' l) fun a => updObj s i (.arr ty (b.take a.length ++ a.drop b.length)) fun s => K (.int .i64 (Nat.min b.length a.length : Nat)) s
      | _ => none
    | .sub i off len _ => match getH s.H i with
      | .arr t' l => cond (Nat.ble (off + len) l.length) (bindO (castL ty t' l) fun a => updObj s i (.arr ty (a.take off ++ (b.take len ++ a.drop (off + Nat.min b.length len)))) fun s => K (.int .i64 (Nat.min b.length len : Nat)) s) none
      | _ => none
    | _ => none

def max2 (x y : AV) : Option AV :=
  match x, y with
  | .int k a, .int _ b => some (.int k (if b > a then b else a))
  | _, _ => none
def min2 (x y : AV) : Option AV :=
  match x, y with
  | .int k a, .int _ b => some (.int k (if b < a then b else a))
  | _, _ => none
def foldO (f : AV → AV → Option AV) : AV → List AV → Option AV
  | x, [] => some x
  | x, y :: r => match f x y with | some z => foldO f z r | none => none

def extract (x : AV) (i : Nat) (K : AV → Ans) : Ans :=
  match x with
  | .tup vs => bindO (vs[i]?) K
  | _ => none

def isConst (x : Operand) : Bool := match x with | .const _ => true | _ => false
/-- An interface value that is nil, told from the literal nil. -/
def nilBin (T : Tab) (op : BinOp) (t : Nat) (c : Bool) (x y : AV) (K : AV → Ans) : Ans :=
  match x with
  | .nili => match y with
    | .nili => cond c (bindO (Tab.get T t) fun i => match i.k with
      | .sc => match i.zero with
        | [.nili] => match op with
          | .eql => K (.bool true)
          | .neq => K (.bool false)
          | _ => none
        | _ => none
      | _ => none) none
    | y => binOp T op t x y K
  | x => binOp T op t x y K
/-- What a type assertion that does not hold tells. -/
def noAV (i : TI) : Option AV :=
  cond (i.zero.any fun v => match v with | .nils => true | _ => false) none (match i.isAgg with
    | true => some (.agg i.zero)
    | false => oneCell i.zero)
/-- Is a value of this type? (Of no interface's type.) -/
def assertOp (T : Tab) (t : Nat) (ok : Bool) (x : AV) (K : AV → Ans) : Ans :=
  bindO (Tab.get T t) fun i => cond (isIface i) none
    (match x with
     | .ifc t' y => cond (Nat.beq t' t) (cond ok (K (.tup [y, .bool true])) (K y)) (cond ok (bindO (noAV i) fun z => K (.tup [z, .bool false])) none)
     | .nili => cond ok (bindO (noAV i) fun z => K (.tup [z, .bool false])) none
     | _ => none)
/-- What is neither a call of Go code nor acts: the world stays (but for new memory). -/
def quietOp [BT] (T : Tab) (o : Oper) (s : St) (K : AV → Ans) : Option Ans :=
  let v := opd s.env
  match o.op with
  | .move x => some (K (v x))
  | .assign x => some (K (v x))
  | .load t a => some (load T s t (v a) K)
  | .nilCheck x => some (match v x with
    | .ptr i off => K (.ptr i off)
    | .eptr i n off => K (.eptr i n off)
    | .rptr t y off => K (.rptr t y off)
    | _ => none)
  | .binOp op t x y _ => some (nilBin T op t (isConst x || isConst y) (v x) (v y) K)
  | .unOp op _ x => some (unOp op (v x) K)
  | .slice t x lo hi mx => some (slice T s t (v x) (lo.map v) (hi.map v) (mx.map v) K)
  | .fieldAddr t x f => some (fieldAddr T t (v x) f K)
  | .field t x f => some (field T t (v x) f K)
  | .indexAddr t x i => some (indexAddr T s t (v x) (v i) K)
  | .index t x i => some (index T t (v x) (v i) K)
  | .extract t i => some (extract (v t) i K)
  | .makeInterface t x => some (bindO (Tab.get T t) fun i => cond ((v x).cellOk && !isIface i) (K (.ifc t (v x))) none)
  | .makeFunc f a b => some (K (.fn f (a.toList.map v) (b.toList.map v)))
  | .typeAssert x _ t ok => some (assertOp T t ok (v x) K)
  | .pick c a b => some (match v c with
    | .bool p => cond p (K (v a)) (K (v b))
    | _ => none)
  | .build t parts => some (bindO (Tab.get T t) fun i => cond (buildOk T i) (bindO (fillCells (placeOf T i) i.zero (parts.toList.map fun (j, x) => (j, v x))) fun cs => K (.agg cs)) none)
  | .convert src dst x => match v x with
    | .int k n => some (convert T src dst (.int k n) s fun r _ => K r)
    | _ => none
  | .call c => match c.callee with
    | .builtin .len => cond ((c.args.toList.map v).any isMapV) none (some (match c.args.toList, c.argTypes.toList with
      | [x], t :: _ => lenOf T t (v x) s K
      | _, _ => none))
    | .builtin .max => some (match c.args.toList with
      | x :: r => bindO (foldO max2 (v x) (r.map v)) K
      | _ => none)
    | .builtin .min => some (match c.args.toList with
      | x :: r => bindO (foldO min2 (v x) (r.map v)) K
      | _ => none)
    | _ => none
  | _ => none

def loudOp [BT] (T : Tab) (o : Oper) (s : St) (K : KV) : Ans :=
  let v := opd s.env
  match o.op with
  | .assign x => typedNil T o.type (v x) s K
  | .alloc t => zeroCells T t s fun z s' => newObj s' (varObj T t z) fun i s' => K (.ptr i 0) s'
  | .box t x => bindO (Tab.get T t) fun i => typedNil T t (v x) s fun r s' =>
      cond (Nat.beq r.cellsOf.length i.size && allOk r.cellsOf) (newObj s' (.cells r.cellsOf) fun i s' => K (.ptr i 0) s') none
  | .build t parts => bindO (Tab.get T t) fun i => cond (buildOk T i) (zeroCells T t s fun z s' =>
      bindO (fillCells (placeOf T i) z (parts.toList.map fun (j, x) => (j, v x))) fun cs => forceVs cs fun cs => K (.agg cs) s') none
  | .buildSlice t len parts => buildSlice T t len (parts.toList.map fun (j, x) => (j, v x)) s K
  | .store t a x => typedNil T t (v x) s fun r s' => store T s' t (v a) r fun s'' => K .unk s''
  | .makeSlice t l c => makeSlice T t (v l) (v c) s K
  | .convert src dst x => convert T src dst (v x) s K
  | .lookup t x ix ok => lookupOp T t (v x) (v ix) ok s fun r => K r s
  | .mapUpdate t x ix y => mapPut T t (v x) (v ix) (v y) s K
  | .makeMap t r => makeMapOp T t r s K
  | .call c => match c.callee with
    | .builtin .append => (match c.args.toList, c.argTypes.toList with
      | [x, y], [t, t2] => typedNil T t (v x) s fun r s' => append T t t2 r (v y) s' K
      | _, _ => none)
    | .builtin .copy => (match c.args.toList, c.argTypes.toList with
      | [x, y], [t, _] => copyOp T t (v x) (v y) s K
      | _, _ => none)
    | .builtin .len => (match c.args.toList, c.argTypes.toList with
      | [x], [t] => bindO (mapTy T t) fun _ => mapLen (v x) s K
      | _, _ => none)
    | .builtin .clear => (match c.args.toList, c.argTypes.toList with
      | [x], [t] => bindO (Tab.get T t) fun _ => clearOp (v x) s K
      | _, _ => none)
    | _ => none
  | _ => none

def putT (nt : Nat) (dst : Option Nat) (v : AV) (s : St) (K : St → Ans) : Ans :=
  match dst, s with
  | some d, ⟨env, stk, H, blk⟩ => cond (Nat.blt d nt) (forceV v fun v => K ⟨(d, v) :: env, stk, H, blk⟩) none
  | none, s => K s

def guardT (all : Array Oper) (j : Nat) : Option Nat := match all[j]? with | some o => o.dst | none => none

/-- Is the operation wanted? Once asked, the guard's value is known. -/
def wantedT (all : Array Oper) (nt : Nat) (o : Oper) (s : St) (run skip : St → Ans) : Ans :=
  match o.guard with
  | none => run s
  | some (j, want) => bindO (guardT all j) fun g => match getT s.env g with
    | .bool b => cond (Nat.blt g nt) (cond b
        (match s, want with
         | ⟨env, stk, H, blk⟩, true => run ⟨(g, .bool true) :: env, stk, H, blk⟩
         | ⟨env, stk, H, blk⟩, false => skip ⟨(g, .bool true) :: env, stk, H, blk⟩)
        (match s, want with
         | ⟨env, stk, H, blk⟩, true => skip ⟨(g, .bool false) :: env, stk, H, blk⟩
         | ⟨env, stk, H, blk⟩, false => run ⟨(g, .bool false) :: env, stk, H, blk⟩)) none
    | .tup _ => cond (Nat.blt g nt) (skip s) none
    | _ => none

def resultsOf (T : Tab) (s : St) : List ResultVar → List AV → (List AV → Ans) → Ans
  | [], acc, K => K acc
  | .tmp t :: r, acc, K => resultsOf T s r (acc ++ [getT s.env t]) K
  | .cell a t :: r, acc, K => load T s t (getT s.env a) fun v => resultsOf T s r (acc ++ [v]) K

def tupled (vs : List AV) : AV := match vs with | [v] => v | vs => .tup vs

def argsEnv : Nat → List AV → Tmps
  | _, [] => []
  | n, v :: r => (n, v) :: argsEnv (n + 1) r

section
variable (T : Tab) (E : Env) (hint : Hint)

/-- A call: 'body' walks code in place. -/
def callE (body : Nat → Ann → Code → (Ex → St → Ans) → St → Ans) (g : Nat) (args : List AV) (s : St) (K : KV) : Ans :=
  bindO (Env.get E g) fun sp => match sp with
    | .pure F => callPure F s args K
    | .func F => callFunc F s args K
    | .inline nt res ann c => body nt ann c (fun e s' => match e with
        | .norm | .ret => match s'.stk with
          | env :: stk => resultsOf T s' res [] fun vs => forceV (tupled vs) fun v => K v ⟨env, stk, s'.H, s.blk⟩
          | [] => none
        | _ => none) { env := argsEnv 0 args, stk := s.env :: s.stk, H := s.H, blk := Nat.mul g 4096 }
    | .iter _ _ => none

def fnOf [BT] (s : St) (c : Call) : Option (Nat × List AV) :=
  match c.callee with
  | .value f => match opd s.env f with
    | .fn (.func g) first cap => some (g, first ++ c.args.toList.map (opd s.env) ++ cap)
    | _ => none
  | .invoke r name => match opd s.env r with
    | .ifc t v => match Tab.get T t with
      | some _ => match methGo BT.meths t name with
        | some g => some (g, v :: c.args.toList.map (opd s.env))
        | none => none
      | none => none
    | _ => none
  | _ => none

def opE [BT] (body : Nat → Ann → Code → (Ex → St → Ans) → St → Ans) (o : Oper) (s : St) (K : KV) : Ans :=
  match (match o.op with
    | .assign (.const _) => none
    | .build .. => none
    | _ => quietOp T o s fun v => K v s : Option Ans) with
  | some r => r
  | none => match o.op with
    | .call c => match c.callee with
      | .value _ => bindO (fnOf T s c) fun (g, args) => callE T E body g args s K
      | .invoke _ _ => bindO (fnOf T s c) fun (g, args) => callE T E body g args s K
      | _ => loudOp T o s K
    | _ => loudOp T o s K

/-- Which objects an operation that only reads looks into. -/
def readsOf [BT] (s : St) (o : Oper) : Option (List Nat) :=
  match o.op with
  | .load _ x => some (opd s.env x).refs
  | .call c => match fnOf T s c with
    | some (_, args) => some (AV.refsL args)
    | none => none
  | _ => none

/-- In a region that draws its order: operations that only read. -/
def opQ [BT] (o : Oper) (s : St) (K : AV → Ans) : Ans :=
  match quietOp T o s K with
  | some r => r
  | none => match o.op with
    | .call c => bindO (fnOf T s c) fun (g, args) => bindO (Env.get E g) fun sp => match sp with
      | .pure F => callPure F s args fun v _ => K v
      | _ => none
    | _ => none

def opsE [BT] (body : Nat → Ann → Code → (Ex → St → Ans) → St → Ans) (all : Array Oper) (nt : Nat) : List Oper → (St → Ans) → St → Ans
  | [], K, s => K s
  | o :: r, K, s => wantedT all nt o s
      (fun s => opE T E body o s fun v s' => putT nt o.dst v s' (opsE body all nt r K))
      (fun s => putT nt o.dst (.tup []) s (opsE body all nt r K))

/-- What makes memory, and turns none. -/
def makesOnly (o : Oper) : Bool :=
  match o.op with
  | .assign _ | .alloc _ | .box .. | .build .. | .buildSlice .. | .makeSlice .. | .convert .. | .lookup .. | .makeMap .. => true
  | _ => false

/-- Which objects an operation may turn, if that is known. -/
def footOf (s : St) (o : Oper) : Option (List Nat) :=
  cond (makesOnly o) (some [])
    (match o.op with
     | .store _ p _ => match opd s.env p with
       | .ptr n _ => some [n]
       | .eptr n _ _ => some [n]
       | _ => none
     | .mapUpdate _ m _ _ => match opd s.env m with
       | .map n => some [n]
       | _ => none
     | .call c => match c.callee with
       | .builtin .len => some []
       | .builtin .clear => match c.args.toList with
         | [x] => match opd s.env x with
           | .map n => some [n]
           | _ => none
         | _ => none
       | .builtin .copy => match c.args.toList with
         | [x, _] => match opd s.env x with
           | .own i => some [i]
           | .sub i _ _ _ => some [i]
           | _ => none
         | _ => none
       | .builtin .append => match c.args.toList with
         | [x, _] => match opd s.env x with
           | .own i => some [i]
           | .sub i _ _ _ => some [i]
           | _ => none
         | _ => none
       | _ => none
     | _ => none)

/-- The same, and which objects it may turn, if that is known. -/
def opL [BT] (body : Nat → Ann → Code → (Ex → St → Ans) → St → Ans) (o : Oper) (s : St) (K : Option (List Nat) → KV) : Ans :=
  match o.op with
  | .call c => match c.callee with
    | .value _ => bindO (fnOf T s c) fun (g, args) => match Env.get E g with
      | some (.func F) => callFuncK F s args fun sel r s => K (some sel) r s
      | _ => callE T E body g args s (K none)
    | .invoke _ _ => bindO (fnOf T s c) fun (g, args) => match Env.get E g with
      | some (.func F) => callFuncK F s args fun sel r s => K (some sel) r s
      | _ => callE T E body g args s (K none)
    | _ => opE T E body o s (K (footOf s o))
  | _ => opE T E body o s (K (footOf s o))

/-- For whom each operation waits, as bits. -/
def maskOf (ms : List Nat) : List Edge → Nat
  | [] => 0
  | e :: r => cond (Region.binds .any e) (Nat.lor (Nat.lor (Nat.shiftLeft 1 e.on) (getN ms e.on)) (maskOf ms r)) (maskOf ms r)
def masks (all : Array Oper) : Nat → List Nat
  | 0 => []
  | k + 1 => match masks all k with
    | ms => ms ++ [match all[k]? with | some o => maskOf ms o.after.toList | none => 0]
def ancB (ms : List Nat) (i j : Nat) : Bool := Nat.testBit (getN ms j) i

def disjN : List Nat → List Nat → Bool
  | [], _ => true
  | a :: r, l => !hasN l a && disjN r l
def untouched (foot rd : Option (List Nat)) : Bool :=
  match foot, rd with
  | some f, some l => disjN l f
  | _, _ => false
def accOk (ms : List Nat) (i : Nat) (foot : Option (List Nat)) : List (Nat × Option (List Nat)) → Bool
  | [] => true
  | (k, rd) :: r => (ancB ms k i || untouched foot rd) && accOk ms i foot r
def accNext (foot : Option (List Nat)) : List (Nat × Option (List Nat)) → List (Nat × Option (List Nat))
  | [] => []
  | (k, rd) :: r => (k, cond (untouched foot rd) rd none) :: accNext foot r

def addAcc (i : Nat) (rd : Option (List Nat)) (acc : List (Nat × Option (List Nat))) : List (Nat × Option (List Nat)) :=
  match rd with
  | some l => (i, some l) :: acc
  | none => acc

def firstQ (q : Nat → Bool) : List Nat → Option Nat
  | [] => none
  | i :: r => cond (q i) (some i) (firstQ q r)
/-- Two evaluations that say the same. -/
noncomputable def agree {β : Type} (x y : Option β) : Option β := @ite _ (x = y) (Classical.propDecidable _) x none
noncomputable def agreeAll (g : Nat → Ans) : List Nat → Ans
  | [] => none
  | [i] => g i
  | i :: r => agree (g i) (agreeAll g r)

/-- A region whose order is drawn: what only reads comes up as soon as it may; of what acts, all orders. -/
noncomputable def opsY [BT] (body : Nat → Ann → Code → (Ex → St → Ans) → St → Ans) (all : Array Oper) (q : Nat → Bool) (ms : List Nat) (nt : Nat) : Nat → Array Bool → List (Nat × Option (List Nat)) → (St → Ans) → St → Ans
  | 0, listed, _, K, s => match Region.ready .any all listed with
    | [] => K s
    | _ :: _ => none
  | f + 1, listed, acc, K, s => match Region.ready .any all listed with
    | [] => K s
    | i :: r => match firstQ q (i :: r) with
      | some j => cond (Region.free .any all listed j) (bindO all[j]? fun o => wantedT all nt o s
          (fun s => opQ T E o s fun v => putT nt o.dst v s (opsY body all q ms nt f (listed.setIfInBounds j true) (addAcc j (readsOf T s o) acc) K))
          (fun s => putT nt o.dst (.tup []) s (opsY body all q ms nt f (listed.setIfInBounds j true) acc K))) none
      | none => agreeAll (fun i => bindO all[i]? fun o => wantedT all nt o s
          (fun s => opL T E body o s fun foot v s' => cond (accOk ms i foot acc) (putT nt o.dst v s' (opsY body all q ms nt f (listed.setIfInBounds i true) (accNext foot acc) K)) none)
          (fun s => putT nt o.dst (.tup []) s (opsY body all q ms nt f (listed.setIfInBounds i true) acc K))) (i :: r)

/-- Does anything that acts come up in more than one order? (For the printer alone.) -/
def branchy (all : Array Oper) (q : Nat → Bool) : Nat → Array Bool → Bool
  | 0, _ => false
  | f + 1, listed => match Region.ready .any all listed with
    | [] => false
    | i :: r => match firstQ q (i :: r) with
      | some j => branchy all q f (listed.setIfInBounds j true)
      | none => match r with
        | [] => branchy all q f (listed.setIfInBounds i true)
        | _ :: _ => true

def quietKind (o : Oper) : Bool :=
  match o.op with
  | .alloc _ | .box .. | .buildSlice .. | .store .. | .makeSlice .. | .makeMap .. | .mapUpdate .. | .insert .. | .mapEntry .. | .entryStore .. | .lookup .. => false
  | .convert src _ _ => match Tab.get T src with
    | some i => (kindOf i).isSome
    | none => false
  | .call c => match c.callee with
    | .builtin .len => match c.argTypes.toList with
      | t :: _ => match Tab.get T t with
        | some i => match i.k with
          | .map _ _ => false
          | _ => true
        | none => false
      | [] => false
    | .builtin .max => true
    | .builtin .min => true
    | .builtin _ => false
    | .value (.func g) => match Env.get E g with
      | some (.pure _) => true
      | _ => false
    | _ => false
  | _ => true

def quietAt (all : Array Oper) (i : Nat) : Bool :=
  match all[i]? with
  | some o => quietKind T E o
  | none => false

/-- Behind a region. -/
def normE (x : Ann) (s : St) (K : St → Ans) : Ans :=
  match x with
  | .norm k0 keep => match s with
    | ⟨env, stk, H, blk⟩ => packSt k0 ⟨keepT env keep, stk, H, blk⟩ K
  | _ => K s

/-- At the head of a loop. -/
def headE (keep : List Nat) (x : Ann) (s : St) (K : St → Ans) : Ans :=
  match x.at? with
  | some (k0, keep') => forceSt (s.head keep') fun s => packSt k0 s K
  | none => forceSt (s.head keep) fun s => match x.pack? with
    | some k0 => packSt k0 s K
    | Option.none => K s

/-- A part by its summary, if there is one. -/
def cutOr (f : Ann → (Ex → St → Ans) → St → Ans) (x : Ann) (K : Ex → St → Ans) (s : St) : Ans :=
  match x with
  | .cut k0 keep G => forceSt (s.head keep) fun s => packSt k0 s fun s => G K s
  | x => f x K s

/-- The iterator that is ranged over (its specification stands under its number and 100000): how it begins, how it goes on, what it has captured. -/
def iterOf (s : St) (g : Operand) : Option ((List AV → List Obj → (List Int → Ans) → Ans) × (List AV → List Obj → List Int → Ans → (List AV → List Int → Ans) → Ans) × List AV) :=
  match opd s.env g with
  | .fn (.func gf) [] cap => match Env.get E (Nat.add gf 100000) with
    | some (.iter start next) => some (start, next, cap)
    | _ => none
  | _ => none
/-- What is told goes to the parameters. -/
def putPs (nt : Nat) : List Nat → List AV → Tmps → (Tmps → Ans) → Ans
  | [], [], env, K => K env
  | p :: r, x :: xs, env, K => cond (Nat.blt p nt) (forceV x fun x => putPs nt r xs ((p, x) :: env) K) none
  | _, _, _, _ => none
/-- The loop's owner's temporaries come back. -/
def popT (blk : Nat) (K : Ex → St → Ans) (e : Ex) (s : St) : Ans :=
  match s with
  | ⟨_, stk, H, _⟩ => match stk with
    | env :: stk => K e ⟨env, stk, H, blk⟩
    | [] => none

/-- Code, but for what comes after a round ('rec') and calls that are walked in place ('inl'). -/
noncomputable def codeW [BT] (inl : Nat → Ann → Code → (Ex → St → Ans) → St → Ans) (nt : Nat) (rec : Nat → Ann → Code → (Ex → St → Ans) → St → Ans) : Code → Ann → (Ex → St → Ans) → St → Ans
  | .skip, _, K, s => K .norm s
  | .region _ ops draw, x, K, s =>
    cond draw
      (cond (Region.noSelect ops) (opsY T E inl ops (quietAt T E ops) (masks ops ops.size) nt ops.size (Array.replicate ops.size false) [] (fun s => normE x s fun s => K .norm s) s) none)
      (opsE T E inl ops nt ops.toList (fun s => K .norm s) s)
  | .seq a b, x, K, s => cutOr (fun x K s => codeW inl nt rec a x K s) x.fst (fun e s' => match e with | .norm => cutOr (fun x K s => codeW inl nt rec b x K s) x.snd K s' | e => K e s') s
  | .cond c a b, x, K, s => match opd s.env c with
    | .bool p => cond p (cutOr (fun x K s => codeW inl nt rec a x K s) x.fst K s) (cutOr (fun x K s => codeW inl nt rec b x K s) x.snd K s)
    | _ => none
  | .block id c, x, K, ⟨env, stk, H, blk⟩ => cutOr (fun x K s => codeW inl nt rec c x K s) x.fst (fun e s' => match e with
      | .exit i => cond (Nat.beq i id) (K .norm s') (K (.exit i) s')
      | e => K e s') ⟨env, stk, H, inBlk blk id⟩
  | .loop c, x, K, s => headE (hint s.blk) x s fun s => match x.sum? with
    | some G => G K s
    | none => rec nt x (.loop c) K s
  | .exit id, _, K, s => K (.exit id) s
  | .ret, _, K, s => K .ret s
  | .label _, _, K, s => K .norm s
  | _, _, _, _ => none

/-- A range over a function begins: what is to be told is kept beside the temporaries. -/
def startG (nt k0 : Nat) (keep : List Nat) (g : Operand) (G : (Ex → St → Ans) → St → Ans) (K : Ex → St → Ans) (s : St) : Ans :=
  bindO (iterOf E s g) fun it => it.1 it.2.2 s.H fun L =>
    match s with
    | ⟨env, stk, H, blk⟩ => forceSt (St.head ⟨(nt, .gh L) :: env, stk, H, blk⟩ keep) fun s => packSt k0 s fun s => G K s

def dropT (n : Nat) : Tmps → Tmps
  | [] => []
  | (d, v) :: r => cond (Nat.beq d n) (dropT n r) ((d, v) :: dropT n r)
/-- A round of a range over a function, and what comes after it. -/
noncomputable def roundR [BT] (inl : Nat → Ann → Code → (Ex → St → Ans) → St → Ans) (nt : Nat) (rec : Nat → Ann → Code → (Ex → St → Ans) → St → Ans) (x : Ann) (g : Operand) (ps : Array Nat) (as c : Code) (K : Ex → St → Ans) (s : St) : Ans :=
  match getT s.env nt with
  | .gh L => bindO (iterOf E s g) fun it => it.2.1 it.2.2 s.H L (K .norm s) fun xs L' =>
      (match s with
       | ⟨env, stk, H, blk⟩ => putPs nt ps.toList xs (dropT nt env) fun env' =>
          codeW T E hint inl nt rec as .none (fun e s1 => match e with
            | .norm => cutOr (fun x K s => codeW T E hint inl nt rec c x K s) x.fst
                (popT blk fun e s => match e with
                  | .norm => match s with
                    | ⟨env, stk, H, blk⟩ => headE (hint blk) x ⟨(nt, .gh L') :: env, stk, H, blk⟩ fun s => rec nt (.rnd x) (.rangeFunc g ps as c) K s
                  | e => K e s) s1
            | _ => none) ⟨env', dropT nt env :: stk, H, blk⟩)
  | _ => none

/-- A round of a loop, and what comes after it. -/
noncomputable def roundW [BT] (inl : Nat → Ann → Code → (Ex → St → Ans) → St → Ans) (nt : Nat) (rec : Nat → Ann → Code → (Ex → St → Ans) → St → Ans) (x : Ann) (c : Code) (K : Ex → St → Ans) (s : St) : Ans :=
  cutOr (fun x K s => codeW T E hint inl nt rec c x K s) x.fst (fun e s' => match e, s' with
    | .norm, ⟨env, stk, H, _⟩ => codeW T E hint inl nt rec (.loop c) x K ⟨env, stk, H, s.blk⟩
    | e, s' => K e s') s

noncomputable def codeI [BT] (inl : Nat → Ann → Code → (Ex → St → Ans) → St → Ans) : Nat → Nat → Ann → Code → (Ex → St → Ans) → St → Ans
  | 0, _, _, _, _, _ => none
  | n + 1, nt, x, c, K, s => match c with
    | .loop b => roundW T E hint inl nt (codeI inl n) x b K s
    | .rangeFunc g ps as b => match x with
      | .rnd y => roundR T E hint inl nt (codeI inl n) y g ps as b K s
      | x => codeW T E hint inl nt (codeI inl n) (.rangeFunc g ps as b) x K s
    | c => codeW T E hint inl nt (codeI inl n) c x K s

/-- 'd': how deep calls are walked in place; 'n': how many rounds. -/
noncomputable def codeD [BT] : Nat → Nat → Nat → Ann → Code → (Ex → St → Ans) → St → Ans
  | 0, n, nt, x, c, K, s => codeI T E hint (fun _ _ _ _ _ => none) n nt x c K s
  | d + 1, n, nt, x, c, K, s => codeI T E hint (codeD d n) n nt x c K s

/-- What stood before the call and is a block of cells: led to till its end. -/
def rootsT : Nat → List Obj → Tmps
  | _, [] => []
  | n, .cells _ :: r => (n, .ptr n 0) :: rootsT (n + 1) r
  | n, .bcells _ :: r => (n, .ptr n 0) :: rootsT (n + 1) r
  | n, .btold _ :: r => (n, .ptr n 0) :: rootsT (n + 1) r
  | n, .mp _ _ _ :: r => (n, .map n) :: rootsT (n + 1) r
  | n, _ :: r => rootsT (n + 1) r
def isRoot (n : Nat) : AV → Bool
  | .ptr i o => Nat.beq i n && Nat.beq o 0
  | _ => false
def isRootM (n : Nat) : AV → Bool
  | .map i => Nat.beq i n
  | _ => false
def rootsOk (env : Tmps) : Nat → List Obj → Bool
  | _, [] => true
  | n, .cells _ :: r => isRoot n (getT env n) && rootsOk env (n + 1) r
  | n, .bcells _ :: r => isRoot n (getT env n) && rootsOk env (n + 1) r
  | n, .btold _ :: r => isRoot n (getT env n) && rootsOk env (n + 1) r
  | n, .mp _ _ _ :: r => isRootM n (getT env n) && rootsOk env (n + 1) r
  | n, _ :: r => rootsOk env (n + 1) r
def retK (H0 : List Obj) (res : List ResultVar) (K : AV → List Obj → Ans) (e : Ex) (s : St) : Ans :=
  match e with
  | .norm | .ret => match s.stk with
    | [env] => cond (rootsOk env 0 H0) (resultsOf T s res [] fun vs => packV H0.length (tupled vs) s.H K) none
    | _ => none
  | _ => none

/-- A function's call. -/
noncomputable def fnE [BT] (d n g nt : Nat) (res : List ResultVar) (x : Ann) (c : Code) (args : List AV) (H : List Obj) (K : AV → List Obj → Ans) : Ans :=
  codeD T E hint d n nt x c (retK T H res K) { env := argsEnv 0 args, stk := [rootsT 0 H], H := H, blk := Nat.mul g 4096 }
end
end Go.AE
namespace Go.AE
open Go.RowKit (Below)

structure Cx where
  R : Nat → Prop
  ρ : Nat → Option Nat
  H : List Obj
  w : World

def blkOf (w : World) (b : Nat) : Option (Array Value) :=
  match w.heap[b]? with
  | some (.cells c _ _) => some c
  | _ => none

theorem cell_blk {w : World} {b : Nat} {c : Array Value} (h : blkOf w b = some c) (o : Nat) : w.cell? ⟨b, o, none⟩ = c[o]? := by
  unfold blkOf at h
  unfold World.cell?
  split at h
  · rename_i c' e fr he
    obtain rfl := Option.some.inj h
    simp [he]
  · cases h

theorem blkOf_cells {w : World} {b : Nat} {c : Array Value} {e : TypeId} {fr : Nat × Nat} (h : w.heap[b]? = some (.cells c e fr)) : blkOf w b = some c := by
  simp [blkOf, h]

theorem blkOf_congr {w w' : World} {b : Nat} (h : w'.heap[b]? = w.heap[b]?) : blkOf w' b = blkOf w b := by simp [blkOf, h]

/-- Data, as cells. -/
def DRel (R : Nat → Prop) (w : World) : (t : Ty) → t.T → List Value → Prop
  | .int k, n, vs => vs = [.int k n]
  | .bool, b, vs => vs = [.bool b]
  | .str, s, vs => vs = [.string ⟨s.toArray⟩]
  | .unit, _, vs => vs = []
  | .st f, x, vs => DRel R w f x vs
  | .pair a b, x, vs => ∃ u v, vs = u ++ v ∧ DRel R w a x.1 u ∧ DRel R w b x.2 v
  | .list e, l, vs => ∃ A c, vs = [.slice A l.length c] ∧ l.length ≤ c ∧ (l = [] ∨ ∃ b o, A = some ⟨b, o, none⟩ ∧ R b ∧
      ∀ i x, l[i]? = some x → ∃ us, DRel R w e x us ∧ ∀ j u, us[j]? = some u → w.cell? ⟨b, o + (i * e.size + j), none⟩ = some u)

theorem DRel.length {R : Nat → Prop} {w : World} : ∀ {t : Ty} {x : t.T} {vs : List Value}, DRel R w t x vs → vs.length = t.size
  | .int _, _, _, h => by rw [DRel] at h; subst h; rfl
  | .bool, _, _, h => by rw [DRel] at h; subst h; rfl
  | .str, _, _, h => by rw [DRel] at h; subst h; rfl
  | .unit, _, _, h => by rw [DRel] at h; subst h; rfl
  | .st f, _, _, h => by rw [DRel] at h; rw [Ty.size]; exact DRel.length h
  | .pair a b, _, _, h => by
    rw [DRel] at h
    obtain ⟨u, v, rfl, hu, hv⟩ := h
    rw [List.length_append, DRel.length hu, DRel.length hv, Ty.size]
  | .list e, _, _, h => by rw [DRel] at h; obtain ⟨A, c, rfl, _⟩ := h; rfl

theorem DRel.oneCell {R : Nat → Prop} {w : World} : ∀ {t : Ty} {x : t.T} {vs : List Value}, DRel R w t x vs → ∀ u ∈ vs, u.oneCell' = true
  | .int _, _, _, h => by rw [DRel] at h; subst h; simp [Value.oneCell']
  | .bool, _, _, h => by rw [DRel] at h; subst h; simp [Value.oneCell']
  | .str, _, _, h => by rw [DRel] at h; subst h; simp [Value.oneCell']
  | .unit, _, _, h => by rw [DRel] at h; subst h; simp
  | .st f, _, _, h => by rw [DRel] at h; exact DRel.oneCell h
  | .pair a b, _, _, h => by
    rw [DRel] at h
    obtain ⟨u, v, rfl, hu, hv⟩ := h
    intro x hx
    rcases List.mem_append.1 hx with hx | hx
    · exact DRel.oneCell hu x hx
    · exact DRel.oneCell hv x hx
  | .list e, _, _, h => by rw [DRel] at h; obtain ⟨A, c, rfl, _⟩ := h; simp [Value.oneCell']

theorem cell_congr {w w' : World} {b : Nat} (h : w'.heap[b]? = w.heap[b]?) (o : Nat) (s : Option Nat) : w'.cell? ⟨b, o, s⟩ = w.cell? ⟨b, o, s⟩ := by
  simp [World.cell?, h]

theorem DRel.mono {R R' : Nat → Prop} {w w' : World} (hR : ∀ b, R b → R' b ∧ w'.heap[b]? = w.heap[b]?) :
    ∀ {t : Ty} {x : t.T} {vs : List Value}, DRel R w t x vs → DRel R' w' t x vs
  | .int _, _, _, h => h
  | .bool, _, _, h => h
  | .str, _, _, h => h
  | .unit, _, _, h => h
  | .st f, _, _, h => by rw [DRel] at *; exact DRel.mono hR h
  | .pair a b, _, _, h => by
    rw [DRel] at *
    obtain ⟨u, v, rfl, hu, hv⟩ := h
    exact ⟨u, v, rfl, DRel.mono hR hu, DRel.mono hR hv⟩
  | .list e, _, _, h => by
    rw [DRel] at *
    obtain ⟨A, c, rfl, hc, h⟩ := h
    refine ⟨A, c, rfl, hc, ?_⟩
    rcases h with h | ⟨b, o, rfl, hb, h⟩
    · exact .inl h
    · refine .inr ⟨b, o, rfl, (hR b hb).1, fun i x hi => ?_⟩
      obtain ⟨us, hd, hu⟩ := h i x hi
      exact ⟨us, DRel.mono hR hd, fun j u hj => by rw [cell_congr (hR b hb).2]; exact hu j u hj⟩

def Live (H : List Obj) (i : Nat) : Prop := getH H i ≠ .dead

/-! ### Values -/
mutual
def VRel (C : Cx) : AV → Value → Prop
  | .unk, _ => True
  | .bool b, v => v = .bool b
  | .int k n, v => v = .int k n
  | .str s, v => v = .string ⟨s.toArray⟩
  | .nilp, v => v = .pointer none
  | .ptr i off, v => ∃ b, C.ρ i = some b ∧ v = .pointer (some ⟨b, off, none⟩) ∧ Live C.H i
  | .eptr i n off, v => ∃ b t l, C.ρ i = some b ∧ getH C.H i = .arr t l ∧ v = .pointer (some ⟨b, n * t.size + off, none⟩)
  | .rptr t x off, v => ∃ b o us, C.R b ∧ DRel C.R C.w t x us ∧ (∀ j u, us[j]? = some u → C.w.cell? ⟨b, o + j, none⟩ = some u) ∧ v = .pointer (some ⟨b, o + off, none⟩)
  | .nils, v => v = .slice none 0 0
  | .own i, v => ∃ t l, getH C.H i = .arr t l ∧ ((C.ρ i = none ∧ l = [] ∧ v = .slice none 0 0) ∨
      ∃ b c cap, C.ρ i = some b ∧ blkOf C.w b = some c ∧ l.length ≤ cap ∧ cap * t.size ≤ c.size ∧ v = .slice (some ⟨b, 0, none⟩) l.length cap)
  | .sub i off len e, v => ∃ A cap, v = .slice A len cap ∧ len ≤ cap ∧ (len = 0 ∧ off ≠ 0 ∨ len = 0 ∧ A = none ∧ cap = 0 ∨
      ∃ b, C.ρ i = some b ∧ A = some ⟨b, off * e, none⟩ ∧ ∃ c, blkOf C.w b = some c ∧ (off + cap) * e ≤ c.size ∧
        match getH C.H i with
        | .arr t l => e = t.size ∧ off + len ≤ l.length
        | .cells cs => (off + len) * e ≤ cs.length
        | _ => False)
  | .ro t l, v => DRel C.R C.w (.list t) l [v]
  | .nilm, v => v = .map none
  | .map i, v => ∃ b, C.ρ i = some b ∧ v = .map (some b) ∧ Live C.H i
  | .fn f a b, v => ∃ a' b', v = .func f a' b' ∧ VRels C a a'.toList ∧ VRels C b b'.toList
  | .nilf, v => v = .nilFunc
  | .nili, v => v = .nilIface
  | .ifc t x, v => ∃ y, v = .iface t y ∧ VRel C x y
  | .agg cs, v => ∃ vs, v = .agg vs ∧ VRels C cs vs.toList
  | .tup cs, v => ∃ vs, v = .tuple vs ∧ VRels C cs vs.toList
  | .gh _, _ => True
def VRels (C : Cx) : List AV → List Value → Prop
  | [], vs => vs = []
  | a :: r, vs => ∃ v vs', vs = v :: vs' ∧ VRel C a v ∧ VRels C r vs'
end

def AV.isRef : AV → Bool
  | .ptr .. => true
  | .eptr .. => true
  | .own _ => true
  | .sub .. => true
  | .map _ => true
  | _ => false

section
variable {C C' : Cx} {g : AV → AV} {p : Nat → Prop}
mutual
theorem VRel.mapR (hl : ∀ a v, a.isRef = true → (∀ i ∈ a.refs, p i) → VRel C a v → VRel C' (g a) v) (hR : ∀ b, C.R b → C'.R b ∧ C'.w.heap[b]? = C.w.heap[b]?) :
    ∀ (a : AV) (v : Value), (∀ i ∈ a.refs, p i) → VRel C a v → VRel C' (a.mapR g) v
  | .unk, _, _, _ => by rw [AV.mapR, VRel]; trivial
  | .gh _, _, _, _ => by rw [AV.mapR, VRel]; trivial
  | .bool _, _, _, h => by rw [VRel] at h; rw [AV.mapR, VRel]; exact h
  | .int _ _, _, _, h => by rw [VRel] at h; rw [AV.mapR, VRel]; exact h
  | .str _, _, _, h => by rw [VRel] at h; rw [AV.mapR, VRel]; exact h
  | .nilp, _, _, h => by rw [VRel] at h; rw [AV.mapR, VRel]; exact h
  | .nils, _, _, h => by rw [VRel] at h; rw [AV.mapR, VRel]; exact h
  | .nilm, _, _, h => by rw [VRel] at h; rw [AV.mapR, VRel]; exact h
  | .nilf, _, _, h => by rw [VRel] at h; rw [AV.mapR, VRel]; exact h
  | .nili, _, _, h => by rw [VRel] at h; rw [AV.mapR, VRel]; exact h
  | .ptr _ _, v, hp, h => by rw [AV.mapR]; exact hl _ v rfl hp h
  | .eptr _ _ _, v, hp, h => by rw [AV.mapR]; exact hl _ v rfl hp h
  | .own _, v, hp, h => by rw [AV.mapR]; exact hl _ v rfl hp h
  | .sub _ _ _ _, v, hp, h => by rw [AV.mapR]; exact hl _ v rfl hp h
  | .map _, v, hp, h => by rw [AV.mapR]; exact hl _ v rfl hp h
  | .ro t l, v, _, h => by rw [VRel] at h; rw [AV.mapR, VRel]; exact DRel.mono hR h
  | .rptr t x off, v, _, h => by
    rw [VRel] at h; rw [AV.mapR, VRel]
    obtain ⟨b, o, us, hb, hd, hu, rfl⟩ := h
    exact ⟨b, o, us, (hR b hb).1, DRel.mono hR hd, fun j u hj => by rw [cell_congr (hR b hb).2]; exact hu j u hj, rfl⟩
  | .fn f a b, v, hp, h => by
    rw [VRel] at h; rw [AV.mapR, VRel]
    rw [AV.refs] at hp
    obtain ⟨a', b', rfl, ha, hb⟩ := h
    exact ⟨a', b', rfl, VRels.mapR hl hR a _ (fun i hi => hp i (List.mem_append.2 (.inl hi))) ha, VRels.mapR hl hR b _ (fun i hi => hp i (List.mem_append.2 (.inr hi))) hb⟩
  | .ifc t x, v, hp, h => by
    rw [VRel] at h; rw [AV.mapR, VRel]
    rw [AV.refs] at hp
    obtain ⟨y, rfl, hy⟩ := h
    exact ⟨y, rfl, VRel.mapR hl hR x y hp hy⟩
  | .agg cs, v, hp, h => by
    rw [VRel] at h; rw [AV.mapR, VRel]
    rw [AV.refs] at hp
    obtain ⟨vs, rfl, hv⟩ := h
    exact ⟨vs, rfl, VRels.mapR hl hR cs _ hp hv⟩
  | .tup cs, v, hp, h => by
    rw [VRel] at h; rw [AV.mapR, VRel]
    rw [AV.refs] at hp
    obtain ⟨vs, rfl, hv⟩ := h
    exact ⟨vs, rfl, VRels.mapR hl hR cs _ hp hv⟩
theorem VRels.mapR (hl : ∀ a v, a.isRef = true → (∀ i ∈ a.refs, p i) → VRel C a v → VRel C' (g a) v) (hR : ∀ b, C.R b → C'.R b ∧ C'.w.heap[b]? = C.w.heap[b]?) :
    ∀ (l : List AV) (vs : List Value), (∀ i ∈ AV.refsL l, p i) → VRels C l vs → VRels C' (AV.mapRs g l) vs
  | [], _, _, h => by rw [VRels] at h; rw [AV.mapRs, VRels]; exact h
  | a :: r, _, hp, h => by
    rw [VRels] at h; rw [AV.mapRs, VRels]
    rw [AV.refsL] at hp
    obtain ⟨v, vs', rfl, hv, hr⟩ := h
    exact ⟨v, vs', rfl, VRel.mapR hl hR a v (fun i hi => hp i (List.mem_append.2 (.inl hi))) hv, VRels.mapR hl hR r vs' (fun i hi => hp i (List.mem_append.2 (.inr hi))) hr⟩
end
end

mutual
theorem mapR_id : ∀ a : AV, a.mapR (fun x => x) = a
  | .unk => rfl
  | .bool _ => rfl
  | .int _ _ => rfl
  | .str _ => rfl
  | .nilp => rfl
  | .nils => rfl
  | .nilm => rfl
  | .nilf => rfl
  | .nili => rfl
  | .ptr _ _ => rfl
  | .eptr _ _ _ => rfl
  | .own _ => rfl
  | .sub _ _ _ _ => rfl
  | .map _ => rfl
  | .ro _ _ => rfl
  | .rptr _ _ _ => rfl
  | .gh _ => rfl
  | .fn f a b => by rw [AV.mapR, mapRs_id a, mapRs_id b]
  | .ifc t x => by rw [AV.mapR, mapR_id x]
  | .agg cs => by rw [AV.mapR, mapRs_id cs]
  | .tup cs => by rw [AV.mapR, mapRs_id cs]
theorem mapRs_id : ∀ l : List AV, AV.mapRs (fun x => x) l = l
  | [] => rfl
  | a :: r => by rw [AV.mapRs, mapR_id a, mapRs_id r]
end

theorem VRel.mono {C C' : Cx} (hl : ∀ a v, a.isRef = true → VRel C a v → VRel C' a v) (hR : ∀ b, C.R b → C'.R b ∧ C'.w.heap[b]? = C.w.heap[b]?) {a : AV} {v : Value} (h : VRel C a v) : VRel C' a v := by
  have := VRel.mapR (p := fun _ => True) (g := fun x => x) (fun a v h1 _ h2 => hl a v h1 h2) hR a v (fun _ _ => trivial) h
  rwa [mapR_id] at this
theorem VRels.mono {C C' : Cx} (hl : ∀ a v, a.isRef = true → VRel C a v → VRel C' a v) (hR : ∀ b, C.R b → C'.R b ∧ C'.w.heap[b]? = C.w.heap[b]?) {a : List AV} {v : List Value} (h : VRels C a v) : VRels C' a v := by
  have := VRels.mapR (p := fun _ => True) (g := fun x => x) (fun a v h1 _ h2 => hl a v h1 h2) hR a v (fun _ _ => trivial) h
  rwa [mapRs_id] at this

/-! ### Lists of values -/
theorem VRels.length {C : Cx} : ∀ {l : List AV} {vs : List Value}, VRels C l vs → vs.length = l.length
  | [], _, h => by rw [VRels] at h; subst h; rfl
  | _ :: r, _, h => by
    rw [VRels] at h
    obtain ⟨v, vs', rfl, _, hr⟩ := h
    simp [VRels.length hr]
theorem VRels.get {C : Cx} : ∀ {l : List AV} {vs : List Value}, VRels C l vs → ∀ {i : Nat} {a : AV}, l[i]? = some a → ∃ v, vs[i]? = some v ∧ VRel C a v
  | [], _, _, i, a, hi => by simp at hi
  | x :: r, _, h, 0, a, hi => by
    rw [VRels] at h
    obtain ⟨v, vs', rfl, hv, _⟩ := h
    simp at hi; subst hi
    exact ⟨v, rfl, hv⟩
  | x :: r, _, h, i + 1, a, hi => by
    rw [VRels] at h
    obtain ⟨v, vs', rfl, _, hr⟩ := h
    exact VRels.get hr (i := i) (by simpa using hi)
theorem VRels.get' {C : Cx} : ∀ {l : List AV} {vs : List Value}, VRels C l vs → ∀ {i : Nat} {v : Value}, vs[i]? = some v → ∃ a, l[i]? = some a ∧ VRel C a v
  | [], _, h, i, a, hi => by rw [VRels] at h; subst h; simp at hi
  | x :: r, _, h, 0, a, hi => by
    rw [VRels] at h
    obtain ⟨v, vs', rfl, hv, _⟩ := h
    simp at hi; subst hi
    exact ⟨x, rfl, hv⟩
  | x :: r, _, h, i + 1, a, hi => by
    rw [VRels] at h
    obtain ⟨v, vs', rfl, _, hr⟩ := h
    exact VRels.get' hr (i := i) (by simpa using hi)
theorem VRels.append {C : Cx} : ∀ {l m : List AV} {vs us : List Value}, VRels C l vs → VRels C m us → VRels C (l ++ m) (vs ++ us)
  | [], _, _, _, h, h' => by rw [VRels] at h; subst h; simpa using h'
  | x :: r, _, _, _, h, h' => by
    rw [VRels] at h
    obtain ⟨v, vs', rfl, hv, hr⟩ := h
    rw [List.cons_append, List.cons_append, VRels]
    exact ⟨v, _, rfl, hv, VRels.append hr h'⟩
theorem VRels.drop {C : Cx} : ∀ {l : List AV} {vs : List Value} (n : Nat), VRels C l vs → VRels C (l.drop n) (vs.drop n)
  | _, _, 0, h => by simpa using h
  | [], _, n + 1, h => by rw [VRels] at h; subst h; simp [VRels]
  | x :: r, _, n + 1, h => by
    rw [VRels] at h
    obtain ⟨v, vs', rfl, _, hr⟩ := h
    exact VRels.drop n hr
theorem VRels.take {C : Cx} : ∀ {l : List AV} {vs : List Value} (n : Nat), VRels C l vs → VRels C (l.take n) (vs.take n)
  | _, _, 0, _ => by simp [VRels]
  | [], _, n + 1, h => by rw [VRels] at h; subst h; simp [VRels]
  | x :: r, _, n + 1, h => by
    rw [VRels] at h
    obtain ⟨v, vs', rfl, hv, hr⟩ := h
    rw [List.take_succ_cons, List.take_succ_cons, VRels]
    exact ⟨v, _, rfl, hv, VRels.take n hr⟩

theorem takeN_eq {α : Type} : ∀ {n : Nat} {l r : List α}, takeN n l = some r → r = l.take n ∧ n ≤ l.length
  | 0, l, r, h => by simp [takeN] at h; subst h; simp
  | n + 1, [], r, h => by simp [takeN] at h
  | n + 1, x :: l, r, h => by
    simp only [takeN] at h
    split at h
    · rename_i l' hl
      obtain ⟨e, hn⟩ := takeN_eq hl
      cases h
      exact ⟨by simp [e], by simpa using hn⟩
    · cases h

/-- Cells of data, as values. -/
theorem DRel.cells {C : Cx} : ∀ {t : Ty} {x : t.T} {vs : List Value}, DRel C.R C.w t x vs → VRels C (cells t x) vs
  | .int _, _, _, h => by rw [DRel] at h; subst h; simp [AE.cells, VRels, VRel]
  | .bool, _, _, h => by rw [DRel] at h; subst h; simp [AE.cells, VRels, VRel]
  | .str, _, _, h => by rw [DRel] at h; subst h; simp [AE.cells, VRels, VRel]
  | .unit, _, _, h => by rw [DRel] at h; subst h; simp [AE.cells, VRels]
  | .st f, _, _, h => by rw [DRel] at h; rw [AE.cells]; exact DRel.cells h
  | .pair a b, _, _, h => by
    rw [DRel] at h
    obtain ⟨u, v, rfl, hu, hv⟩ := h
    rw [AE.cells]
    exact VRels.append (DRel.cells hu) (DRel.cells hv)
  | .list e, l, vs, h => by
    have h' := h
    rw [DRel] at h'
    obtain ⟨A, c, rfl, _⟩ := h'
    rw [AE.cells, VRels]
    exact ⟨_, [], rfl, by rw [VRel]; exact h, by rw [VRels]⟩

theorem castL_eq {e e' : Ty} {l : List e'.T} {l' : List e.T} (h : castL e e' l = some l') : ∃ he : e' = e, l' = he ▸ l := by
  unfold castL at h
  split at h
  · rename_i he _
    exact ⟨he, (Option.some.inj h).symm⟩
  · cases h

theorem dec_rel {C : Cx} : ∀ {t : Ty} {cs r : List AV} {x : t.T} {vs : List Value}, dec t cs = some (x, r) → VRels C cs vs →
    ∃ us ws, vs = us ++ ws ∧ DRel C.R C.w t x us ∧ VRels C r ws
  | .int k, cs, r, x, vs, h, hv => by
    unfold dec at h
    split at h
    · rename_i k' n r'
      split at h
      · rename_i hk _
        cases h
        rw [VRels] at hv
        obtain ⟨v, vs', rfl, h1, h2⟩ := hv
        rw [VRel] at h1
        exact ⟨[v], vs', rfl, by rw [DRel, h1, hk], h2⟩
      · cases h
    · cases h
  | .bool, cs, r, x, vs, h, hv => by
    unfold dec at h
    split at h
    · cases h
      rw [VRels] at hv
      obtain ⟨v, vs', rfl, h1, h2⟩ := hv
      rw [VRel] at h1
      exact ⟨[v], vs', rfl, by rw [DRel, h1], h2⟩
    · cases h
  | .str, cs, r, x, vs, h, hv => by
    unfold dec at h
    split at h
    · cases h
      rw [VRels] at hv
      obtain ⟨v, vs', rfl, h1, h2⟩ := hv
      rw [VRel] at h1
      exact ⟨[v], vs', rfl, by rw [DRel, h1], h2⟩
    · cases h
  | .unit, cs, r, x, vs, h, hv => by
    unfold dec at h
    cases h
    exact ⟨[], vs, rfl, by rw [DRel], hv⟩
  | .st f, cs, r, x, vs, h, hv => by
    unfold dec at h
    obtain ⟨us, ws, e, hd, hr⟩ := dec_rel (t := f) h hv
    exact ⟨us, ws, e, by rw [DRel]; exact hd, hr⟩
  | .pair a b, cs, r, x, vs, h, hv => by
    unfold dec at h
    split at h
    · rename_i y r' h1
      split at h
      · rename_i z r'' h2
        cases h
        obtain ⟨us, ws, rfl, hd, hr⟩ := dec_rel h1 hv
        obtain ⟨us', ws', rfl, hd', hr'⟩ := dec_rel h2 hr
        exact ⟨us ++ us', ws', by simp, by rw [DRel]; exact ⟨us, us', rfl, hd, hd'⟩, hr'⟩
      · cases h
    · cases h
  | .list e, cs, r, x, vs, h, hv => by
    unfold dec at h
    split at h
    · rename_i e' l r'
      split at h
      · rename_i l' hl
        cases h
        rw [VRels] at hv
        obtain ⟨v, vs', rfl, h1, h2⟩ := hv
        obtain ⟨he, hx⟩ := castL_eq hl
        subst he
        simp at hx
        subst hx
        rw [VRel] at h1
        exact ⟨[v], vs', rfl, h1, h2⟩
      · cases h
    · cases h
      rw [VRels] at hv
      obtain ⟨v, vs', rfl, h1, h2⟩ := hv
      rw [VRel] at h1
      exact ⟨[v], vs', rfl, by rw [DRel, h1]; exact ⟨none, 0, rfl, by simp, .inl rfl⟩, h2⟩
    · cases h

theorem decAll_rel {C : Cx} {t : Ty} {cs : List AV} {x : t.T} {vs : List Value} (h : decAll t cs = some x) (hv : VRels C cs vs) : DRel C.R C.w t x vs := by
  unfold decAll at h
  split at h
  · rename_i y hd
    cases h
    obtain ⟨us, ws, rfl, hx, hr⟩ := dec_rel hd hv
    rw [VRels] at hr
    subst hr
    simpa using hx
  · cases h

/-! ### Objects and the heap -/
def Free (fr : Nat × Nat) (n : Nat) : Prop := ∀ x, x < n → ¬ (fr.1 ≤ x ∧ x < fr.2)

/-- Plain data of one cell, as a value. -/
def scVal : (t : Ty) → t.T → Option Value
  | .int k, n => some (.int k n)
  | .bool, b => some (.bool b)
  | .str, s => some (.string ⟨s.toArray⟩)
  | _, _ => none
/-- A map's entries. -/
def MRel (k : IntKind) (t : Ty) : List (Int × t.T) → List MapEntry → Prop
  | [], es => es = []
  | (n, x) :: r, es => ∃ e es', es = e :: es' ∧ e.key = .int k n ∧ scVal t x = some e.val ∧ MRel k t r es'

def ORel [BT] (C : Cx) (o : Obj) (r : Option Nat) : Prop :=
  match o with
  | .dead => True
  | .cells cs => ∃ b c e fr, r = some b ∧ C.w.heap[b]? = some (.cells c e fr) ∧ Free fr c.size ∧ VRels C cs c.toList ∧ ∀ u ∈ c.toList, u.oneCell' = true
  | .arr t l => (r = none ∧ l = []) ∨ ∃ b c e fr, r = some b ∧ C.w.heap[b]? = some (.cells c e fr) ∧ Free fr c.size ∧ l.length * t.size ≤ c.size ∧
      (∀ k x, l[k]? = some x → ∃ us, DRel C.R C.w t x us ∧ ∀ j u, us[j]? = some u → c[k * t.size + j]? = some u) ∧ (t = .int .u8 → e = BT.byte)
  | .bcells cs => ∃ b c v0, r = some b ∧ C.w.heap[b]? = some (.cells c BT.bld (0, 0)) ∧ (∃ vs, c.toList = v0 :: vs ∧ VRels C cs vs) ∧ (∀ u ∈ c.toList, u.oneCell' = true) ∧ (v0 = .pointer none ∨ v0 = .pointer (some ⟨b, 0, none⟩))
  | .btold s => ∃ b v0 v, r = some b ∧ C.w.heap[b]? = some (.cells #[v0, v] BT.bld (0, 0)) ∧ (∀ u ∈ (#[v0, v] : Array Value).toList, u.oneCell' = true) ∧ (v0 = .pointer none ∨ v0 = .pointer (some ⟨b, 0, none⟩)) ∧
      ((s = [] ∧ v = .slice none 0 0) ∨ ∃ g cap cur fr, v = .slice (some ⟨g, 0, none⟩) s.length cap ∧ s.length ≤ cap ∧ C.R g ∧ C.w.heap[g]? = some (.cells cur BT.byte fr) ∧ (s = [] ∨ fr.1 = 0 ∧ fr.2 ≠ 0 ∧ s.length ≤ fr.2) ∧ s.length ≤ cur.size ∧ ∀ (j : Nat) (x : Int), s[j]? = some x → cur[j]? = some (Value.int .u8 x))
  | .mp k t l => ∃ b es ck, r = some b ∧ C.w.heap[b]? = some (.map es ck) ∧ MRel k t l es.toList ∧ MapKept.Stamped es ck

structure HRel [BT] (C : Cx) : Prop where
  obj : ∀ i, ORel C (getH C.H i) (C.ρ i)
  inj : ∀ i j b, Live C.H i → Live C.H j → C.ρ i = some b → C.ρ j = some b → i = j
  ro : ∀ i b, Live C.H i → C.ρ i = some b → ¬ C.R b
  rlt : ∀ b, C.R b → b < C.w.heap.size

/-- The frame: what a call may turn, and where read-only memory may lie. -/
structure Fr where
  w0 : World
  own0 : Nat → Prop
  R0 : Nat → Prop
  /-- what a function lays beside what AE knows lies from here on -/
  base : Nat

structure FrameOk (F : Fr) (C : Cx) : Prop where
  os : C.w.os = F.w0.os
  tape : C.w.tape = F.w0.tape
  output : C.w.output = F.w0.output
  size : F.w0.heap.size ≤ C.w.heap.size
  keep : ∀ b, b < F.w0.heap.size → ¬ F.own0 b → C.w.heap[b]? = F.w0.heap[b]?
  r0 : ∀ b, F.R0 b → C.R b
  rN : ∀ b, C.R b → F.R0 b ∨ F.own0 b ∨ F.w0.heap.size ≤ b
  own : ∀ i b, Live C.H i → C.ρ i = some b → F.own0 b ∨ F.w0.heap.size ≤ b

def ERel (C : Cx) (env : Tmps) (tmps : Array Value) : Prop := ∀ t, VRel C (getT env t) (tmps.getD t undef)

def SStk (C : Cx) : List Tmps → List (Array Value) → Prop
  | [], vs => vs = []
  | e :: r, vs => ∃ v vs', vs = v :: vs' ∧ ERel C e v ∧ SStk C r vs'

structure SRel [BT] (F : Fr) (C : Cx) (s : St) (tmps : Array Value) (stk : List (Array Value)) : Prop where
  H : C.H = s.H
  heap : HRel C
  env : ERel C s.env tmps
  stk : SStk C s.stk stk
  frame : FrameOk F C

theorem getT_nil (t : Nat) : getT [] t = .unk := rfl
theorem getT_cons (d : Nat) (v : AV) (r : Tmps) (t : Nat) : getT ((d, v) :: r) t = if d = t then v else getT r t := by
  rw [getT]
  by_cases h : d = t
  · simp [h]
  · have : Nat.beq d t = false := by
      cases hb : Nat.beq d t
      · rfl
      · exact absurd (Nat.eq_of_beq_eq_true hb) h
    simp [h, this]

theorem ERel.put {C : Cx} {env : Tmps} {tmps : Array Value} (h : ERel C env tmps) {d : Nat} {v : AV} {u : Value} (hv : VRel C v u) (hd : d < tmps.size) :
    ERel C ((d, v) :: env) (tmps.setIfInBounds d u) := by
  intro t
  rw [getT_cons]
  by_cases e : d = t
  · subst e
    rw [if_pos rfl]
    simp [hd]
    exact hv
  · rw [if_neg e]
    have := h t
    simp only [Array.getD_eq_getD_getElem?] at *
    rwa [Array.getElem?_setIfInBounds_ne e]
end Go.AE
namespace Go.AE
variable {P : Program} {T : Tab} {C : Cx}

def conc0 : AV → Value
  | .bool b => .bool b
  | .int k n => .int k n
  | .str s => .string ⟨s.toArray⟩
  | .nilp => .pointer none
  | .nils => .slice none 0 0
  | .nilm => .map none
  | .nilf => .nilFunc
  | .nili => .nilIface
  | _ => undef
def AV.isZero : AV → Bool
  | .bool _ => true
  | .int _ _ => true
  | .str _ => true
  | .nilp => true
  | .nils => true
  | .nilm => true
  | .nilf => true
  | .nili => true
  | _ => false

def scDesc : List AV → TypeDesc → Bool
  | [.bool _], .bool => true
  | [.int k _], .int k' => decide (k = k')
  | [.str _], .string => true
  | [.nilf], .func _ _ _ => true
  | [.nili], .interface _ => true
  | _, _ => false

def kindOk (zero : List AV) : TK → TypeDesc → Prop
  | .sc, d => scDesc zero d = true
  | .ptr e, d => d = .pointer e ∧ zero = [.nilp]
  | .slice e, d => d = .slice e ∧ zero = [.nils]
  | .array n e, d => d = .array n e
  | .map k e, d => d = .map k e ∧ zero = [.nilm]
  | .struct fs, d => ∃ fields, d = .struct fields ∧ fields.toList.map (fun f => (f.type, f.offset)) = fs ∧ fields.toList.all (fun f => f.name != "_") = true

def Ty.isSt : Ty → Bool
  | .st _ => true
  | _ => false

def plainV : Value → Bool
  | .agg _ => false
  | _ => true

/-- A method of a type is a function that takes the value as it is. -/
def methB (P : Program) (t : Nat) (name : String) (g : Nat) : Bool :=
  match P.info? t, P.underlying t with
  | some info, some d => (match info.methods.find? (·.name == name) with
    | some m => m.path.toList.isEmpty && (match m.func with
      | some fp => Nat.beq fp.1 g && (match d, fp.2 with
        | .pointer _, true => true
        | .pointer _, false => false
        | _, true => false
        | _, false => true)
      | none => false)
    | none => false)
  | _, _ => false

structure TIok [BT] (P : Program) (t : Nat) (i : TI) (d : TypeDesc) (info : TypeInfo) (z : Value) : Prop where
  under : P.underlying t = some d
  inf : P.info? t = some info
  size : info.size = i.size
  bytes : info.bytes = i.bytes
  zero : info.zero = some z
  cells : z.cells.toList = i.zero.map conc0
  isz : i.zero.all AV.isZero = true
  len : i.zero.length = i.size
  kind : kindOk i.zero i.k d
  one : i.isAgg = false → i.size = 1
  byte : i.ty = some (.int .u8) → t = BT.byte
  ty : ∀ ty, i.ty = some ty → ty.size = i.size ∧ ty.isSt = i.isAgg ∧ ty ≠ .unit
  stood : i.isAgg = true → noIf i.zero = true → P.stoodInHeld t = false ∧ P.eqGuardType P.depth t = false
  plain : i.isAgg = false → plainV z = true
  agg : i.isAgg = true → plainV z = false
  meth : ∀ name g, methGo BT.meths t name = some g → methB P t name g = true

def TabOk [BT] (P : Program) (T : Tab) : Prop := ∀ t i, Tab.get T t = some i → ∃ d info z, TIok P t i d info z

theorem bindO_some {α : Type} {o : Option α} {k : α → Ans} {res : AV × List Obj} (h : bindO o k = some res) : ∃ a, o = some a ∧ k a = some res := by
  cases o with
  | none => cases h
  | some a => exact ⟨a, rfl, h⟩
theorem cond_none {c : Bool} {x : Ans} {res : AV × List Obj} (h : cond c x none = some res) : c = true ∧ x = some res := by
  cases c with
  | true => exact ⟨rfl, h⟩
  | false => cases h
theorem cond_none' {c : Bool} {x : Ans} {res : AV × List Obj} (h : cond c none x = some res) : c = false ∧ x = some res := by
  cases c with
  | true => cases h
  | false => exact ⟨rfl, h⟩
theorem asInt_some {v : AV} {K : Int → Ans} {res : AV × List Obj} (h : asInt v K = some res) : ∃ k n, v = .int k n ∧ K n = some res := by
  cases v <;> first | (cases h; done) | exact ⟨_, _, rfl, h⟩

theorem TIok.isRow [BT] {t : Nat} {i : TI} {d : TypeDesc} {info : TypeInfo} {z : Value} (h : TIok P t i d info z) : d.isRow = i.isAgg := by
  have hk := h.kind
  unfold TI.isAgg
  cases hi : i.k <;> rw [hi] at hk <;> simp only [kindOk] at hk
  · unfold scDesc at hk
    split at hk <;> first | rfl | (cases hk; done)
  · obtain ⟨rfl, _⟩ := hk; rfl
  · obtain ⟨rfl, _⟩ := hk; rfl
  · subst hk; rfl
  · obtain ⟨f, rfl, _⟩ := hk; rfl
  · obtain ⟨rfl, _⟩ := hk; rfl

theorem TIok.run_isAgg [BT] {t : Nat} {i : TI} {d : TypeDesc} {info : TypeInfo} {z : Value} (h : TIok P t i d info z) (w : World) : (isAgg t).run P w = .ok i.isAgg w := by
  have hr := h.isRow
  unfold isAgg
  rw [Sem.run_bind, run_underlying h.under w]
  cases d <;> simp_all
theorem TIok.run_sizeOf [BT] {t : Nat} {i : TI} {d : TypeDesc} {info : TypeInfo} {z : Value} (h : TIok P t i d info z) (w : World) : (sizeOf t).run P w = .ok i.size w := by
  simp [sizeOf, typeInfo, h.inf, h.size]
theorem TIok.run_zero [BT] {t : Nat} {i : TI} {d : TypeDesc} {info : TypeInfo} {z : Value} (h : TIok P t i d info z) (w : World) : (zeroValue t).run P w = .ok z w := by
  simp [zeroValue, typeInfo, h.inf, h.zero]
theorem TIok.run_info [BT] {t : Nat} {i : TI} {d : TypeDesc} {info : TypeInfo} {z : Value} (h : TIok P t i d info z) (w : World) : (typeInfo t).run P w = .ok info w := by
  simp [typeInfo, h.inf]

/-! ### Operands -/
theorem constCell_rel (v : Value) : VRel C (constCell v) v := by
  unfold constCell
  split <;> simp [VRel]
theorem ofConst_rel (v : Value) : VRel C (ofConst v) v := by
  unfold ofConst
  split
  · rename_i cs
    rw [VRel]
    refine ⟨cs, rfl, ?_⟩
    generalize cs.toList = l
    induction l with
    | nil => simp [VRels]
    | cons x r ih => rw [List.map_cons, VRels]; exact ⟨x, r, rfl, constCell_rel x, ih⟩
  · exact constCell_rel v
theorem opd_rel {env : Tmps} {a : Act} (h : ERel C env a.tmps) (x : Operand) : VRel C (opd env x) (a.eval x) := by
  cases x with
  | tmp t => exact h t
  | const v => exact ofConst_rel v
  | global g => simp only [opd, VRel]
  | func f => simp only [opd, VRel, Act.eval]; exact ⟨#[], #[], rfl, by simp [VRels], by simp [VRels]⟩

theorem opds_rel {env : Tmps} {a : Act} (h : ERel C env a.tmps) (l : List Operand) : VRels C (l.map (opd env)) (l.map a.eval) := by
  induction l with
  | nil => simp [VRels]
  | cons x r ih => rw [List.map_cons, List.map_cons, VRels]; exact ⟨_, _, rfl, opd_rel h x, ih⟩

/-! ### Loads -/
theorem cellsAt_rel {cs r : List AV} {vs : List Value} {off n : Nat} (h : cellsAt cs off n = some r) (hv : VRels C cs vs) :
    VRels C r ((vs.drop off).take n) ∧ r.length = n ∧ ((vs.drop off).take n).length = n := by
  unfold cellsAt at h
  obtain ⟨rfl, hn⟩ := takeN_eq h
  have hl := hv.length
  refine ⟨(hv.drop off).take n, ?_, ?_⟩
  · simp; simp at hn; omega
  · simp; simp at hn; omega

theorem run_loadAt [BT] {t : Nat} {i : TI} {d : TypeDesc} {info : TypeInfo} {z : Value} (hi : TIok P t i d info z) {w : World} {b o : Nat} {us : List Value} (hl : us.length = i.size)
    (hc : w.rangeAt b o us) : (Instr.loadAt t (.pointer (some ⟨b, o, none⟩))).run P w = .ok (if i.isAgg then .agg us.toArray else us.headD undef) w := by
  cases ha : i.isAgg with
  | true =>
    rw [if_pos rfl]
    exact run_loadAt_mid w b o t us d hc hi.under (by rw [hi.isRow, ha]) (by rw [hi.inf]; simp [hi.size, hl])
  | false =>
    have h1 := hi.one ha
    obtain ⟨u, rfl⟩ : ∃ u, us = [u] := by
      cases us with
      | nil => simp at hl; omega
      | cons u r => cases r with
        | nil => exact ⟨u, rfl⟩
        | cons => simp at hl; omega
    have hu : w.cell? ⟨b, o, none⟩ = some u := hc 0 u rfl
    simp [Instr.loadAt, Instr.sureAddr, loadVar, hi.run_isAgg, ha, hu]

theorem back_rel {i : TI} {cs : List AV} {us : List Value} {K : AV → Ans} {res : AV × List Obj} (hl : cs.length = i.size) (hv : VRels C cs us)
    (h : cond i.isAgg (K (.agg cs)) (bindO (oneCell cs) K) = some res) : ∃ r, K r = some res ∧ VRel C r (if i.isAgg then .agg us.toArray else us.headD undef) := by
  cases ha : i.isAgg with
  | true =>
    rw [ha] at h
    exact ⟨_, h, by rw [if_pos rfl, VRel]; exact ⟨us.toArray, rfl, by simpa using hv⟩⟩
  | false =>
    rw [ha] at h
    obtain ⟨x, hx, hk⟩ := bindO_some h
    unfold oneCell at hx
    split at hx
    · rename_i y
      cases hx
      rw [VRels] at hv
      obtain ⟨v, vs', rfl, hxv, _⟩ := hv
      exact ⟨x, hk, by simpa using hxv⟩
    · cases hx

/-- A world in which the old blocks stand as they stood. -/
def Later (w w' : World) : Prop := ∀ b, b < w.heap.size → w'.heap[b]? = w.heap[b]?
theorem Later.refl (w : World) : Later w w := fun _ _ => rfl
theorem Later.cell {w w' : World} (h : Later w w') {a : Addr} {u : Value} (hc : w.cell? a = some u) : w'.cell? a = some u := by
  have hb : a.block < w.heap.size := by
    unfold World.cell? at hc
    split at hc <;> first | (cases hc; done) | skip
    · rename_i e
      exact (Array.getElem?_eq_some_iff.1 e).1
  rw [World.cell?, h _ hb]
  exact hc

/-- A world in which what these objects hold, and what is read only, is as it was. -/
def Sees (C : Cx) (ids : List Nat) (W : World) : Prop := ∀ b, (C.R b ∨ ∃ i ∈ ids, Live C.H i ∧ C.ρ i = some b) → W.heap[b]? = C.w.heap[b]?
def SeesO (C : Cx) (rd : Option (List Nat)) (W : World) : Prop := ∀ l, rd = some l → Sees C l W
theorem SeesO.refl (C : Cx) (rd : Option (List Nat)) : SeesO C rd C.w := fun _ _ _ _ => rfl
theorem Sees.refl (C : Cx) (ids : List Nat) : Sees C ids C.w := fun _ _ => rfl

theorem loadFrom [BT] {t : Nat} {i : TI} {d : TypeDesc} {info : TypeInfo} {z : Value} (hi : TIok P t i d info z) {b o off : Nat} {us : List Value} {cs r : List AV} {K : AV → Ans} {res : AV × List Obj}
    (hc : ∀ j u, us[j]? = some u → C.w.cell? ⟨b, o + j, none⟩ = some u) (hv : VRels C cs us) (hr : cellsAt cs off i.size = some r)
    (h : cond i.isAgg (K (.agg r)) (bindO (oneCell r) K) = some res) :
    ∃ r v, K r = some res ∧ (∀ W : World, W.heap[b]? = C.w.heap[b]? → (Instr.loadAt t (.pointer (some ⟨b, o + off, none⟩))).run P W = .ok v W) ∧ VRel C r v := by
  obtain ⟨h1, h2, h3⟩ := cellsAt_rel hr hv
  obtain ⟨r', hk, hrel⟩ := back_rel h2 h1 h
  refine ⟨r', _, hk, fun W hW => run_loadAt hi h3 ?_, hrel⟩
  intro j u hj
  rw [cell_congr hW]
  rw [List.getElem?_take] at hj
  split at hj
  · rw [List.getElem?_drop] at hj
    rw [Nat.add_assoc]
    exact hc _ _ hj
  · cases hj

theorem obj_cells [BT] {i : Nat} {cs : List AV} (hh : HRel C) (h : getH C.H i = .cells cs) : ∃ b c e fr, C.ρ i = some b ∧ C.w.heap[b]? = some (.cells c e fr) ∧ Free fr c.size ∧ VRels C cs c.toList ∧ ∀ u ∈ c.toList, u.oneCell' = true := by
  have := hh.obj i
  rw [h] at this
  exact this
theorem obj_arr [BT] {i : Nat} {t : Ty} {l : List t.T} (hh : HRel C) (h : getH C.H i = .arr t l) : (C.ρ i = none ∧ l = []) ∨ ∃ b c e fr, C.ρ i = some b ∧ C.w.heap[b]? = some (.cells c e fr) ∧ Free fr c.size ∧ l.length * t.size ≤ c.size ∧
      ∀ k x, l[k]? = some x → ∃ us, DRel C.R C.w t x us ∧ ∀ j u, us[j]? = some u → c[k * t.size + j]? = some u := by
  have := hh.obj i
  rw [h] at this
  rcases this with this | ⟨b, c, e, fr, h1, h2, h3, h4, h5, _⟩
  · exact .inl this
  · exact .inr ⟨b, c, e, fr, h1, h2, h3, h4, h5⟩
theorem obj_arrB [BT] {i : Nat} {t : Ty} {l : List t.T} (hh : HRel C) (h : getH C.H i = .arr t l) : (C.ρ i = none ∧ l = []) ∨ ∃ b c e fr, C.ρ i = some b ∧ C.w.heap[b]? = some (.cells c e fr) ∧ Free fr c.size ∧ l.length * t.size ≤ c.size ∧
      (∀ k x, l[k]? = some x → ∃ us, DRel C.R C.w t x us ∧ ∀ j u, us[j]? = some u → c[k * t.size + j]? = some u) ∧ (t = .int .u8 → e = BT.byte) := by
  have := hh.obj i
  rw [h] at this
  exact this
theorem obj_bcells [BT] {i : Nat} {cs : List AV} (hh : HRel C) (h : getH C.H i = .bcells cs) : ∃ b c v0, C.ρ i = some b ∧ C.w.heap[b]? = some (.cells c BT.bld (0, 0)) ∧ (∃ vs, c.toList = v0 :: vs ∧ VRels C cs vs) ∧ (∀ u ∈ c.toList, u.oneCell' = true) ∧ (v0 = .pointer none ∨ v0 = .pointer (some ⟨b, 0, none⟩)) := by
  have := hh.obj i
  rw [h] at this
  exact this

theorem obj_btold [BT] {i : Nat} {s : List Int} (hh : HRel C) (h : getH C.H i = .btold s) : ∃ b v0 v, C.ρ i = some b ∧ C.w.heap[b]? = some (.cells #[v0, v] BT.bld (0, 0)) ∧ (∀ u ∈ (#[v0, v] : Array Value).toList, u.oneCell' = true) ∧ (v0 = .pointer none ∨ v0 = .pointer (some ⟨b, 0, none⟩)) ∧
      ((s = [] ∧ v = .slice none 0 0) ∨ ∃ g cap cur fr, v = .slice (some ⟨g, 0, none⟩) s.length cap ∧ s.length ≤ cap ∧ C.R g ∧ C.w.heap[g]? = some (.cells cur BT.byte fr) ∧ (s = [] ∨ fr.1 = 0 ∧ fr.2 ≠ 0 ∧ s.length ≤ fr.2) ∧ s.length ≤ cur.size ∧ ∀ (j : Nat) (x : Int), s[j]? = some x → cur[j]? = some (Value.int .u8 x)) := by
  have := hh.obj i
  rw [h] at this
  exact this
theorem load_sound [BT] (hT : TabOk P T) (hh : HRel C) {s : St} (hs : C.H = s.H) {t : Nat} {p : AV} {v : Value} (hp : VRel C p v) {K : AV → Ans} {res : AV × List Obj}
    (h : load T s t p K = some res) : ∃ r u, K r = some res ∧ (∀ W, Sees C p.refs W → (Instr.loadAt t v).run P W = .ok u W) ∧ VRel C r u := by
  unfold load at h
  replace h := bindO_some h; obtain ⟨i, hti, h⟩ := h
  obtain ⟨d, info, z, hi⟩ := hT t i hti
  cases p with
  | ptr n off =>
    simp only at h
    rw [VRel] at hp
    obtain ⟨b, hb, rfl, hlv⟩ := hp
    rw [← hs] at h
    split at h
    · rename_i cs hg
      replace h := bindO_some h; obtain ⟨cs', hcs, h⟩ := h
      obtain ⟨b', c, e, fr, hb', hw, hfr, hv, _⟩ := obj_cells hh hg
      obtain rfl : b = b' := Option.some.inj (hb.symm.trans hb')
      obtain ⟨r, u, h1, h2, h3⟩ := loadFrom (P := P) (o := 0) hi (fun j u hj => by rw [cell_blk (blkOf_cells hw)]; simpa using hj) hv hcs h
      rw [Nat.zero_add] at h2
      exact ⟨r, u, h1, fun W hW => h2 W (hW b (.inr ⟨n, by simp [AV.refs], hlv, hb⟩)), h3⟩
    · rename_i cs hg
      obtain ⟨h1off, h⟩ := cond_none h
      have h1off := Nat.le_of_ble_eq_true h1off
      replace h := bindO_some h; obtain ⟨cs', hcs, h⟩ := h
      obtain ⟨b', c, v0, hb', hw, ⟨vs, hc, hv⟩, _, _⟩ := obj_bcells hh hg
      obtain rfl : b = b' := Option.some.inj (hb.symm.trans hb')
      obtain ⟨r, u, h1, h2, h3⟩ := loadFrom (P := P) (o := 1) hi (fun j u hj => by
        rw [cell_blk (blkOf_cells hw)]
        have : c.toList[1 + j]? = some u := by rw [hc, Nat.add_comm]; simpa using hj
        simpa using this) hv hcs h
      rw [show 1 + Nat.sub off 1 = off by have : Nat.sub off 1 = off - 1 := rfl; omega] at h2
      exact ⟨r, u, h1, fun W hW => h2 W (hW b (.inr ⟨n, by simp [AV.refs], hlv, hb⟩)), h3⟩
    · cases h
  | eptr n idx off =>
    simp only at h
    rw [VRel] at hp
    obtain ⟨b, ty, l, hb, hg, rfl⟩ := hp
    rw [← hs] at h
    rw [hg] at h
    simp only at h
    replace h := bindO_some h; obtain ⟨x, hx, h⟩ := h
    replace h := bindO_some h; obtain ⟨cs', hcs, h⟩ := h
    rcases obj_arr hh hg with ⟨hn, _⟩ | ⟨b', c, e, fr, hb', hw, hfr, hl, hel⟩
    · rw [hn] at hb; cases hb
    · obtain rfl : b = b' := Option.some.inj (hb.symm.trans hb')
      obtain ⟨us, hd, hu⟩ := hel idx x hx
      obtain ⟨r, u, h1, h2, h3⟩ := loadFrom (P := P) (o := idx * ty.size) hi (fun j u hj => by rw [cell_blk (blkOf_cells hw)]; exact hu j u hj) hd.cells hcs h
      exact ⟨r, u, h1, fun W hW => h2 W (hW b (.inr ⟨n, by simp [AV.refs], by unfold Live; rw [hg]; simp, hb⟩)), h3⟩
  | rptr ty x off =>
    simp only at h
    rw [VRel] at hp
    obtain ⟨b, o, us, hb, hd, hu, rfl⟩ := hp
    replace h := bindO_some h; obtain ⟨cs', hcs, h⟩ := h
    obtain ⟨r, u, h1, h2, h3⟩ := loadFrom (P := P) (o := o) hi hu hd.cells hcs h
    exact ⟨r, u, h1, fun W hW => h2 W (hW b (.inl hb)), h3⟩
  | _ => cases h
end Go.AE
namespace Go.AE
variable {P : Program} {T : Tab} {C : Cx}

theorem beq_of {a b : Nat} (h : Nat.beq a b = true) : a = b := Nat.eq_of_beq_eq_true h
theorem inR_iff {i : Int} {n : Nat} (h : inR i n = true) : 0 ≤ i ∧ i < n := by
  simpa [inR] using h
theorem nth_some {α : Type} {l : List α} {i : Int} {x : α} (h : nth l i = some x) : 0 ≤ i ∧ i < l.length ∧ l[i.toNat]? = some x := by
  unfold nth at h
  split at h
  · rename_i h0
    refine ⟨h0, ?_, h⟩
    have := (List.getElem?_eq_some_iff.1 h).1
    omega
  · cases h

theorem struct_field {fs : List (Nat × Nat)} {zero : List AV} {d : TypeDesc} (h : kindOk zero (.struct fs) d) {n : Nat} {ft off : Nat} (hf : fs[n]? = some (ft, off)) :
    ∃ fields f, d = .struct fields ∧ fields[n]? = some f ∧ f.type = ft ∧ f.offset = off := by
  obtain ⟨fields, rfl, hm, _⟩ := h
  rw [← hm, List.getElem?_map] at hf
  cases hg : fields.toList[n]? with
  | none => rw [hg] at hf; cases hf
  | some f =>
    rw [hg] at hf
    simp at hf
    exact ⟨fields, f, rfl, by simpa using hg, hf.1, hf.2⟩

theorem fieldAddr_sound [BT] (hT : TabOk P T) {t : Nat} {p : AV} {v : Value} (hp : VRel C p v) {f : Nat} {K : AV → Ans} {res : AV × List Obj}
    (h : fieldAddr T t p f K = some res) : ∃ r u, K r = some res ∧ (∀ W, (Instr.fieldAt t v f).run P W = .ok u W) ∧ VRel C r u := by
  unfold fieldAddr at h
  replace h := bindO_some h; obtain ⟨i, hti, h⟩ := h
  obtain ⟨d, info, z, hi⟩ := hT t i hti
  have hk := hi.kind
  split at h
  · rename_i fs hfs
    rw [hfs] at hk
    replace h := bindO_some h; obtain ⟨⟨ft, off⟩, hff, h⟩ := h
    dsimp only at h
    obtain ⟨j, hj, h2⟩ := bindO_some h
    obtain ⟨hz, h3⟩ := cond_none' h2
    clear h h2
    obtain ⟨fields, fl, rfl, hfl, rfl, rfl⟩ := struct_field hk hff
    obtain ⟨d', info', z', hj'⟩ := hT _ j hj
    have hne : j.size ≠ 0 := by intro e; rw [e] at hz; exact absurd hz (by decide)
    have run : ∀ b o W, (Instr.fieldAt t (.pointer (some ⟨b, o, none⟩)) f).run P W = .ok (.pointer (some ⟨b, o + fl.offset, none⟩)) W := by
      intro b o W
      simp [Instr.fieldAt, run_underlying hi.under, hfl, Instr.sureAddr, fieldPlace, hj'.run_sizeOf, hne, Addr.add_mid]
    cases p with
    | ptr n o =>
      rw [VRel] at hp
      obtain ⟨b, hb, rfl, hlv⟩ := hp
      exact ⟨.ptr n (o + fl.offset), _, h3, run _ _, by rw [VRel]; exact ⟨b, hb, rfl, hlv⟩⟩
    | eptr n ix o =>
      rw [VRel] at hp
      obtain ⟨b, ty, l, hb, hg, rfl⟩ := hp
      exact ⟨.eptr n ix (o + fl.offset), _, h3, run _ _, by rw [VRel]; exact ⟨b, ty, l, hb, hg, by rw [Nat.add_assoc]⟩⟩
    | rptr ty x o =>
      rw [VRel] at hp
      obtain ⟨b, o, us, hb, hd, hu, rfl⟩ := hp
      exact ⟨.rptr ty x (_ + fl.offset), _, h3, run _ _, by rw [VRel]; exact ⟨b, o, us, hb, hd, hu, by rw [Nat.add_assoc]⟩⟩
    | _ => cases h3
  · cases h

theorem partAt_sound [BT] (hT : TabOk P T) {t off : Nat} {cs : List AV} {vs : Array Value} (hv : VRels C cs vs.toList) {r : AV} (h : partAt T t cs off = some r) :
    ∃ u, (∀ W, (part t vs off).run P W = .ok u W) ∧ VRel C r u := by
  unfold partAt at h
  split at h
  · rename_i i hti
    obtain ⟨d, info, z, hi⟩ := hT t i hti
    split at h
    · rename_i a ha
      obtain ⟨h1, h2, h3⟩ := cellsAt_rel ha hv
      split at h
      · rename_i hg
        cases h
        refine ⟨.agg (vs.extract off (off + i.size)), fun W => by simp [part, hi.run_isAgg, hg, hi.run_sizeOf], ?_⟩
        rw [VRel]
        refine ⟨_, rfl, ?_⟩
        have : (vs.extract off (off + i.size)).toList = (vs.toList.drop off).take i.size := by
          simp [Array.toList_extract]
        rw [this]
        exact h1
      · rename_i hg
        have hg' : i.isAgg = false := by simpa using hg
        have h1' := hi.one hg'
        unfold oneCell at h
        split at h
        · cases h
          rw [VRels] at h1
          obtain ⟨v, vs', he, hr, _⟩ := h1
          have hcell : vs[off]? = some v := by
            have h0 : ((vs.toList.drop off).take i.size)[0]? = some v := by rw [he]; rfl
            rw [h1'] at h0
            simpa using h0
          exact ⟨v, fun W => by simp [part, hi.run_isAgg, hg', hcell], hr⟩
        · cases h
    · cases h
  · cases h

theorem field_sound [BT] (hT : TabOk P T) {t : Nat} {p : AV} {v : Value} (hp : VRel C p v) {f : Nat} {K : AV → Ans} {res : AV × List Obj}
    (h : field T t p f K = some res) : ∃ r u, K r = some res ∧ (∀ W, (Instr.field t v f).run P W = .ok u W) ∧ VRel C r u := by
  unfold field at h
  replace h := bindO_some h; obtain ⟨i, hti, h⟩ := h
  obtain ⟨d, info, z, hi⟩ := hT t i hti
  have hk := hi.kind
  split at h
  · rename_i fs cs hfs
    rw [hfs] at hk
    rw [VRel] at hp
    obtain ⟨vs, rfl, hv⟩ := hp
    replace h := bindO_some h; obtain ⟨⟨ft, off⟩, hff, h⟩ := h
    dsimp only at h
    replace h := bindO_some h; obtain ⟨r, hr, h⟩ := h
    obtain ⟨fields, fl, rfl, hfl, rfl, rfl⟩ := struct_field hk hff
    obtain ⟨u, hu, hrel⟩ := partAt_sound hT hv hr
    exact ⟨r, u, h, fun W => by simp [Instr.field, run_underlying hi.under, hfl, asAgg, hu], hrel⟩
  · cases h

theorem isStr_desc [BT] {t : Nat} {i : TI} {d : TypeDesc} {info : TypeInfo} {z : Value} (hi : TIok P t i d info z) (hk : i.k = .sc) (h : isStr i = true) : d = .string := by
  have := hi.kind
  rw [hk] at this
  unfold isStr at h
  split at h
  · rename_i s hz
    simp only [kindOk, hz] at this
    cases d <;> simp_all [scDesc]
  · cases h

theorem index_sound [BT] (hT : TabOk P T) {t : Nat} {x ix : AV} {v w : Value} (hx : VRel C x v) (hix : VRel C ix w) {K : AV → Ans} {res : AV × List Obj}
    (h : index T t x ix K = some res) : ∃ r u, K r = some res ∧ (∀ W, (Instr.index t v w).run P W = .ok u W) ∧ VRel C r u := by
  unfold index at h
  replace h := asInt_some h; obtain ⟨k, n, rfl, h⟩ := h
  rw [VRel] at hix
  subst hix
  replace h := bindO_some h; obtain ⟨i, hti, h⟩ := h
  obtain ⟨d, info, z, hi⟩ := hT t i hti
  split at h
  · rename_i hk
    replace h := cond_none h; obtain ⟨hs, h⟩ := h
    have hd := isStr_desc hi hk hs
    subst hd
    split at h
    · rename_i s
      rw [VRel] at hx
      subst hx
      replace h := bindO_some h; obtain ⟨c, hc, h⟩ := h
      obtain ⟨h0, h1, h2⟩ := nth_some hc
      refine ⟨_, .int .u8 c.toNat, h, ?_, by rw [VRel]⟩
      have hg : (⟨s.toArray⟩ : ByteArray)[n.toNat]? = some c := by
        have : n.toNat < s.length := by omega
        rw [List.getElem?_eq_getElem this] at h2
        have hsz : n.toNat < (⟨s.toArray⟩ : ByteArray).size := by simpa [ByteArray.size] using this
        rw [getElem?_pos (⟨s.toArray⟩ : ByteArray) n.toNat hsz]
        simpa [ByteArray.getElem_eq_getElem_data] using h2
      intro W
      simp [Instr.index, asIntOf, run_underlying hi.under, h0, hg]
    · cases h
  · rename_i len e hk
    have hkk := hi.kind
    rw [hk] at hkk
    simp only [kindOk] at hkk
    subst hkk
    replace h := bindO_some h; obtain ⟨ei, hei, h⟩ := h
    obtain ⟨d', info', z', hj⟩ := hT _ ei hei
    split at h
    · rename_i cs
      rw [pickN_eq] at h
      replace h := cond_none h; obtain ⟨hr, h⟩ := h
      obtain ⟨h0, h1⟩ := inR_iff hr
      rw [VRel] at hx
      obtain ⟨vs, rfl, hv⟩ := hx
      replace h := bindO_some h; obtain ⟨r, hpr, h⟩ := h
      obtain ⟨u, hu, hrel⟩ := partAt_sound hT hv hpr
      exact ⟨r, u, h, fun W => by simp [Instr.index, asIntOf, run_underlying hi.under, h0, h1, hj.run_sizeOf, hu], hrel⟩
    · cases h
  · cases h

theorem indexAddr_sound [BT] (hT : TabOk P T) {s : St} (hs : C.H = s.H) {t : Nat} {x ix : AV} {v w : Value} (hx : VRel C x v) (hix : VRel C ix w) {K : AV → Ans} {res : AV × List Obj}
    (h : indexAddr T s t x ix K = some res) : ∃ r u, K r = some res ∧ (∀ W, (Instr.indexAt t v w).run P W = .ok u W) ∧ VRel C r u := by
  unfold indexAddr at h
  simp only [pickN_eq] at h
  replace h := asInt_some h; obtain ⟨k, n, rfl, h⟩ := h
  rw [VRel] at hix
  subst hix
  replace h := bindO_some h; obtain ⟨i, hti, h⟩ := h
  obtain ⟨d, info, z, hi⟩ := hT t i hti
  have hkk := hi.kind
  split at h
  · rename_i e hk
    rw [hk] at hkk
    obtain ⟨rfl, _⟩ := hkk
    replace h := bindO_some h; obtain ⟨ei, hei, h⟩ := h
    obtain ⟨d', info', z', hj⟩ := hT _ ei hei
    have run : ∀ (a : Addr) (len cap : Nat), 0 ≤ n → n < (len : Int) → ∀ W, (Instr.indexAt t (.slice (some a) len cap) (.int k n)).run P W = .ok (.pointer (some (a.add (n.toNat * ei.size)))) W := by
      intro a len cap h0 h1 W
      simp [Instr.indexAt, asIntOf, run_underlying hi.under, h0, h1, hj.run_sizeOf]
    split at h
    · rename_i m
      rw [VRel] at hx
      obtain ⟨ty, l, hg, hx⟩ := hx
      rw [← hs, hg] at h
      simp only at h
      replace h := cond_none h; obtain ⟨hse, h⟩ := h
      replace h := cond_none h; obtain ⟨hr, h⟩ := h
      obtain ⟨h0, h1⟩ := inR_iff hr
      rcases hx with ⟨_, hl, rfl⟩ | ⟨b, c, cap, hb, hbl, hcap, hcs, rfl⟩
      · subst hl; simp at h1; omega
      · refine ⟨_, _, h, run _ _ _ h0 h1, ?_⟩
        rw [VRel]
        refine ⟨b, ty, l, hb, hg, ?_⟩
        rw [beq_of hse, Addr.add_mid]
        simp
    · rename_i m off len e'
      replace h := cond_none h; obtain ⟨hse, h⟩ := h
      have hse := beq_of hse
      rw [VRel] at hx
      obtain ⟨A, cap, rfl, hlc, hx⟩ := hx
      have key : ∀ (hr : inR n len = true), 0 ≤ n ∧ n < len ∧ ∃ b, C.ρ m = some b ∧ A = some ⟨b, off * e', none⟩ := by
        intro hr
        obtain ⟨h0, h1⟩ := inR_iff hr
        refine ⟨h0, h1, ?_⟩
        rcases hx with ⟨hl, _⟩ | ⟨hl, _⟩ | ⟨b, hb, hA, _⟩
        · omega
        · omega
        · exact ⟨b, hb, hA⟩
      split at h
      · rename_i ty l hg
        rw [← hs] at hg
        replace h := cond_none h; obtain ⟨hr, h⟩ := h
        obtain ⟨h0, h1, b, hb, rfl⟩ := key hr
        refine ⟨_, _, h, run _ _ _ h0 h1, ?_⟩
        have hety : e' = ty.size := by
          rcases hx with ⟨hl, _⟩ | ⟨_, hx, _⟩ | ⟨b', hb', _, c, _, _, hm⟩
          · omega
          · cases hx
          · rw [hg] at hm; exact hm.1
        rw [VRel]
        refine ⟨b, ty, l, hb, hg, ?_⟩
        rw [Addr.add_mid, hse, hety, Nat.add_mul]
        simp
      · rename_i cs hg
        replace h := cond_none h; obtain ⟨hr, h⟩ := h
        obtain ⟨h0, h1, b, hb, rfl⟩ := key hr
        refine ⟨_, _, h, run _ _ _ h0 h1, ?_⟩
        rw [VRel]
        refine ⟨b, hb, ?_, ?_⟩
        · rw [Addr.add_mid, hse, Nat.add_mul]
        · unfold Live; rw [hs, hg]; simp
      · cases h
    · rename_i ty l
      replace h := cond_none h; obtain ⟨hse, h⟩ := h
      have hse := beq_of hse
      replace h := bindO_some h; obtain ⟨y, hy, h⟩ := h
      obtain ⟨h0, h1, h2⟩ := nth_some hy
      rw [VRel, DRel] at hx
      obtain ⟨A, c, hv, hlc, hx⟩ := hx
      obtain rfl : v = .slice A l.length c := by simpa using hv
      rcases hx with rfl | ⟨b, o, rfl, hb, hx⟩
      · simp at h1; omega
      · obtain ⟨us, hd, hu⟩ := hx _ _ h2
        refine ⟨_, _, h, run _ _ _ h0 h1, ?_⟩
        rw [VRel]
        refine ⟨b, o + n.toNat * ty.size, us, hb, hd, fun j u hj => by rw [Nat.add_assoc]; exact hu j u hj, ?_⟩
        rw [Addr.add_mid, hse]
        simp
    · cases h
  · rename_i len e hk
    rw [hk] at hkk
    simp only [kindOk] at hkk
    subst hkk
    replace h := bindO_some h; obtain ⟨ei, hei, h⟩ := h
    obtain ⟨d', info', z', hj⟩ := hT _ ei hei
    have run : ∀ (a : Addr), 0 ≤ n → n < (len : Int) → ∀ W, (Instr.indexAt t (.pointer (some a)) (.int k n)).run P W = .ok (.pointer (some (a.add (n.toNat * ei.size)))) W := by
      intro a h0 h1 W
      simp [Instr.indexAt, asIntOf, run_underlying hi.under, h0, h1, hj.run_sizeOf, Instr.sureAddr]
    split at h
    · rename_i m off
      rw [VRel] at hx
      obtain ⟨b, hb, rfl, hlv⟩ := hx
      split at h
      · replace h := cond_none h; obtain ⟨hr, h⟩ := h
        obtain ⟨h0, h1⟩ := inR_iff hr
        exact ⟨_, _, h, run _ h0 h1, by rw [VRel]; exact ⟨b, hb, by rw [Addr.add_mid], hlv⟩⟩
      · rename_i ty l hg
        rw [← hs] at hg
        replace h := cond_none h; obtain ⟨hr, h⟩ := h
        simp only [Bool.and_eq_true] at hr
        obtain ⟨⟨ho, hse⟩, hr⟩ := hr
        have hse := beq_of hse
        have ho := beq_of ho
        obtain ⟨h0, h1⟩ := inR_iff hr
        subst ho
        refine ⟨_, _, h, run _ h0 h1, ?_⟩
        rw [VRel]
        exact ⟨b, ty, l, hb, hg, by rw [Addr.add_mid, hse]; simp⟩
      · cases h
    · rename_i m ix off
      rw [VRel] at hx
      obtain ⟨b, ty, l, hb, hg, rfl⟩ := hx
      replace h := cond_none h; obtain ⟨hr, h⟩ := h
      obtain ⟨h0, h1⟩ := inR_iff hr
      exact ⟨_, _, h, run _ h0 h1, by rw [VRel]; exact ⟨b, ty, l, hb, hg, by rw [Addr.add_mid, Nat.add_assoc]⟩⟩
    · rename_i ty y off
      rw [VRel] at hx
      obtain ⟨b, o, us, hb, hd, hu, rfl⟩ := hx
      replace h := cond_none h; obtain ⟨hr, h⟩ := h
      obtain ⟨h0, h1⟩ := inR_iff hr
      exact ⟨_, _, h, run _ h0 h1, by rw [VRel]; exact ⟨b, o, us, hb, hd, hu, by rw [Addr.add_mid, Nat.add_assoc]⟩⟩
    · cases h
  · cases h
end Go.AE
namespace Go.AE
variable {P : Program} {T : Tab} {C : Cx}

/-! ### Slices -/
def ORelV (C : Cx) : Option AV → Option Value → Prop
  | none, none => True
  | some a, some v => VRel C a v
  | _, _ => False

/-- The ends that the model finds. -/
theorem bounds_sound {len cap : Nat} {sl : Bool} {lo hi : Option AV} {vl vh : Option Value} (hl : ORelV C lo vl) (hh : ORelV C hi vh) (hcap : len ≤ cap) {K : Nat → Nat → Ans} {res : AV × List Obj}
    (h : bounds len lo hi K = some res) : ∃ a b, K a b = some res ∧ a ≤ b ∧ b ≤ len ∧ (∀ W, (Instr.sliceBounds sl len cap vl vh none).run P W = .ok (a, b, cap) W) ∧
      (lo = none → a = 0) ∧ (hi = none → b = len) := by
  unfold bounds at h
  have sb : ∀ (k : IntKind) (n : Int) (y : Nat) (code : BoundsCode), 0 ≤ n → n ≤ y → ∀ W, (Instr.sliceBound (.int k n) y code).run P W = .ok n.toNat W := by
    intro k n y code h0 h1 W
    simp [Instr.sliceBound, asIntOf, h0, h1]
  split at h
  · cases vl with
    | some _ => cases hl
    | none => cases vh with
      | some _ => cases hh
      | none => exact ⟨0, len, h, Nat.zero_le _, Nat.le_refl _, fun W => by simp [Instr.sliceBounds], fun _ => rfl, fun _ => rfl⟩
  · rename_i l
    cases vh with
    | some _ => cases hh
    | none => cases vl with
      | none => cases hl
      | some u =>
        replace h := asInt_some h; obtain ⟨k, n, rfl, h⟩ := h
        replace h := cond_none h; obtain ⟨hr, h⟩ := h
        obtain ⟨h0, h1⟩ := inR_iff hr
        simp only [ORelV, VRel] at hl
        subst hl
        exact ⟨n.toNat, len, h, by omega, Nat.le_refl _, fun W => by simp [Instr.sliceBounds, sb k n len .sliceB h0 (by omega)], (by simp), fun _ => rfl⟩
  · rename_i l
    cases vl with
    | some _ => cases hl
    | none => cases vh with
      | none => cases hh
      | some u =>
        replace h := asInt_some h; obtain ⟨k, n, rfl, h⟩ := h
        replace h := cond_none h; obtain ⟨hr, h⟩ := h
        obtain ⟨h0, h1⟩ := inR_iff hr
        simp only [ORelV, VRel] at hh
        subst hh
        refine ⟨0, n.toNat, h, by omega, by omega, ?_, fun _ => rfl, by simp⟩
        intro W
        simp [Instr.sliceBounds, sb k n cap _ h0 (by omega)]
  · rename_i l1 l2
    cases vl with
    | none => cases hl
    | some u => cases vh with
      | none => cases hh
      | some u' =>
        replace h := asInt_some h; obtain ⟨k, n, rfl, h⟩ := h
        replace h := asInt_some h; obtain ⟨k', n', rfl, h⟩ := h
        replace h := cond_none h; obtain ⟨hr, h⟩ := h
        simp only [Bool.and_eq_true] at hr
        obtain ⟨h0, h1⟩ := inR_iff hr.1
        obtain ⟨h2, h3⟩ := inR_iff hr.2
        simp only [ORelV, VRel] at hh hl
        subst hh
        subst hl
        refine ⟨n.toNat, n'.toNat, h, by omega, by omega, ?_, by simp, by simp⟩
        intro W
        simp [Instr.sliceBounds, sb k' n' cap _ h0 (by omega), sb k n n'.toNat .sliceB h2 (by omega)]

theorem cutL_eq {α : Type} (l : List α) {lo hi : Option AV} {a b : Nat} (ha : lo = none → a = 0) (hb : hi = none → b = l.length) (hab : b ≤ l.length) :
    cutL l lo hi a b = (l.drop a).take (b - a) := by
  unfold cutL
  cases lo with
  | none =>
    obtain rfl := ha rfl
    cases hi with
    | none => obtain rfl := hb rfl; simp
    | some _ => simp
  | some _ => cases hi with
    | none => obtain rfl := hb rfl; simp [List.take_of_length_le]
    | some _ => rfl

theorem cutL_length {α : Type} (l : List α) {lo hi : Option AV} {a b : Nat} (ha : lo = none → a = 0) (hb : hi = none → b = l.length) (hab : b ≤ l.length) (hle : a ≤ b) :
    (cutL l lo hi a b).length = b - a := by
  rw [cutL_eq l ha hb hab]
  simp
  omega

theorem bytes_extract (s : List UInt8) (a b : Nat) : (⟨s.toArray⟩ : ByteArray).extract a b = ⟨((s.drop a).take (b - a)).toArray⟩ := by
  apply ByteArray.ext
  simp [List.extract_eq_take_drop]

theorem addr_cut (b o n size : Nat) : (⟨b, o, none⟩ : Addr).add (n * size) = ⟨b, o + n * size, none⟩ := Addr.add_mid _ _ _

theorem slice_sound [BT] (hT : TabOk P T) (hh : HRel C) {s : St} (hs : C.H = s.H) {t : Nat} {x : AV} {v : Value} (hx : VRel C x v) {lo hi mx : Option AV} {vl vh vm : Option Value}
    (hlo : ORelV C lo vl) (hhi : ORelV C hi vh) (hmx : ORelV C mx vm) {K : AV → Ans} {res : AV × List Obj}
    (h : slice T s t x lo hi mx K = some res) : ∃ r u, K r = some res ∧ (∀ W, (Instr.sliceAt t v vl vh vm).run P W = .ok u W) ∧ VRel C r u := by
  unfold slice at h
  cases mx with
  | some _ => cases h
  | none =>
  cases vm with
  | some _ => cases hmx
  | none =>
  simp only at h
  replace h := bindO_some h; obtain ⟨i, hti, h⟩ := h
  obtain ⟨d, info, z, hi'⟩ := hT t i hti
  have hkk := hi'.kind
  split at h
  · rename_i hk
    replace h := cond_none h; obtain ⟨hst, h⟩ := h
    have hd := isStr_desc hi' hk hst
    subst hd
    cases x with
    | str a =>
      simp only at h
      rw [VRel] at hx
      subst hx
      obtain ⟨i, j, hK, h1, h2, hrun, ha, hb⟩ := bounds_sound (P := P) (sl := false) (cap := a.length) hlo hhi (Nat.le_refl _) h
      refine ⟨_, .string ⟨((a.drop i).take (j - i)).toArray⟩, hK, ?_, by rw [VRel, cutL_eq a ha hb h2]⟩
      have hsz : (⟨a.toArray⟩ : ByteArray).size = a.length := by simp [ByteArray.size]
      intro W
      simp [Instr.sliceAt, run_underlying hi'.under, Instr.slice, hsz, hrun, bytes_extract a i j]
    | _ => cases h
  · rename_i e hk
    rw [hk] at hkk
    obtain ⟨rfl, _⟩ := hkk
    replace h := bindO_some h; obtain ⟨ei, hei, h⟩ := h
    obtain ⟨d', info', z', hj⟩ := hT _ ei hei
    have run : ∀ (A : Option Addr) (len cap a b : Nat), (∀ W, (Instr.sliceBounds true len cap vl vh none).run P W = .ok (a, b, cap) W) →
        ∀ W, (Instr.sliceAt t (.slice A len cap) vl vh none).run P W = .ok (.slice (if cap = a then A else A.map (·.add (a * ei.size))) (b - a) (cap - a)) W := by
      intro A len cap a b hb W
      simp [Instr.sliceAt, run_underlying hi'.under, Instr.slice, hb, hj.run_sizeOf]
    cases x with
    | own n =>
      simp only at h
      rw [VRel] at hx
      obtain ⟨ty, l, hg, hx⟩ := hx
      rw [← hs, hg] at h
      simp only at h
      replace h := cond_none h; obtain ⟨hse, h⟩ := h
      have hse := beq_of hse
      rcases hx with ⟨hn, hl, rfl⟩ | ⟨b, c, cap, hb, hbl, hcap, hcs, rfl⟩
      · subst hl
        obtain ⟨x, y, hK, h1, h2, hrun, ha, hb⟩ := bounds_sound (P := P) (sl := true) (cap := 0) hlo hhi (Nat.le_refl _) h
        have hy : y = 0 := by simpa using h2
        subst hy
        have hx0 : x = 0 := by omega
        subst hx0
        refine ⟨_, _, hK, run _ _ _ _ _ hrun, ?_⟩
        unfold cutOwn
        split
        · rw [VRel]; exact ⟨ty, [], hg, .inl ⟨hn, rfl, rfl⟩⟩
        · rw [VRel]; exact ⟨none, 0, by simp, by simp, .inr (.inl ⟨rfl, rfl, rfl⟩)⟩
      · obtain ⟨x, y, hK, h1, h2, hrun, ha, hb'⟩ := bounds_sound (P := P) (sl := true) (cap := cap) hlo hhi hcap h
        refine ⟨_, _, hK, run _ _ _ _ _ hrun, ?_⟩
        unfold cutOwn
        split
        · obtain rfl := ha rfl
          obtain rfl := hb' rfl
          rw [VRel]
          refine ⟨ty, l, hg, .inr ⟨b, c, cap, hb, hbl, hcap, hcs, ?_⟩⟩
          simp [Addr.add]
        · rw [VRel]
          refine ⟨_, cap - x, rfl, by omega, ?_⟩
          by_cases hxc : cap = x
          · by_cases hx0 : x = 0
            · refine .inr (.inr ⟨b, hb, ?_, c, hbl, ?_, ?_⟩)
              · simp [hxc, hx0]
              · subst hx0; simpa using hcs
              · rw [hg]; simp only; exact ⟨trivial, by omega⟩
            · exact .inl ⟨by omega, hx0⟩
          · refine .inr (.inr ⟨b, hb, ?_, c, hbl, ?_, ?_⟩)
            · rw [if_neg hxc, Option.map_some, addr_cut, hse]; simp
            · rw [Nat.add_sub_cancel' (by omega)]; exact hcs
            · rw [hg]; simp only; exact ⟨trivial, by omega⟩
    | sub n off len e' =>
      simp only at h
      replace h := cond_none h; obtain ⟨hse, h⟩ := h
      have hse := beq_of hse
      rw [VRel] at hx
      obtain ⟨A, cap, rfl, hlc, hx⟩ := hx
      obtain ⟨x, y, hK, h1, h2, hrun, ha, hb'⟩ := bounds_sound (P := P) (sl := true) (cap := cap) hlo hhi hlc h
      refine ⟨_, _, hK, run _ _ _ _ _ hrun, ?_⟩
      rw [VRel]
      refine ⟨_, cap - x, rfl, by omega, ?_⟩
      rcases hx with ⟨hl, ho⟩ | ⟨hl, rfl, rfl⟩ | ⟨b, hb, rfl, c, hbl, hcs, hm⟩
      · exact .inl ⟨by omega, by omega⟩
      · refine .inr (.inl ⟨by omega, ?_, by omega⟩)
        split <;> rfl
      · have hm' : (match getH C.H n with
            | .arr t l => e' = t.size ∧ off + x + (y - x) ≤ l.length
            | .cells cs => (off + x + (y - x)) * e' ≤ cs.length
            | _ => False) := by
          generalize getH C.H n = g at hm ⊢
          cases g with
          | arr t l => exact ⟨hm.1, by have := hm.2; omega⟩
          | cells cs => exact Nat.le_trans (Nat.mul_le_mul_right _ (by omega)) hm
          | _ => exact hm
        by_cases hxc : cap = x
        · by_cases hx0 : off + x = 0
          · refine .inr (.inr ⟨b, hb, ?_, c, hbl, ?_, hm'⟩)
            · rw [if_pos hxc]
              have : x = 0 := by omega
              subst this
              simp
            · rw [show off + x + (cap - x) = off + cap by omega]; exact hcs
          · exact .inl ⟨by omega, hx0⟩
        · refine .inr (.inr ⟨b, hb, ?_, c, hbl, ?_, hm'⟩)
          · rw [if_neg hxc, Option.map_some, addr_cut, hse, Nat.add_mul]
          · rw [show off + x + (cap - x) = off + cap by omega]; exact hcs
    | ro ty l =>
      simp only at h
      replace h := cond_none h; obtain ⟨hse, h⟩ := h
      have hse := beq_of hse
      rw [VRel, DRel] at hx
      obtain ⟨A, c, hv, hlc, hx⟩ := hx
      obtain rfl : v = .slice A l.length c := by simpa using hv
      obtain ⟨x, y, hK, h1, h2, hrun, ha, hb'⟩ := bounds_sound (P := P) (sl := true) (cap := c) hlo hhi hlc h
      refine ⟨_, _, hK, run _ _ _ _ _ hrun, ?_⟩
      rw [VRel, DRel]
      have hlen := cutL_length l ha hb' h2 h1
      refine ⟨_, c - x, by rw [hlen], by omega, ?_⟩
      rw [cutL_eq l ha hb' h2]
      rcases hx with rfl | ⟨b, o, rfl, hb, hx⟩
      · exact .inl (by simp)
      · by_cases hxc : c = x
        · refine .inl (List.eq_nil_of_length_eq_zero ?_)
          simp; omega
        · refine .inr ⟨b, o + x * ty.size, by rw [if_neg hxc, Option.map_some, addr_cut, hse], hb, fun i z hz => ?_⟩
          rw [List.getElem?_take] at hz
          split at hz
          · rw [List.getElem?_drop] at hz
            obtain ⟨us, hd, hu⟩ := hx _ _ hz
            refine ⟨us, hd, fun j u hj => ?_⟩
            have := hu j u hj
            rw [Nat.add_mul] at this
            rw [show o + x * ty.size + (i * ty.size + j) = o + (x * ty.size + i * ty.size + j) by omega]
            exact this
          · cases hz
    | nils =>
      simp only at h
      rw [VRel] at hx
      subst hx
      obtain ⟨x, y, hK, h1, h2, hrun, ha, hb'⟩ := bounds_sound (P := P) (sl := true) (cap := 0) hlo hhi (Nat.le_refl _) h
      have hy : y = 0 := by simpa using h2
      subst hy
      have hx0 : x = 0 := by omega
      subst hx0
      exact ⟨_, _, hK, run _ _ _ _ _ hrun, by rw [VRel]; simp⟩
    | _ => cases h
  · rename_i len e hk
    rw [hk] at hkk
    simp only [kindOk] at hkk
    subst hkk
    replace h := bindO_some h; obtain ⟨ei, hei, h⟩ := h
    obtain ⟨d', info', z', hj⟩ := hT _ ei hei
    have run : ∀ (A : Addr) (a b : Nat), (∀ W, (Instr.sliceBounds false len len vl vh none).run P W = .ok (a, b, len) W) →
        ∀ W, (Instr.sliceAt t (.pointer (some A)) vl vh none).run P W = .ok (.slice (some (if len = a then A else A.add (a * ei.size))) (b - a) (len - a)) W := by
      intro A a b hb W
      simp [Instr.sliceAt, run_underlying hi'.under, Instr.sureAddr, hb, hj.run_sizeOf]
    cases x with
    | ptr n off =>
      simp only at h
      rw [VRel] at hx
      obtain ⟨b, hb, rfl, hlv⟩ := hx
      rw [← hs] at h
      split at h
      · rename_i ty l hg
        replace h := cond_none h; obtain ⟨hc, h⟩ := h
        simp only [Bool.and_eq_true] at hc
        obtain ⟨⟨ho, hl⟩, hse⟩ := hc
        have ho := beq_of ho
        have hl := beq_of hl
        have hse := beq_of hse
        subst ho
        subst hl
        rcases obj_arr hh hg with ⟨hn, _⟩ | ⟨b', c, e, fr, hb', hw, hfr, hlc, hel⟩
        · rw [hn] at hb; cases hb
        · obtain rfl : b = b' := Option.some.inj (hb.symm.trans hb')
          obtain ⟨x, y, hK, h1, h2, hrun, ha, hb''⟩ := bounds_sound (P := P) (sl := false) (cap := l.length) hlo hhi (Nat.le_refl _) h
          refine ⟨_, _, hK, run _ _ _ hrun, ?_⟩
          unfold cutOwn
          split
          · obtain rfl := ha rfl
            obtain rfl := hb'' rfl
            rw [VRel]
            refine ⟨ty, l, hg, .inr ⟨b, c, l.length, hb, blkOf_cells hw, Nat.le_refl _, hlc, ?_⟩⟩
            simp [Addr.add]
          · rw [VRel]
            refine ⟨_, l.length - x, rfl, by omega, ?_⟩
            by_cases hxc : l.length = x
            · by_cases hx0 : x = 0
              · refine .inr (.inr ⟨b, hb, ?_, c, blkOf_cells hw, ?_, ?_⟩)
                · simp [hxc, hx0]
                · subst hx0; simpa using hlc
                · rw [hg]; simp only; exact ⟨trivial, by omega⟩
              · exact .inl ⟨by omega, hx0⟩
            · refine .inr (.inr ⟨b, hb, ?_, c, blkOf_cells hw, ?_, ?_⟩)
              · rw [if_neg hxc, addr_cut, hse]; simp
              · rw [Nat.add_sub_cancel' (by omega)]; exact hlc
              · rw [hg]; simp only; exact ⟨trivial, by omega⟩
      · rename_i cs hg
        replace h := cond_none h; obtain ⟨hc, h⟩ := h
        simp only [Bool.and_eq_true] at hc
        obtain ⟨ho, hl⟩ := hc
        have ho := beq_of ho
        have hl := beq_of hl
        subst ho
        obtain ⟨b', c, e, fr, hb', hw, hfr, hv, _⟩ := obj_cells hh hg
        obtain rfl : b = b' := Option.some.inj (hb.symm.trans hb')
        have hcl : c.size = cs.length := by have := hv.length; simpa using this
        obtain ⟨x, y, hK, h1, h2, hrun, ha, hb''⟩ := bounds_sound (P := P) (sl := false) (cap := len) hlo hhi (Nat.le_refl _) h
        refine ⟨_, _, hK, run _ _ _ hrun, ?_⟩
        rw [VRel]
        refine ⟨_, len - x, rfl, by omega, ?_⟩
        have hm : (x + (len - x)) * ei.size ≤ c.size := by rw [Nat.add_sub_cancel' (by omega), hcl, hl]; exact Nat.le_refl _
        have hm2 : (x + (y - x)) * ei.size ≤ cs.length := by rw [hl]; exact Nat.mul_le_mul_right _ (by omega)
        by_cases hxc : len = x
        · by_cases hx0 : x = 0
          · refine .inr (.inr ⟨b, hb, ?_, c, blkOf_cells hw, hm, ?_⟩)
            · simp [hxc, hx0]
            · rw [hg]; exact hm2
          · exact .inl ⟨by omega, hx0⟩
        · refine .inr (.inr ⟨b, hb, ?_, c, blkOf_cells hw, hm, ?_⟩)
          · rw [if_neg hxc, addr_cut]; simp
          · rw [hg]; exact hm2
      · cases h
    | _ => cases h
  · cases h

/-! ### Equality -/
theorem VRel.ptrs {x y : AV} {u v : Value} (hx : VRel C x u) (hy : VRel C y v) {b : Bool} (h : eqPtr x y = some b) (d t e : Nat) (ht : P.underlying t = some (.pointer e)) (w : World) :
    (Op.equalIn (d + 1) t u v).run P w = .ok b w := by
  unfold eqPtr at h
  split at h <;> first | (cases h; done) | skip
  all_goals
    obtain rfl := Option.some.inj h
    simp only [VRel] at hx hy
  · subst hx; subst hy; simp [Op.equalIn, run_underlying ht]
  · subst hx; obtain ⟨b, _, rfl, _⟩ := hy; simp [Op.equalIn, run_underlying ht]
  · subst hy; obtain ⟨b, _, rfl, _⟩ := hx; simp [Op.equalIn, run_underlying ht]
  · subst hx; obtain ⟨b, _, _, _, _, rfl⟩ := hy; simp [Op.equalIn, run_underlying ht]
  · subst hy; obtain ⟨b, _, _, _, _, rfl⟩ := hx; simp [Op.equalIn, run_underlying ht]
  · subst hx; obtain ⟨b, _, _, _, _, _, rfl⟩ := hy; simp [Op.equalIn, run_underlying ht]
  · subst hy; obtain ⟨b, _, _, _, _, _, rfl⟩ := hx; simp [Op.equalIn, run_underlying ht]

theorem VRel.maps {x y : AV} {u v : Value} (hx : VRel C x u) (hy : VRel C y v) {b : Bool} (h : eqMap x y = some b) (d t k e : Nat) (ht : P.underlying t = some (.map k e)) (w : World) :
    (Op.equalIn (d + 1) t u v).run P w = .ok b w := by
  unfold eqMap at h
  split at h <;> first | (cases h; done) | skip
  all_goals
    obtain rfl := Option.some.inj h
    simp only [VRel] at hx hy
  · subst hx; subst hy; simp [Op.equalIn, run_underlying ht]
  · subst hx; obtain ⟨b, _, rfl, _⟩ := hy; simp [Op.equalIn, run_underlying ht]
  · subst hy; obtain ⟨b, _, rfl, _⟩ := hx; simp [Op.equalIn, run_underlying ht]

theorem toList_str (s : List UInt8) : (⟨s.toArray⟩ : ByteArray).toList = s := by rw [ByteArray.toList_eq]
theorem data_str (s : List UInt8) : (⟨s.toArray⟩ : ByteArray).data.toList = s := by simp
theorem size_str (s : List UInt8) : (⟨s.toArray⟩ : ByteArray).size = s.length := by simp [ByteArray.size]

theorem VRel.scs {zero : List AV} {dd : TypeDesc} {x y : AV} {u v : Value} (hx : VRel C x u) (hy : VRel C y v) {b : Bool} (h : eqSc zero x y = some b) (hk : scDesc zero dd = true) (d t : Nat)
    (ht : P.underlying t = some dd) (w : World) : (Op.equalIn (d + 1) t u v).run P w = .ok b w := by
  unfold eqSc at h
  split at h <;> first | (cases h; done) | skip
  · obtain rfl := Option.some.inj h
    simp only [VRel] at hx hy
    subst hx; subst hy
    cases dd <;> simp_all [scDesc]
    simp [Op.equalIn, run_underlying ht]
  · split at h
    · rename_i hkk _
      obtain rfl := Option.some.inj h
      simp only [VRel] at hx hy
      subst hx; subst hy
      cases dd <;> simp_all [scDesc]
      simp [Op.equalIn, run_underlying ht]
    · cases h
  · obtain rfl := Option.some.inj h
    simp only [VRel] at hx hy
    subst hx; subst hy
    cases dd <;> simp_all [scDesc]
    rw [run_equalIn_string w d t _ _ ht, toList_str, toList_str]
  · obtain rfl := Option.some.inj h
    simp only [VRel] at hx hy
    subst hx; subst hy
    cases dd <;> simp_all [scDesc]
    simp [Op.equalIn, run_underlying ht]
  · obtain rfl := Option.some.inj h
    simp only [VRel] at hx hy
    subst hx; obtain ⟨_, _, rfl, _⟩ := hy
    cases dd <;> simp_all [scDesc]
    simp [Op.equalIn, run_underlying ht]
  · obtain rfl := Option.some.inj h
    simp only [VRel] at hx hy
    subst hy; obtain ⟨_, _, rfl, _⟩ := hx
    cases dd <;> simp_all [scDesc]
    simp [Op.equalIn, run_underlying ht]
  · obtain rfl := Option.some.inj h
    simp only [VRel] at hx hy
    subst hx; obtain ⟨_, rfl, _⟩ := hy
    cases dd <;> simp_all [scDesc]
    simp [Op.equalIn, run_underlying ht]
  · obtain rfl := Option.some.inj h
    simp only [VRel] at hx hy
    subst hy; obtain ⟨_, rfl, _⟩ := hx
    cases dd <;> simp_all [scDesc]
    simp [Op.equalIn, run_underlying ht]
end Go.AE
namespace Go.AE
variable {P : Program} {T : Tab} {C : Cx}

theorem kind_struct {zero : List AV} {fs : List (Nat × Nat)} {d : TypeDesc} (h : kindOk zero (.struct fs) d) :
    ∃ fields, d = .struct fields ∧ fields.toList.map (fun f => (f.type, f.offset)) = fs ∧ fields.toList.all (fun f => f.name != "_") = true := h

theorem cellsOf_info [BT] {t : Nat} {i : TI} {d : TypeDesc} {info : TypeInfo} {z : Value} (hi : TIok P t i d info z) : P.cellsOf t = i.size := by
  simp [Program.cellsOf, hi.inf, hi.size]

mutual
theorem eqV_sound [BT] (hT : TabOk P T) (w : World) : ∀ {d : Nat} {t : Nat} {x y : AV} {u v : Value} {b : Bool}, eqV T d t x y = some b → VRel C x u → VRel C y v → ∀ D, d ≤ D →
    (Op.equalIn D t u v).run P w = .ok b w
  | 0, _, _, _, _, _, _, h, _, _, _, _ => by rw [eqV] at h; cases h
  | d + 1, t, x, y, u, v, b, h, hx, hy, D, hD => by
    obtain ⟨D, rfl⟩ : ∃ m, D = m + 1 := ⟨D - 1, by omega⟩
    unfold eqV at h
    split at h
    · cases h
    · rename_i i hti
      obtain ⟨dd, info, z, hi⟩ := hT t i hti
      have hk := hi.kind
      split at h
      · rename_i hkk
        rw [hkk] at hk
        exact VRel.scs hx hy h hk D t hi.under w
      · rename_i e hkk
        rw [hkk] at hk
        obtain ⟨rfl, _⟩ := hk
        exact VRel.ptrs hx hy h D t e hi.under w
      · rename_i k e hkk
        rw [hkk] at hk
        obtain ⟨rfl, _⟩ := hk
        exact VRel.maps hx hy h D t k e hi.under w
      · rename_i e hkk
        rw [hkk] at hk
        obtain ⟨rfl, _⟩ := hk
        unfold eqSlice at h
        split at h
        · obtain rfl := Option.some.inj h
          simp only [VRel] at hx hy
          subst hx; subst hy
          simp [Op.equalIn, run_underlying hi.under]
        · cases h
      · rename_i fs hkk
        split at h
        · rename_i hno
          split at h
          · rename_i xs ys
            rw [VRel] at hx hy
            obtain ⟨us, rfl, hus⟩ := hx
            obtain ⟨vs, rfl, hvs⟩ := hy
            rw [hkk] at hk
            obtain ⟨fields, rfl, hm, hn⟩ := hk
            have hag : i.isAgg = true := by simp [TI.isAgg, hkk]
            have hf : P.fieldsOf t = fields := by simp [Program.fieldsOf, hi.under]
            rw [run_equalIn_struct w D t us vs (by rw [hf]; exact hi.under) (hi.stood hag hno).1, hf]
            rw [← hm] at h
            exact eqFs_sound hT w h hus hvs hn D (by omega)
          · cases h
        · cases h
      · rename_i n e hkk
        split at h
        · split at h
          · rename_i xs ys
            rw [VRel] at hx hy
            obtain ⟨us, rfl, hus⟩ := hx
            obtain ⟨vs, rfl, hvs⟩ := hy
            rw [hkk] at hk
            simp only [kindOk] at hk
            subst hk
            split at h
            · rename_i j hej
              obtain ⟨d', info', z', hj⟩ := hT e j hej
              rw [run_equalIn_array w D us vs hi.under hj.inf, cellsOf_info hj]
              exact eqAs_sound hT w h hus hvs D (by omega)
            · cases h
          · cases h
        · cases h
theorem eqFs_sound [BT] (hT : TabOk P T) (w : World) : ∀ {d : Nat} {fields : List Field} {xs ys : List AV} {us vs : Array Value} {b : Bool},
    eqFs T d (fields.map fun f => (f.type, f.offset)) xs ys = some b → VRels C xs us.toList → VRels C ys vs.toList → fields.all (fun f => f.name != "_") = true → ∀ D, d ≤ D →
    (Op.eqFields D us vs fields).run P w = .ok b w
  | 0, _, _, _, _, _, _, h, _, _, _, _, _ => by rw [eqFs] at h; cases h
  | _ + 1, [], _, _, _, _, _, h, _, _, _, _, _ => by
    rw [List.map_nil, eqFs] at h
    obtain rfl := Option.some.inj h
    simp [Op.eqFields]
  | d + 1, f :: r, xs, ys, us, vs, b, h, hx, hy, hn, D, hD => by
    rw [List.map_cons, eqFs] at h
    simp only [List.all_cons, Bool.and_eq_true] at hn
    have hname : f.name ≠ "_" := by simpa using hn.1
    split at h
    · rename_i p q hp hq
      obtain ⟨u, hu, hru⟩ := partAt_sound hT hx hp
      obtain ⟨v, hv, hrv⟩ := partAt_sound hT hy hq
      split at h
      · rename_i b1 hb1
        have he := eqV_sound hT w hb1 hru hrv D (by omega)
        split at h
        · rename_i b2 hb2
          obtain rfl := Option.some.inj h
          have hr := eqFs_sound hT w hb2 hx hy hn.2 D (by omega)
          simp only [Op.eqFields, ne_eq, hname, not_false_eq_true, if_true, Sem.run_bind, hu, hv, he, Result.andThen_ok]
          cases b1 <;> simp [hr]
        · cases h
      · cases h
    · cases h
theorem eqAs_sound [BT] (hT : TabOk P T) (w : World) : ∀ {d : Nat} {is : List Nat} {e sz : Nat} {xs ys : List AV} {us vs : Array Value} {b : Bool},
    eqAs T d is e sz xs ys = some b → VRels C xs us.toList → VRels C ys vs.toList → ∀ D, d ≤ D →
    (Op.eqItems D e sz us vs is).run P w = .ok b w
  | 0, _, _, _, _, _, _, _, _, h, _, _, _, _ => by rw [eqAs] at h; cases h
  | _ + 1, [], _, _, _, _, _, _, _, h, _, _, _, _ => by
    rw [eqAs] at h
    obtain rfl := Option.some.inj h
    simp [Op.eqItems]
  | d + 1, n :: r, e, sz, xs, ys, us, vs, b, h, hx, hy, D, hD => by
    rw [eqAs] at h
    split at h
    · rename_i p q hp hq
      obtain ⟨u, hu, hru⟩ := partAt_sound hT hx hp
      obtain ⟨v, hv, hrv⟩ := partAt_sound hT hy hq
      split at h
      · rename_i b1 hb1
        have he := eqV_sound hT w hb1 hru hrv D (by omega)
        split at h
        · rename_i b2 hb2
          obtain rfl := Option.some.inj h
          have hr := eqAs_sound hT w hb2 hx hy D (by omega)
          simp only [Op.eqItems, Sem.run_bind, hu, hv, he, Result.andThen_ok]
          cases b1 <;> simp [hr]
        · cases h
      · cases h
    · cases h
end

/-! ### Operators -/
theorem intBin_sound {op : BinOp} {k : IntKind} {a b : Int} {K : AV → Ans} {res : AV × List Obj} (hns : isShift op = false) (h : intBin op k a b K = some res) (t : Nat) :
    ∃ r u, K r = some res ∧ (∀ w, (Go.binOp op t (.int k a) (.int k b)).run P w = .ok u w) ∧ VRel C r u := by
  cases op <;> simp only [intBin, isShift, Bool.true_eq_false] at h hns
  case quo =>
    replace h := cond_none' h; obtain ⟨hb, h⟩ := h
    have hb : b ≠ 0 := by simpa using hb
    exact ⟨_, _, h, fun w => by simp [Go.binOp, Op.intDiv, hb]; rfl, by rw [VRel]⟩
  case rem =>
    replace h := cond_none' h; obtain ⟨hb, h⟩ := h
    have hb : b ≠ 0 := by simpa using hb
    exact ⟨_, _, h, fun w => by simp [Go.binOp, Op.intDiv, hb]; rfl, by rw [VRel]⟩
  all_goals exact ⟨_, _, h, fun w => by simp [Go.binOp, Op.intArith, Op.intBits, Op.intCmp] <;> rfl, by rw [VRel]⟩

theorem shiftBin_sound {op : BinOp} {k k' : IntKind} {a b : Int} {K : AV → Ans} {res : AV × List Obj} (hs : isShift op = true) (h : shiftBin op k a b K = some res) (t : Nat) :
    ∃ r u, K r = some res ∧ (∀ w, (Go.binOp op t (.int k a) (.int k' b)).run P w = .ok u w) ∧ VRel C r u := by
  unfold shiftBin at h
  replace h := cond_none' h; obtain ⟨hb, h⟩ := h
  have hb : ¬ b < 0 := by simpa using hb
  cases op <;> first | (cases hs; done) | skip
  all_goals exact ⟨_, _, h, fun w => by simp [Go.binOp, Op.shift, hb]; rfl, by rw [VRel]⟩

theorem strBin_sound {op : BinOp} {a b : List UInt8} {K : AV → Ans} {res : AV × List Obj} (h : strBin op a b K = some res) (t : Nat) :
    ∃ r u, K r = some res ∧ (∀ w, (Go.binOp op t (.string ⟨a.toArray⟩) (.string ⟨b.toArray⟩)).run P w = .ok u w) ∧ VRel C r u := by
  cases op <;> simp only [strBin] at h <;> first | (cases h; done) | skip
  case add =>
    replace h := cond_none h; obtain ⟨hl, h⟩ := h
    have hl := Nat.le_of_ble_eq_true hl
    refine ⟨_, .string ⟨(a ++ b).toArray⟩, h, ?_, by rw [VRel]⟩
    have hn : ¬ (((⟨a.toArray⟩ : ByteArray).size + (⟨b.toArray⟩ : ByteArray).size : Nat) : Int) > IntKind.i64.max := by
      rw [size_str, size_str]
      simp [IntKind.max, IntKind.signed, IntKind.bits]
      omega
    have happ : (⟨a.toArray⟩ : ByteArray) ++ ⟨b.toArray⟩ = ⟨(a ++ b).toArray⟩ := by apply ByteArray.ext; simp
    intro w
    simp only [Go.binOp, Op.stringOp, if_neg hn, happ]
    simp
  all_goals exact ⟨_, _, h, fun w => by simp only [Go.binOp, Op.stringOp, toList_str]; rfl, by rw [VRel]⟩

theorem binOp_sound [BT] (hT : TabOk P T) {op : BinOp} {t : Nat} {x y : AV} {u v : Value} (hx : VRel C x u) (hy : VRel C y v) {K : AV → Ans} {res : AV × List Obj}
    (h : binOp T op t x y K = some res) (ox oy : Operand) :
    ∃ r z, K r = some res ∧ (∀ w, (do eqGuard op t ox oy u v; Go.binOp op t u v : Sem Value).run P w = .ok z w) ∧ VRel C r z := by
  unfold binOp at h
  split at h
  · rename_i k a k' b
    rw [VRel] at hx hy
    subst hx; subst hy
    have hg : ∀ w, (eqGuard op t ox oy (.int k a) (.int k' b)).run P w = .ok () w := by intro w; cases op <;> simp [eqGuard]
    cases hs : isShift op with
    | true =>
      rw [hs] at h
      obtain ⟨r, z, hK, hr, hv⟩ := shiftBin_sound (C := C) (k' := k') hs h t
      exact ⟨r, z, hK, fun w => by rw [Sem.run_bind, hg]; exact hr w, hv⟩
    | false =>
      rw [hs] at h
      simp only [cond_false] at h
      split at h
      · rename_i hk _
        subst hk
        obtain ⟨r, z, hK, hr, hv⟩ := intBin_sound (C := C) hs h t
        exact ⟨r, z, hK, fun w => by rw [Sem.run_bind, hg]; exact hr w, hv⟩
      · cases h
  · rename_i a b
    rw [VRel] at hx hy
    subst hx; subst hy
    have hg : ∀ w, (eqGuard op t ox oy (.string ⟨a.toArray⟩) (.string ⟨b.toArray⟩)).run P w = .ok () w := by intro w; cases op <;> simp [eqGuard]
    obtain ⟨r, z, hK, hr, hv⟩ := strBin_sound (C := C) h t
    exact ⟨r, z, hK, fun w => by rw [Sem.run_bind, hg]; exact hr w, hv⟩
  · rename_i hni hns
    have main : ∀ b, eqV T 40 t x y = some b → ∀ w, ((eqGuard .eql t ox oy u v).run P w = .ok () w ∧ (eqGuard .neq t ox oy u v).run P w = .ok () w) ∧ (Go.binOp .eql t u v).run P w = .ok (.bool b) w ∧ (Go.binOp .neq t u v).run P w = .ok (.bool (!b)) w := by
      intro b hb w
      have hq : (Op.equal t u v).run P w = .ok b w := eqV_sound hT w hb hx hy 10000 (by omega)
      have hcases : (∃ p q, x = .bool p ∧ y = .bool q) ∨ (∃ p q, x = .agg p ∧ y = .agg q ∧ P.eqGuardType P.depth t = false) ∨
          ((u = .pointer none ∨ (∃ a, u = .pointer a) ∨ u = .slice none 0 0 ∨ (∃ r, u = .map r) ∨ u = .nilFunc ∨ (∃ f a b, u = .func f a b) ∨ (∃ a b, u = .iface a b)) ∨
           (u = .nilIface ∧ ∃ a b, v = .iface a b)) := by
        unfold eqV at hb
        split at hb
        · cases hb
        · rename_i i hti
          obtain ⟨dd, info, z, hi⟩ := hT t i hti
          split at hb
          · unfold eqSc at hb
            split at hb <;> first | (cases hb; done) | skip
            · exact .inl ⟨_, _, rfl, rfl⟩
            · exact absurd rfl (hni _ _ _ _ rfl)
            · exact absurd rfl (hns _ _ rfl)
            · rw [VRel] at hx; exact .inr (.inr (.inl (by simp [hx])))
            · rw [VRel] at hx; exact .inr (.inr (.inl (by simp [hx])))
            · rw [VRel] at hx; obtain ⟨a, b, rfl, _⟩ := hx; exact .inr (.inr (.inl (by simp)))
            · simp only [VRel] at hx hy; obtain ⟨a, rfl, _⟩ := hy; exact .inr (.inr (.inr ⟨hx, _, _, rfl⟩))
            · simp only [VRel] at hx; obtain ⟨a, rfl, _⟩ := hx; exact .inr (.inr (.inl (by simp)))
          · unfold eqPtr at hb
            split at hb <;> first | (cases hb; done) | skip
            all_goals (simp only [VRel] at hx; refine .inr (.inr (.inl ?_)))
            · simp [hx]
            · simp [hx]
            · obtain ⟨_, _, rfl, _⟩ := hx; simp
            · simp [hx]
            · obtain ⟨_, _, _, _, _, rfl⟩ := hx; simp
            · simp [hx]
            · obtain ⟨_, _, _, _, _, _, rfl⟩ := hx; simp
          · unfold eqMap at hb
            split at hb <;> first | (cases hb; done) | skip
            all_goals (simp only [VRel] at hx; refine .inr (.inr (.inl ?_)))
            · simp [hx]
            · simp [hx]
            · obtain ⟨_, _, rfl, _⟩ := hx; simp
          · unfold eqSlice at hb
            split at hb <;> first | (cases hb; done) | skip
            rw [VRel] at hx; exact .inr (.inr (.inl (by simp [hx])))
          · rename_i fs hkk
            split at hb
            · rename_i hno
              split at hb
              · exact .inr (.inl ⟨_, _, rfl, rfl, (hi.stood (by simp [TI.isAgg, hkk]) hno).2⟩)
              · cases hb
            · cases hb
          · rename_i n e hkk
            split at hb
            · rename_i hno
              split at hb
              · exact .inr (.inl ⟨_, _, rfl, rfl, (hi.stood (by simp [TI.isAgg, hkk]) hno).2⟩)
              · cases hb
            · cases hb
      rcases hcases with ⟨p, q, rfl, rfl⟩ | ⟨p, q, rfl, rfl, hgt⟩ | (hu | ⟨rfl, a, b', rfl⟩)
      · rw [VRel] at hx hy
        subst hx; subst hy
        exact ⟨by simp [eqGuard], by simp [Go.binOp, hq]⟩
      · rw [VRel] at hx hy
        obtain ⟨us, rfl, _⟩ := hx
        obtain ⟨vs, rfl, _⟩ := hy
        exact ⟨⟨run_eqGuard_agg w .eql t ox oy us vs hgt, run_eqGuard_agg w .neq t ox oy us vs hgt⟩, by simp [Go.binOp, hq]⟩
      · rcases hu with rfl | ⟨a, rfl⟩ | rfl | ⟨r, rfl⟩ | rfl | ⟨f, a, b', rfl⟩ | ⟨a, b', rfl⟩
        all_goals exact ⟨by simp [eqGuard], by cases v <;> simp [Go.binOp, hq]⟩
      · exact ⟨by simp [eqGuard], by simp [Go.binOp, hq]⟩
    split at h
    · replace h := bindO_some h; obtain ⟨b, hb, h⟩ := h
      exact ⟨_, .bool b, h, fun w => by rw [Sem.run_bind, (main b hb w).1.1]; exact (main b hb w).2.1, by rw [VRel]⟩
    · replace h := bindO_some h; obtain ⟨b, hb, h⟩ := h
      exact ⟨_, .bool (!b), h, fun w => by rw [Sem.run_bind, (main b hb w).1.2]; exact (main b hb w).2.2, by rw [VRel]⟩
    · cases h
theorem nilBin_sound [BT] (hT : TabOk P T) {op : BinOp} {t : Nat} {x y : AV} {u v : Value} (hx : VRel C x u) (hy : VRel C y v) {K : AV → Ans} {res : AV × List Obj}
    (ox oy : Operand) (h : nilBin T op t (isConst ox || isConst oy) x y K = some res) :
    ∃ r z, K r = some res ∧ (∀ w, (do eqGuard op t ox oy u v; Go.binOp op t u v : Sem Value).run P w = .ok z w) ∧ VRel C r z := by
  unfold nilBin at h
  split at h
  · split at h
    · replace h := cond_none h; obtain ⟨hc, h⟩ := h
      replace h := bindO_some h; obtain ⟨i, hti, h⟩ := h
      obtain ⟨dd, info, z, hi⟩ := hT t i hti
      rw [VRel] at hx hy
      subst hx; subst hy
      split at h
      · rename_i hk
        split at h
        · rename_i hz
          have hkind := hi.kind
          rw [hk, hz] at hkind
          have hd : ∃ ms, dd = .interface ms := by
            unfold kindOk at hkind
            cases dd <;> simp_all [scDesc]
          obtain ⟨ms, rfl⟩ := hd
          have hq0 : ∀ d w, (Op.equalIn (d + 1) t .nilIface .nilIface).run P w = .ok true w := fun d w => by
            simp [Op.equalIn, run_underlying hi.under]
          have hq : ∀ w, (Op.equal t .nilIface .nilIface).run P w = .ok true w := fun w => hq0 9999 w
          have hg : ∀ o w, (eqGuard o t ox oy .nilIface .nilIface).run P w = .ok () w := by
            intro o w
            cases ox <;> cases oy <;> simp [isConst] at hc <;> cases o <;> simp [eqGuard]
          split at h
          · exact ⟨_, .bool true, h, fun w => by rw [Sem.run_bind, hg]; simp [Go.binOp, hq], by rw [VRel]⟩
          · exact ⟨_, .bool false, h, fun w => by rw [Sem.run_bind, hg]; simp [Go.binOp, hq], by rw [VRel]⟩
          · cases h
        · cases h
      · cases h
    · exact binOp_sound hT (by rw [VRel]; rw [VRel] at hx; exact hx) hy h ox oy
  · exact binOp_sound hT hx hy h ox oy
end Go.AE
namespace Go.AE
variable {P : Program} {T : Tab} {C : Cx}

theorem putCells_rel {cs new r : List AV} {vs us : List Value} {off : Nat} (h : putCells cs off new = some r) (hv : VRels C cs vs) (hu : VRels C new us) :
    VRels C r (vs.take off ++ us ++ vs.drop (off + us.length)) ∧ off + us.length ≤ vs.length ∧ r.length = cs.length := by
  unfold putCells at h
  split at h
  · cases h
  · rename_i a ha
    split at h
    · cases h
    · rename_i b hb
      cases h
      obtain ⟨rfl, h1⟩ := takeN_eq ha
      obtain ⟨_, h2⟩ := takeN_eq hb
      have hl := hv.length
      have hul := hu.length
      simp only [List.length_drop] at h2
      refine ⟨?_, by omega, ?_⟩
      · have := VRels.append (VRels.append (hv.take off) hu) ((hv.drop off).drop us.length)
        rw [← hul]
        simp only [List.drop_drop] at this ⊢
        exact this
      · simp; omega

theorem foldl_set (off : Nat) : ∀ (l : List Value) (k : Nat) (cs : Array Value), off + k + l.length ≤ cs.size →
    ((l.zipIdx k).foldl (fun cs (x : Value × Nat) => cs.setIfInBounds (off + x.2) x.1) cs).toList = cs.toList.take (off + k) ++ l ++ cs.toList.drop (off + k + l.length)
  | [], k, cs, h => by simp
  | v :: l, k, cs, h => by
    rw [List.zipIdx_cons, List.foldl_cons, foldl_set off l (k + 1) _ (by simp at h ⊢; omega)]
    simp only [Array.toList_setIfInBounds, List.length_cons] at h ⊢
    have hlt : off + k < cs.toList.length := by simp; omega
    rw [List.take_set, List.drop_set_of_lt (by omega)]
    rw [show off + (k + 1) = off + k + 1 by omega, List.take_succ_eq_append_getElem hlt]
    rw [show off + k + 1 + l.length = off + k + (l.length + 1) by omega]
    rw [List.set_append_right _ _ (by simp; omega)]
    have hm : off + k - (List.take (off + k) cs.toList).length = 0 := by simp; omega
    rw [hm]
    simp

theorem cellsOf_rel {a : AV} {v : Value} (h : VRel C a v) (hok : allOk a.cellsOf = true) : VRels C a.cellsOf v.cells.toList ∧ ∀ u ∈ v.cells.toList, u.oneCell' = true := by
  have one : ∀ {a : AV} {v : Value}, VRel C a v → a.cellOk = true → v.oneCell' = true := by
    intro a v h hk
    cases a <;> simp only [VRel, AV.cellOk] at h hk <;> first
      | (cases hk; done)
      | (subst h; rfl)
      | (rename_i i; obtain ⟨t, l, _, h⟩ := h; rcases h with ⟨_, _, h⟩ | ⟨_, _, _, _, _, _, _, h⟩ <;> (rw [h]; rfl))
      | (obtain ⟨b, _, rfl, _⟩ := h; rfl)
      | (obtain ⟨b, t, l, _, _, rfl⟩ := h; rfl)
      | (obtain ⟨b, o, us, _, _, _, rfl⟩ := h; rfl)
      | (obtain ⟨A, cap, rfl, _⟩ := h; rfl)
      | (obtain ⟨A, cap, rfl, _, _⟩ := h; rfl)
      | (obtain ⟨a', b', rfl, _, _⟩ := h; rfl)
      | (obtain ⟨y, rfl, _⟩ := h; rfl)
      | (rw [DRel] at h; obtain ⟨A, c, hv, _⟩ := h; simp at hv; subst hv; rfl)
  have ones : ∀ {l : List AV} {vs : List Value}, VRels C l vs → allOk l = true → ∀ u ∈ vs, u.oneCell' = true := by
    intro l
    induction l with
    | nil => intro vs h _ u hu; rw [VRels] at h; subst h; cases hu
    | cons x r ih =>
      intro vs h hk u hu
      rw [VRels] at h
      obtain ⟨v, vs', rfl, hv, hr⟩ := h
      simp only [allOk, Bool.and_eq_true] at hk
      cases hu with
      | head => exact one hv hk.1
      | tail _ hm => exact ih hr hk.2 u hm
  by_cases hagg : ∃ cs, a = .agg cs
  · obtain ⟨cs, rfl⟩ := hagg
    rw [VRel] at h
    obtain ⟨vs, rfl, hv⟩ := h
    exact ⟨hv, ones hv hok⟩
  · have hc : a.cellsOf = [a] := by cases a <;> first | rfl | exact absurd ⟨_, rfl⟩ hagg
    rw [hc] at hok ⊢
    simp only [allOk, Bool.and_true] at hok
    have h1 := one h hok
    have hvc : v.cells = #[v] := by cases v <;> first | rfl | simp [Value.oneCell'] at h1
    rw [hvc]
    exact ⟨by rw [VRels]; exact ⟨v, [], rfl, h, by rw [VRels]⟩, by simpa using h1⟩

theorem fill_sound {place : Nat → Option (Nat × Nat)} {place' : Nat → Option (Nat × Nat)} (hp : ∀ n p, place n = some p → place' n = some p) : ∀ {parts : List (Nat × AV)} {parts' : List (Nat × Value)} {cs r : List AV} {c : Array Value},
    fillCells place cs parts = some r → VRels C cs c.toList → (∀ u ∈ c.toList, u.oneCell' = true) → parts.map (·.1) = parts'.map (·.1) → VRels C (parts.map (·.2)) (parts'.map (·.2)) →
    ∃ c', Instr.fill place' c parts' = some c' ∧ VRels C r c'.toList ∧ (∀ u ∈ c'.toList, u.oneCell' = true) ∧ c'.size = c.size
  | [], parts', cs, r, c, h, hv, h1, hn, _ => by
    cases parts' with
    | cons => simp at hn
    | nil =>
      rw [fillCells] at h
      cases h
      exact ⟨c, rfl, hv, h1, rfl⟩
  | (n, a) :: ps, parts', cs, r, c, h, hv, h1, hn, hr => by
    cases parts' with
    | nil => simp at hn
    | cons q ps' =>
    obtain ⟨n', v⟩ := q
    simp only [List.map_cons, List.cons.injEq] at hn
    obtain ⟨rfl, hn⟩ := hn
    simp only [List.map_cons] at hr
    rw [VRels] at hr
    obtain ⟨v', vs', he, hav, hr⟩ := hr
    simp only [List.cons.injEq] at he
    obtain ⟨rfl, rfl⟩ := he
    rw [fillCells] at h
    split at h
    · cases h
    · rename_i off size hpl
      cases hc : (Nat.beq a.cellsOf.length size && allOk a.cellsOf) with
      | false => rw [hc] at h; cases h
      | true =>
        rw [hc] at h
        simp only [cond_true] at h
        simp only [Bool.and_eq_true] at hc
        have hsz := beq_of hc.1
        obtain ⟨hcv, hco⟩ := cellsOf_rel hav hc.2
        split at h
        · rename_i cs' hcs'
          obtain ⟨p1, p2, p3⟩ := putCells_rel hcs' hv hcv
          have hvl := hcv.length
          simp only [Array.length_toList] at hvl p2
          have hfold : (v.cells.zipIdx.foldl (fun cs (x : Value × Nat) => cs.setIfInBounds (off + x.2) x.1) c).toList = c.toList.take off ++ v.cells.toList ++ c.toList.drop (off + v.cells.size) := by
            rw [← Array.foldl_toList, Array.toList_zipIdx]
            have := foldl_set off v.cells.toList 0 c (by simp; omega)
            simpa using this
          have hok' : ∀ u ∈ (v.cells.zipIdx.foldl (fun cs (x : Value × Nat) => cs.setIfInBounds (off + x.2) x.1) c).toList, u.oneCell' = true := by
            rw [hfold]
            intro u hu
            simp only [List.mem_append] at hu
            rcases hu with (hu | hu) | hu
            · exact h1 u (List.mem_of_mem_take hu)
            · exact hco u hu
            · exact h1 u (List.mem_of_mem_drop hu)
          obtain ⟨c', hf, hrel, hone, hsize⟩ := fill_sound hp h (c := v.cells.zipIdx.foldl (fun cs (x : Value × Nat) => cs.setIfInBounds (off + x.2) x.1) c) (by rw [hfold]; simpa using p1) hok' hn hr
          refine ⟨c', ?_, hrel, hone, ?_⟩
          · have e1 : ¬ (v.cells.size ≠ size || off + v.cells.size > c.size) = true := by
              simp
              omega
            rw [Instr.fill, hp _ _ hpl]
            simp only
            rw [if_neg e1]
            exact hf
          · rw [hsize, ← Array.length_toList, hfold]
            simp
            omega
        · cases h

theorem opds_parts {env : Tmps} {a : Act} (h : ERel C env a.tmps) (l : List (Nat × Operand)) :
    (l.map fun (j, x) => (j, opd env x)).map (·.1) = (l.map fun (j, x) => (j, a.eval x)).map (·.1) ∧ VRels C ((l.map fun (j, x) => (j, opd env x)).map (·.2)) ((l.map fun (j, x) => (j, a.eval x)).map (·.2)) := by
  induction l with
  | nil => simp [VRels]
  | cons p r ih =>
    obtain ⟨j, x⟩ := p
    simp only [List.map_cons, List.map_map] at ih ⊢
    exact ⟨by rw [ih.1], by rw [VRels]; exact ⟨_, _, rfl, opd_rel h x, ih.2⟩⟩

theorem zero_rel (l : List AV) (h : l.all AV.isZero = true) : VRels C l (l.map conc0) := by
  induction l with
  | nil => simp [VRels]
  | cons x r ih =>
    simp only [List.all_cons, Bool.and_eq_true] at h
    rw [List.map_cons, VRels]
    refine ⟨_, _, rfl, ?_, ih h.2⟩
    cases x <;> simp_all [AV.isZero, VRel, conc0]
theorem zero_one (l : List AV) (h : l.all AV.isZero = true) : ∀ u ∈ l.map conc0, u.oneCell' = true := by
  intro u hu
  obtain ⟨x, hx, rfl⟩ := List.mem_map.1 hu
  have := List.all_eq_true.1 h x hx
  cases x <;> simp_all [AV.isZero, conc0, Value.oneCell']

/-- A struct or an array, put together. -/
theorem build_sound [BT] (hT : TabOk P T) {t : Nat} {i : TI} (hti : Tab.get T t = some i) (hok : buildOk T i = true) {z0 : List AV} {z : Value} (hz : ∀ W, (zeroValue t).run P W = .ok z W)
    (hz0 : VRels C z0 z.cells.toList) (hz1 : ∀ u ∈ z.cells.toList, u.oneCell' = true)
    {parts : List (Nat × AV)} {parts' : Array (Nat × Value)} (hn : parts.map (·.1) = parts'.toList.map (·.1)) (hv : VRels C (parts.map (·.2)) (parts'.toList.map (·.2))) {cs : List AV}
    (h : fillCells (placeOf T i) z0 parts = some cs) : ∃ u, (∀ W, (Instr.build t parts').run P W = .ok u W) ∧ VRel C (.agg cs) u := by
  obtain ⟨d, info, z', hi⟩ := hT t i hti
  have hk := hi.kind
  unfold buildOk at hok
  split at hok
  · rename_i fs hkk
    rw [hkk] at hk
    obtain ⟨fields, rfl, hm, _⟩ := hk
    have hsz : ∀ f ∈ fields.toList, ∃ j, Tab.get T f.type = some j := by
      intro f hf
      have : (f.type, f.offset) ∈ fs := by rw [← hm]; exact List.mem_map.2 ⟨f, hf, rfl⟩
      have := List.all_eq_true.1 hok _ this
      exact Option.isSome_iff_exists.1 this
    have hmap : ∀ (l : List Field), (∀ f : Field, f ∈ l → ∃ j, Tab.get T f.type = some j) → ∃ ps : List (Nat × Nat), (∀ W, (l.mapM fun (f : Field) => (do pure (f.offset, ← sizeOf f.type) : Sem (Nat × Nat))).run P W = .ok ps W) ∧
        ∀ (n : Nat) (f : Field) (j : TI), l[n]? = some f → Tab.get T f.type = some j → ps[n]? = some (f.offset, j.size) := by
      intro l
      induction l with
      | nil => intro _; exact ⟨[], by simp, by simp⟩
      | cons f r ih =>
        intro hl
        obtain ⟨ps, hr, hps⟩ := ih fun g hg => hl g (List.mem_cons_of_mem _ hg)
        obtain ⟨j, hj⟩ := hl f (List.mem_cons_self ..)
        obtain ⟨d', info', z'', hj'⟩ := hT _ j hj
        refine ⟨(f.offset, j.size) :: ps, fun W => by rw [List.mapM_cons]; simp only [Sem.run_bind, hj'.run_sizeOf, Result.andThen_ok, Sem.run_pure, hr], ?_⟩
        intro n g k hg hk
        cases n with
        | zero => simp at hg; subst hg; rw [hj] at hk; cases hk; rfl
        | succ n => simpa using hps n g k (by simpa using hg) hk
    obtain ⟨ps, hps, hpl⟩ := hmap fields.toList hsz
    have hmA : ∀ W, (fields.mapM fun (f : Field) => (do pure (f.offset, ← sizeOf f.type) : Sem (Nat × Nat))).run P W = .ok ps.toArray W := by
      intro W
      rw [Array.mapM_eq_mapM_toList]
      simp only [Sem.run_map, hps, Result.andThen_ok]
    have hplace : ∀ n p, placeOf T i n = some p → ps.toArray[n]? = some p := by
      intro n p hp
      unfold placeOf at hp
      rw [hkk] at hp
      simp only at hp
      split at hp
      · rename_i ft off hf
        split at hp
        · rename_i j hj
          cases hp
          rw [← hm, List.getElem?_map] at hf
          cases hg : fields.toList[n]? with
          | none => rw [hg] at hf; cases hf
          | some f =>
            rw [hg] at hf
            simp at hf
            obtain ⟨rfl, rfl⟩ := hf
            simpa using hpl n f j hg hj
        · cases hp
      · cases hp
    obtain ⟨c', hf, hrel, _, _⟩ := fill_sound hplace h hz0 hz1 hn hv
    refine ⟨.agg c', ?_, by rw [VRel]; exact ⟨_, rfl, hrel⟩⟩
    intro W
    simp only [Instr.build, Sem.run_bind, hz, Result.andThen_ok, run_underlying hi.under, hmA, hf, Sem.run_pure]
  · rename_i n e hkk
    rw [hkk] at hk
    simp only [kindOk] at hk
    subst hk
    -- of an array
    have hplace : ∀ ej, Tab.get T e = some ej → ∀ n p, placeOf T i n = some p → (fun i => some (i * ej.size, ej.size)) n = some p := by
      intro ej hej n p hp
      unfold placeOf at hp
      rw [hkk] at hp
      simp only [hej] at hp
      exact hp
    cases hej : Tab.get T e with
    | none => rw [hej] at hok; cases hok
    | some ej =>
      obtain ⟨d', info', z'', hj⟩ := hT e ej hej
      obtain ⟨c', hf, hrel, _, _⟩ := fill_sound (hplace ej hej) h hz0 hz1 hn hv
      refine ⟨.agg c', ?_, by rw [VRel]; exact ⟨_, rfl, hrel⟩⟩
      intro W
      simp only [Instr.build, Sem.run_bind, hz, Result.andThen_ok, run_underlying hi.under, hj.run_sizeOf, hf, Sem.run_pure]
  · cases hok
end Go.AE
namespace Go.AE
variable {P : Program} {T : Tab} {C : Cx}

theorem unOp_sound {op : UnOp} {x : AV} {u : Value} (hx : VRel C x u) {K : AV → Ans} {res : AV × List Obj} (h : unOp op x K = some res) :
    ∃ r z, K r = some res ∧ (∀ w, (Op.unary op u).run P w = .ok z w) ∧ VRel C r z := by
  unfold unOp at h
  split at h
  · rw [VRel] at hx; subst hx
    exact ⟨_, _, h, fun w => by simp [Op.unary, Op.intArith]; rfl, by rw [VRel]; simp⟩
  · rename_i k n
    rw [VRel] at hx; subst hx
    simp only [intBin] at h
    exact ⟨_, _, h, fun w => by simp only [Op.unary, Op.intBits]; simp; rfl, by rw [VRel]⟩
  · rw [VRel] at hx; subst hx
    exact ⟨_, _, h, fun w => by simp [Op.unary]; rfl, by rw [VRel]⟩
  · cases h

theorem extract_sound {x : AV} {u : Value} (hx : VRel C x u) {i : Nat} {K : AV → Ans} {res : AV × List Obj} (h : extract x i K = some res) :
    ∃ r z, K r = some res ∧ (∀ w, (Instr.extract u i).run P w = .ok z w) ∧ VRel C r z := by
  unfold extract at h
  cases x with
  | tup vs =>
    simp only at h
    rw [VRel] at hx
    obtain ⟨us, rfl, hv⟩ := hx
    replace h := bindO_some h; obtain ⟨a, ha, h⟩ := h
    obtain ⟨v, hv1, hv2⟩ := hv.get ha
    have hv1 : us[i]? = some v := by simpa using hv1
    exact ⟨a, v, h, fun w => by simp [Instr.extract, hv1], hv2⟩
  | _ => cases h

theorem lenOf_sound [BT] (hT : TabOk P T) {s : St} (hs : C.H = s.H) {t : Nat} {x : AV} {u : Value} (hx : VRel C x u) {K : AV → Ans} {res : AV × List Obj} (h : lenOf T t x s K = some res) (hh : HRel C) (ts : Array TypeId)
    (ht0 : ts[0]? = some t) (ty : TypeId) (args : Array Value) (ha0 : args[0]? = some u) : ∃ r z, K r = some res ∧ (∀ W, (Builtin.len_ ts ty args).run P W = .ok z W) ∧ VRel C r z := by
  unfold lenOf at h
  replace h := bindO_some h; obtain ⟨i, hti, h⟩ := h
  obtain ⟨d, info, z, hi⟩ := hT t i hti
  have hk := hi.kind
  split at h
  · rename_i hkk
    replace h := cond_none h; obtain ⟨hst, h⟩ := h
    have hd := isStr_desc hi hkk hst
    subst hd
    cases x with
    | str a =>
      simp only at h
      rw [VRel] at hx; subst hx
      refine ⟨_, .int .i64 a.length, h, ?_, by rw [VRel]⟩
      intro W
      simp [Builtin.len_, ht0, ha0, run_underlying hi.under, goInt, size_str]
    | _ => cases h
  · rename_i e hkk
    rw [hkk] at hk
    obtain ⟨rfl, _⟩ := hk
    have run : ∀ A n c, u = .slice A n c → ∀ W, (Builtin.len_ ts ty args).run P W = .ok (.int .i64 n) W := by
      intro A n c e W
      subst e
      simp [Builtin.len_, ht0, ha0, run_underlying hi.under, goInt]
    cases x with
    | nils =>
      simp only at h
      rw [VRel] at hx; subst hx
      exact ⟨_, _, h, run _ _ _ rfl, by rw [VRel]; rfl⟩
    | own n =>
      simp only at h
      rw [VRel] at hx
      obtain ⟨ty, l, hg, hx⟩ := hx
      rw [← hs, hg] at h
      rcases hx with ⟨_, rfl, rfl⟩ | ⟨_, _, _, _, _, _, _, rfl⟩
      · exact ⟨_, _, h, run _ _ _ rfl, by rw [VRel]; rfl⟩
      · exact ⟨_, _, h, run _ _ _ rfl, by rw [VRel]⟩
    | sub n off len e' =>
      simp only at h
      rw [VRel] at hx
      obtain ⟨A, cap, rfl, _⟩ := hx
      exact ⟨_, _, h, run _ _ _ rfl, by rw [VRel]⟩
    | ro ty l =>
      simp only at h
      rw [VRel, DRel] at hx
      obtain ⟨A, c, hv, _⟩ := hx
      obtain rfl : u = .slice A l.length c := by simpa using hv
      exact ⟨_, _, h, run _ _ _ rfl, by rw [VRel]⟩
    | _ => cases h
  · rename_i n e hkk
    rw [hkk] at hk
    simp only [kindOk] at hk
    subst hk
    exact ⟨_, .int .i64 n, h, fun W => by simp [Builtin.len_, ht0, ha0, run_underlying hi.under, goInt], by rw [VRel]⟩
  · rename_i k e hkk
    rw [hkk] at hk
    obtain ⟨rfl, _⟩ := hk
    cases x with
    | nilm =>
      simp only at h
      rw [VRel] at hx; subst hx
      exact ⟨_, .int .i64 0, h, fun W => by simp [Builtin.len_, ht0, ha0, run_underlying hi.under, goInt], by rw [VRel]⟩
    | _ => cases h
  · cases h

theorem foldO_sound {f : AV → AV → Option AV} {g : Value → Value → Sem Value} (hfg : ∀ x y u v r, f x y = some r → VRel C x u → VRel C y v → ∃ z, (∀ w, (g u v).run P w = .ok z w) ∧ VRel C r z) :
    ∀ {l : List AV} {vs : List Value} {x r : AV} {u : Value}, foldO f x l = some r → VRel C x u → VRels C l vs → ∃ z, (∀ w, (vs.foldlM g u).run P w = .ok z w) ∧ VRel C r z
  | [], _, x, r, u, h, hx, hv => by
    rw [VRels] at hv; subst hv
    rw [foldO] at h; cases h
    exact ⟨u, fun w => by simp, hx⟩
  | y :: l, _, x, r, u, h, hx, hv => by
    rw [VRels] at hv
    obtain ⟨v, vs', rfl, hy, hr⟩ := hv
    rw [foldO] at h
    split at h
    · rename_i z hz
      obtain ⟨q, hq, hqr⟩ := hfg _ _ _ _ _ hz hx hy
      obtain ⟨p, hp, hpr⟩ := foldO_sound hfg h hqr hr
      exact ⟨p, fun w => by simp [List.foldlM_cons, hq, hp], hpr⟩
    · cases h

theorem max2_sound {x y r : AV} {u v : Value} (h : max2 x y = some r) (hx : VRel C x u) (hy : VRel C y v) : ∃ z, (∀ w, (Builtin.max2 u v).run P w = .ok z w) ∧ VRel C r z := by
  unfold max2 at h
  split at h
  · cases h
    rw [VRel] at hx hy; subst hx; subst hy
    exact ⟨_, fun w => by simp [Builtin.max2]; rfl, by rw [VRel]⟩
  · cases h
theorem min2_sound {x y r : AV} {u v : Value} (h : min2 x y = some r) (hx : VRel C x u) (hy : VRel C y v) : ∃ z, (∀ w, (Builtin.min2 u v).run P w = .ok z w) ∧ VRel C r z := by
  unfold min2 at h
  split at h
  · cases h
    rw [VRel] at hx hy; subst hx; subst hy
    exact ⟨_, fun w => by simp [Builtin.min2]; rfl, by rw [VRel]⟩
  · cases h

theorem kindOf_desc [BT] {t : Nat} {i : TI} {d : TypeDesc} {info : TypeInfo} {z : Value} (hi : TIok P t i d info z) {k : IntKind} (h : kindOf i = some k) : d = .int k := by
  have := hi.kind
  unfold kindOf at h
  split at h
  · rename_i k' n hk hz
    cases h
    rw [hk] at this
    simp only [kindOk, hz] at this
    cases d <;> simp_all [scDesc]
  · cases h

theorem TIok.notIface [BT] {t : Nat} {i : TI} {d : TypeDesc} {info : TypeInfo} {z : Value} (hi : TIok P t i d info z) (h : isIface i = false) : ∀ ms, d ≠ .interface ms := by
  intro ms e
  subst e
  have hk := hi.kind
  unfold isIface at h
  cases hkk : i.k with
  | sc =>
    rw [hkk] at hk h
    simp only [kindOk] at hk
    cases hz : i.zero with
    | nil => rw [hz] at hk; simp [scDesc] at hk
    | cons x r =>
      rw [hz] at hk h
      cases x <;> cases r <;> simp_all [scDesc]
  | ptr e => rw [hkk] at hk; exact absurd hk.1 (by simp)
  | slice e => rw [hkk] at hk; exact absurd hk.1 (by simp)
  | array n e => rw [hkk] at hk; simp [kindOk] at hk
  | struct fs => rw [hkk] at hk; obtain ⟨_, h1, _⟩ := hk; cases h1
  | map k e => rw [hkk] at hk; exact absurd hk.1 (by simp)

theorem oopd_rel {env : Tmps} {a : Act} (h : ERel C env a.tmps) (x : Option Operand) : ORelV C (x.map (opd env)) (x.map a.eval) := by
  cases x with
  | none => trivial
  | some x => exact opd_rel h x

theorem toArray_toList {α : Type} (a : Array α) : a.toList.toArray = a := by simp

theorem cond_noneO' {α : Type} {c : Bool} {x : Option α} {r : α} (h : cond c none x = some r) : c = false ∧ x = some r := by
  cases c <;> simp_all
theorem quietOp_sound [BT] (hT : TabOk P T) (hh : HRel C) {s : St} (hs : C.H = s.H) {a : Act} (he : ERel C s.env a.tmps) {o : Oper} {K : AV → Ans} {A : Ans} {res : AV × List Obj}
    (h : quietOp T o s K = some A) (hA : A = some res) : ∃ r v, K r = some res ∧ (∀ W, SeesO C (readsOf T s o) W → (execOp a.eval o).run P W = .ok (.value v) W) ∧ VRel C r v := by
  subst hA
  unfold quietOp at h
  have wrapV : ∀ {S : Sem Value} {r : AV}, (∃ u, K r = some res ∧ (∀ W, SeesO C (readsOf T s o) W → S.run P W = .ok u W) ∧ VRel C r u) → execOp a.eval o = (do pure (.value (← S))) →
      ∃ r v, K r = some res ∧ (∀ W, SeesO C (readsOf T s o) W → (execOp a.eval o).run P W = .ok (.value v) W) ∧ VRel C r v := by
    intro S r ⟨u, h1, h2, h3⟩ he
    exact ⟨r, u, h1, fun W hW => by rw [he]; simp [h2 W hW], h3⟩
  cases ho : o.op <;> rw [ho] at h <;> simp only at h <;> first | (cases h; done) | skip
  case move x =>
    have h := Option.some.inj h
    exact ⟨_, _, h, fun W _ => by simp [execOp, ho], opd_rel he x⟩
  case assign x =>
    have h := Option.some.inj h
    exact ⟨_, _, h, fun W _ => by simp [execOp, ho], opd_rel he x⟩
  case pick c x y =>
    have h := Option.some.inj h
    have hc := opd_rel (C := C) he c
    cases hcv : opd s.env c <;> rw [hcv] at h hc <;> first | (cases h; done) | skip
    rename_i p
    rw [VRel] at hc
    cases p with
    | true => exact ⟨_, _, h, fun W _ => by simp [execOp, ho, hc, Go.asBool], opd_rel he x⟩
    | false => exact ⟨_, _, h, fun W _ => by simp [execOp, ho, hc, Go.asBool], opd_rel he y⟩
  case build t parts =>
    have h := Option.some.inj h
    replace h := bindO_some h; obtain ⟨i, hti, h⟩ := h
    replace h := cond_none h; obtain ⟨hok, h⟩ := h
    replace h := bindO_some h; obtain ⟨cs, hcs, h⟩ := h
    obtain ⟨d, info, z, hi⟩ := hT t i hti
    obtain ⟨hn, hv⟩ := opds_parts (C := C) he parts.toList
    obtain ⟨u, hu, hr⟩ := build_sound (C := C) hT hti hok (hi.run_zero) (by rw [hi.cells]; exact zero_rel _ hi.isz) (by rw [hi.cells]; exact zero_one _ hi.isz)
      (parts' := parts.map fun (i, x) => (i, a.eval x)) (by rw [Array.toList_map]; exact hn) (by rw [Array.toList_map]; exact hv) hcs
    exact wrapV ⟨u, h, fun W _ => hu W, hr⟩ (by simp [execOp, ho])
  case load t x =>
    have h := Option.some.inj h
    obtain ⟨r, u, h1, h2, h3⟩ := load_sound hT hh hs (opd_rel he x) h
    have hrd : readsOf T s o = some (opd s.env x).refs := by unfold readsOf; rw [ho]
    exact wrapV ⟨u, h1, fun W hW => h2 W (hW _ hrd), h3⟩ (by simp [execOp, ho])
  case nilCheck x =>
    have h := Option.some.inj h
    have hx := opd_rel (C := C) he x
    cases hv : opd s.env x <;> rw [hv] at h hx <;> first | (cases h; done) | skip
    all_goals
      refine ⟨_, a.eval x, h, ?_, hx⟩
      have hp : ∃ p, a.eval x = .pointer (some p) := by
        simp only [VRel] at hx
        first
          | (obtain ⟨b, _, e, _⟩ := hx; exact ⟨_, e⟩)
          | (obtain ⟨b, _, _, _, _, e⟩ := hx; exact ⟨_, e⟩)
          | (obtain ⟨b, _, _, _, _, _, e⟩ := hx; exact ⟨_, e⟩)
      obtain ⟨p, e⟩ := hp
      intro W _
      simp [execOp, ho, e]
  case binOp op t x y yt =>
    have h := Option.some.inj h
    obtain ⟨r, z, h1, h2, h3⟩ := nilBin_sound hT (opd_rel he x) (opd_rel he y) x y h
    exact wrapV ⟨z, h1, fun W _ => h2 W, h3⟩ (by simp [execOp, ho])
  case unOp op t x =>
    have h := Option.some.inj h
    obtain ⟨r, z, h1, h2, h3⟩ := unOp_sound (opd_rel he x) h
    exact wrapV ⟨z, h1, fun W _ => h2 W, h3⟩ (by simp [execOp, ho])
  case convert src dst x =>
    have hx := opd_rel (C := C) he x
    cases hv : opd s.env x <;> rw [hv] at h hx <;> first | (cases h; done) | skip
    rename_i k n
    have h := Option.some.inj h
    unfold convert at h
    replace h := bindO_some h; obtain ⟨si, hsi, h⟩ := h
    replace h := bindO_some h; obtain ⟨di, hdi, h⟩ := h
    simp only at h
    replace h := bindO_some h; obtain ⟨k', hk', h⟩ := h
    rw [VRel] at hx
    obtain ⟨d1, i1, z1, h1⟩ := hT _ _ hsi
    obtain ⟨d2, i2, z2, h2⟩ := hT _ _ hdi
    obtain rfl := kindOf_desc h2 hk'
    refine ⟨_, .int k' (k'.wrap n), h, ?_, by rw [VRel]⟩
    intro W _
    simp [execOp, ho, hx, Go.convert, run_underlying h1.under, run_underlying h2.under, Conv.intToInt]
  case makeInterface t x =>
    have h := Option.some.inj h
    replace h := bindO_some h; obtain ⟨i, hti, h⟩ := h
    replace h := cond_none h; obtain ⟨hc, h⟩ := h
    simp only [Bool.and_eq_true, Bool.not_eq_true'] at hc
    obtain ⟨d, info, z, hi⟩ := hT _ _ hti
    refine ⟨_, .iface t (a.eval x), h, ?_, by rw [VRel]; exact ⟨_, rfl, opd_rel he x⟩⟩
    have hd := hi.notIface hc.2
    intro W _
    simp only [execOp, ho, Instr.makeInterface, Sem.run_bind, run_underlying hi.under, Result.andThen_ok]
    cases d <;> first | rfl | exact absurd rfl (hd _)
  case typeAssert x xt t ok =>
    replace h := Option.some.inj h
    unfold assertOp at h
    replace h := bindO_some h; obtain ⟨i, hti, h⟩ := h
    replace h := cond_none' h; obtain ⟨hif, h⟩ := h
    obtain ⟨d, info, z, hi⟩ := hT _ _ hti
    have hd := hi.notIface hif
    have hx := opd_rel (C := C) he x
    have hz : ∀ z', noAV i = some z' → VRel C z' z := by
      intro z' hz'
      unfold noAV at hz'
      have hz' := (cond_noneO' hz').2
      have hrel : VRels C i.zero z.cells.toList := by rw [hi.cells]; exact zero_rel _ hi.isz
      cases hag : i.isAgg with
      | true =>
        rw [hag] at hz'
        cases hz'
        have hp := hi.agg hag
        cases z <;> first | (cases hp; done) | skip
        rw [VRel]
        exact ⟨_, rfl, hrel⟩
      | false =>
        rw [hag] at hz'
        have hp := hi.plain hag
        have hzc : z.cells = #[z] := by cases z <;> first | rfl | (cases hp; done)
        rw [hzc] at hrel
        dsimp only at hz'
        unfold oneCell at hz'
        split at hz'
        · rename_i v hv
          cases hz'
          rw [hv] at hrel
          rw [VRels] at hrel
          obtain ⟨v', vs', e, h1, _⟩ := hrel
          have e' : [z] = v' :: vs' := e
          cases e'
          exact h1
        · cases hz'
    cases hv : opd s.env x <;> rw [hv] at h hx <;> first | (cases h; done) | skip
    case nili =>
      dsimp only at h
      cases ok with
      | false => cases h
      | true =>
      rw [cond_true] at h
      replace h := bindO_some h; obtain ⟨z', hz', h⟩ := h
      rw [VRel] at hx
      refine ⟨_, .tuple #[z, .bool false], h, ?_, by rw [VRel]; exact ⟨_, rfl, by simp only [VRels]; exact ⟨_, _, rfl, hz _ hz', _, _, rfl, by rw [VRel], rfl⟩⟩⟩
      intro W _
      simp only [execOp, ho, hx, Instr.typeAssert, Sem.run_bind, run_underlying hi.under, Result.andThen_ok]
      cases d <;> first | exact absurd rfl (hd _) | simp [hi.run_zero]
    case ifc t' y =>
      rw [VRel] at hx
      obtain ⟨u, hu, hy⟩ := hx
      dsimp only at h
      cases hb : Nat.beq t' t with
      | true =>
        rw [hb, cond_true] at h
        obtain rfl := Nat.eq_of_beq_eq_true hb
        cases ok with
        | true =>
          refine ⟨_, .tuple #[u, .bool true], h, ?_, by rw [VRel]; exact ⟨_, rfl, by simp only [VRels]; exact ⟨_, _, rfl, hy, _, _, rfl, by rw [VRel], rfl⟩⟩⟩
          intro W _
          simp only [execOp, ho, hu, Instr.typeAssert, Sem.run_bind, run_underlying hi.under, Result.andThen_ok]
          cases d <;> first | exact absurd rfl (hd _) | simp
        | false =>
          refine ⟨_, u, h, ?_, hy⟩
          intro W _
          simp only [execOp, ho, hu, Instr.typeAssert, Sem.run_bind, run_underlying hi.under, Result.andThen_ok]
          cases d <;> first | exact absurd rfl (hd _) | simp
      | false =>
        have hne : t' ≠ t := fun e => by subst e; rw [Nat.beq_refl] at hb; cases hb
        rw [hb, cond_false] at h
        cases ok with
        | false => cases h
        | true =>
        rw [cond_true] at h
        replace h := bindO_some h; obtain ⟨z', hz', h⟩ := h
        refine ⟨_, .tuple #[z, .bool false], h, ?_, by rw [VRel]; exact ⟨_, rfl, by simp only [VRels]; exact ⟨_, _, rfl, hz _ hz', _, _, rfl, by rw [VRel], rfl⟩⟩⟩
        intro W _
        simp only [execOp, ho, hu, Instr.typeAssert, Sem.run_bind, run_underlying hi.under, Result.andThen_ok]
        cases d <;> first | exact absurd rfl (hd _) | simp [hne, hi.run_zero]
  case makeFunc f fs cs =>
    have h := Option.some.inj h
    refine ⟨_, _, h, fun W _ => by simp [execOp, ho, Instr.makeFunc]; rfl, ?_⟩
    rw [VRel]
    exact ⟨_, _, rfl, by rw [Array.toList_map]; exact opds_rel he _, by rw [Array.toList_map]; exact opds_rel he _⟩
  case slice t x lo hi mx =>
    have h := Option.some.inj h
    obtain ⟨r, u, h1, h2, h3⟩ := slice_sound hT hh hs (opd_rel he x) (oopd_rel he lo) (oopd_rel he hi) (oopd_rel he mx) h
    exact wrapV ⟨u, h1, fun W _ => h2 W, h3⟩ (by simp [execOp, ho])
  case fieldAddr t x f =>
    have h := Option.some.inj h
    obtain ⟨r, u, h1, h2, h3⟩ := fieldAddr_sound hT (opd_rel he x) h
    exact wrapV ⟨u, h1, fun W _ => h2 W, h3⟩ (by simp [execOp, ho])
  case field t x f =>
    have h := Option.some.inj h
    obtain ⟨r, u, h1, h2, h3⟩ := field_sound hT (opd_rel he x) h
    exact wrapV ⟨u, h1, fun W _ => h2 W, h3⟩ (by simp [execOp, ho])
  case indexAddr t x ix =>
    have h := Option.some.inj h
    obtain ⟨r, u, h1, h2, h3⟩ := indexAddr_sound hT hs (opd_rel he x) (opd_rel he ix) h
    exact wrapV ⟨u, h1, fun W _ => h2 W, h3⟩ (by simp [execOp, ho])
  case index t x ix =>
    have h := Option.some.inj h
    obtain ⟨r, u, h1, h2, h3⟩ := index_sound hT (opd_rel he x) (opd_rel he ix) h
    exact wrapV ⟨u, h1, fun W _ => h2 W, h3⟩ (by simp [execOp, ho])
  case extract t i =>
    have h := Option.some.inj h
    obtain ⟨r, u, h1, h2, h3⟩ := extract_sound (opd_rel he t) h
    exact wrapV ⟨u, h1, fun W _ => h2 W, h3⟩ (by simp [execOp, ho])
  case call c =>
    cases hc : c.callee <;> rw [hc] at h <;> first | (cases h; done) | skip
    rename_i b
    have hargs := opds_rel (C := C) he c.args.toList
    cases b <;> simp only at h <;> first | (cases h; done) | skip
    case len =>
      have hcn : ∀ {c : Bool} {x : Option Ans} {y : Ans}, cond c Option.none x = Option.some y → x = Option.some y := fun {c x y} h => by
        cases c with
        | true => cases h
        | false => exact h
      replace h := hcn h
      have h := Option.some.inj h
      split at h
      · rename_i x t ts hx ht
        have ht0 : c.argTypes[0]? = some t := by rw [← Array.getElem?_toList, ht]; rfl
        have ha0 : (c.args.map a.eval)[0]? = some (a.eval x) := by rw [← Array.getElem?_toList, Array.toList_map, hx]; rfl
        obtain ⟨r, u, h1, h2, h3⟩ := lenOf_sound hT hs (opd_rel he x) h hh c.argTypes ht0 o.type (c.args.map a.eval) ha0
        exact ⟨r, u, h1, fun W _ => by simp [execOp, ho, resolve, hc, invoke, builtin, h2], h3⟩
      · cases h
    case max =>
      have h := Option.some.inj h
      split at h
      · rename_i x r hx
        replace h := bindO_some h; obtain ⟨q, hq, h⟩ := h
        rw [hx] at hargs
        obtain ⟨z, hz, hr⟩ := foldO_sound (g := Builtin.max2) (fun x y u v r h hx hy => max2_sound h hx hy) hq (opd_rel he x) (opds_rel he r)
        have hl : (c.args.map a.eval).toList = a.eval x :: r.map a.eval := by rw [Array.toList_map, hx]; rfl
        exact ⟨q, z, h, fun W _ => by simp only [execOp, ho, resolve, hc, invoke, builtin, Sem.run_bind, Sem.run_pure, Result.andThen_ok, Builtin.max_, hl]; rw [hz]; rfl, hr⟩
      · cases h
    case min =>
      have h := Option.some.inj h
      split at h
      · rename_i x r hx
        replace h := bindO_some h; obtain ⟨q, hq, h⟩ := h
        rw [hx] at hargs
        obtain ⟨z, hz, hr⟩ := foldO_sound (g := Builtin.min2) (fun x y u v r h hx hy => min2_sound h hx hy) hq (opd_rel he x) (opds_rel he r)
        have hl : (c.args.map a.eval).toList = a.eval x :: r.map a.eval := by rw [Array.toList_map, hx]; rfl
        exact ⟨q, z, h, fun W _ => by simp only [execOp, ho, resolve, hc, invoke, builtin, Sem.run_bind, Sem.run_pure, Result.andThen_ok, Builtin.min_, hl]; rw [hz]; rfl, hr⟩
      · cases h
end Go.AE
namespace Go.AE
variable {P : Program} {T : Tab}

/-! ### Lists of objects -/
theorem getH_eq : ∀ (H : List Obj) (i : Nat), getH H i = (H[i]?).getD .dead
  | [], i => by simp [getH]
  | o :: r, 0 => rfl
  | o :: r, i + 1 => by rw [getH, getH_eq r i]; simp
theorem live_lt {H : List Obj} {i : Nat} (h : Live H i) : i < H.length := by
  unfold Live at h
  rw [getH_eq] at h
  rcases Nat.lt_or_ge i H.length with h' | h'
  · exact h'
  · rw [List.getElem?_eq_none h'] at h; exact absurd rfl h
theorem getH_append_lt {H : List Obj} {o : Obj} {i : Nat} (h : i < H.length) : getH (H ++ [o]) i = getH H i := by
  rw [getH_eq, getH_eq, List.getElem?_append_left h]
theorem getH_append_eq {H : List Obj} {o : Obj} : getH (H ++ [o]) H.length = o := by
  rw [getH_eq]; simp
theorem getH_append_gt {H : List Obj} {o : Obj} {i : Nat} (h : H.length < i) : getH (H ++ [o]) i = .dead := by
  rw [getH_eq, List.getElem?_eq_none (by simp; omega)]; rfl
theorem getH_dead {H : List Obj} {i : Nat} (h : H.length ≤ i) : getH H i = .dead := by
  rw [getH_eq, List.getElem?_eq_none h]; rfl
theorem setH_eq : ∀ (H : List Obj) (i : Nat) (o : Obj), setH H i o = H.set i o
  | [], _, _ => rfl
  | _ :: _, 0, _ => rfl
  | x :: r, i + 1, o => by rw [setH, setH_eq r i o]; rfl
theorem getH_setH_same {H : List Obj} {i : Nat} {o : Obj} (h : i < H.length) : getH (setH H i o) i = o := by
  rw [getH_eq, setH_eq]; simp [h]
theorem getH_setH_other {H : List Obj} {i j : Nat} {o : Obj} (h : i ≠ j) : getH (setH H i o) j = getH H j := by
  rw [getH_eq, getH_eq, setH_eq]; simp [h]
theorem length_setH (H : List Obj) (i : Nat) (o : Obj) : (setH H i o).length = H.length := by rw [setH_eq]; simp
theorem mapObjs_eq (g : AV → AV) (H : List Obj) : mapObjs g H = H.map (Obj.mapR g) := by
  induction H with
  | nil => rfl
  | cons o r ih => rw [mapObjs, ih]; rfl
theorem getH_mapObjs (g : AV → AV) (H : List Obj) (i : Nat) : getH (mapObjs g H) i = (getH H i).mapR g := by
  rw [getH_eq, getH_eq, mapObjs_eq, List.getElem?_map]
  cases H[i]? <;> rfl
theorem length_mapObjs (g : AV → AV) (H : List Obj) : (mapObjs g H).length = H.length := by rw [mapObjs_eq]; simp
theorem getH_take {H : List Obj} {n i : Nat} (h : i < n) : getH (H.take n) i = getH H i := by
  rw [getH_eq, getH_eq, List.getElem?_take_of_lt h]
theorem live_mapObjs {g : AV → AV} {H : List Obj} {i : Nat} : Live (mapObjs g H) i ↔ Live H i := by
  unfold Live
  rw [getH_mapObjs]
  cases getH H i <;> simp [Obj.mapR]

/-! ### Temporaries -/
theorem getT_mapTmps (g : AV → AV) (env : Tmps) (t : Nat) : getT (mapTmps g env) t = (getT env t).mapR g := by
  induction env with
  | nil => rw [mapTmps, getT_nil, AV.mapR]
  | cons p r ih =>
    obtain ⟨d, v⟩ := p
    rw [mapTmps, getT_cons, getT_cons, ih]
    split <;> rfl
theorem refs_getT {env : Tmps} {t i : Nat} (h : i ∈ (getT env t).refs) : i ∈ refsT env := by
  induction env with
  | nil => rw [getT_nil, AV.refs] at h; cases h
  | cons p r ih =>
    obtain ⟨d, v⟩ := p
    rw [getT_cons] at h
    rw [refsT]
    split at h
    · exact List.mem_append.2 (.inl h)
    · exact List.mem_append.2 (.inr (ih h))

section
variable {C C' : Cx} {g : AV → AV} {p : Nat → Prop}
theorem ERel.mapR (hl : ∀ a v, a.isRef = true → (∀ i ∈ a.refs, p i) → VRel C a v → VRel C' (g a) v) (hR : ∀ b, C.R b → C'.R b ∧ C'.w.heap[b]? = C.w.heap[b]?)
    {env : Tmps} {tmps : Array Value} (h : ERel C env tmps) (hp : ∀ i ∈ refsT env, p i) : ERel C' (mapTmps g env) tmps := by
  intro t
  rw [getT_mapTmps]
  exact VRel.mapR hl hR _ _ (fun i hi => hp i (refs_getT hi)) (h t)
theorem SStk.mapR (hl : ∀ a v, a.isRef = true → (∀ i ∈ a.refs, p i) → VRel C a v → VRel C' (g a) v) (hR : ∀ b, C.R b → C'.R b ∧ C'.w.heap[b]? = C.w.heap[b]?) :
    ∀ {stk : List Tmps} {vs : List (Array Value)}, SStk C stk vs → (∀ i ∈ refsS stk, p i) → SStk C' (mapStk g stk) vs
  | [], _, h, _ => by rw [SStk] at h; rw [mapStk, SStk]; exact h
  | e :: r, _, h, hp => by
    rw [SStk] at h
    rw [mapStk, SStk]
    rw [refsS] at hp
    obtain ⟨v, vs', rfl, he, hr⟩ := h
    exact ⟨v, vs', rfl, ERel.mapR hl hR he fun i hi => hp i (List.mem_append.2 (.inl hi)), SStk.mapR hl hR hr fun i hi => hp i (List.mem_append.2 (.inr hi))⟩
end
theorem mapTmps_id : ∀ env : Tmps, mapTmps (fun x => x) env = env
  | [] => rfl
  | (d, v) :: r => by rw [mapTmps, mapR_id, mapTmps_id r]
theorem mapStk_id : ∀ stk : List Tmps, mapStk (fun x => x) stk = stk
  | [] => rfl
  | e :: r => by rw [mapStk, mapTmps_id, mapStk_id r]

section
variable {C C' : Cx}
theorem ERel.mono (hl : ∀ a v, a.isRef = true → VRel C a v → VRel C' a v) (hR : ∀ b, C.R b → C'.R b ∧ C'.w.heap[b]? = C.w.heap[b]?)
    {env : Tmps} {tmps : Array Value} (h : ERel C env tmps) : ERel C' env tmps := by
  have := ERel.mapR (p := fun _ => True) (g := fun x => x) (fun a v h1 _ h2 => hl a v h1 h2) hR h (fun _ _ => trivial)
  rwa [mapTmps_id] at this
theorem SStk.mono (hl : ∀ a v, a.isRef = true → VRel C a v → VRel C' a v) (hR : ∀ b, C.R b → C'.R b ∧ C'.w.heap[b]? = C.w.heap[b]?)
    {stk : List Tmps} {vs : List (Array Value)} (h : SStk C stk vs) : SStk C' stk vs := by
  have := SStk.mapR (p := fun _ => True) (g := fun x => x) (fun a v h1 _ h2 => hl a v h1 h2) hR h (fun _ _ => trivial)
  rwa [mapStk_id] at this

/-- An object whose block stands, its references mapped. -/
theorem ORel.mapR [BT] {g : AV → AV} {p : Nat → Prop} (hl : ∀ a v, a.isRef = true → (∀ i ∈ a.refs, p i) → VRel C a v → VRel C' (g a) v) (hR : ∀ b, C.R b → C'.R b ∧ C'.w.heap[b]? = C.w.heap[b]?)
    {o : Obj} {r : Option Nat} (h : ORel C o r) (hb : ∀ b, r = some b → o ≠ .dead → C'.w.heap[b]? = C.w.heap[b]?) (hp : ∀ i ∈ o.refs, p i) : ORel C' (o.mapR g) r := by
  cases o with
  | dead => trivial
  | cells cs =>
    obtain ⟨b, c, e, fr, rfl, hw, hfr, hv, h1⟩ := h
    exact ⟨b, c, e, fr, rfl, by rw [hb b rfl (by simp)]; exact hw, hfr, VRels.mapR hl hR _ _ hp hv, h1⟩
  | arr t l =>
    rcases h with h | ⟨b, c, e, fr, rfl, hw, hfr, hl', hel⟩
    · exact .inl h
    · refine .inr ⟨b, c, e, fr, rfl, by rw [hb b rfl (by simp)]; exact hw, hfr, hl', fun k x hk => ?_, hel.2⟩
      replace hel := hel.1
      obtain ⟨us, hd, hu⟩ := hel k x hk
      exact ⟨us, DRel.mono hR hd, hu⟩
  | bcells cs =>
    obtain ⟨b, c, v0, rfl, hw, ⟨vs, hc, hv⟩, h1, h2⟩ := h
    exact ⟨b, c, v0, rfl, by rw [hb b rfl (by simp)]; exact hw, ⟨vs, hc, VRels.mapR hl hR _ _ hp hv⟩, h1, h2⟩
  | btold s =>
    obtain ⟨b, v0, v, rfl, hw, h1, h2, h3⟩ := h
    refine ⟨b, v0, v, rfl, by rw [hb b rfl (by simp)]; exact hw, h1, h2, ?_⟩
    rcases h3 with h3 | ⟨g, cap, cur, fr, g1, g2, g3, g4, g5⟩
    · exact .inl h3
    · exact .inr ⟨g, cap, cur, fr, g1, g2, (hR g g3).1, (hR g g3).2.trans g4, g5⟩
  | mp k t l =>
    obtain ⟨b, es, ck, rfl, hw, hm⟩ := h
    exact ⟨b, es, ck, rfl, by rw [hb b rfl (by simp)]; exact hw, hm⟩
theorem Obj.mapR_id (o : Obj) : o.mapR (fun x => x) = o := by
  cases o <;> simp [Obj.mapR, mapRs_id]
theorem ORel.mono [BT] (hl : ∀ a v, a.isRef = true → VRel C a v → VRel C' a v) (hR : ∀ b, C.R b → C'.R b ∧ C'.w.heap[b]? = C.w.heap[b]?)
    {o : Obj} {r : Option Nat} (h : ORel C o r) (hb : ∀ b, r = some b → o ≠ .dead → C'.w.heap[b]? = C.w.heap[b]?) : ORel C' o r := by
  have := ORel.mapR (p := fun _ => True) (g := fun x => x) (fun a v h1 _ h2 => hl a v h1 h2) hR h hb (fun _ _ => trivial)
  rwa [Obj.mapR_id] at this
end

/-- A live object's block is there. -/
theorem HRel.blk [BT] {C : Cx} (hh : HRel C) {i b : Nat} (hl : Live C.H i) (hb : C.ρ i = some b) : ∃ x, C.w.heap[b]? = some x := by
  have := hh.obj i
  unfold Live at hl
  cases hg : getH C.H i with
  | dead => exact absurd hg hl
  | cells cs =>
    rw [hg] at this
    obtain ⟨b', c, e, fr, hb', hw, _⟩ := this
    obtain rfl : b = b' := Option.some.inj (hb.symm.trans hb')
    exact ⟨_, hw⟩
  | btold s =>
    rw [hg] at this
    obtain ⟨b', v0, v, hb', hw, _⟩ := this
    obtain rfl : b = b' := Option.some.inj (hb.symm.trans hb')
    exact ⟨_, hw⟩
  | bcells cs =>
    rw [hg] at this
    obtain ⟨b', c, v0, hb', hw, _⟩ := this
    obtain rfl : b = b' := Option.some.inj (hb.symm.trans hb')
    exact ⟨_, hw⟩
  | arr t l =>
    rw [hg] at this
    rcases this with ⟨h, _⟩ | ⟨b', c, e, fr, hb', hw, _⟩
    · rw [hb] at h; cases h
    · obtain rfl : b = b' := Option.some.inj (hb.symm.trans hb')
      exact ⟨_, hw⟩
  | mp k t l =>
    rw [hg] at this
    obtain ⟨b', es, ck, hb', hw, _⟩ := this
    obtain rfl : b = b' := Option.some.inj (hb.symm.trans hb')
    exact ⟨_, hw⟩
theorem HRel.blk_lt [BT] {C : Cx} (hh : HRel C) {i b : Nat} (hl : Live C.H i) (hb : C.ρ i = some b) : b < C.w.heap.size := by
  obtain ⟨_, hw⟩ := hh.blk hl hb
  exact (Array.getElem?_eq_some_iff.1 hw).1

/-- The world with one block more, or with none more. -/
structure World.Pushed (w w' : World) (o : Option (_root_.Go.Obj)) : Prop where
  os : w'.os = w.os
  tape : w'.tape = w.tape
  output : w'.output = w.output
  heap : w'.heap = match o with | some o => w.heap.push o | none => w.heap
theorem World.Pushed.old {w w' : World} {o : Option (_root_.Go.Obj)} (h : World.Pushed w w' o) {b : Nat} (hb : b < w.heap.size) : w'.heap[b]? = w.heap[b]? := by
  rw [h.heap]
  cases o with
  | none => rfl
  | some o => simp only; rw [Array.getElem?_push, if_neg (by omega)]
theorem World.Pushed.size {w w' : World} {o : Option (_root_.Go.Obj)} (h : World.Pushed w w' o) : w.heap.size ≤ w'.heap.size := by
  rw [h.heap]
  cases o <;> simp
theorem World.Pushed.new {w w' : World} {o : _root_.Go.Obj} (h : World.Pushed w w' (some o)) : w'.heap[w.heap.size]? = some o := by
  rw [h.heap]; simp

/-- The relations behind one object more. -/
def Cx.push (C : Cx) (o : Obj) (r : Option Nat) (w' : World) : Cx := ⟨C.R, fun i => if i = C.H.length then r else C.ρ i, C.H ++ [o], w'⟩

section
variable {C : Cx} {o : Obj} {r : Option Nat} {w' : World} {bo : Option (_root_.Go.Obj)}
theorem push_R [BT] (hh : HRel C) (hw : World.Pushed C.w w' bo) : ∀ b, C.R b → (C.push o r w').R b ∧ (C.push o r w').w.heap[b]? = C.w.heap[b]? :=
  fun b hb => ⟨hb, hw.old (hh.rlt b hb)⟩
theorem push_ref [BT] (hh : HRel C) (hw : World.Pushed C.w w' bo) : ∀ a v, a.isRef = true → VRel C a v → VRel (C.push o r w') a v := by
  intro a v ha h
  have hg : ∀ i, Live C.H i → getH (C.H ++ [o]) i = getH C.H i ∧ (C.push o r w').ρ i = C.ρ i := by
    intro i hl
    have := live_lt hl
    exact ⟨getH_append_lt this, by simp [Cx.push]; omega⟩
  have hbk : ∀ i b c, Live C.H i → C.ρ i = some b → blkOf C.w b = some c → blkOf (C.push o r w').w b = some c := by
    intro i b c hl hb hc
    rw [← hc]
    exact blkOf_congr (hw.old (hh.blk_lt hl hb))
  have lv : ∀ i x, getH C.H i = x → x ≠ .dead → Live C.H i := fun i x e hx => by unfold Live; rw [e]; exact hx
  cases a <;> first | (cases ha; done) | skip
  case ptr i off =>
    rw [VRel] at h ⊢
    obtain ⟨b, hb, rfl, hl⟩ := h
    obtain ⟨h1, h2⟩ := hg i hl
    exact ⟨b, h2.trans hb, rfl, by unfold Live at hl ⊢; show getH (C.H ++ [o]) i ≠ _; rw [h1]; exact hl⟩
  case eptr i n off =>
    rw [VRel] at h ⊢
    obtain ⟨b, t, l, hb, hgi, rfl⟩ := h
    obtain ⟨h1, h2⟩ := hg i (lv i _ hgi (by simp))
    exact ⟨b, t, l, h2.trans hb, h1.trans hgi, rfl⟩
  case own i =>
    rw [VRel] at h ⊢
    obtain ⟨t, l, hgi, h⟩ := h
    have hl := lv i _ hgi (by simp)
    obtain ⟨h1, h2⟩ := hg i hl
    refine ⟨t, l, h1.trans hgi, ?_⟩
    rcases h with ⟨hn, h⟩ | ⟨b, c, cap, hb, hc, h⟩
    · exact .inl ⟨h2.trans hn, h⟩
    · exact .inr ⟨b, c, cap, h2.trans hb, hbk i b c hl hb hc, h⟩
  case sub i off len e =>
    rw [VRel] at h ⊢
    obtain ⟨A, cap, rfl, hlc, h⟩ := h
    refine ⟨A, cap, rfl, hlc, ?_⟩
    rcases h with h | h | ⟨b, hb, hA, c, hc, hcs, hm⟩
    · exact .inl h
    · exact .inr (.inl h)
    · have hl : Live C.H i := by
        unfold Live
        intro hd
        rw [hd] at hm
        exact hm
      obtain ⟨h1, h2⟩ := hg i hl
      refine .inr (.inr ⟨b, h2.trans hb, hA, c, hbk i b c hl hb hc, hcs, ?_⟩)
      show match getH (C.H ++ [o]) i with | .arr t l => _ | .cells cs => _ | _ => _
      rw [h1]
      exact hm
  case map i =>
    rw [VRel] at h ⊢
    obtain ⟨b, hb, rfl, hl⟩ := h
    obtain ⟨h1, h2⟩ := hg i hl
    exact ⟨b, h2.trans hb, rfl, by unfold Live at hl ⊢; show getH (C.H ++ [o]) i ≠ _; rw [h1]; exact hl⟩

/-- One object more. -/
theorem push_sound [BT] {F : Fr} {s : St} {tmps : Array Value} {stk : List (Array Value)} (hS : SRel F C s tmps stk) (hw : World.Pushed C.w w' bo)
    (hr : r = none ∨ r = some C.w.heap.size) (hb : bo = none → r = none) (ho : ORel (C.push o r w') o r) :
    SRel F (C.push o r w') { s with H := s.H ++ [o] } tmps stk := by
  have hh := hS.heap
  have hl := push_ref (o := o) (r := r) hh hw
  have hR := push_R (o := o) (r := r) hh hw
  have hρ : ∀ i, i < C.H.length → (C.push o r w').ρ i = C.ρ i := fun i hi => by simp [Cx.push]; omega
  have hρe : (C.push o r w').ρ C.H.length = r := by simp [Cx.push]
  have hlive : ∀ i, Live (C.H ++ [o]) i → (i < C.H.length ∧ Live C.H i) ∨ i = C.H.length := by
    intro i hi
    have := live_lt hi
    simp at this
    rcases Nat.lt_or_ge i C.H.length with h | h
    · left; refine ⟨h, ?_⟩; unfold Live at hi ⊢; rwa [getH_append_lt h] at hi
    · right; omega
  have newlt : ∀ b, r = some b → b = C.w.heap.size ∧ b < w'.heap.size := by
    intro b hb'
    rcases hr with h | h
    · rw [h] at hb'; cases hb'
    · rw [h] at hb'
      cases hb'
      cases bo with
      | none => rw [hb rfl] at h; cases h
      | some x => exact ⟨rfl, by rw [hw.heap]; simp⟩
  refine ⟨?_, ⟨?_, ?_, ?_, ?_⟩, hS.env.mono hl hR, hS.stk.mono hl hR, ⟨?_, ?_, ?_, ?_, ?_, ?_, ?_, ?_⟩⟩
  · show C.H ++ [o] = s.H ++ [o]; rw [hS.H]
  · intro i
    show ORel _ (getH (C.H ++ [o]) i) _
    rcases Nat.lt_trichotomy i C.H.length with h | h | h
    · rw [getH_append_lt h, hρ i h]
      by_cases hd : getH C.H i = .dead
      · rw [hd]; trivial
      · exact (hh.obj i).mono hl hR fun b hb' _ => hw.old (hh.blk_lt hd hb')
    · subst h; rw [getH_append_eq, hρe]; exact ho
    · rw [getH_append_gt h]; trivial
  · intro i j b hi hj hib hjb
    have hi' := hlive i hi
    have hj' := hlive j hj
    rcases hi' with ⟨h1, h2⟩ | rfl
    · rw [hρ i h1] at hib
      rcases hj' with ⟨h3, h4⟩ | rfl
      · rw [hρ j h3] at hjb
        exact hh.inj i j b h2 h4 hib hjb
      · rw [hρe] at hjb
        have := hh.blk_lt h2 hib
        have := (newlt b hjb).1
        omega
    · rw [hρe] at hib
      rcases hj' with ⟨h3, h4⟩ | rfl
      · rw [hρ j h3] at hjb
        have := hh.blk_lt h4 hjb
        have := (newlt b hib).1
        omega
      · rfl
  · intro i b hi hib hRb
    rcases hlive i hi with ⟨h1, h2⟩ | rfl
    · rw [hρ i h1] at hib
      exact hh.ro i b h2 hib hRb
    · rw [hρe] at hib
      have := hh.rlt b hRb
      have := (newlt b hib).1
      omega
  · intro b hb'
    exact Nat.lt_of_lt_of_le (hh.rlt b hb') hw.size
  · exact hw.os.trans hS.frame.os
  · exact hw.tape.trans hS.frame.tape
  · exact hw.output.trans hS.frame.output
  · exact Nat.le_trans hS.frame.size hw.size
  · intro b hb' hno
    exact (hw.old (Nat.lt_of_lt_of_le hb' hS.frame.size)).trans (hS.frame.keep b hb' hno)
  · exact hS.frame.r0
  · exact hS.frame.rN
  · intro i b hi hib
    rcases hlive i hi with ⟨h1, h2⟩ | rfl
    · rw [hρ i h1] at hib
      exact hS.frame.own i b h2 hib
    · rw [hρe] at hib
      right
      rw [(newlt b hib).1]
      exact hS.frame.size
end
/-- Nothing that stood has turned. -/
def Foot0 (C C' : Cx) : Prop := ∀ b, b < C.w.heap.size → C'.w.heap[b]? = C.w.heap[b]? ∧ b < C'.w.heap.size ∧ ∀ i, Live C'.H i → C'.ρ i = some b → Live C.H i ∧ C.ρ i = some b
theorem Foot0.refl (C : Cx) : Foot0 C C := fun b hb => ⟨rfl, hb, fun i hl hi => ⟨hl, hi⟩⟩
theorem Foot0.trans {A B C : Cx} (h : Foot0 A B) (k : Foot0 B C) : Foot0 A C := fun b hb => by
  obtain ⟨h1, h2, h3⟩ := h b hb
  obtain ⟨k1, k2, k3⟩ := k b h2
  exact ⟨k1.trans h1, k2, fun i hl hi => h3 i (k3 i hl hi).1 (k3 i hl hi).2⟩
theorem Foot0.of_less {C C' : Cx} (hw : C'.w = C.w) (hρ : C'.ρ = C.ρ) (hl : ∀ i, Live C'.H i → Live C.H i) : Foot0 C C' := fun b hb => ⟨by rw [hw], by rw [hw]; exact hb, fun i h hi => ⟨hl i h, by rw [← hρ]; exact hi⟩⟩
/-- What turns just these objects leaves. -/
def FootOk (C C' : Cx) : Option (List Nat) → Prop
  | none => True
  | some sel => ∀ b, b < C.w.heap.size → (∀ i ∈ sel, Live C.H i → C.ρ i ≠ some b) → C'.w.heap[b]? = C.w.heap[b]? ∧ b < C'.w.heap.size ∧ ∀ i, Live C'.H i → C'.ρ i = some b → Live C.H i ∧ C.ρ i = some b

theorem FootOk.after {A B C : Cx} (h : Foot0 A B) {f : Option (List Nat)} (k : FootOk B C f) : FootOk A C f := by
  cases f with
  | none => trivial
  | some sel =>
    intro b hb hno
    obtain ⟨h1, h2, h3⟩ := h b hb
    obtain ⟨k1, k2, k3⟩ := k b h2 (fun i hi hl e => hno i hi (h3 i hl e).1 (h3 i hl e).2)
    exact ⟨k1.trans h1, k2, fun i hl hi => h3 i (k3 i hl hi).1 (k3 i hl hi).2⟩
theorem FootOk.of0 {A B : Cx} (h : Foot0 A B) : FootOk A B (some []) := fun b hb _ => h b hb
end Go.AE
namespace Go.AE
variable {P : Program} {T : Tab}

/-- A world in which one block's cells have turned. -/
structure World.Turned (w w' : World) (b : Nat) (c' : Array Value) : Prop where
  os : w'.os = w.os
  tape : w'.tape = w.tape
  output : w'.output = w.output
  size : w'.heap.size = w.heap.size
  other : ∀ k, k ≠ b → w'.heap[k]? = w.heap[k]?
  blk : ∀ c e fr, w.heap[b]? = some (.cells c e fr) → w'.heap[b]? = some (.cells c' e fr) ∧ c'.size = c.size

theorem setCell_heap_same {w : World} {b o : Nat} {c : Array Value} {e : TypeId} {fr : Nat × Nat} (h : w.heap[b]? = some (.cells c e fr)) (v : Value) :
    (w.setCell ⟨b, o, none⟩ v).heap[b]? = some (.cells (c.setIfInBounds o v) e fr) := by
  simp [World.setCell, Array.getElem?_modify, h]
theorem setCell_heap_other {w : World} {b o k : Nat} (hk : k ≠ b) (v : Value) : (w.setCell ⟨b, o, none⟩ v).heap[k]? = w.heap[k]? := by
  simp only [World.setCell, Array.getElem?_modify]
  rw [if_neg (by omega)]

theorem setCells_turned (b : Nat) : ∀ (vs : List Value) (o : Nat) (w : World) (c : Array Value) (e : TypeId) (fr : Nat × Nat), w.heap[b]? = some (.cells c e fr) → o + vs.length ≤ c.size →
    ∃ c', (w.setCells b o vs).heap[b]? = some (.cells c' e fr) ∧ c'.toList = c.toList.take o ++ vs ++ c.toList.drop (o + vs.length)
  | [], o, w, c, e, fr, h, ho => ⟨c, h, by simp⟩
  | v :: r, o, w, c, e, fr, h, ho => by
    simp only [List.length_cons] at ho
    obtain ⟨c', h1, h2⟩ := setCells_turned b r (o + 1) (w.setCell ⟨b, o, none⟩ v) _ e fr (setCell_heap_same h v) (by simp; omega)
    refine ⟨c', h1, ?_⟩
    rw [h2]
    have hlt : o < c.toList.length := by simp; omega
    simp only [Array.toList_setIfInBounds]
    rw [List.take_set, List.drop_set_of_lt (by omega), List.take_succ_eq_append_getElem hlt, List.set_append_right _ _ (by simp; omega)]
    have hm : o - (List.take o c.toList).length = 0 := by simp; omega
    rw [hm, show o + 1 + r.length = o + (r.length + 1) by omega]
    simp
theorem setCells_rest (b : Nat) : ∀ (vs : List Value) (o : Nat) (w : World), (w.setCells b o vs).os = w.os ∧ (w.setCells b o vs).tape = w.tape ∧ (w.setCells b o vs).output = w.output ∧ (w.setCells b o vs).heap.size = w.heap.size ∧
    ∀ k, k ≠ b → (w.setCells b o vs).heap[k]? = w.heap[k]?
  | [], _, w => ⟨rfl, rfl, rfl, rfl, fun _ _ => rfl⟩
  | v :: r, o, w => by
    obtain ⟨h1, h2, h3, h4, h5⟩ := setCells_rest b r (o + 1) (w.setCell ⟨b, o, none⟩ v)
    exact ⟨h1, h2, h3, h4.trans (by simp [World.setCell]), fun k hk => (h5 k hk).trans (setCell_heap_other hk v)⟩

/-- An object in whose place another of the same shape stands. -/
inductive SameShape : Obj → Obj → Prop
  | cells (cs cs' : List AV) : cs'.length = cs.length → SameShape (.cells cs) (.cells cs')
  | arr (t : Ty) (l l' : List t.T) : l'.length = l.length → SameShape (.arr t l) (.arr t l')
  | bcells (cs cs' : List AV) : SameShape (.bcells cs) (.bcells cs')
  | mp (k : IntKind) (t : Ty) (l l' : List (Int × t.T)) : SameShape (.mp k t l) (.mp k t l')

theorem SameShape.live {o o' : Obj} (h : SameShape o o') : o ≠ .dead ∧ o' ≠ .dead := by cases h <;> simp

section
variable {C : Cx} {n b : Nat} {o o' : Obj} {w' : World} {c' : Array Value}
theorem turned_blk (hw : World.Turned C.w w' b c') {k : Nat} {c : Array Value} (h : blkOf C.w k = some c) : ∃ d, blkOf w' k = some d ∧ d.size = c.size := by
  by_cases hk : k = b
  · subst hk
    unfold blkOf at h
    split at h
    · rename_i c0 e fr he
      cases h
      obtain ⟨h1, h2⟩ := hw.blk _ _ _ he
      exact ⟨c', blkOf_cells h1, h2⟩
    · cases h
  · exact ⟨c, (blkOf_congr (hw.other k hk)).trans h, rfl⟩

theorem upd_ref (hg : getH C.H n = o) (hs : SameShape o o') (hw : World.Turned C.w w' b c') (R' : Nat → Prop) :
    ∀ a v, a.isRef = true → VRel C a v → VRel ⟨R', C.ρ, setH C.H n o', w'⟩ a v := by
  intro a v ha h
  have hn : n < C.H.length := live_lt (by unfold Live; rw [hg]; exact hs.live.1)
  have hgi : ∀ i, i ≠ n → getH (setH C.H n o') i = getH C.H i := fun i hi => getH_setH_other (Ne.symm hi)
  have hgn : getH (setH C.H n o') n = o' := getH_setH_same hn
  have lv : ∀ i, Live C.H i → Live (setH C.H n o') i := by
    intro i hi
    unfold Live at hi ⊢
    by_cases e : i = n
    · subst e; rw [hgn]; exact hs.live.2
    · rw [hgi i e]; exact hi
  cases a <;> first | (cases ha; done) | skip
  case ptr i off =>
    rw [VRel] at h ⊢
    obtain ⟨b, hb, rfl, hl⟩ := h
    exact ⟨b, hb, rfl, lv i hl⟩
  case eptr i m off =>
    rw [VRel] at h ⊢
    obtain ⟨b, t, l, hb, hgx, rfl⟩ := h
    by_cases e : i = n
    · subst e
      rw [hg] at hgx
      subst hgx
      cases hs with
      | arr _ _ l' hlen => exact ⟨b, t, l', hb, hgn, rfl⟩
    · exact ⟨b, t, l, hb, (hgi i e).trans hgx, rfl⟩
  case own i =>
    rw [VRel] at h ⊢
    obtain ⟨t, l, hgx, h⟩ := h
    have key : ∃ l', getH (setH C.H n o') i = .arr t l' ∧ l'.length = l.length := by
      by_cases e : i = n
      · subst e
        rw [hg] at hgx
        subst hgx
        cases hs with
        | arr _ _ l' hlen => exact ⟨l', hgn, hlen⟩
      · exact ⟨l, (hgi i e).trans hgx, rfl⟩
    obtain ⟨l', h1, h2⟩ := key
    refine ⟨t, l', h1, ?_⟩
    rcases h with ⟨hr, rfl, rfl⟩ | ⟨b, c, cap, hb, hc, hcap, hcs, rfl⟩
    · exact .inl ⟨hr, List.eq_nil_of_length_eq_zero (by simpa using h2), rfl⟩
    · obtain ⟨d, hd, hds⟩ := turned_blk hw hc
      exact .inr ⟨b, d, cap, hb, hd, by omega, by omega, by rw [h2]⟩
  case sub i off len e =>
    rw [VRel] at h ⊢
    obtain ⟨A, cap, rfl, hlc, h⟩ := h
    refine ⟨A, cap, rfl, hlc, ?_⟩
    rcases h with h | h | ⟨b, hb, hA, c, hc, hcs, hm⟩
    · exact .inl h
    · exact .inr (.inl h)
    · obtain ⟨d, hd, hds⟩ := turned_blk hw hc
      refine .inr (.inr ⟨b, hb, hA, d, hd, by omega, ?_⟩)
      by_cases e' : i = n
      · subst e'
        rw [hg] at hm
        show match getH (setH C.H i o') i with | .arr t l => _ | .cells cs => _ | _ => _
        rw [hgn]
        cases hs with
        | arr t l l' hlen => exact ⟨hm.1, by have := hm.2; omega⟩
        | cells cs cs' hlen => simp only at hm ⊢; omega
        | mp => exact hm.elim
        | bcells => exact hm.elim
      · show match getH (setH C.H n o') i with | .arr t l => _ | .cells cs => _ | _ => _
        rw [hgi i e']
        exact hm
  case map i =>
    rw [VRel] at h ⊢
    obtain ⟨b, hb, rfl, hl⟩ := h
    exact ⟨b, hb, rfl, lv i hl⟩

theorem turned_R [BT] {F : Fr} {s : St} {tmps : Array Value} {stk : List (Array Value)} (hS : SRel F C s tmps stk) (hl : Live C.H n) (hb : C.ρ n = some b) (hw : World.Turned C.w w' b c') :
    ∀ k, C.R k → C.R k ∧ w'.heap[k]? = C.w.heap[k]? :=
  fun k hk => ⟨hk, hw.other k fun e => hS.heap.ro n b hl hb (e ▸ hk)⟩

theorem upd_sound [BT] {F : Fr} {s : St} {tmps : Array Value} {stk : List (Array Value)} (hS : SRel F C s tmps stk) (hg : getH C.H n = o) (hb : C.ρ n = some b) (hs : SameShape o o') (hw : World.Turned C.w w' b c')
    (ho : ORel ⟨C.R, C.ρ, setH C.H n o', w'⟩ o' (some b)) : SRel F ⟨C.R, C.ρ, setH C.H n o', w'⟩ { s with H := setH s.H n o' } tmps stk := by
  have hh := hS.heap
  have hln : Live C.H n := by unfold Live; rw [hg]; exact hs.live.1
  have hn : n < C.H.length := live_lt hln
  have hl := upd_ref hg hs hw C.R
  have hR := turned_R hS hln hb hw
  have lv : ∀ i, Live (setH C.H n o') i → Live C.H i := by
    intro i hi
    unfold Live at hi ⊢
    by_cases e : i = n
    · subst e; rw [hg]; exact hs.live.1
    · rw [getH_setH_other (Ne.symm e)] at hi; exact hi
  refine ⟨by show setH C.H n o' = setH s.H n o'; rw [hS.H], ⟨?_, ?_, ?_, ?_⟩, hS.env.mono hl hR, hS.stk.mono hl hR, ⟨hw.os.trans hS.frame.os, hw.tape.trans hS.frame.tape, hw.output.trans hS.frame.output, ?_, ?_, hS.frame.r0, hS.frame.rN, ?_⟩⟩
  · intro i
    show ORel _ (getH (setH C.H n o') i) _
    by_cases e : i = n
    · subst e
      rw [getH_setH_same hn]
      show ORel _ o' (C.ρ i)
      rw [hb]
      exact ho
    · rw [getH_setH_other (Ne.symm e)]
      by_cases hd : getH C.H i = .dead
      · rw [hd]; trivial
      · exact (hh.obj i).mono hl hR fun k hk _ => hw.other k fun ek => e (hh.inj i n b hd hln (ek ▸ hk) hb)
  · intro i j k hi hj hik hjk
    exact hh.inj i j k (lv i hi) (lv j hj) hik hjk
  · intro i k hi hik
    exact hh.ro i k (lv i hi) hik
  · intro k hk
    show k < w'.heap.size
    rw [hw.size]
    exact hh.rlt k hk
  · show _ ≤ w'.heap.size
    rw [hw.size]
    exact hS.frame.size
  · intro k hk hno
    refine (hw.other k fun e => ?_).trans (hS.frame.keep k hk hno)
    subst e
    rcases hS.frame.own n k hln hb with h | h
    · exact hno h
    · omega
  · intro i k hi hik
    exact hS.frame.own i k (lv i hi) hik
end

theorem litGo_eq (n : Nat) (K : Nat → Ans) : ∀ l, litGo n K l = K n
  | [] => rfl
  | a :: r => by
    rw [litGo]
    cases h : Nat.beq n a with
    | true => rw [cond_true, beq_of h]
    | false => rw [cond_false, litGo_eq n K r]
theorem lit_eq (n : Nat) (K : Nat → Ans) : lit n K = K n := litGo_eq n K lits
theorem forceVs_eq (l : List AV) (K : List AV → Ans) (hV : ∀ v K, v ∈ l → forceV v K = K v) : forceVs l K = K l := by
  induction l generalizing K with
  | nil => rw [forceVs]
  | cons v r ih => rw [forceVs, hV v _ (List.mem_cons_self ..), ih _ fun v K hv => hV v K (List.mem_cons_of_mem _ hv)]
mutual
theorem forceV_eq : ∀ (v : AV) (K : AV → Ans), forceV v K = K v
  | .unk, _ => rfl
  | .bool _, _ => rfl
  | .int _ _, _ => rfl
  | .str _, _ => rfl
  | .nilp, _ => rfl
  | .ptr _ _, _ => by rw [forceV, lit_eq]
  | .eptr _ _ _, _ => by rw [forceV, lit_eq]
  | .rptr _ _ _, _ => rfl
  | .gh _, _ => rfl
  | .nils, _ => rfl
  | .own _, _ => by rw [forceV, lit_eq]
  | .sub _ _ _ _, _ => by rw [forceV, lit_eq]
  | .ro _ _, _ => rfl
  | .nilm, _ => rfl
  | .map _, _ => by rw [forceV, lit_eq]
  | .nilf, _ => rfl
  | .nili, _ => rfl
  | .fn f a b, K => by rw [forceV, forceVsA a, forceVsA b]
  | .ifc t v, K => by rw [forceV, forceV_eq v]
  | .agg cs, K => by rw [forceV, forceVsA cs]
  | .tup vs, K => by rw [forceV, forceVsA vs]
theorem forceVsA : ∀ (l : List AV) (K : List AV → Ans), forceVs l K = K l
  | [], _ => rfl
  | v :: r, K => by rw [forceVs, forceV_eq v, forceVsA r]
end
theorem forceO_eq (o : Obj) (K : Obj → Ans) : forceO o K = K o := by
  cases o with
  | cells cs => rw [forceO, forceVsA]
  | bcells cs => rw [forceO, forceVsA]
  | _ => rfl
theorem forceH_eq : ∀ (l : List Obj) (K : List Obj → Ans), forceH l K = K l
  | [], _ => rfl
  | o :: r, K => by rw [forceH, forceO_eq, forceH_eq r]
theorem forceT_eq : ∀ (l : Tmps) (K : Tmps → Ans), forceT l K = K l
  | [], _ => rfl
  | (d, v) :: r, K => by rw [forceT, forceV_eq, forceT_eq r]
theorem forceS_eq : ∀ (l : List Tmps) (K : List Tmps → Ans), forceS l K = K l
  | [], _ => rfl
  | e :: r, K => by rw [forceS, forceT_eq, forceS_eq r]
theorem forceSt_eq (s : St) (K : St → Ans) : forceSt s K = K s := by
  obtain ⟨env, stk, H, blk⟩ := s
  rw [forceSt]
  cases blk <;> rw [forceB, forceT_eq, forceS_eq, forceH_eq]
theorem newObj_eq (s : St) (o : Obj) (K : Nat → St → Ans) : newObj s o K = K s.H.length { s with H := s.H ++ [o] } := by
  obtain ⟨env, stk, H, blk⟩ := s
  rw [newObj, lit_eq, forceH_eq]
theorem updObj_eq (s : St) (i : Nat) (o : Obj) (K : St → Ans) : updObj s i o K = K { s with H := setH s.H i o } := by
  obtain ⟨env, stk, H, blk⟩ := s
  rw [updObj, forceH_eq]

theorem not_frozen {w : World} {b : Nat} {c : Array Value} {e : TypeId} {fr : Nat × Nat} (h : w.heap[b]? = some (.cells c e fr)) (hf : Free fr c.size) {o : Nat} (ho : o < c.size) : w.frozen? ⟨b, o, none⟩ = false := by
  simp only [World.frozen?, h]
  have := hf o ho
  simp
  intro h1
  have : ¬ o < fr.2 := fun h2 => this ⟨h1, h2⟩
  omega

theorem run_storeAt [BT] {C : Cx} {t : Nat} {i : TI} {d : TypeDesc} {info : TypeInfo} {z : Value} (hi : TIok P t i d info z) {b o : Nat} {c : Array Value} {e : TypeId} {fr : Nat × Nat} (hw : C.w.heap[b]? = some (.cells c e fr)) (hf : Free fr c.size)
    {u : Value} (hsz : u.cells.size = i.size) (h1 : ∀ x ∈ u.cells.toList, x.oneCell' = true) (ho : o + u.cells.size ≤ c.size) :
    (Instr.storeAt t (.pointer (some ⟨b, o, none⟩)) u).run P C.w = .ok () (C.w.setCells b o u.cells.toList) := by
  have hst := run_storeCells_cells (P := P) b o u.cells.toList 0 C.w (fun j hj => by
      rw [cell_blk (blkOf_cells hw)]
      simp only [Array.length_toList] at hj
      rw [Array.getElem?_eq_getElem (by omega)]; rfl)
    (fun j hj => not_frozen hw hf (by simp only [Array.length_toList] at hj; omega)) h1
  rw [Nat.add_zero] at hst
  simp [Instr.storeAt, Instr.sureAddr, storeVar, hi.run_sizeOf, hsz, hst]

theorem upd_foot {C : Cx} {n b : Nat} {o o' : Obj} {w' : World} {c' : Array Value} (hg : getH C.H n = o) (hb : C.ρ n = some b) (hs : SameShape o o') (hw : World.Turned C.w w' b c') : FootOk C ⟨C.R, C.ρ, setH C.H n o', w'⟩ (some [n]) := by
  have hln : Live C.H n := by unfold Live; rw [hg]; exact hs.live.1
  intro k hk hno
  have hkb : k ≠ b := fun e => hno n (List.mem_singleton.2 rfl) hln (e ▸ hb)
  refine ⟨hw.other k hkb, by show k < w'.heap.size; rw [hw.size]; exact hk, fun i hl hi => ⟨?_, hi⟩⟩
  by_cases e : i = n
  · rw [e]; exact hln
  · unfold Live at hl ⊢
    intro hd
    exact hl ((getH_setH_other (Ne.symm e)).trans hd)
def footP : AV → Option (List Nat)
  | .ptr n _ => some [n]
  | .eptr n _ _ => some [n]
  | _ => none

theorem store_sound [BT] (hT : TabOk P T) {F : Fr} {C : Cx} {s : St} {tmps : Array Value} {stk : List (Array Value)} (hS : SRel F C s tmps stk) {t : Nat} {p v : AV} {pv u : Value} (hp : VRel C p pv) (hv : VRel C v u) {K : St → Ans} {res : AV × List Obj}
    (h : store T s t p v K = some res) : ∃ s' C' w', K s' = some res ∧ (Instr.storeAt t pv u).run P C.w = .ok () w' ∧ C'.w = w' ∧ SRel F C' s' tmps stk ∧ s'.env = s.env ∧ s'.stk = s.stk ∧ s'.blk = s.blk ∧ FootOk C C' (footP p) := by
  unfold store at h
  replace h := bindO_some h; obtain ⟨i, hti, h⟩ := h
  obtain ⟨d, info, z, hi⟩ := hT t i hti
  simp only at h
  replace h := cond_none h; obtain ⟨hc, h⟩ := h
  simp only [Bool.and_eq_true] at hc
  have hsz := beq_of hc.1
  obtain ⟨hcv, hco⟩ := cellsOf_rel hv hc.2
  have hul : u.cells.size = i.size := by have := hcv.length; simp only [Array.length_toList] at this; omega
  have hH := hS.H
  have hh := hS.heap
  cases p with
  | ptr n off =>
    simp only at h
    rw [VRel] at hp
    obtain ⟨b, hb, rfl, _⟩ := hp
    rw [← hH] at h
    split at h
    · rename_i cs hg
      replace h := bindO_some h; obtain ⟨cs', hcs', h⟩ := h
      rw [updObj_eq] at h
      obtain ⟨b', c, e, fr, hb', hw, hfr, hvs, hone⟩ := obj_cells hh hg
      obtain rfl : b = b' := Option.some.inj (hb.symm.trans hb')
      obtain ⟨p1, p2, p3⟩ := putCells_rel hcs' hvs hcv
      simp only [Array.length_toList] at p1 p2
      obtain ⟨c', hc1, hc2⟩ := setCells_turned b u.cells.toList off C.w c e fr hw (by simpa using p2)
      obtain ⟨r1, r2, r3, r4, r5⟩ := setCells_rest b u.cells.toList off C.w
      have hcsz : c'.size = c.size := by
        rw [← Array.length_toList, hc2]; simp; omega
      have htn : World.Turned C.w (C.w.setCells b off u.cells.toList) b c' := ⟨r1, r2, r3, r4, r5, fun c0 e0 fr0 h0 => by
        rw [hw] at h0; cases h0; exact ⟨hc1, hcsz⟩⟩
      have hsh : SameShape (.cells cs) (.cells cs') := .cells cs cs' p3
      have hln : Live C.H n := by unfold Live; rw [hg]; simp
      refine ⟨_, _, _, h, run_storeAt hi hw hfr hul hco p2, rfl, upd_sound hS hg hb hsh htn ?_, rfl, rfl, rfl, upd_foot hg hb hsh htn⟩
      refine ⟨b, c', e, fr, rfl, hc1, by rw [hcsz]; exact hfr, ?_, ?_⟩
      · rw [hc2]
        simp only [Array.length_toList]
        exact VRels.mono (upd_ref hg hsh htn C.R) (turned_R hS hln hb htn) p1
      · intro x hx
        rw [hc2] at hx
        simp only [List.mem_append] at hx
        rcases hx with (hx | hx) | hx
        · exact hone x (List.mem_of_mem_take hx)
        · exact hco x hx
        · exact hone x (List.mem_of_mem_drop hx)
    · rename_i cs hg
      obtain ⟨h1off, h⟩ := cond_none h
      have h1off := Nat.le_of_ble_eq_true h1off
      obtain ⟨o1, rfl⟩ : ∃ o1, off = o1 + 1 := ⟨off - 1, by omega⟩
      rw [show Nat.sub (o1 + 1) 1 = o1 from rfl] at h
      replace h := bindO_some h; obtain ⟨cs', hcs', h⟩ := h
      rw [updObj_eq] at h
      obtain ⟨b', c, v0, hb', hw, ⟨vs, hcv0, hvs⟩, hone, hv0⟩ := obj_bcells hh hg
      obtain rfl : b = b' := Option.some.inj (hb.symm.trans hb')
      obtain ⟨p1, p2, p3⟩ := putCells_rel hcs' hvs hcv
      have hcs0 : c.size = vs.length + 1 := by rw [← Array.length_toList, hcv0]; rfl
      have p2' : (o1 + 1) + u.cells.size ≤ c.size := by simp only [Array.length_toList] at p2; omega
      obtain ⟨c', hc1, hc2⟩ := setCells_turned b u.cells.toList (o1 + 1) C.w c BT.bld (0, 0) hw (by simpa using p2')
      obtain ⟨r1, r2, r3, r4, r5⟩ := setCells_rest b u.cells.toList (o1 + 1) C.w
      have hcsz : c'.size = c.size := by
        rw [← Array.length_toList, hc2]; simp; omega
      have htn : World.Turned C.w (C.w.setCells b (o1 + 1) u.cells.toList) b c' := ⟨r1, r2, r3, r4, r5, fun c0 e0 fr0 h0 => by
        rw [hw] at h0; cases h0; exact ⟨hc1, hcsz⟩⟩
      have hsh : SameShape (.bcells cs) (.bcells cs') := .bcells cs cs'
      have hln : Live C.H n := by unfold Live; rw [hg]; simp
      refine ⟨_, _, _, h, run_storeAt hi hw (fun x _ hx => by omega) hul hco p2', rfl, upd_sound hS hg hb hsh htn ?_, rfl, rfl, rfl, upd_foot hg hb hsh htn⟩
      refine ⟨b, c', v0, rfl, hc1, ⟨_, ?_, VRels.mono (upd_ref hg hsh htn C.R) (turned_R hS hln hb htn) p1⟩, ?_, hv0⟩
      · rw [hc2, hcv0]
        simp only [List.take_succ_cons, List.cons_append, List.append_assoc]
        congr 3
        rw [show o1 + 1 + u.cells.toList.length = (o1 + u.cells.toList.length) + 1 by omega, List.drop_succ_cons]
      · intro x hx
        rw [hc2] at hx
        simp only [List.mem_append] at hx
        rcases hx with (hx | hx) | hx
        · exact hone x (List.mem_of_mem_take hx)
        · exact hco x hx
        · exact hone x (List.mem_of_mem_drop hx)
    · cases h
  | eptr n idx off =>
    simp only at h
    rw [VRel] at hp
    obtain ⟨b, ty, l, hb, hg, rfl⟩ := hp
    rw [← hH, hg] at h
    simp only at h
    replace h := bindO_some h; obtain ⟨x, hx, h⟩ := h
    replace h := bindO_some h; obtain ⟨cs', hcs', h⟩ := h
    replace h := bindO_some h; obtain ⟨x', hx', h⟩ := h
    rw [updObj_eq] at h
    rcases obj_arrB hh hg with ⟨hn, _⟩ | ⟨b', c, e, fr, hb', hw, hfr, hl, hel, hby⟩
    · rw [hn] at hb; cases hb
    · obtain rfl : b = b' := Option.some.inj (hb.symm.trans hb')
      obtain ⟨us, hd, hu⟩ := hel idx x hx
      obtain ⟨p1, p2, p3⟩ := putCells_rel hcs' hd.cells hcv
      have hdl := hd.length
      have hidx : idx < l.length := (List.getElem?_eq_some_iff.1 hx).1
      have hin : idx * ty.size + ty.size ≤ c.size := by
        have : (idx + 1) * ty.size ≤ l.length * ty.size := Nat.mul_le_mul_right _ hidx
        rw [Nat.add_mul, Nat.one_mul] at this
        omega
      simp only [Array.length_toList] at p1 p2
      obtain ⟨c', hc1, hc2⟩ := setCells_turned b u.cells.toList (idx * ty.size + off) C.w c e fr hw (by simp; omega)
      obtain ⟨r1, r2, r3, r4, r5⟩ := setCells_rest b u.cells.toList (idx * ty.size + off) C.w
      have hcsz : c'.size = c.size := by
        rw [← Array.length_toList, hc2]; simp; omega
      have htn : World.Turned C.w (C.w.setCells b (idx * ty.size + off) u.cells.toList) b c' := ⟨r1, r2, r3, r4, r5, fun c0 e0 fr0 h0 => by
        rw [hw] at h0; cases h0; exact ⟨hc1, hcsz⟩⟩
      have hsh : SameShape (.arr ty l) (.arr ty (l.set idx x')) := .arr ty l _ (by simp)
      have hln : Live C.H n := by unfold Live; rw [hg]; simp
      have hRR := turned_R hS hln hb htn
      refine ⟨_, _, _, h, run_storeAt hi hw hfr hul hco (by omega), rfl, upd_sound hS hg hb hsh htn ?_, rfl, rfl, rfl, upd_foot hg hb hsh htn⟩
      refine .inr ⟨b, c', e, fr, rfl, hc1, by rw [hcsz]; exact hfr, by rw [hcsz]; simpa using hl, ?_, hby⟩
      -- the elements
      have hcell : ∀ q, c'[q]? = if q < idx * ty.size + off then c[q]? else if q < idx * ty.size + off + u.cells.size then u.cells[q - (idx * ty.size + off)]? else c[q]? := by
        intro q
        rw [← Array.getElem?_toList, hc2]
        split
        · rename_i hq
          rw [List.append_assoc, List.getElem?_append_left (by simp; omega), List.getElem?_take_of_lt hq, Array.getElem?_toList]
        · rename_i hq
          split
          · rename_i hq2
            rw [List.append_assoc, List.getElem?_append_right (by simp; omega), List.getElem?_append_left (by simp; omega)]
            simp only [List.length_take, Array.length_toList]
            rw [Nat.min_eq_left (by omega), Array.getElem?_toList]
          · rename_i hq2
            rw [List.getElem?_append_right (by simp; omega), List.getElem?_drop, Array.getElem?_toList]
            congr 1
            simp
            omega
      intro k y hk
      by_cases e : k = idx
      · subst e
        have hy : y = x' := by
          rw [List.getElem?_set_self hidx] at hk
          exact (Option.some.inj hk).symm
        subst hy
        have hdr := decAll_rel hx' p1
        refine ⟨_, DRel.mono (fun k hk => ⟨hk, (hRR k hk).2⟩) hdr, fun j x hj => ?_⟩
        have hjl := (List.getElem?_eq_some_iff.1 hj).1
        simp at hjl
        rw [hcell]
        rw [List.append_assoc] at hj
        by_cases hj1 : j < off
        · rw [if_pos (by omega)]
          rw [List.getElem?_append_left (by simp; omega), List.getElem?_take_of_lt hj1] at hj
          exact hu j x hj
        · rw [if_neg (by omega)]
          rw [List.getElem?_append_right (by simp; omega)] at hj
          simp only [List.length_take] at hj
          rw [Nat.min_eq_left (by omega)] at hj
          by_cases hj2 : j < off + u.cells.size
          · rw [if_pos (by omega)]
            rw [List.getElem?_append_left (by simp; omega), Array.getElem?_toList] at hj
            rw [← hj]
            congr 1
            omega
          · rw [if_neg (by omega)]
            rw [List.getElem?_append_right (by simp; omega), List.getElem?_drop] at hj
            refine hu j x ?_
            rw [← hj]
            congr 1
            simp
            omega
      · rw [List.getElem?_set_ne (Ne.symm e)] at hk
        obtain ⟨us', hd', hu'⟩ := hel k y hk
        refine ⟨us', DRel.mono (fun k hk => ⟨hk, (hRR k hk).2⟩) hd', fun j x hj => ?_⟩
        have hjl := (List.getElem?_eq_some_iff.1 hj).1
        rw [hd'.length] at hjl
        rw [hcell]
        rcases Nat.lt_or_gt_of_ne e with hlt | hgt
        · have : (k + 1) * ty.size ≤ idx * ty.size := Nat.mul_le_mul_right _ hlt
          rw [Nat.add_mul, Nat.one_mul] at this
          rw [if_pos (by omega)]
          exact hu' j x hj
        · have : (idx + 1) * ty.size ≤ k * ty.size := Nat.mul_le_mul_right _ hgt
          rw [Nat.add_mul, Nat.one_mul] at this
          rw [if_neg (by omega), if_neg (by omega)]
          exact hu' j x hj
  | _ => cases h
end Go.AE
