/- The abstract evaluator AE, proved: part 1. -/
import Derived.Calls
import Derived.Still
import Derived.KernelRfl
import Derived.StillTail
import Derived.Deep.Quiet
import Derived.Below
import Derived.MapKept
import Derived.Deep.MidRow
import Derived.ChangeKeysEq
import Derived.Laws.StructEq
set_option linter.unusedVariables false
set_option linter.unusedSimpArgs false
namespace Go.AE
class BT where
  byte:Nat
  bld:Nat
  meths:List (Nat×String×Nat)
def zlK:List (Nat×String×Nat)→Nat→String→Option Nat
  | [],_,_=>none
  | (t,n,g)::r,t',n'=>cond (Nat.beq t t'&&n == n') (some g) (zlK r t' n')
inductive Ty where
  | int (k:IntKind)
  | bool
  | str
  | unit
  | st (fs:Ty)
  | pair (a b:Ty)
  | list (e:Ty)
  deriving DecidableEq,Inhabited
@[reducible] def Ty.T:Ty→Type
  | .int _=>Int
  | .bool=>Bool
  | .str=>List UInt8
  | .unit=>Unit
  | .st f=>f.T
  | .pair a b=>a.T×b.T
  | .list e=>List e.T
def Ty.size:Ty→Nat
  | .unit=>0
  | .st f=>f.size
  | .pair a b=>a.size+b.size
  | _=>1
def Ty.flat:Ty→Bool      -- no slice inside
  | .st f=>f.flat
  | .pair a b=>a.flat&&b.flat
  | .list _=>false
  | _=>true
inductive AV where
  | unk
  | bool (b:Bool)
  | int (k:IntKind) (n:Int)
  | str (s:List UInt8)
  | nilp
  | ptr (i off:Nat)
  | eptr (i idx off:Nat)
  | rptr (t:Ty) (x:t.T) (off:Nat)
  | nils
  | own (i:Nat)
  | sub (i off len esz:Nat)
  | ro (t:Ty) (l:List t.T)
  | nilm
  | map (i:Nat)
  | fn (f:Fn) (first cap:List AV)
  | nilf
  | nili
  | ifc (t:Nat) (v:AV)
  | agg (cs:List AV)
  | tup (vs:List AV)
  | gh (l:List Int)
def cells:(t:Ty)→t.T→List AV
  | .int k,n=>[.int k n]
  | .bool,b=>[.bool b]
  | .str,s=>[.str s]
  | .unit,_=>[]
  | .st f,x=>cells f x
  | .pair a b,x=>cells a x.1++cells b x.2
  | .list e,l=>[.ro e l]
def enc:(t:Ty)→t.T→AV
  | .int k,n => .int k n
  | .bool,b => .bool b
  | .str,s => .str s
  | .unit,_ => .agg []
  | .st f,x => .agg (cells f x)
  | .pair a b,x => .agg (cells a x.1++cells b x.2)
  | .list e,l => .ro e l
def yH (e e':Ty) (l:List e'.T):Option (List e.T) :=
  match decEq e' e with
  | isTrue h=>some (h ▸ l)
  | isFalse _=>none
def dec:(t:Ty)→List AV→Option (t.T×List AV)
  | .int k,cs=>match cs with
    | .int k' n::r=>match decEq k' k with | isTrue _=>some (n,r) | isFalse _=>none
    | _=>none
  | .bool,cs=>match cs with
    | .bool b::r=>some (b,r)
    | _=>none
  | .str,cs=>match cs with
    | .str s::r=>some (s,r)
    | _=>none
  | .unit,r=>some ((),r)
  | .st f,r=>dec f r
  | .pair a b,r=>match dec a r with
    | some (x,r')=>match dec b r' with
      | some (y,r'')=>some ((x,y),r'')
      | none=>none
    | none=>none
  | .list e,cs=>match cs with
    | .ro e' l::r=>match yH e e' l with | some l'=>some (l',r) | none=>none
    | .nils::r=>some ([],r)
    | _=>none
def j6 (t:Ty) (cs:List AV):Option t.T :=
  match dec t cs with
  | some (x,[])=>some x
  | _=>none
def AV.cellsOf:AV→List AV
  | .agg cs=>cs
  | v=>[v]
def AV.cellOk:AV→Bool
  | .unk=>false
  | .agg _=>false
  | .tup _=>false
  | .gh _=>false
  | .eptr .. => true
  | _=>true
inductive Obj where
  | dead
  | cells (cs:List AV)
  | arr (t:Ty) (l:List t.T)
  | bcells (cs:List AV)
  | btold (s:List Int)
  | mp (k:IntKind) (v:Ty) (l:List (Int×v.T))
def Ty.sc:Ty→Bool
  | .int _=>true
  | .bool=>true
  | .str=>true
  | _=>false
def JN {α:Type} (n:Int) (z:α):List (Int×α)→α
  | []=>z
  | (m,x)::r=>cond (n == m) x (JN n z r)
def zfG {α:Type} (n:Int):List (Int×α)→Bool
  | []=>false
  | (m,_)::r=>cond (n == m) true (zfG n r)
def zdI {α:Type} (n:Int) (x:α):List (Int×α)→List (Int×α)
  | []=>[(n,x)]
  | (m,y)::r=>cond (n == m) ((n,x)::r) ((m,y)::zdI n x r)
def zG4 (k:IntKind) (e:Ty) (k':IntKind) (e':Ty) (l:List (Int×e'.T)):Option (List (Int×e.T)) :=
  match decEq k' k with
  | isTrue _=>match decEq e' e with
    | isTrue h=>some (h ▸ l)
    | isFalse _=>none
  | isFalse _=>none
inductive TK where
  | sc                              -- one cell
  | ptr (e:Nat)
  | slice (e:Nat)
  | array (n e:Nat)
  | struct (fs:List (Nat×Nat))  -- each field's type and offset
  | map (k e:Nat)
structure TI where
  k:TK
  size:Nat
  bytes:Nat
  zero:List AV
  ty:Option Ty
abbrev Tab:=List (Nat×TI)
def Tab.get:Tab→Nat→Option TI
  | [],_=>none
  | (n,i)::r,t=>cond (Nat.beq n t) (some i) (Tab.get r t)
def TI.isAgg (i:TI):Bool :=
  match i.k with
  | .struct _=>true
  | .array _ _=>true
  | _=>false
abbrev zT:=List (Nat×AV)
def Zm:zT→Nat→AV
  | [],_ => .unk
  | (d,v)::r,t=>cond (Nat.beq d t) v (Zm r t)
structure St where
  env:zT
  stk:List zT
  H:List Obj
  blk:Nat
inductive Ex where
  | norm
  | exit (id:Nat)
  | ret
  | goto (l:Nat)
abbrev Ans:=Option (AV×List Obj)
abbrev KV:=AV→St→Ans
def zfh:Value→AV
  | .bool b => .bool b
  | .int k n => .int k n
  | .string s => .str s.data.toList
  | .pointer none => .nilp
  | .slice none 0 0 => .nils
  | .map none => .nilm
  | .nilFunc => .nilf
  | .nilIface => .nili
  | _ => .unk
def zdp:Value→AV
  | .agg cs => .agg (cs.toList.map zfh)
  | v=>zfh v
def opd (env:zT):Operand→AV
  | .tmp t=>Zm env t
  | .const v=>zdp v
  | .global _ => .unk
  | .func f => .fn (.func f) [] []
mutual
def AV.mapR (g:AV→AV):AV→AV
  | .fn f a b => .fn f (AV.mapRs g a) (AV.mapRs g b)
  | .ifc t v => .ifc t (v.mapR g)
  | .agg cs => .agg (AV.mapRs g cs)
  | .tup vs => .tup (AV.mapRs g vs)
  | .unk => .unk
  | .bool b => .bool b
  | .int k n => .int k n
  | .str s => .str s
  | .nilp => .nilp
  | .nils => .nils
  | .nilm => .nilm
  | .nilf => .nilf
  | .nili => .nili
  | .ro t l => .ro t l
  | .rptr t x o => .rptr t x o
  | .gh l => .gh l
  | .ptr i o=>g (.ptr i o)
  | .eptr i n o=>g (.eptr i n o)
  | .own i=>g (.own i)
  | .sub i o l e=>g (.sub i o l e)
  | .map i=>g (.map i)
def AV.mapRs (g:AV→AV):List AV→List AV
  | []=>[]
  | v::r=>v.mapR g::AV.mapRs g r
end
def Zx (i:Nat):AV→AV
  | .own j=>cond (Nat.beq i j) .unk (.own j)
  | .sub j o l e=>cond (Nat.beq i j) .unk (.sub j o l e)
  | .eptr j n o=>cond (Nat.beq i j) .unk (.eptr j n o)
  | .ptr j o=>cond (Nat.beq i j) .unk (.ptr j o)
  | .map j=>cond (Nat.beq i j) .unk (.map j)
  | v=>v
def Zo (i:Nat) (t:Ty) (l:List t.T):AV→AV
  | .own j=>cond (Nat.beq i j) (.ro t l) (.own j)
  | .sub j o n e=>cond (Nat.beq i j) (.ro t ((l.drop o).take n)) (.sub j o n e)
  | .eptr j n o=>cond (Nat.beq i j) .unk (.eptr j n o)
  | .ptr j o=>cond (Nat.beq i j) .unk (.ptr j o)
  | .map j=>cond (Nat.beq i j) .unk (.map j)
  | v=>v
def Z8 (g:AV→AV):zT→zT
  | []=>[]
  | (d,v)::r=>(d,v.mapR g)::Z8 g r
def Obj.mapR (g:AV→AV):Obj→Obj
  | .cells cs => .cells (AV.mapRs g cs)
  | .bcells cs => .bcells (AV.mapRs g cs)
  | o=>o
def zV (g:AV→AV):List Obj→List Obj
  | []=>[]
  | o::r=>o.mapR g::zV g r
def YG (g:AV→AV):List zT→List zT
  | []=>[]
  | e::r=>Z8 g e::YG g r
def St.mapR (g:AV→AV) (s:St):St:={ s with env:=Z8 g s.env,stk:=YG g s.stk,H:=zV g s.H }
def zp:List Obj→Nat→Obj
  | [],_ => .dead
  | o::_,0=>o
  | _::r,i+1=>zp r i
def Zc:List Obj→Nat→Obj→List Obj
  | [],_,_=>[]
  | _::r,0,x=>x::r
  | o::r,i+1,x=>o::Zc r i x
mutual
def AV.refs:AV→List Nat
  | .ptr i _=>[i]
  | .eptr i _ _=>[i]
  | .own i=>[i]
  | .sub i _ _ _=>[i]
  | .map i=>[i]
  | .fn _ a b=>AV.refsL a++AV.refsL b
  | .ifc _ v=>v.refs
  | .agg cs=>AV.refsL cs
  | .tup vs=>AV.refsL vs
  | .unk=>[]
  | .bool _=>[]
  | .int _ _=>[]
  | .str _=>[]
  | .nilp=>[]
  | .nils=>[]
  | .nilm=>[]
  | .nilf=>[]
  | .nili=>[]
  | .ro _ _=>[]
  | .rptr _ _ _=>[]
  | .gh _=>[]
def AV.refsL:List AV→List Nat
  | []=>[]
  | v::r=>v.refs++AV.refsL r
end
def Obj.refs:Obj→List Nat
  | .cells cs=>AV.refsL cs
  | .bcells cs=>AV.refsL cs
  | _=>[]
def yU:zT→List Nat
  | []=>[]
  | (_,v)::r=>v.refs++yU r
def Ye:List zT→List Nat
  | []=>[]
  | e::r=>yU e++Ye r
def zpO:List Obj→List Nat
  | []=>[]
  | o::r=>o.refs++zpO r
def YM:List Nat→Nat→Bool
  | [],_=>false
  | a::r,n=>cond (Nat.beq a n) true (YM r n)
def zbe (roots:List Nat):Nat→List Obj→List Obj
  | 0,H=>H
  | n+1,H =>
    match H.length with
    | 0=>H
    | m+1=>cond (YM (roots++zpO (H.take m)) m) H (zbe roots n (H.take m))
def YH (env:zT):List Nat→zT
  | []=>[]
  | d::r=>(d,Zm env d)::YH env r
def St.head (s:St) (keep:List Nat):St :=
  let env:=YH s.env keep
  { s with env,H:=zbe (yU env++Ye s.stk) s.H.length s.H }
def nth {α:Type} (l:List α) (i:Int):Option α:=if 0≤i then l[i.toNat]? else none
def oneCell (cs:List AV):Option AV:=match cs with | [v]=>some v | _=>none
def YU {α:Type}:Nat→List α→Option (List α)     -- just so many
  | 0,_=>some []
  | n+1,x::r=>match YU n r with | some l=>some (x::l) | none=>none
  | _+1,[]=>none
def y9 (cs:List AV) (off:Nat) (new:List AV):Option (List AV) :=
  match YU off cs with
  | none=>none
  | some a=>match YU new.length (cs.drop off) with
    | none=>none
    | some _=>some (a++new++(cs.drop off).drop new.length)
def qa (cs:List AV) (off n:Nat):Option (List AV):=YU n (cs.drop off)
def Zl (l:List Int):List UInt8:=l.map fun n=>UInt8.ofNat n.toNat
def Zg (s:List UInt8):List Int:=s.map fun c=>(c.toNat:Int)
def za {α β:Type} (o:Option α) (k:α→Option β):Option β:=match o with | some a=>k a | none=>none
def asInt (v:AV) (k:Int→Ans):Ans:=match v with | .int _ n=>k n | _=>none
def Jn:List AV→Bool
  | []=>true
  | v::r=>v.cellOk&&Jn r
def zTb:List AV→AV→AV→Option Bool
  | [.bool _],.bool a,.bool b=>some (a == b)
  | [.int _ _],.int k a,.int k' b=>match decEq k k' with | isTrue _=>some (a == b) | isFalse _=>none
  | [.str _],.str a,.str b=>some (a == b)
  | [.nilf],.nilf,.nilf=>some true
  | [.nilf],.nilf,.fn _ _ _=>some false
  | [.nilf],.fn _ _ _,.nilf=>some false
  | [.nili],.nili,.ifc _ _=>some false
  | [.nili],.ifc _ _,.nili=>some false
  | _,_,_=>none
def zGS:AV→AV→Option Bool
  | .nilp,.nilp=>some true
  | .nilp,.ptr _ _=>some false
  | .ptr _ _,.nilp=>some false
  | .nilp,.eptr _ _ _=>some false
  | .eptr _ _ _,.nilp=>some false
  | .nilp,.rptr _ _ _=>some false
  | .rptr _ _ _,.nilp=>some false
  | _,_=>none
def zGX:AV→AV→Option Bool
  | .nilm,.nilm=>some true
  | .nilm,.map _=>some false
  | .map _,.nilm=>some false
  | _,_=>none
def zx9:AV→AV→Option Bool
  | .nils,.nils=>some true
  | _,_=>none
def zcF (T:Tab) (t:Nat) (cs:List AV) (off:Nat):Option AV :=
  match Tab.get T t with
  | some i=>match qa cs off i.size with
    | some a=>match i.isAgg with
      | true=>some (.agg a)
      | false=>oneCell a
    | none=>none
  | none=>none
def zJV:List AV→Bool
  | []=>true
  | .nili::_=>false
  | _::r=>zJV r
mutual
def eqV (T:Tab):Nat→Nat→AV→AV→Option Bool
  | 0,_,_,_=>none
  | d+1,t,x,y=>match Tab.get T t with
    | none=>none
    | some i=>match i.k with
      | .sc=>zTb i.zero x y
      | .ptr _=>zGS x y
      | .map _ _=>zGX x y
      | .slice _=>zx9 x y
      | .struct fs=>match zJV i.zero with
        | true=>match x,y with
          | .agg xs,.agg ys=>zAc T d fs xs ys
          | _,_=>none
        | false=>none
      | .array n e=>match zJV i.zero with
        | true=>match x,y with
          | .agg xs,.agg ys=>match Tab.get T e with
            | some j=>zyw T d (List.range n) e j.size xs ys
            | none=>none
          | _,_=>none
        | false=>none
def zAc (T:Tab):Nat→List (Nat×Nat)→List AV→List AV→Option Bool
  | 0,_,_,_=>none
  | _+1,[],_,_=>some true
  | d+1,(t,off)::r,xs,ys =>
    match zcF T t xs off,zcF T t ys off with
    | some a,some b=>match eqV T d t a b with
      | some p=>match zAc T d r xs ys with
        | some q=>some (p&&q)
        | none=>none
      | none=>none
    | _,_=>none
def zyw (T:Tab):Nat→List Nat→Nat→Nat→List AV→List AV→Option Bool
  | 0,_,_,_,_,_=>none
  | _+1,[],_,_,_,_=>some true
  | d+1,n::r,t,sz,xs,ys =>
    match zcF T t xs (n*sz),zcF T t ys (n*sz) with
    | some a,some b=>match eqV T d t a b with
      | some p=>match zyw T d r t sz xs ys with
        | some q=>some (p&&q)
        | none=>none
      | none=>none
    | _,_=>none
end
def zcs (op:BinOp) (k:IntKind) (a b:Int) (K:AV→Ans):Ans :=
  match op with
  | .add=>K (.int k (k.wrap (a+b)))
  | .sub=>K (.int k (k.wrap (a - b)))
  | .mul=>K (.int k (k.wrap (a*b)))
  | .quo=>cond (b == 0) none (K (.int k (k.wrap (a.tdiv b))))
  | .rem=>cond (b == 0) none (K (.int k (a.tmod b)))
  | .and=>K (.int k (k.wrap (((a % 2 ^ k.bits).toNat &&& (b % 2 ^ k.bits).toNat:Nat):Int)))
  | .or=>K (.int k (k.wrap (((a % 2 ^ k.bits).toNat ||| (b % 2 ^ k.bits).toNat:Nat):Int)))
  | .xor=>K (.int k (k.wrap (((a % 2 ^ k.bits).toNat ^^^ (b % 2 ^ k.bits).toNat:Nat):Int)))
  | .andNot=>K (.int k (k.wrap (((a % 2 ^ k.bits).toNat &&& (2 ^ k.bits - 1 - (b % 2 ^ k.bits).toNat):Nat):Int)))
  | .eql=>K (.bool (a == b))
  | .neq=>K (.bool (a != b))
  | .lss=>K (.bool (decide (a<b)))
  | .leq=>K (.bool (decide (a≤b)))
  | .gtr=>K (.bool (decide (a>b)))
  | .geq=>K (.bool (decide (a≥b)))
  | _=>none
def zrT (op:BinOp) (k:IntKind) (a b:Int) (K:AV→Ans):Ans :=
  cond (decide (b<0)) none
    (match op with
     | .shl=>K (.int k (k.wrap (a*2 ^ min b.toNat k.bits)))
     | .shr=>K (.int k (a.fdiv (2 ^ min b.toNat k.bits)))
     | _=>none)
def zM4 (op:BinOp) (a b:List UInt8) (K:AV→Ans):Ans :=
  match op with
  | .add=>cond (Nat.ble (a.length+b.length) 9223372036854775807) (K (.str (a++b))) none
  | .eql=>K (.bool (a == b))
  | .neq=>K (.bool (!(a == b)))
  | .lss=>K (.bool (Op.bytesLess a b))
  | .leq=>K (.bool (Op.bytesLess a b || a == b))
  | .gtr=>K (.bool (!(Op.bytesLess a b || a == b)))
  | .geq=>K (.bool (!(Op.bytesLess a b)))
  | _=>none
def zbK:BinOp→Bool
  | .shl=>true
  | .shr=>true
  | _=>false
def binOp (T:Tab) (op:BinOp) (t:Nat) (x y:AV) (K:AV→Ans):Ans :=
  match x,y with
  | .int k a,.int k' b =>
    cond (zbK op) (zrT op k a b K) (match decEq k k' with | isTrue _=>zcs op k a b K | isFalse _=>none)
  | .str a,.str b=>zM4 op a b K
  | x,y=>match op with
    | .eql=>za (eqV T 40 t x y) fun b=>K (.bool b)
    | .neq=>za (eqV T 40 t x y) fun b=>K (.bool (!b))
    | _=>none
def unOp (op:UnOp) (x:AV) (K:AV→Ans):Ans :=
  match op,x with
  | .neg,.int k n=>K (.int k (k.wrap (0 - n)))
  | .xor,.int k n=>zcs .xor k (if k.signed then -1 else k.max) n K
  | .not,.bool b=>K (.bool (!b))
  | _,_=>none
def zZk (n:Nat):Bool:=Nat.ble 5 n
def load (T:Tab) (s:St) (t:Nat) (p:AV) (K:AV→Ans):Ans :=
  za (Tab.get T t) fun i =>
    let back (cs:List AV):Ans:=cond i.isAgg (K (.agg cs)) (za (oneCell cs) K)
    match p with
    | .ptr n off=>match zp s.H n with
      | .cells cs=>za (qa cs off i.size) back
      | .bcells cs=>cond (Nat.ble 1 off) (za (qa cs (Nat.sub off 1) i.size) back) none
      | _=>none
    | .eptr n idx off=>match zp s.H n with
      | .arr ty l=>za (l[idx]?) fun x=>za (qa (cells ty x) off i.size) back
      | _=>none
    | .rptr ty x off=>za (qa (cells ty x) off i.size) back
    | _=>none
def fieldAddr (T:Tab) (t:Nat) (p:AV) (f:Nat) (K:AV→Ans):Ans :=
  za (Tab.get T t) fun i=>match i.k with
    | .struct fs=>za (fs[f]?) fun (ft,off)=>za (Tab.get T ft) fun j=>cond (Nat.beq j.size 0) none
      (match p with
       | .ptr n o=>K (.ptr n (o+off))
       | .eptr n x o=>K (.eptr n x (o+off))
       | .rptr ty x o=>K (.rptr ty x (o+off))
       | _=>none)
    | _=>none
def field (T:Tab) (t:Nat) (x:AV) (f:Nat) (K:AV→Ans):Ans :=
  za (Tab.get T t) fun i=>match i.k,x with
    | .struct fs,.agg cs=>za (fs[f]?) fun (ft,off)=>za (zcF T ft cs off) K
    | _,_=>none
def inR (i:Int) (n:Nat):Bool:=decide (0≤i)&&decide (i<(n:Int))
def qy (i:TI):Bool :=
  match i.zero with
  | [.str _]=>true
  | _=>false
def zm4 (len:Nat) (i:Int) (K:Nat→Ans):Ans :=
  match len with
  | 1=>cond (i == 0) (K 0) none
  | 2=>cond (i == 0) (K 0) (cond (i == 1) (K 1) none)
  | len=>cond (inR i len) (K i.toNat) none
theorem zKn (len:Nat) (i:Int) (K:Nat→Ans):zm4 len i K=cond (inR i len) (K i.toNat) none:=by
  unfold zm4
  split
  · by_cases h:i=0
    · subst h;rfl
    · have h1:inR i 1=false:=by
        unfold inR
        simp only [Bool.and_eq_false_iff,decide_eq_false_iff_not]
        omega
      have hb:(i == 0)=false:=by simpa using h
      rw [h1,hb]
      rfl
  · by_cases h:i=0
    · subst h;rfl
    · by_cases h2:i=1
      · subst h2;rfl
      · have h1:inR i 2=false:=by
          unfold inR
          simp only [Bool.and_eq_false_iff,decide_eq_false_iff_not]
          omega
        have hb:(i == 0)=false:=by simpa using h
        have hc:(i == 1)=false:=by simpa using h2
        rw [h1,hb,hc]
        rfl
  · rfl
def indexAddr (T:Tab) (s:St) (t:Nat) (x ix:AV) (K:AV→Ans):Ans :=
  asInt ix fun i=>za (Tab.get T t) fun ti=>match ti.k with
    | .slice e=>za (Tab.get T e) fun ei=>match x with
      | .own n=>match zp s.H n with
        | .arr ty l=>cond (Nat.beq ei.size ty.size) (cond (inR i l.length) (K (.eptr n i.toNat 0)) none) none
        | _=>none
      | .sub n off len e'=>cond (Nat.beq ei.size e') (match zp s.H n with
        | .arr _ _=>cond (inR i len) (K (.eptr n (off+i.toNat) 0)) none
        | .cells _=>cond (inR i len) (K (.ptr n ((off+i.toNat)*ei.size))) none
        | _=>none) none
      | .ro ty l=>cond (Nat.beq ei.size ty.size) (za (nth l i) fun y=>K (.rptr ty y 0)) none
      | _=>none
    | .array len e=>za (Tab.get T e) fun ei=>match x with
      | .ptr n off=>match zp s.H n with
        | .cells _=>zm4 len i fun j=>K (.ptr n (off+j*ei.size))
        | .arr ty l=>cond (Nat.beq off 0&&Nat.beq ei.size ty.size&&inR i len) (K (.eptr n i.toNat 0)) none
        | _=>none
      | .eptr n x off=>zm4 len i fun j=>K (.eptr n x (off+j*ei.size))
      | .rptr ty x off=>zm4 len i fun j=>K (.rptr ty x (off+j*ei.size))
      | _=>none
    | _=>none
def index (T:Tab) (t:Nat) (x ix:AV) (K:AV→Ans):Ans :=
  asInt ix fun i=>za (Tab.get T t) fun ti=>match ti.k with
    | .sc=>cond (qy ti) (match x with
      | .str s=>za (nth s i) fun c=>K (.int .u8 (c.toNat:Int))
      | _=>none) none
    | .array len e=>za (Tab.get T e) fun ei=>match x with
      | .agg cs=>zm4 len i fun j=>za (zcF T e cs (j*ei.size)) K
      | _=>none
    | _=>none
def q1 (len:Nat) (lo hi:Option AV) (K:Nat→Nat→Ans):Ans :=
  match lo,hi with
  | none,none=>K 0 len
  | some l,none=>asInt l fun a=>cond (inR a (len+1)) (K a.toNat len) none
  | none,some h=>asInt h fun b=>cond (inR b (len+1)) (K 0 b.toNat) none
  | some l,some h=>asInt l fun a=>asInt h fun b=>cond (inR b (len+1)&&inR a (b.toNat+1)) (K a.toNat b.toNat) none
def zrI {α:Type} (l:List α) (lo hi:Option AV) (a b:Nat):List α :=
  match lo,hi with
  | none,none=>l
  | some _,none=>l.drop a
  | none,some _=>l.take b
  | some _,some _=>(l.drop a).take (b - a)
def zjC (n:Nat) (lo hi:Option AV) (a b size:Nat):AV :=
  match lo,hi with
  | none,none => .own n
  | _,_ => .sub n a (b - a) size
def slice (T:Tab) (s:St) (t:Nat) (x:AV) (lo hi mx:Option AV) (K:AV→Ans):Ans :=
  match mx with
  | some _=>none
  | none=>za (Tab.get T t) fun ti=>match ti.k with
    | .sc=>cond (qy ti) (match x with
      | .str a=>q1 a.length lo hi fun i j=>K (.str (zrI a lo hi i j))
      | _=>none) none
    | .slice e=>za (Tab.get T e) fun ei=>match x with
      | .own n=>match zp s.H n with
        | .arr ty l=>cond (Nat.beq ei.size ty.size) (q1 l.length lo hi fun a b=>K (zjC n lo hi a b ty.size)) none
        | _=>none
      | .sub n off len e'=>cond (Nat.beq ei.size e') (q1 len lo hi fun a b=>K (.sub n (off+a) (b - a) e')) none
      | .ro ty l=>cond (Nat.beq ei.size ty.size) (q1 l.length lo hi fun a b=>K (.ro ty (zrI l lo hi a b))) none
      | .nils=>q1 0 lo hi fun _ _=>K .nils
      | _=>none
    | .array len e=>za (Tab.get T e) fun ei=>match x with
      | .ptr n off=>match zp s.H n with
        | .arr ty l=>cond (Nat.beq off 0&&Nat.beq l.length len&&Nat.beq ei.size ty.size) (q1 l.length lo hi fun a b=>K (zjC n lo hi a b ty.size)) none
        | .cells cs=>cond (Nat.beq off 0&&Nat.beq cs.length (len*ei.size)) (q1 len lo hi fun a b=>K (.sub n a (b - a) ei.size)) none
        | _=>none
      | _=>none
    | _=>none
def Y7 (place:Nat→Option (Nat×Nat)):List AV→List (Nat×AV)→Option (List AV)
  | cs,[]=>some cs
  | cs,(i,v)::r=>match place i with
    | none=>none
    | some (off,size)=>cond (Nat.beq v.cellsOf.length size&&Jn v.cellsOf) (match y9 cs off v.cellsOf with
      | some cs'=>Y7 place cs' r
      | none=>none) none
def zbI (T:Tab) (i:TI) (n:Nat):Option (Nat×Nat) :=
  match i.k with
  | .struct fs=>match fs[n]? with
    | some (ft,off)=>match Tab.get T ft with
      | some j=>some (off,j.size)
      | none=>none
    | none=>none
  | .array _ e=>match Tab.get T e with
    | some j=>some (n*j.size,j.size)
    | none=>none
  | _=>none
def zpH (T:Tab) (i:TI):Bool :=
  match i.k with
  | .struct fs=>fs.all fun f=>(Tab.get T f.1).isSome
  | .array _ e=>(Tab.get T e).isSome
  | _=>false
def Wa (z:List AV):Nat→List AV
  | 0=>[]
  | n+1=>z++Wa z n
def j8 (t:Ty):Nat→List AV→Option (List t.T)
  | 0,[]=>some []
  | 0,_::_=>none
  | n+1,cs=>match dec t cs with
    | some (x,r)=>match j8 t n r with
      | some l=>some (x::l)
      | none=>none
    | none=>none
def Ty.isU8:Ty→Bool
  | .int .u8=>true
  | _=>false
def zvt [BT] (T:Tab) (t:Nat) (zero:List AV):Obj :=
  match Tab.get T t with
  | some i=>match i.k with
    | .array n e=>cond (zZk n) (match Tab.get T e with
        | some j=>match j.ty with
          | some ty=>cond ty.isU8 (.cells zero) (match j8 ty n zero with
            | some l => .arr ty l
            | none => .cells zero)
          | none => .cells zero
        | none => .cells zero) (.cells zero)
    | _=>match zero with
      | .nilp::r=>cond (Nat.beq t BT.bld) (.bcells r) (.cells zero)
      | _ => .cells zero
  | none => .cells zero
def za3 (s:St) (t:Ty) (v:AV):Option (List t.T) :=
  match v with
  | .nils=>some []
  | .ro t' l=>yH t t' l
  | .own n=>match zp s.H n with
    | .arr t' l=>yH t t' l
    | _=>none
  | .sub n off len e=>match zp s.H n with
    | .arr t' l=>match yH t t' l with
      | some l'=>cond (Nat.ble (off+len) l'.length) (some ((l'.drop off).take len)) none
      | none=>none
    | .cells cs=>cond (Nat.beq e t.size) (j8 t len ((cs.drop (off*e)).take (len*e))) none
    | _=>none
  | _=>none
def zG6 (s:St) (t:Ty) (v:AV) (K:List t.T→Ans):Ans :=
  match v with
  | .nils=>K []
  | .ro t' l=>za (yH t t' l) K
  | .own n=>match zp s.H n with
    | .arr t' l=>za (yH t t' l) K
    | _=>none
  | .sub n off len e=>match zp s.H n with
    | .arr t' l=>za (yH t t' l) fun l'=>cond (Nat.ble (off+len) l'.length) (K ((l'.drop off).take len)) none
    | .cells cs=>cond (Nat.beq e t.size) (za (j8 t len ((cs.drop (off*e)).take (len*e))) K) none
    | _=>none
  | _=>none
theorem zMc {α β:Type} (c:Bool) (x:α) (K:α→Option β):za (cond c (some x) none) K=cond c (K x) none:=by cases c <;> rfl
theorem z80 {α β:Type} (c:Bool) (x:Option α) (K:α→Option β):za (cond c x none) K=cond c (za x K) none:=by cases c <;> rfl
theorem z7m (s:St) (t:Ty) (v:AV) (K:List t.T→Ans):zG6 s t v K=za (za3 s t v) K:=by
  unfold zG6 za3
  cases v <;> try rfl
  case own n =>
    simp only
    cases zp s.H n <;> rfl
  case sub n off len e =>
    simp only
    cases zp s.H n <;> try rfl
    case cells cs=>simp only [z80]
    case arr t' l =>
      simp only
      cases yH t t' l with
      | none=>rfl
      | some l'=>exact (zMc _ _ _).symm
def Zap:List Nat:=[0,1,2,3,4,5,6,7,8,9,10,11,12,13,14,15,16,17,18,19,20,21,22,23,24,25,26,27,28,29,30,31,32,33,34,35,36,37,38,39,40,41,42,43,44,45,46,47,48,49,50,51,52,53,54,55,56,57,58,59,60,61,62,63]
def zGV (n:Nat) (K:Nat→Ans):List Nat→Ans
  | []=>K n
  | a::r=>cond (Nat.beq n a) (K a) (zGV n K r)
def lit (n:Nat) (K:Nat→Ans):Ans:=zGV n K Zap
mutual
def Z4 (v:AV) (K:AV→Ans):Ans :=
  match v with
  | .unk=>K .unk
  | .bool b=>K (.bool b)
  | .int k n=>K (.int k n)
  | .str s=>K (.str s)
  | .nilp=>K .nilp
  | .ptr i o=>lit i fun i=>K (.ptr i o)
  | .eptr i n o=>lit i fun i=>K (.eptr i n o)
  | .rptr t x o=>K (.rptr t x o)
  | .nils=>K .nils
  | .own i=>lit i fun i=>K (.own i)
  | .sub i o l e=>lit i fun i=>K (.sub i o l e)
  | .ro t l=>K (.ro t l)
  | .nilm=>K .nilm
  | .map i=>lit i fun i=>K (.map i)
  | .fn f a b=>Yx a fun a=>Yx b fun b=>K (.fn f a b)
  | .nilf=>K .nilf
  | .nili=>K .nili
  | .ifc t v=>Z4 v fun v=>K (.ifc t v)
  | .agg cs=>Yx cs fun cs=>K (.agg cs)
  | .tup vs=>Yx vs fun vs=>K (.tup vs)
  | .gh l=>K (.gh l)
def Yx (l:List AV) (K:List AV→Ans):Ans :=
  match l with
  | []=>K []
  | v::r=>Z4 v fun v=>Yx r fun r=>K (v::r)
end
def zs5 (o:Obj) (K:Obj→Ans):Ans :=
  match o with
  | .dead=>K .dead
  | .cells cs=>Yx cs fun cs=>K (.cells cs)
  | .bcells cs=>Yx cs fun cs=>K (.bcells cs)
  | .btold s=>K (.btold s)
  | .arr t l=>K (.arr t l)
  | .mp k v l=>K (.mp k v l)
def zci (l:List Obj) (K:List Obj→Ans):Ans :=
  match l with
  | []=>K []
  | o::r=>zs5 o fun o=>zci r fun r=>K (o::r)
def zlN (l:zT) (K:zT→Ans):Ans :=
  match l with
  | []=>K []
  | (d,v)::r=>Z4 v fun v=>zlN r fun r=>K ((d,v)::r)
def ztp (l:List zT) (K:List zT→Ans):Ans :=
  match l with
  | []=>K []
  | e::r=>zlN e fun e=>ztp r fun r=>K (e::r)
def z0B (n:Nat) (K:Nat→Ans):Ans :=
  match n with
  | 0=>K 0
  | n+1=>K (n+1)
def yl (s:St) (K:St→Ans):Ans :=
  match s with
  | ⟨env,stk,H,blk⟩=>z0B blk fun blk=>zlN env fun env=>ztp stk fun stk=>zci H fun H=>K ⟨env,stk,H,blk⟩
def qP (s:St) (o:Obj) (K:Nat→St→Ans):Ans :=
  match s with
  | ⟨env,stk,H,blk⟩=>lit H.length fun i=>zci (H++[o]) fun H=>K i ⟨env,stk,H,blk⟩
def Wy (s:St) (i:Nat) (o:Obj) (K:St→Ans):Ans :=
  match s with
  | ⟨env,stk,H,blk⟩=>zci (Zc H i o) fun H=>K ⟨env,stk,H,blk⟩
def store (T:Tab) (s:St) (t:Nat) (p v:AV) (K:St→Ans):Ans :=
  za (Tab.get T t) fun i =>
    let vs:=v.cellsOf
    cond (Nat.beq vs.length i.size&&Jn vs)
      (match p with
       | .ptr n off=>match zp s.H n with
         | .cells cs=>za (y9 cs off vs) fun cs'=>Wy s n (.cells cs') K
         | .bcells cs=>cond (Nat.ble 1 off) (za (y9 cs (Nat.sub off 1) vs) fun cs'=>Wy s n (.bcells cs') K) none
         | _=>none
       | .eptr n idx off=>match zp s.H n with
         | .arr ty l=>za (l[idx]?) fun x=>za (y9 (cells ty x) off vs) fun cs'=>za (j6 ty cs') fun x'=>Wy s n (.arr ty (l.set idx x')) K
         | _=>none
       | _=>none)
      none
def Jv:List Nat→List AV→St→(List AV→St→Ans)→Ans
  | [],vs,s,K=>K vs s
  | i::r,vs,s,K=>match zp s.H i with
    | .arr t l=>Yx (AV.mapRs (Zo i t l) vs) fun vs=>yl { s.mapR (Zo i t l) with H:=Zc (zV (Zo i t l) s.H) i .dead } fun s=>Jv r vs s K
    | _=>Jv r vs s K
end Go.AE
namespace Go.AE
inductive Ann where
  | none
  | seq (a b:Ann)
  | cond (a b:Ann)
  | block (a:Ann)
  | loop (a:Ann)
  | sum (G:(Ex→St→Ans)→St→Ans)
  | pack (k0:Nat) (a:Ann)
  | cut (k0:Nat) (keep:List Nat) (G:(Ex→St→Ans)→St→Ans)
  | at (k0:Nat) (keep:List Nat) (a:Ann)
  | norm (k0:Nat) (keep:List Nat)
  | rnd (a:Ann)
  | peel (k0:Nat) (keep:List Nat) (a:Ann) (G:(Ex→St→Ans)→St→Ans)
def Ann.fst:Ann→Ann
  | .pack _ a=>a.fst
  | .at _ _ a=>a.fst
  | .peel _ _ a _=>a
  | .seq a _=>a
  | .cond a _=>a
  | .block a=>a
  | .loop a=>a
  | _ => .none
def Ann.snd:Ann→Ann
  | .seq _ b=>b
  | .cond _ b=>b
  | _ => .none
def Ann.sum? : Ann→Option ((Ex→St→Ans)→St→Ans)
  | .sum G=>some G
  | .peel _ _ _ G=>some G
  | .pack _ a=>a.sum?
  | _=>Option.none
def Ann.pack? : Ann→Option Nat
  | .pack n _=>some n
  | _=>Option.none
def Ann.at? : Ann→Option (Nat×List Nat)
  | .at n l _=>some (n,l)
  | .peel n l _ _=>some (n,l)
  | _=>Option.none
inductive znZ where
  | inline (nt:Nat) (res:List ResultVar) (ann:Ann) (body:Code)
  | pure (F:List AV→(AV→Ans)→Ans)
  | func (F:List AV→List Obj→(AV→List Obj→Ans)→Ans)
  | iter (start:List AV→List Obj→(List Int→Ans)→Ans) (next:List AV→List Obj→List Int→Ans→(List AV→List Int→Ans)→Ans)
abbrev Env:=List (Nat×znZ)
def Env.get:Env→Nat→Option znZ
  | [],_=>none
  | (n,i)::r,t=>cond (Nat.beq n t) (some i) (Env.get r t)
abbrev zlF:=Nat→List Nat     -- which temporaries are kept at a loop's head (by the function's number*4096+the block round it)
def Zcg (blk id:Nat):Nat:=Nat.add (Nat.sub blk (Nat.mod blk 4096)) id
def zbP (H:List Obj):Nat→List Nat→List Nat→List Nat
  | 0,_,done=>done
  | _+1,[],done=>done
  | n+1,i::r,done=>cond (YM done i) (zbP H n r done) (zbP H n (r++(zp H i).refs) (done++[i]))
def zU:List Nat→Nat→Nat
  | [],_=>0
  | a::r,i=>cond (Nat.beq a i) 0 (zU r i+1)
def AV.reId (f:Nat→Nat):AV→AV
  | .ptr i o => .ptr (f i) o
  | .eptr i n o => .eptr (f i) n o
  | .own i => .own (f i)
  | .sub i o l e => .sub (f i) o l e
  | .map i => .map (f i)
  | v=>v
def getN:List Nat→Nat→Nat
  | [],_=>0
  | a::_,0=>a
  | _::r,i+1=>getN r i
def zrM (sel:List Nat) (base:Nat) (j:Nat):Nat:=cond (Nat.blt j sel.length) (getN sel j) (base+(j - sel.length))
def ZS (H:List Obj) (f:Nat→Nat):List Nat→List Obj
  | []=>[]
  | i::r=>(zp H i).mapR (AV.reId f)::ZS H f r
def We (f:Nat→Nat):List Nat→List Obj→List Obj→List Obj     -- selected ids,what they hold now,the caller's heap
  | [],news,H=>H++zV (AV.reId f) news
  | i::r,o::os,H=>We f r os (Zc H i (o.mapR (AV.reId f)))
  | _::_,[],H=>H
def jF (H:List Obj):AV→AV
  | .own n=>match zp H n with
    | .arr t l => .ro t l
    | _ => .own n
  | .sub n off len e=>match zp H n with
    | .arr t l=>cond (Nat.ble (off+len) l.length) (.ro t ((l.drop off).take len)) (.sub n off len e)
    | _ => .sub n off len e
  | v=>v
def zgB (H:List Obj) (sel:List Nat):AV→AV
  | .own j=>cond (YM sel j) .unk (.own j)
  | .sub j o l e=>cond (YM sel j) .unk (.sub j o l e)
  | .eptr j n o=>cond (YM sel j) .unk (.eptr j n o)
  | .map j=>cond (YM sel j) (match zp H j with | .mp _ _ _ => .map j | _ => .unk) (.map j)
  | .ptr j o=>cond (YM sel j) (match zp H j with | .cells _ => .ptr j o | .bcells _ => .ptr j o | .btold _ => .ptr j o | _ => .unk) (.ptr j o)
  | v=>v
def zkm:List Nat→List Nat→Bool
  | [],_=>true
  | a::r,l=>YM l a&&zkm r l
def zeY:List Nat→Bool
  | []=>true
  | a::r => !YM r a&&zeY r
def zdn (n:Nat):List Nat→Bool
  | []=>true
  | a::r=>Nat.blt a n&&zdn n r
def zbx (H:List Obj) (sel:List Nat):List Nat→Bool
  | []=>true
  | a::r=>zkm (zp H a).refs sel&&zbx H sel r
def zcn (l:List Nat) (K:List Nat→Ans):Ans :=
  match l with
  | []=>K []
  | a::r=>lit a fun a=>zcn r fun r=>K (a::r)
def zhE (H:List Obj) (roots sel:List Nat):Bool:=zeY sel&&zdn H.length sel&&zkm roots sel&&zbx H sel sel
def zpf (k0:Nat) (s:St) (K:St→Ans):Ans :=
  zcn (zbP s.H 400 (List.range k0++(Ye s.stk++yU s.env)) []) fun sel =>
  cond (zhE s.H (List.range k0++(Ye s.stk++yU s.env)) sel)
    (yl ⟨Z8 (AV.reId (zU sel)) s.env,YG (AV.reId (zU sel)) s.stk,ZS s.H (zU sel) sel,s.blk⟩ K) none
def Zde:Obj→Bool
  | .arr _ _=>true
  | _=>false
def zMQ (H:List Obj) (L:Nat):List Nat→List Nat
  | []=>[]
  | j::r=>cond (Zde (zp H j)) (Nat.add L j) j::zMQ H L r
def qG (H:List Obj) (roots sel:List Nat):Bool:=zeY sel&&zkm roots sel&&zbx H sel sel
def zmf (k0:Nat) (s:St) (K:St→Ans):Ans :=
  lit s.H.length fun L =>
  zcn (zMQ s.H L (List.range k0)) fun sl =>
  zcn (zbP s.H 400 (sl++(Ye s.stk++yU s.env)) []) fun sel =>
  cond (qG s.H (sl++(Ye s.stk++yU s.env)) sel)
    (yl ⟨Z8 (AV.reId (zU sel)) s.env,YG (AV.reId (zU sel)) s.stk,ZS s.H (zU sel) sel,s.blk⟩ K) none
def zg8 (j len e:Nat):AV→AV
  | .own i=>cond (Nat.beq i j) (.sub j 0 len e) (.own i)
  | v=>v
def zx2 (b c:Nat) (s:St) (K:St→Ans):Ans :=
  match zp s.H b with
  | .cells cs=>match cs[c]? with
    | some (.own j)=>match zp s.H j with
      | .arr t l=>yl (s.mapR (zg8 j l.length t.size)) K
      | _=>K s
    | _=>K s
  | _=>K s
def zG7 (b b2:Bool) (q c k1 k0:Nat) (s:St) (K:St→Ans):Ans:=cond b (cond b2 (zmf k1 s fun s=>zx2 q c s K) (zmf k1 s K)) (zpf k0 s K)
def Yb (k0:Nat) (s:St) (K:St→Ans):Ans :=
  zG7 (Nat.ble 100000 k0) (Nat.ble 200000 k0) (Nat.div (Nat.sub (Nat.div k0 100000) 2) 16) (Nat.mod (Nat.sub (Nat.div k0 100000) 2) 16) (Nat.mod k0 100000) k0 s K
def zvS (sel:List Nat):List Nat→Bool
  | []=>true
  | j::r=>Nat.beq (zU sel j) j&&zvS sel r
def ziN (k0:Nat) (v:AV) (H:List Obj) (K:AV→List Obj→Ans):Ans :=
  zcn (zbP H 400 (List.range k0++v.refs) []) fun sel =>
  cond (zhE H (List.range k0++v.refs) sel&&zvS sel (List.range k0))
    (Z4 (v.mapR (AV.reId (zU sel))) fun v=>zci (ZS H (zU sel) sel) fun H=>K v H) none
def zbU {α:Type}:List α→Bool
  | []=>true
  | _=>false
def Js (H:List Obj):List AV→(List AV→Ans)→Ans
  | [],K=>K []
  | .sub n off len e::r,K=>(match zp H n with
    | .arr t l=>cond (Nat.ble (off+len) l.length) (Js H r fun r=>K (.ro t ((l.drop off).take len)::r)) none
    | _=>Js H r fun r=>K (.sub n off len e::r))
  | v::r,K=>Js H r fun r=>K (v::r)
def zh0 (F:List AV→(AV→Ans)→Ans) (s:St) (args:List AV) (K:KV):Ans :=
  Js s.H args fun args=>Yx (AV.mapRs (jF s.H) args) fun args=>cond (zbU (AV.refsL args)) (F args fun r=>K r s) none
def JI (F:List AV→List Obj→(AV→List Obj→Ans)→Ans) (s:St) (args:List AV) (K:List Nat→KV):Ans :=
  Jv (AV.refsL args) args s fun args s =>
  zcn (zbP s.H 400 (AV.refsL args) []) fun sel =>
  cond (zeY sel&&zdn s.H.length sel&&zkm (AV.refsL args) sel&&zbx s.H sel sel)
    (lit s.H.length fun base =>
     Yx (AV.mapRs (AV.reId (zU sel)) args) fun args'=>zci (ZS s.H (zU sel) sel) fun H' =>
     F args' H' fun r H'=>cond (Nat.ble sel.length H'.length)
       (Z4 (r.mapR (AV.reId (zrM sel base))) fun r =>
        yl { s.mapR (zgB s.H sel) with H:=We (zrM sel base) sel H' (zV (zgB s.H sel) s.H) } fun s=>K sel r s) none)
    none
def callFunc (F:List AV→List Obj→(AV→List Obj→Ans)→Ans) (s:St) (args:List AV) (K:KV):Ans:=JI F s args fun _ r s=>K r s
def ziv (T:Tab) (t:Nat) (v:AV):Option Ty :=
  match v with
  | .nils=>match Tab.get T t with
    | some i=>match i.k with
      | .slice e=>match Tab.get T e with
        | some j=>j.ty
        | none=>none
      | _=>none
    | none=>none
  | _=>none
def yk (T:Tab) (t:Nat) (v:AV) (s:St) (K:KV):Ans :=
  match ziv T t v with
  | some ty=>qP s (.arr ty []) fun i s'=>K (.own i) s'
  | none=>K v s
def zcC (T:Tab):List (Nat×Nat)→List AV→St→(List AV→St→Ans)→Ans     -- a struct's fields (type,offset) | its cells
  | [],cs,s,K=>K cs s
  | (t,off)::r,cs,s,K=>match cs.drop off with
    | .nils::_=>yk T t .nils s fun v s'=>match y9 cs off [v] with
      | some cs'=>zcC T r cs' s' K
      | none=>none
    | _=>zcC T r cs s K
def zeroCells (T:Tab) (t:Nat) (s:St) (K:List AV→St→Ans):Ans :=
  za (Tab.get T t) fun i=>match i.k with
    | .struct fs=>zcC T fs i.zero s K
    | .slice _=>match i.zero with
      | [v]=>yk T t v s fun v' s'=>K [v'] s'
      | _=>none
    | _=>K i.zero s
def zaJ (T:Tab) (t:Nat):Option (Nat×TI) :=
  match Tab.get T t with
  | some i=>match i.k with
    | .slice e=>match Tab.get T e with
      | some j=>some (e,j)
      | none=>none
    | _=>none
  | none=>none
def buildSlice (T:Tab) (t len:Nat) (parts:List (Nat×AV)) (s:St) (K:KV):Ans :=
  za (zaJ T t) fun (_,j)=>cond (Nat.ble (len*j.size) 16777216)
    (za (Y7 (fun i=>some (i*j.size,j.size)) (Wa j.zero len) parts) fun cs =>
      match j.ty with
      | some ty =>
        Jv (AV.refsL cs) cs s fun cs s =>
        za (j8 ty len cs) fun l=>qP s (.arr ty l) fun i s=>K (.own i) s
      | none=>qP s (.cells cs) fun i s=>K (.sub i 0 len j.size) s)
    none
def zuB (i:TI):Bool :=
  match i.k with
  | .slice _=>true
  | .sc=>qy i
  | _=>false
def append (T:Tab) (t t2:Nat) (x y:AV) (s:St) (K:KV):Ans :=
  za (Tab.get T t2) fun i2=>cond (zuB i2) (za (zaJ T t) fun (_,j)=>cond (Nat.beq j.bytes 0) none (za j.ty fun ty =>
    let news:Option (List ty.T):=match y with
      | .str a=>yH ty (.int .u8) (Zg a)
      | y=>za3 s ty y
    za news fun b =>
      let put (i:Nat) (a:List ty.T) (s:St):Ans:=cond (Nat.ble ((a.length+b.length)*j.bytes) 140737488355328)
        (yl (s.mapR (Zx i)) fun s'=>Wy s' i (.arr ty (a++b)) fun s'=>K (.own i) s') none
      match x with
      | .own i=>match zp s.H i with
        | .arr t' l=>za (yH ty t' l) fun a=>put i a s
        | _=>none
      | .sub i off len _=>match zp s.H i with
        | .arr t' l=>cond (Nat.beq off 0&&Nat.ble len l.length) (za (yH ty t' l) fun a=>put i (a.take len) s) none
        | _=>none
      | _=>none)) none
def makeSlice (T:Tab) (t:Nat) (l c:AV) (s:St) (K:KV):Ans :=
  za (zaJ T t) fun (_,j)=>za j.ty fun ty=>za (j6 ty j.zero) fun z=>asInt l fun a=>asInt c fun b =>
    cond (decide (0≤a)&&decide (a≤b)&&decide (j.bytes*b≤281474976710656)&&decide (b≤9223372036854775807))
      (qP s (.arr ty (List.replicate a.toNat z)) fun i s=>K (.own i) s) none
def zb3 (i:TI):Option IntKind :=
  match i.k,i.zero with
  | .sc,[.int k _]=>some k
  | _,_=>none
def znc (i:TI):Bool :=
  match i.k,i.zero with
  | .sc,[.nili]=>true
  | _,_=>false
def zdX [BT] (T:Tab) (e:Nat):Bool :=
  Nat.beq e BT.byte&&match Tab.get T e with
  | some i=>match zb3 i with
    | some .u8=>true
    | _=>false
  | none=>false
def convert [BT] (T:Tab) (src dst:Nat) (x:AV) (s:St) (K:KV):Ans :=
  za (Tab.get T src) fun si=>za (Tab.get T dst) fun di =>
    match x with
    | .int _ n=>za (zb3 di) fun k=>K (.int k (k.wrap n)) s
    | .str a=>match di.k with
      | .slice e=>cond (zdX T e) (cond (Nat.ble a.length 140737488355328) (qP s (.arr (.int .u8) (Zg a)) fun i s=>K (.own i) s) none) none
      | .sc=>cond (qy di) (K (.str a) s) none
      | _=>none
    | x=>match si.k,di.k with
      | .slice e,.sc=>cond (zdX T e&&qy di) (za (za3 s (.int .u8) x) fun l=>K (.str (Zl l)) s) none
      | _,_=>none
def lenOf (T:Tab) (t:Nat) (x:AV) (s:St) (K:AV→Ans):Ans :=
  za (Tab.get T t) fun i=>match i.k with
  | .sc=>cond (qy i) (match x with
    | .str a=>K (.int .i64 a.length)
    | _=>none) none
  | .slice _=>match x with
    | .nils=>K (.int .i64 0)
    | .own n=>match zp s.H n with
      | .arr _ l=>K (.int .i64 l.length)
      | _=>none
    | .sub _ _ len _=>K (.int .i64 len)
    | .ro _ l=>K (.int .i64 l.length)
    | _=>none
  | .array n _=>K (.int .i64 n)
  | .map _ _=>match x with
    | .nilm=>K (.int .i64 0)
    | _=>none
  | _=>none
def zfd (T:Tab) (t:Nat):Option (IntKind×TI×Ty) :=
  match Tab.get T t with
  | some i=>match i.k with
    | .map k e=>match Tab.get T k,Tab.get T e with
      | some ki,some ei=>match zb3 ki,ei.ty with
        | some kk,some ty=>cond ty.sc (some (kk,ei,ty)) none
        | _,_=>none
      | _,_=>none
    | _=>none
  | none=>none
def zdb (s:St) (kk:IntKind) (ty:Ty) (x:AV):Option (List (Int×ty.T)) :=
  match x with
  | .nilm=>some []
  | .map i=>match zp s.H i with
    | .mp k' t' l=>zG4 kk ty k' t' l
    | _=>none
  | _=>none
def ziM (kk:IntKind) (ix:AV):Option Int :=
  match ix with
  | .int k n=>match decEq k kk with
    | isTrue _=>some n
    | isFalse _=>none
  | _=>none
def zeN (T:Tab) (t:Nat) (x ix:AV) (ok:Bool) (s:St) (K:AV→Ans):Ans :=
  za (zfd T t) fun (kk,ei,ty)=>za (ziM kk ix) fun n=>za (zdb s kk ty x) fun l=>za (j6 ty ei.zero) fun z =>
    cond ok (K (.tup [enc ty (JN n z l),.bool (zfG n l)])) (K (enc ty (JN n z l)))
def zjF (T:Tab) (t:Nat) (x ix y:AV) (s:St) (K:KV):Ans :=
  match x with
  | .map i=>za (zfd T t) fun (kk,_,ty)=>za (ziM kk ix) fun n=>za (zdb s kk ty (.map i)) fun l=>za (j6 ty [y]) fun z =>
      Wy s i (.mp kk ty (zdI n z l)) fun s=>K .unk s
  | _=>none
def zmR (T:Tab) (t:Nat) (r:Option Operand) (s:St) (K:KV):Ans :=
  match r with
  | none=>za (zfd T t) fun (kk,_,ty)=>qP s (.mp kk ty []) fun i s=>K (.map i) s
  | some _=>none
def zH9 (x:AV) (s:St) (K:KV):Ans :=
  match x with
  | .map i=>match zp s.H i with
    | .mp _ _ l=>K (.int .i64 l.length) s
    | _=>none
  | _=>none
def zA0 (x:AV) (s:St) (K:KV):Ans :=
  match x with
  | .nilm=>K (.tup []) s
  | .map i=>match zp s.H i with
    | .mp k t _=>Wy s i (.mp k t []) fun s=>K (.tup []) s
    | _=>none
  | _=>none
def z9W:AV→Bool
  | .map _=>true
  | _=>false
def zXX (s:St) (t:Ty) (y:AV) (K:List t.T→Ans):Ans :=
  match y with
  | .str a=>za (yH t (.int .u8) (Zg a)) K
  | y=>zG6 s t y K
def zJX (T:Tab) (t:Nat) (x y:AV) (s:St) (K:KV):Ans :=
  za (zaJ T t) fun (_,j)=>za j.ty fun ty=>zXX s ty y fun b =>
    match x with
    | .nils=>K (.int .i64 0) s
    | .own i=>match zp s.H i with
      | .arr t' l=>za (yH ty t' l) fun a=>Wy s i (.arr ty (b.take a.length++a.drop b.length)) fun s=>K (.int .i64 (Nat.min b.length a.length:Nat)) s
      | _=>none
    | .sub i off len _=>match zp s.H i with
      | .arr t' l=>cond (Nat.ble (off+len) l.length) (za (yH ty t' l) fun a=>Wy s i (.arr ty (a.take off++(b.take len++a.drop (off+Nat.min b.length len)))) fun s=>K (.int .i64 (Nat.min b.length len:Nat)) s) none
      | _=>none
    | _=>none
def max2 (x y:AV):Option AV :=
  match x,y with
  | .int k a,.int _ b=>some (.int k (if b>a then b else a))
  | _,_=>none
def min2 (x y:AV):Option AV :=
  match x,y with
  | .int k a,.int _ b=>some (.int k (if b<a then b else a))
  | _,_=>none
def zo6 (f:AV→AV→Option AV):AV→List AV→Option AV
  | x,[]=>some x
  | x,y::r=>match f x y with | some z=>zo6 f z r | none=>none
def extract (x:AV) (i:Nat) (K:AV→Ans):Ans :=
  match x with
  | .tup vs=>za (vs[i]?) K
  | _=>none
def isConst (x:Operand):Bool:=match x with | .const _=>true | _=>false
def zdU (T:Tab) (op:BinOp) (t:Nat) (c:Bool) (x y:AV) (K:AV→Ans):Ans :=
  match x with
  | .nili=>match y with
    | .nili=>cond c (za (Tab.get T t) fun i=>match i.k with
      | .sc=>match i.zero with
        | [.nili]=>match op with
          | .eql=>K (.bool true)
          | .neq=>K (.bool false)
          | _=>none
        | _=>none
      | _=>none) none
    | y=>binOp T op t x y K
  | x=>binOp T op t x y K
def zW4 (i:TI):Option AV :=
  cond (i.zero.any fun v=>match v with | .nils=>true | _=>false) none (match i.isAgg with
    | true=>some (.agg i.zero)
    | false=>oneCell i.zero)
def zrK (T:Tab) (t:Nat) (ok:Bool) (x:AV) (K:AV→Ans):Ans :=
  za (Tab.get T t) fun i=>cond (znc i) none
    (match x with
     | .ifc t' y=>cond (Nat.beq t' t) (cond ok (K (.tup [y,.bool true])) (K y)) (cond ok (za (zW4 i) fun z=>K (.tup [z,.bool false])) none)
     | .nili=>cond ok (za (zW4 i) fun z=>K (.tup [z,.bool false])) none
     | _=>none)
def AV.ifcOk:AV→Bool
  | .agg _=>true
  | v=>v.cellOk
def Zb [BT] (T:Tab) (o:Oper) (s:St) (K:AV→Ans):Option Ans :=
  let v:=opd s.env
  match o.op with
  | .move x=>some (K (v x))
  | .assign x=>some (K (v x))
  | .load t a=>some (load T s t (v a) K)
  | .nilCheck x=>some (match v x with
    | .ptr i off=>K (.ptr i off)
    | .eptr i n off=>K (.eptr i n off)
    | .rptr t y off=>K (.rptr t y off)
    | _=>none)
  | .binOp op t x y _=>some (zdU T op t (isConst x || isConst y) (v x) (v y) K)
  | .unOp op _ x=>some (unOp op (v x) K)
  | .slice t x lo hi mx=>some (slice T s t (v x) (lo.map v) (hi.map v) (mx.map v) K)
  | .fieldAddr t x f=>some (fieldAddr T t (v x) f K)
  | .field t x f=>some (field T t (v x) f K)
  | .indexAddr t x i=>some (indexAddr T s t (v x) (v i) K)
  | .index t x i=>some (index T t (v x) (v i) K)
  | .extract t i=>some (extract (v t) i K)
  | .makeInterface t x=>some (za (Tab.get T t) fun i=>cond ((v x).ifcOk && !znc i) (K (.ifc t (v x))) none)
  | .makeFunc f a b=>some (K (.fn f (a.toList.map v) (b.toList.map v)))
  | .typeAssert x _ t ok=>some (zrK T t ok (v x) K)
  | .pick c a b=>some (match v c with
    | .bool p=>cond p (K (v a)) (K (v b))
    | _=>none)
  | .build t parts=>some (za (Tab.get T t) fun i=>cond (zpH T i) (za (Y7 (zbI T i) i.zero (parts.toList.map fun (j,x)=>(j,v x))) fun cs=>K (.agg cs)) none)
  | .convert src dst x=>match v x with
    | .int k n=>some (convert T src dst (.int k n) s fun r _=>K r)
    | _=>none
  | .call c=>match c.callee with
    | .builtin .len=>cond ((c.args.toList.map v).any z9W) none (some (match c.args.toList,c.argTypes.toList with
      | [x],t::_=>lenOf T t (v x) s K
      | _,_=>none))
    | .builtin .max=>some (match c.args.toList with
      | x::r=>za (zo6 max2 (v x) (r.map v)) K
      | _=>none)
    | .builtin .min=>some (match c.args.toList with
      | x::r=>za (zo6 min2 (v x) (r.map v)) K
      | _=>none)
    | _=>none
  | _=>none
def YD [BT] (T:Tab) (o:Oper) (s:St) (K:KV):Ans :=
  let v:=opd s.env
  match o.op with
  | .assign x=>yk T o.type (v x) s K
  | .alloc t=>zeroCells T t s fun z s'=>qP s' (zvt T t z) fun i s'=>K (.ptr i 0) s'
  | .box t x=>za (Tab.get T t) fun i=>yk T t (v x) s fun r s' =>
      cond (Nat.beq r.cellsOf.length i.size&&Jn r.cellsOf) (qP s' (.cells r.cellsOf) fun i s'=>K (.ptr i 0) s') none
  | .build t parts=>za (Tab.get T t) fun i=>cond (zpH T i) (zeroCells T t s fun z s' =>
      za (Y7 (zbI T i) z (parts.toList.map fun (j,x)=>(j,v x))) fun cs=>Yx cs fun cs=>K (.agg cs) s') none
  | .buildSlice t len parts=>buildSlice T t len (parts.toList.map fun (j,x)=>(j,v x)) s K
  | .store t a x=>yk T t (v x) s fun r s'=>store T s' t (v a) r fun s''=>K .unk s''
  | .makeSlice t l c=>makeSlice T t (v l) (v c) s K
  | .convert src dst x=>convert T src dst (v x) s K
  | .lookup t x ix ok=>zeN T t (v x) (v ix) ok s fun r=>K r s
  | .mapUpdate t x ix y=>zjF T t (v x) (v ix) (v y) s K
  | .makeMap t r=>zmR T t r s K
  | .call c=>match c.callee with
    | .builtin .append=>(match c.args.toList,c.argTypes.toList with
      | [x,y],[t,t2]=>yk T t (v x) s fun r s'=>append T t t2 r (v y) s' K
      | _,_=>none)
    | .builtin .copy=>(match c.args.toList,c.argTypes.toList with
      | [x,y],[t,_]=>zJX T t (v x) (v y) s K
      | _,_=>none)
    | .builtin .len=>(match c.args.toList,c.argTypes.toList with
      | [x],[t]=>za (zfd T t) fun _=>zH9 (v x) s K
      | _,_=>none)
    | .builtin .clear=>(match c.args.toList,c.argTypes.toList with
      | [x],[t]=>za (Tab.get T t) fun _=>zA0 (v x) s K
      | _,_=>none)
    | _=>none
  | _=>none
def zcG (nt:Nat) (dst:Option Nat) (v:AV) (s:St) (K:St→Ans):Ans :=
  match dst,s with
  | some d,⟨env,stk,H,blk⟩=>cond (Nat.blt d nt) (Z4 v fun v=>K ⟨(d,v)::env,stk,H,blk⟩) none
  | none,s=>K s
def zgA (all:Array Oper) (j:Nat):Option Nat:=match all[j]? with | some o=>o.dst | none=>none
def Qm (all:Array Oper) (nt:Nat) (o:Oper) (s:St) (run skip:St→Ans):Ans :=
  match o.guard with
  | none=>run s
  | some (j,want)=>za (zgA all j) fun g=>match Zm s.env g with
    | .bool b=>cond (Nat.blt g nt) (cond b
        (match s,want with
         | ⟨env,stk,H,blk⟩,true=>run ⟨(g,.bool true)::env,stk,H,blk⟩
         | ⟨env,stk,H,blk⟩,false=>skip ⟨(g,.bool true)::env,stk,H,blk⟩)
        (match s,want with
         | ⟨env,stk,H,blk⟩,true=>skip ⟨(g,.bool false)::env,stk,H,blk⟩
         | ⟨env,stk,H,blk⟩,false=>run ⟨(g,.bool false)::env,stk,H,blk⟩)) none
    | .tup _=>cond (Nat.blt g nt) (skip s) none
    | _=>none
def Zv (T:Tab) (s:St):List ResultVar→List AV→(List AV→Ans)→Ans
  | [],acc,K=>K acc
  | .tmp t::r,acc,K=>Zv T s r (acc++[Zm s.env t]) K
  | .cell a t::r,acc,K=>load T s t (Zm s.env a) fun v=>Zv T s r (acc++[v]) K
def y2 (vs:List AV):AV:=match vs with | [v]=>v | vs => .tup vs
def ZL:Nat→List AV→zT
  | _,[]=>[]
  | n,v::r=>(n,v)::ZL (n+1) r
section
variable (T:Tab) (E:Env) (hint:zlF)
def ze9 (body:Nat→Ann→Code→(Ex→St→Ans)→St→Ans) (g:Nat) (args:List AV) (s:St) (K:KV):Ans :=
  za (Env.get E g) fun sp=>match sp with
    | .pure F=>zh0 F s args K
    | .func F=>callFunc F s args K
    | .inline nt res ann c=>body nt ann c (fun e s'=>match e with
        | .norm | .ret=>match s'.stk with
          | env::stk=>Zv T s' res [] fun vs=>Z4 (y2 vs) fun v=>K v ⟨env,stk,s'.H,s.blk⟩
          | []=>none
        | _=>none) { env:=ZL 0 args,stk:=s.env::s.stk,H:=s.H,blk:=Nat.mul g 4096 }
    | .iter _ _=>none
def w6 [BT] (s:St) (c:Call):Option (Nat×List AV) :=
  match c.callee with
  | .value f=>match opd s.env f with
    | .fn (.func g) first cap=>some (g,first++c.args.toList.map (opd s.env)++cap)
    | _=>none
  | .invoke r name=>match opd s.env r with
    | .ifc t v=>match Tab.get T t with
      | some _=>match zlK BT.meths t name with
        | some g=>some (g,v::c.args.toList.map (opd s.env))
        | none=>none
      | none=>none
    | _=>none
  | _=>none
def opE [BT] (body:Nat→Ann→Code→(Ex→St→Ans)→St→Ans) (o:Oper) (s:St) (K:KV):Ans :=
  match (match o.op with
    | .assign (.const _)=>none
    | .build .. => none
    | _=>Zb T o s fun v=>K v s:Option Ans) with
  | some r=>r
  | none=>match o.op with
    | .call c=>match c.callee with
      | .value _=>za (w6 T s c) fun (g,args)=>ze9 T E body g args s K
      | .invoke _ _=>za (w6 T s c) fun (g,args)=>ze9 T E body g args s K
      | _=>YD T o s K
    | _=>YD T o s K
def yE [BT] (s:St) (o:Oper):Option (List Nat) :=
  match o.op with
  | .load _ x=>some (opd s.env x).refs
  | .call c=>match w6 T s c with
    | some (_,args)=>some (AV.refsL args)
    | none=>none
  | _=>none
def opQ [BT] (o:Oper) (s:St) (K:AV→Ans):Ans :=
  match Zb T o s K with
  | some r=>r
  | none=>match o.op with
    | .call c=>za (w6 T s c) fun (g,args)=>za (Env.get E g) fun sp=>match sp with
      | .pure F=>zh0 F s args fun v _=>K v
      | _=>none
    | _=>none
def zBU [BT] (body:Nat→Ann→Code→(Ex→St→Ans)→St→Ans) (all:Array Oper) (nt:Nat):List Oper→(St→Ans)→St→Ans
  | [],K,s=>K s
  | o::r,K,s=>Qm all nt o s
      (fun s=>opE T E body o s fun v s'=>zcG nt o.dst v s' (zBU body all nt r K))
      (fun s=>zcG nt o.dst (.tup []) s (zBU body all nt r K))
def ZI (o:Oper):Bool :=
  match o.op with
  | .assign _ | .alloc _ | .box .. | .build .. | .buildSlice .. | .makeSlice .. | .convert .. | .lookup .. | .makeMap .. => true
  | _=>false
def Zt (s:St) (o:Oper):Option (List Nat) :=
  cond (ZI o) (some [])
    (match o.op with
     | .store _ p _=>match opd s.env p with
       | .ptr n _=>some [n]
       | .eptr n _ _=>some [n]
       | _=>none
     | .mapUpdate _ m _ _=>match opd s.env m with
       | .map n=>some [n]
       | _=>none
     | .call c=>match c.callee with
       | .builtin .len=>some []
       | .builtin .clear=>match c.args.toList with
         | [x]=>match opd s.env x with
           | .map n=>some [n]
           | _=>none
         | _=>none
       | .builtin .copy=>match c.args.toList with
         | [x,_]=>match opd s.env x with
           | .own i=>some [i]
           | .sub i _ _ _=>some [i]
           | _=>none
         | _=>none
       | .builtin .append=>match c.args.toList with
         | [x,_]=>match opd s.env x with
           | .own i=>some [i]
           | .sub i _ _ _=>some [i]
           | _=>none
         | _=>none
       | _=>none
     | _=>none)
def opL [BT] (body:Nat→Ann→Code→(Ex→St→Ans)→St→Ans) (o:Oper) (s:St) (K:Option (List Nat)→KV):Ans :=
  match o.op with
  | .call c=>match c.callee with
    | .value _=>za (w6 T s c) fun (g,args)=>match Env.get E g with
      | some (.func F)=>JI F s args fun sel r s=>K (some sel) r s
      | _=>ze9 T E body g args s (K none)
    | .invoke _ _=>za (w6 T s c) fun (g,args)=>match Env.get E g with
      | some (.func F)=>JI F s args fun sel r s=>K (some sel) r s
      | _=>ze9 T E body g args s (K none)
    | _=>opE T E body o s (K (Zt s o))
  | _=>opE T E body o s (K (Zt s o))
def maskOf (ms:List Nat):List Edge→Nat
  | []=>0
  | e::r=>cond (Region.binds .any e) (Nat.lor (Nat.lor (Nat.shiftLeft 1 e.on) (getN ms e.on)) (maskOf ms r)) (maskOf ms r)
def YK (all:Array Oper):Nat→List Nat
  | 0=>[]
  | k+1=>match YK all k with
    | ms=>ms++[match all[k]? with | some o=>maskOf ms o.after.toList | none=>0]
def zfH (ms:List Nat) (i j:Nat):Bool:=Nat.testBit (getN ms j) i
def zHa:List Nat→List Nat→Bool
  | [],_=>true
  | a::r,l => !YM l a&&zHa r l
def untouched (foot rd:Option (List Nat)):Bool :=
  match foot,rd with
  | some f,some l=>zHa l f
  | _,_=>false
def zc3 (ms:List Nat) (i:Nat) (foot:Option (List Nat)):List (Nat×Option (List Nat))→Bool
  | []=>true
  | (k,rd)::r=>(zfH ms k i || untouched foot rd)&&zc3 ms i foot r
def zdj (foot:Option (List Nat)):List (Nat×Option (List Nat))→List (Nat×Option (List Nat))
  | []=>[]
  | (k,rd)::r=>(k,cond (untouched foot rd) rd none)::zdj foot r
def zgt (i:Nat) (rd:Option (List Nat)) (acc:List (Nat×Option (List Nat))):List (Nat×Option (List Nat)) :=
  match rd with
  | some l=>(i,some l)::acc
  | none=>acc
def zmx (q:Nat→Bool):List Nat→Option Nat
  | []=>none
  | i::r=>cond (q i) (some i) (zmx q r)
noncomputable def zhS {β:Type} (x y:Option β):Option β := @ite _ (x=y) (Classical.propDecidable _) x none
noncomputable def zbw (g:Nat→Ans):List Nat→Ans
  | []=>none
  | [i]=>g i
  | i::r=>zhS (g i) (zbw g r)
noncomputable def zmJ [BT] (body:Nat→Ann→Code→(Ex→St→Ans)→St→Ans) (all:Array Oper) (q:Nat→Bool) (ms:List Nat) (nt:Nat):Nat→Array Bool→List (Nat×Option (List Nat))→(St→Ans)→St→Ans
  | 0,listed,_,K,s=>match Region.ready .any all listed with
    | []=>K s
    | _::_=>none
  | f+1,listed,acc,K,s=>match Region.ready .any all listed with
    | []=>K s
    | i::r=>match zmx q (i::r) with
      | some j=>cond (Region.free .any all listed j) (za all[j]? fun o=>Qm all nt o s
          (fun s=>opQ T E o s fun v=>zcG nt o.dst v s (zmJ body all q ms nt f (listed.setIfInBounds j true) (zgt j (yE T s o) acc) K))
          (fun s=>zcG nt o.dst (.tup []) s (zmJ body all q ms nt f (listed.setIfInBounds j true) acc K))) none
      | none=>zbw (fun i=>za all[i]? fun o=>Qm all nt o s
          (fun s=>opL T E body o s fun foot v s'=>cond (zc3 ms i foot acc) (zcG nt o.dst v s' (zmJ body all q ms nt f (listed.setIfInBounds i true) (zdj foot acc) K)) none)
          (fun s=>zcG nt o.dst (.tup []) s (zmJ body all q ms nt f (listed.setIfInBounds i true) acc K))) (i::r)
def z07 (o:Oper):Bool :=
  match o.op with
  | .alloc _ | .box .. | .buildSlice .. | .store .. | .makeSlice .. | .makeMap .. | .mapUpdate .. | .insert .. | .mapEntry .. | .entryStore .. | .lookup .. => false
  | .convert src _ _=>match Tab.get T src with
    | some i=>(zb3 i).isSome
    | none=>false
  | .call c=>match c.callee with
    | .builtin .len=>match c.argTypes.toList with
      | t::_=>match Tab.get T t with
        | some i=>match i.k with
          | .map _ _=>false
          | _=>true
        | none=>false
      | []=>false
    | .builtin .max=>true
    | .builtin .min=>true
    | .builtin _=>false
    | .value (.func g)=>match Env.get E g with
      | some (.pure _)=>true
      | _=>false
    | _=>false
  | _=>true
def zPZ (all:Array Oper) (i:Nat):Bool :=
  match all[i]? with
  | some o=>z07 T E o
  | none=>false
def zWr (x:Ann) (s:St) (K:St→Ans):Ans :=
  match x with
  | .norm k0 keep=>match s with
    | ⟨env,stk,H,blk⟩=>Yb k0 ⟨YH env keep,stk,H,blk⟩ K
  | _=>K s
def zbV (keep:List Nat) (x:Ann) (s:St) (K:St→Ans):Ans :=
  match x.at? with
  | some (k0,keep')=>yl (s.head keep') fun s=>Yb k0 s K
  | none=>yl (s.head keep) fun s=>match x.pack? with
    | some k0=>Yb k0 s K
    | Option.none=>K s
def zbS (f:Ann→(Ex→St→Ans)→St→Ans) (x:Ann) (K:Ex→St→Ans) (s:St):Ans :=
  match x with
  | .cut k0 keep G=>yl (s.head keep) fun s=>Yb k0 s fun s=>G K s
  | x=>f x K s
def zgX (s:St) (g:Operand):Option ((List AV→List Obj→(List Int→Ans)→Ans)×(List AV→List Obj→List Int→Ans→(List AV→List Int→Ans)→Ans)×List AV) :=
  match opd s.env g with
  | .fn (.func gf) [] cap=>match Env.get E (Nat.add gf 100000) with
    | some (.iter start next)=>some (start,next,cap)
    | _=>none
  | _=>none
def zfa (nt:Nat):List Nat→List AV→zT→(zT→Ans)→Ans
  | [],[],env,K=>K env
  | p::r,x::xs,env,K=>cond (Nat.blt p nt) (Z4 x fun x=>zfa nt r xs ((p,x)::env) K) none
  | _,_,_,_=>none
def z4K (blk:Nat) (K:Ex→St→Ans) (e:Ex) (s:St):Ans :=
  match s with
  | ⟨_,stk,H,_⟩=>match stk with
    | env::stk=>K e ⟨env,stk,H,blk⟩
    | []=>none
noncomputable def yh [BT] (inl:Nat→Ann→Code→(Ex→St→Ans)→St→Ans) (nt:Nat) (rec:Nat→Ann→Code→(Ex→St→Ans)→St→Ans):Code→Ann→(Ex→St→Ans)→St→Ans
  | .skip,_,K,s=>K .norm s
  | .region _ ops draw,x,K,s =>
    cond draw
      (cond (Region.noSelect ops) (zmJ T E inl ops (zPZ T E ops) (YK ops ops.size) nt ops.size (Array.replicate ops.size false) [] (fun s=>zWr x s fun s=>K .norm s) s) none)
      (zBU T E inl ops nt ops.toList (fun s=>K .norm s) s)
  | .seq a b,x,K,s=>zbS (fun x K s=>yh inl nt rec a x K s) x.fst (fun e s'=>match e with | .norm=>zbS (fun x K s=>yh inl nt rec b x K s) x.snd K s' | e=>K e s') s
  | .cond c a b,x,K,s=>match opd s.env c with
    | .bool p=>cond p (zbS (fun x K s=>yh inl nt rec a x K s) x.fst K s) (zbS (fun x K s=>yh inl nt rec b x K s) x.snd K s)
    | _=>none
  | .block id c,x,K,⟨env,stk,H,blk⟩=>zbS (fun x K s=>yh inl nt rec c x K s) x.fst (fun e s'=>match e with
      | .exit i=>cond (Nat.beq i id) (K .norm s') (K (.exit i) s')
      | e=>K e s') ⟨env,stk,H,Zcg blk id⟩
  | .loop c,x,K,s=>zbV (hint s.blk) x s fun s=>match x.sum? with
    | some G=>G K s
    | none=>rec nt x (.loop c) K s
  | .exit id,_,K,s=>K (.exit id) s
  | .ret,_,K,s=>K .ret s
  | .label _,_,K,s=>K .norm s
  | _,_,_,_=>none
def zhs (nt k0:Nat) (keep:List Nat) (g:Operand) (G:(Ex→St→Ans)→St→Ans) (K:Ex→St→Ans) (s:St):Ans :=
  za (zgX E s g) fun it=>it.1 it.2.2 s.H fun L =>
    match s with
    | ⟨env,stk,H,blk⟩=>yl (St.head ⟨(nt,.gh L)::env,stk,H,blk⟩ keep) fun s=>Yb k0 s fun s=>G K s
def zaq (n:Nat):zT→zT
  | []=>[]
  | (d,v)::r=>cond (Nat.beq d n) (zaq n r) ((d,v)::zaq n r)
noncomputable def z3J [BT] (inl:Nat→Ann→Code→(Ex→St→Ans)→St→Ans) (nt:Nat) (rec:Nat→Ann→Code→(Ex→St→Ans)→St→Ans) (x:Ann) (g:Operand) (ps:Array Nat) (as c:Code) (K:Ex→St→Ans) (s:St):Ans :=
  match Zm s.env nt with
  | .gh L=>za (zgX E s g) fun it=>it.2.1 it.2.2 s.H L (K .norm s) fun xs L' =>
      (match s with
       | ⟨env,stk,H,blk⟩=>zfa nt ps.toList xs (zaq nt env) fun env' =>
          yh T E hint inl nt rec as .none (fun e s1=>match e with
            | .norm=>zbS (fun x K s=>yh T E hint inl nt rec c x K s) x.fst
                (z4K blk fun e s=>match e with
                  | .norm=>match s with
                    | ⟨env,stk,H,blk⟩=>zbV (hint blk) x ⟨(nt,.gh L')::env,stk,H,blk⟩ fun s=>rec nt (.rnd x) (.rangeFunc g ps as c) K s
                  | e=>K e s) s1
            | _=>none) ⟨env',zaq nt env::stk,H,blk⟩)
  | _=>none
noncomputable def z0X [BT] (inl:Nat→Ann→Code→(Ex→St→Ans)→St→Ans) (nt:Nat) (rec:Nat→Ann→Code→(Ex→St→Ans)→St→Ans) (x:Ann) (c:Code) (K:Ex→St→Ans) (s:St):Ans :=
  zbS (fun x K s=>yh T E hint inl nt rec c x K s) x.fst (fun e s'=>match e,s' with
    | .norm,⟨env,stk,H,_⟩=>yh T E hint inl nt rec (.loop c) x K ⟨env,stk,H,s.blk⟩
    | e,s'=>K e s') s
noncomputable def zx [BT] (inl:Nat→Ann→Code→(Ex→St→Ans)→St→Ans):Nat→Nat→Ann→Code→(Ex→St→Ans)→St→Ans
  | 0,_,_,_,_,_=>none
  | n+1,nt,x,c,K,s=>match c with
    | .loop b=>z0X T E hint inl nt (zx inl n) x b K s
    | .rangeFunc g ps as b=>match x with
      | .rnd y=>z3J T E hint inl nt (zx inl n) y g ps as b K s
      | x=>yh T E hint inl nt (zx inl n) (.rangeFunc g ps as b) x K s
    | c=>yh T E hint inl nt (zx inl n) c x K s
noncomputable def zy [BT]:Nat→Nat→Nat→Ann→Code→(Ex→St→Ans)→St→Ans
  | 0,n,nt,x,c,K,s=>zx T E hint (fun _ _ _ _ _=>none) n nt x c K s
  | d+1,n,nt,x,c,K,s=>zx T E hint (zy d n) n nt x c K s
def yd:Nat→List Obj→zT
  | _,[]=>[]
  | n,.cells _::r=>(n,.ptr n 0)::yd (n+1) r
  | n,.bcells _::r=>(n,.ptr n 0)::yd (n+1) r
  | n,.btold _::r=>(n,.ptr n 0)::yd (n+1) r
  | n,.mp _ _ _::r=>(n,.map n)::yd (n+1) r
  | n,_::r=>yd (n+1) r
def zkN (n:Nat):AV→Bool
  | .ptr i o=>Nat.beq i n&&Nat.beq o 0
  | _=>false
def zxG (n:Nat):AV→Bool
  | .map i=>Nat.beq i n
  | _=>false
def yb (env:zT):Nat→List Obj→Bool
  | _,[]=>true
  | n,.cells _::r=>zkN n (Zm env n)&&yb env (n+1) r
  | n,.bcells _::r=>zkN n (Zm env n)&&yb env (n+1) r
  | n,.btold _::r=>zkN n (Zm env n)&&yb env (n+1) r
  | n,.mp _ _ _::r=>zxG n (Zm env n)&&yb env (n+1) r
  | n,_::r=>yb env (n+1) r
def zLb (H0:List Obj) (res:List ResultVar) (K:AV→List Obj→Ans) (e:Ex) (s:St):Ans :=
  match e with
  | .norm | .ret=>match s.stk with
    | [env]=>cond (yb env 0 H0) (Zv T s res [] fun vs=>ziN H0.length (y2 vs) s.H K) none
    | _=>none
  | _=>none
noncomputable def fnE [BT] (d n g nt:Nat) (res:List ResultVar) (x:Ann) (c:Code) (args:List AV) (H:List Obj) (K:AV→List Obj→Ans):Ans :=
  zy T E hint d n nt x c (zLb T H res K) { env:=ZL 0 args,stk:=[yd 0 H],H:=H,blk:=Nat.mul g 4096 }
end
end Go.AE
namespace Go.AE
open Go.RowKit (Below)
structure Cx where
  R:Nat→Prop
  ρ:Nat→Option Nat
  H:List Obj
  w:World
def YI (w:World) (b:Nat):Option (Array Value) :=
  match w.heap[b]? with
  | some (.cells c _ _)=>some c
  | _=>none
theorem cell_blk {w:World} {b:Nat} {c:Array Value} (h:YI w b=some c) (o:Nat):w.cell? ⟨b,o,none⟩=c[o]? := by
  unfold YI at h
  unfold World.cell?
  split at h
  · rename_i c' e fr he
    obtain rfl:=Option.some.inj h
    simp [he]
  · cases h
theorem blkOf_cells {w:World} {b:Nat} {c:Array Value} {e:TypeId} {fr:Nat×Nat} (h:w.heap[b]? = some (.cells c e fr)):YI w b=some c:=by
  simp [YI,h]
theorem wb {w w':World} {b:Nat} (h:w'.heap[b]? = w.heap[b]?):YI w' b=YI w b:=by simp [YI,h]
def zJ (R:Nat→Prop) (w:World):(t:Ty)→t.T→List Value→Prop
  | .int k,n,vs=>vs=[.int k n]
  | .bool,b,vs=>vs=[.bool b]
  | .str,s,vs=>vs=[.string ⟨s.toArray⟩]
  | .unit,_,vs=>vs=[]
  | .st f,x,vs=>zJ R w f x vs
  | .pair a b,x,vs => ∃u v,vs=u++v∧zJ R w a x.1 u∧zJ R w b x.2 v
  | .list e,l,vs => ∃A c,vs=[.slice A l.length c]∧l.length≤c∧(l=[] ∨ ∃b o,A=some ⟨b,o,none⟩∧R b ∧
      ∀i x,l[i]? = some x → ∃us,zJ R w e x us ∧ ∀j u,us[j]? = some u→w.cell? ⟨b,o+(i*e.size+j),none⟩=some u)
theorem zJ.length {R:Nat→Prop} {w:World} : ∀{t:Ty} {x:t.T} {vs:List Value},zJ R w t x vs→vs.length=t.size
  | .int _,_,_,h=>by rw [zJ] at h;subst h;rfl
  | .bool,_,_,h=>by rw [zJ] at h;subst h;rfl
  | .str,_,_,h=>by rw [zJ] at h;subst h;rfl
  | .unit,_,_,h=>by rw [zJ] at h;subst h;rfl
  | .st f,_,_,h=>by rw [zJ] at h;rw [Ty.size];exact zJ.length h
  | .pair a b,_,_,h=>by
    rw [zJ] at h
    obtain ⟨u,v,rfl,hu,hv⟩:=h
    rw [List.length_append,zJ.length hu,zJ.length hv,Ty.size]
  | .list e,_,_,h=>by rw [zJ] at h;obtain ⟨A,c,rfl,_⟩:=h;rfl
theorem zJ.oneCell {R:Nat→Prop} {w:World} : ∀{t:Ty} {x:t.T} {vs:List Value},zJ R w t x vs → ∀u ∈ vs,u.oneCell'=true
  | .int _,_,_,h=>by rw [zJ] at h;subst h;simp [Value.oneCell']
  | .bool,_,_,h=>by rw [zJ] at h;subst h;simp [Value.oneCell']
  | .str,_,_,h=>by rw [zJ] at h;subst h;simp [Value.oneCell']
  | .unit,_,_,h=>by rw [zJ] at h;subst h;simp
  | .st f,_,_,h=>by rw [zJ] at h;exact zJ.oneCell h
  | .pair a b,_,_,h=>by
    rw [zJ] at h
    obtain ⟨u,v,rfl,hu,hv⟩:=h
    intro x hx
    rcases List.mem_append.1 hx with hx | hx
    · exact zJ.oneCell hu x hx
    · exact zJ.oneCell hv x hx
  | .list e,_,_,h=>by rw [zJ] at h;obtain ⟨A,c,rfl,_⟩:=h;simp [Value.oneCell']
theorem zav {w w':World} {b:Nat} (h:w'.heap[b]? = w.heap[b]?) (o:Nat) (s:Option Nat):w'.cell? ⟨b,o,s⟩=w.cell? ⟨b,o,s⟩:=by
  simp [World.cell?,h]
theorem zJ.mono {R R':Nat→Prop} {w w':World} (hR : ∀b,R b→R' b∧w'.heap[b]? = w.heap[b]?) :
    ∀{t:Ty} {x:t.T} {vs:List Value},zJ R w t x vs→zJ R' w' t x vs
  | .int _,_,_,h=>h
  | .bool,_,_,h=>h
  | .str,_,_,h=>h
  | .unit,_,_,h=>h
  | .st f,_,_,h=>by rw [zJ] at *;exact zJ.mono hR h
  | .pair a b,_,_,h=>by
    rw [zJ] at *
    obtain ⟨u,v,rfl,hu,hv⟩:=h
    exact ⟨u,v,rfl,zJ.mono hR hu,zJ.mono hR hv⟩
  | .list e,_,_,h=>by
    rw [zJ] at *
    obtain ⟨A,c,rfl,hc,h⟩:=h
    refine ⟨A,c,rfl,hc,?_⟩
    rcases h with h | ⟨b,o,rfl,hb,h⟩
    · exact .inl h
    · refine .inr ⟨b,o,rfl,(hR b hb).1,fun i x hi => ?_⟩
      obtain ⟨us,hd,hu⟩:=h i x hi
      exact ⟨us,zJ.mono hR hd,fun j u hj=>by rw [zav (hR b hb).2];exact hu j u hj⟩
def zA (H:List Obj) (i:Nat):Prop:=zp H i ≠ .dead
mutual
def VRel (C:Cx):AV→Value→Prop
  | .unk,_=>True
  | .bool b,v=>v = .bool b
  | .int k n,v=>v = .int k n
  | .str s,v=>v = .string ⟨s.toArray⟩
  | .nilp,v=>v = .pointer none
  | .ptr i off,v => ∃b,C.ρ i=some b∧v = .pointer (some ⟨b,off,none⟩)∧zA C.H i
  | .eptr i n off,v => ∃b t l,C.ρ i=some b∧zp C.H i = .arr t l∧v = .pointer (some ⟨b,n*t.size+off,none⟩)
  | .rptr t x off,v => ∃b o us,C.R b∧zJ C.R C.w t x us∧(∀j u,us[j]? = some u→C.w.cell? ⟨b,o+j,none⟩=some u)∧v = .pointer (some ⟨b,o+off,none⟩)
  | .nils,v=>v = .slice none 0 0
  | .own i,v => ∃t l,zp C.H i = .arr t l∧((C.ρ i=none∧l=[]∧v = .slice none 0 0) ∨
      ∃b c cap,C.ρ i=some b∧YI C.w b=some c∧l.length≤cap∧cap*t.size≤c.size∧v = .slice (some ⟨b,0,none⟩) l.length cap)
  | .sub i off len e,v => ∃A cap,v = .slice A len cap∧len≤cap∧(len=0∧off≠0∨len=0∧A=none∧cap=0 ∨
      ∃b,C.ρ i=some b∧A=some ⟨b,off*e,none⟩ ∧ ∃c,YI C.w b=some c∧(off+cap)*e≤c.size ∧
        match zp C.H i with
        | .arr t l=>e=t.size∧off+len≤l.length
        | .cells cs=>(off+len)*e≤cs.length
        | _=>False)
  | .ro t l,v=>zJ C.R C.w (.list t) l [v]
  | .nilm,v=>v = .map none
  | .map i,v => ∃b,C.ρ i=some b∧v = .map (some b)∧zA C.H i
  | .fn f a b,v => ∃a' b',v = .func f a' b'∧VRels C a a'.toList∧VRels C b b'.toList
  | .nilf,v=>v = .nilFunc
  | .nili,v=>v = .nilIface
  | .ifc t x,v => ∃y,v = .iface t y∧VRel C x y
  | .agg cs,v => ∃vs,v = .agg vs∧VRels C cs vs.toList
  | .tup cs,v => ∃vs,v = .tuple vs∧VRels C cs vs.toList
  | .gh _,_=>True
def VRels (C:Cx):List AV→List Value→Prop
  | [],vs=>vs=[]
  | a::r,vs => ∃v vs',vs=v::vs'∧VRel C a v∧VRels C r vs'
end
def AV.isRef:AV→Bool
  | .ptr .. => true
  | .eptr .. => true
  | .own _=>true
  | .sub .. => true
  | .map _=>true
  | _=>false
section
variable {C C':Cx} {g:AV→AV} {p:Nat→Prop}
mutual
theorem VRel.mapR (hl : ∀a v,a.isRef=true→(∀i ∈ a.refs,p i)→VRel C a v→VRel C' (g a) v) (hR : ∀b,C.R b→C'.R b∧C'.w.heap[b]? = C.w.heap[b]?) :
    ∀(a:AV) (v:Value),(∀i ∈ a.refs,p i)→VRel C a v→VRel C' (a.mapR g) v
  | .unk,_,_,_=>by rw [AV.mapR,VRel];trivial
  | .gh _,_,_,_=>by rw [AV.mapR,VRel];trivial
  | .bool _,_,_,h=>by rw [VRel] at h;rw [AV.mapR,VRel];exact h
  | .int _ _,_,_,h=>by rw [VRel] at h;rw [AV.mapR,VRel];exact h
  | .str _,_,_,h=>by rw [VRel] at h;rw [AV.mapR,VRel];exact h
  | .nilp,_,_,h=>by rw [VRel] at h;rw [AV.mapR,VRel];exact h
  | .nils,_,_,h=>by rw [VRel] at h;rw [AV.mapR,VRel];exact h
  | .nilm,_,_,h=>by rw [VRel] at h;rw [AV.mapR,VRel];exact h
  | .nilf,_,_,h=>by rw [VRel] at h;rw [AV.mapR,VRel];exact h
  | .nili,_,_,h=>by rw [VRel] at h;rw [AV.mapR,VRel];exact h
  | .ptr _ _,v,hp,h=>by rw [AV.mapR];exact hl _ v rfl hp h
  | .eptr _ _ _,v,hp,h=>by rw [AV.mapR];exact hl _ v rfl hp h
  | .own _,v,hp,h=>by rw [AV.mapR];exact hl _ v rfl hp h
  | .sub _ _ _ _,v,hp,h=>by rw [AV.mapR];exact hl _ v rfl hp h
  | .map _,v,hp,h=>by rw [AV.mapR];exact hl _ v rfl hp h
  | .ro t l,v,_,h=>by rw [VRel] at h;rw [AV.mapR,VRel];exact zJ.mono hR h
  | .rptr t x off,v,_,h=>by
    rw [VRel] at h;rw [AV.mapR,VRel]
    obtain ⟨b,o,us,hb,hd,hu,rfl⟩:=h
    exact ⟨b,o,us,(hR b hb).1,zJ.mono hR hd,fun j u hj=>by rw [zav (hR b hb).2];exact hu j u hj,rfl⟩
  | .fn f a b,v,hp,h=>by
    rw [VRel] at h;rw [AV.mapR,VRel]
    rw [AV.refs] at hp
    obtain ⟨a',b',rfl,ha,hb⟩:=h
    exact ⟨a',b',rfl,VRels.mapR hl hR a _ (fun i hi=>hp i (List.mem_append.2 (.inl hi))) ha,VRels.mapR hl hR b _ (fun i hi=>hp i (List.mem_append.2 (.inr hi))) hb⟩
  | .ifc t x,v,hp,h=>by
    rw [VRel] at h;rw [AV.mapR,VRel]
    rw [AV.refs] at hp
    obtain ⟨y,rfl,hy⟩:=h
    exact ⟨y,rfl,VRel.mapR hl hR x y hp hy⟩
  | .agg cs,v,hp,h=>by
    rw [VRel] at h;rw [AV.mapR,VRel]
    rw [AV.refs] at hp
    obtain ⟨vs,rfl,hv⟩:=h
    exact ⟨vs,rfl,VRels.mapR hl hR cs _ hp hv⟩
  | .tup cs,v,hp,h=>by
    rw [VRel] at h;rw [AV.mapR,VRel]
    rw [AV.refs] at hp
    obtain ⟨vs,rfl,hv⟩:=h
    exact ⟨vs,rfl,VRels.mapR hl hR cs _ hp hv⟩
theorem VRels.mapR (hl : ∀a v,a.isRef=true→(∀i ∈ a.refs,p i)→VRel C a v→VRel C' (g a) v) (hR : ∀b,C.R b→C'.R b∧C'.w.heap[b]? = C.w.heap[b]?) :
    ∀(l:List AV) (vs:List Value),(∀i ∈ AV.refsL l,p i)→VRels C l vs→VRels C' (AV.mapRs g l) vs
  | [],_,_,h=>by rw [VRels] at h;rw [AV.mapRs,VRels];exact h
  | a::r,_,hp,h=>by
    rw [VRels] at h;rw [AV.mapRs,VRels]
    rw [AV.refsL] at hp
    obtain ⟨v,vs',rfl,hv,hr⟩:=h
    exact ⟨v,vs',rfl,VRel.mapR hl hR a v (fun i hi=>hp i (List.mem_append.2 (.inl hi))) hv,VRels.mapR hl hR r vs' (fun i hi=>hp i (List.mem_append.2 (.inr hi))) hr⟩
end
end
mutual
theorem mapR_id : ∀a:AV,a.mapR (fun x=>x)=a
  | .unk=>rfl
  | .bool _=>rfl
  | .int _ _=>rfl
  | .str _=>rfl
  | .nilp=>rfl
  | .nils=>rfl
  | .nilm=>rfl
  | .nilf=>rfl
  | .nili=>rfl
  | .ptr _ _=>rfl
  | .eptr _ _ _=>rfl
  | .own _=>rfl
  | .sub _ _ _ _=>rfl
  | .map _=>rfl
  | .ro _ _=>rfl
  | .rptr _ _ _=>rfl
  | .gh _=>rfl
  | .fn f a b=>by rw [AV.mapR,qF a,qF b]
  | .ifc t x=>by rw [AV.mapR,mapR_id x]
  | .agg cs=>by rw [AV.mapR,qF cs]
  | .tup cs=>by rw [AV.mapR,qF cs]
theorem qF : ∀l:List AV,AV.mapRs (fun x=>x) l=l
  | []=>rfl
  | a::r=>by rw [AV.mapRs,mapR_id a,qF r]
end
theorem VRel.mono {C C':Cx} (hl : ∀a v,a.isRef=true→VRel C a v→VRel C' a v) (hR : ∀b,C.R b→C'.R b∧C'.w.heap[b]? = C.w.heap[b]?) {a:AV} {v:Value} (h:VRel C a v):VRel C' a v:=by
  have:=VRel.mapR (p:=fun _=>True) (g:=fun x=>x) (fun a v h1 _ h2=>hl a v h1 h2) hR a v (fun _ _=>trivial) h
  rwa [mapR_id] at this
theorem VRels.mono {C C':Cx} (hl : ∀a v,a.isRef=true→VRel C a v→VRel C' a v) (hR : ∀b,C.R b→C'.R b∧C'.w.heap[b]? = C.w.heap[b]?) {a:List AV} {v:List Value} (h:VRels C a v):VRels C' a v:=by
  have:=VRels.mapR (p:=fun _=>True) (g:=fun x=>x) (fun a v h1 _ h2=>hl a v h1 h2) hR a v (fun _ _=>trivial) h
  rwa [qF] at this
theorem VRels.length {C:Cx} : ∀{l:List AV} {vs:List Value},VRels C l vs→vs.length=l.length
  | [],_,h=>by rw [VRels] at h;subst h;rfl
  | _::r,_,h=>by
    rw [VRels] at h
    obtain ⟨v,vs',rfl,_,hr⟩:=h
    simp [VRels.length hr]
theorem VRels.get {C:Cx} : ∀{l:List AV} {vs:List Value},VRels C l vs → ∀{i:Nat} {a:AV},l[i]? = some a → ∃v,vs[i]? = some v∧VRel C a v
  | [],_,_,i,a,hi=>by simp at hi
  | x::r,_,h,0,a,hi=>by
    rw [VRels] at h
    obtain ⟨v,vs',rfl,hv,_⟩:=h
    simp at hi;subst hi
    exact ⟨v,rfl,hv⟩
  | x::r,_,h,i+1,a,hi=>by
    rw [VRels] at h
    obtain ⟨v,vs',rfl,_,hr⟩:=h
    exact VRels.get hr (i:=i) (by simpa using hi)
theorem VRels.append {C:Cx} : ∀{l m:List AV} {vs us:List Value},VRels C l vs→VRels C m us→VRels C (l++m) (vs++us)
  | [],_,_,_,h,h'=>by rw [VRels] at h;subst h;simpa using h'
  | x::r,_,_,_,h,h'=>by
    rw [VRels] at h
    obtain ⟨v,vs',rfl,hv,hr⟩:=h
    rw [List.cons_append,List.cons_append,VRels]
    exact ⟨v,_,rfl,hv,VRels.append hr h'⟩
theorem VRels.drop {C:Cx} : ∀{l:List AV} {vs:List Value} (n:Nat),VRels C l vs→VRels C (l.drop n) (vs.drop n)
  | _,_,0,h=>by simpa using h
  | [],_,n+1,h=>by rw [VRels] at h;subst h;simp [VRels]
  | x::r,_,n+1,h=>by
    rw [VRels] at h
    obtain ⟨v,vs',rfl,_,hr⟩:=h
    exact VRels.drop n hr
theorem VRels.take {C:Cx} : ∀{l:List AV} {vs:List Value} (n:Nat),VRels C l vs→VRels C (l.take n) (vs.take n)
  | _,_,0,_=>by simp [VRels]
  | [],_,n+1,h=>by rw [VRels] at h;subst h;simp [VRels]
  | x::r,_,n+1,h=>by
    rw [VRels] at h
    obtain ⟨v,vs',rfl,hv,hr⟩:=h
    rw [List.take_succ_cons,List.take_succ_cons,VRels]
    exact ⟨v,_,rfl,hv,VRels.take n hr⟩
theorem zix {α:Type} : ∀{n:Nat} {l r:List α},YU n l=some r→r=l.take n∧n≤l.length
  | 0,l,r,h=>by simp [YU] at h;subst h;simp
  | n+1,[],r,h=>by simp [YU] at h
  | n+1,x::l,r,h=>by
    simp only [YU] at h
    split at h
    · rename_i l' hl
      obtain ⟨e,hn⟩:=zix hl
      cases h
      exact ⟨by simp [e],by simpa using hn⟩
    · cases h
theorem zJ.cells {C:Cx} : ∀{t:Ty} {x:t.T} {vs:List Value},zJ C.R C.w t x vs→VRels C (cells t x) vs
  | .int _,_,_,h=>by rw [zJ] at h;subst h;simp [AE.cells,VRels,VRel]
  | .bool,_,_,h=>by rw [zJ] at h;subst h;simp [AE.cells,VRels,VRel]
  | .str,_,_,h=>by rw [zJ] at h;subst h;simp [AE.cells,VRels,VRel]
  | .unit,_,_,h=>by rw [zJ] at h;subst h;simp [AE.cells,VRels]
  | .st f,_,_,h=>by rw [zJ] at h;rw [AE.cells];exact zJ.cells h
  | .pair a b,_,_,h=>by
    rw [zJ] at h
    obtain ⟨u,v,rfl,hu,hv⟩:=h
    rw [AE.cells]
    exact VRels.append (zJ.cells hu) (zJ.cells hv)
  | .list e,l,vs,h=>by
    have h':=h
    rw [zJ] at h'
    obtain ⟨A,c,rfl,_⟩:=h'
    rw [AE.cells,VRels]
    exact ⟨_,[],rfl,by rw [VRel];exact h,by rw [VRels]⟩
theorem yM {e e':Ty} {l:List e'.T} {l':List e.T} (h:yH e e' l=some l') : ∃he:e'=e,l'=he ▸ l:=by
  unfold yH at h
  split at h
  · rename_i he _
    exact ⟨he,(Option.some.inj h).symm⟩
  · cases h
theorem zhz {C:Cx} : ∀{t:Ty} {cs r:List AV} {x:t.T} {vs:List Value},dec t cs=some (x,r)→VRels C cs vs →
    ∃us ws,vs=us++ws∧zJ C.R C.w t x us∧VRels C r ws
  | .int k,cs,r,x,vs,h,hv=>by
    unfold dec at h
    split at h
    · rename_i k' n r'
      split at h
      · rename_i hk _
        cases h
        rw [VRels] at hv
        obtain ⟨v,vs',rfl,h1,h2⟩:=hv
        rw [VRel] at h1
        exact ⟨[v],vs',rfl,by rw [zJ,h1,hk],h2⟩
      · cases h
    · cases h
  | .bool,cs,r,x,vs,h,hv=>by
    unfold dec at h
    split at h
    · cases h
      rw [VRels] at hv
      obtain ⟨v,vs',rfl,h1,h2⟩:=hv
      rw [VRel] at h1
      exact ⟨[v],vs',rfl,by rw [zJ,h1],h2⟩
    · cases h
  | .str,cs,r,x,vs,h,hv=>by
    unfold dec at h
    split at h
    · cases h
      rw [VRels] at hv
      obtain ⟨v,vs',rfl,h1,h2⟩:=hv
      rw [VRel] at h1
      exact ⟨[v],vs',rfl,by rw [zJ,h1],h2⟩
    · cases h
  | .unit,cs,r,x,vs,h,hv=>by
    unfold dec at h
    cases h
    exact ⟨[],vs,rfl,by rw [zJ],hv⟩
  | .st f,cs,r,x,vs,h,hv=>by
    unfold dec at h
    obtain ⟨us,ws,e,hd,hr⟩:=zhz (t:=f) h hv
    exact ⟨us,ws,e,by rw [zJ];exact hd,hr⟩
  | .pair a b,cs,r,x,vs,h,hv=>by
    unfold dec at h
    split at h
    · rename_i y r' h1
      split at h
      · rename_i z r'' h2
        cases h
        obtain ⟨us,ws,rfl,hd,hr⟩:=zhz h1 hv
        obtain ⟨us',ws',rfl,hd',hr'⟩:=zhz h2 hr
        exact ⟨us++us',ws',by simp,by rw [zJ];exact ⟨us,us',rfl,hd,hd'⟩,hr'⟩
      · cases h
    · cases h
  | .list e,cs,r,x,vs,h,hv=>by
    unfold dec at h
    split at h
    · rename_i e' l r'
      split at h
      · rename_i l' hl
        cases h
        rw [VRels] at hv
        obtain ⟨v,vs',rfl,h1,h2⟩:=hv
        obtain ⟨he,hx⟩:=yM hl
        subst he
        simp at hx
        subst hx
        rw [VRel] at h1
        exact ⟨[v],vs',rfl,h1,h2⟩
      · cases h
    · cases h
      rw [VRels] at hv
      obtain ⟨v,vs',rfl,h1,h2⟩:=hv
      rw [VRel] at h1
      exact ⟨[v],vs',rfl,by rw [zJ,h1];exact ⟨none,0,rfl,by simp,.inl rfl⟩,h2⟩
    · cases h
theorem zc4 {C:Cx} {t:Ty} {cs:List AV} {x:t.T} {vs:List Value} (h:j6 t cs=some x) (hv:VRels C cs vs):zJ C.R C.w t x vs:=by
  unfold j6 at h
  split at h
  · rename_i y hd
    cases h
    obtain ⟨us,ws,rfl,hx,hr⟩:=zhz hd hv
    rw [VRels] at hr
    subst hr
    simpa using hx
  · cases h
def qX (fr:Nat×Nat) (n:Nat):Prop := ∀x,x<n → ¬(fr.1≤x∧x<fr.2)
def zhH:(t:Ty)→t.T→Option Value
  | .int k,n=>some (.int k n)
  | .bool,b=>some (.bool b)
  | .str,s=>some (.string ⟨s.toArray⟩)
  | _,_=>none
def ZY (k:IntKind) (t:Ty):List (Int×t.T)→List MapEntry→Prop
  | [],es=>es=[]
  | (n,x)::r,es => ∃e es',es=e::es'∧e.key = .int k n∧zhH t x=some e.val∧ZY k t r es'
def yj [BT] (C:Cx) (o:Obj) (r:Option Nat):Prop :=
  match o with
  | .dead=>True
  | .cells cs => ∃b c e fr,r=some b∧C.w.heap[b]? = some (.cells c e fr)∧qX fr c.size∧VRels C cs c.toList ∧ ∀u ∈ c.toList,u.oneCell'=true
  | .arr t l=>(r=none∧l=[]) ∨ ∃b c e fr,r=some b∧C.w.heap[b]? = some (.cells c e fr)∧qX fr c.size∧l.length*t.size≤c.size ∧
      (∀k x,l[k]? = some x → ∃us,zJ C.R C.w t x us ∧ ∀j u,us[j]? = some u→c[k*t.size+j]? = some u)∧(t = .int .u8→e=BT.byte)
  | .bcells cs => ∃b c v0,r=some b∧C.w.heap[b]? = some (.cells c BT.bld (0,0))∧(∃vs,c.toList=v0::vs∧VRels C cs vs)∧(∀u ∈ c.toList,u.oneCell'=true)∧(v0 = .pointer none∨v0 = .pointer (some ⟨b,0,none⟩))
  | .btold s => ∃b v0 v,r=some b∧C.w.heap[b]? = some (.cells #[v0,v] BT.bld (0,0))∧(∀u ∈ (#[v0,v]:Array Value).toList,u.oneCell'=true)∧(v0 = .pointer none∨v0 = .pointer (some ⟨b,0,none⟩)) ∧
      ((s=[]∧v = .slice none 0 0) ∨ ∃g cap cur fr,v = .slice (some ⟨g,0,none⟩) s.length cap∧s.length≤cap∧C.R g∧C.w.heap[g]? = some (.cells cur BT.byte fr)∧(s=[]∨fr.1=0∧fr.2≠0∧s.length≤fr.2)∧s.length≤cur.size ∧ ∀(j:Nat) (x:Int),s[j]? = some x→cur[j]? = some (Value.int .u8 x))
  | .mp k t l => ∃b es ck,r=some b∧C.w.heap[b]? = some (.map es ck)∧ZY k t l es.toList∧MapKept.Stamped es ck
structure zY [BT] (C:Cx):Prop where
  obj : ∀i,yj C (zp C.H i) (C.ρ i)
  inj : ∀i j b,zA C.H i→zA C.H j→C.ρ i=some b→C.ρ j=some b→i=j
  ro : ∀i b,zA C.H i→C.ρ i=some b → ¬C.R b
  rlt : ∀b,C.R b→b<C.w.heap.size
structure Fr where
  w0:World
  own0:Nat→Prop
  R0:Nat→Prop
  base:Nat
structure zK (F:Fr) (C:Cx):Prop where
  os:C.w.os=F.w0.os
  tape:C.w.tape=F.w0.tape
  output:C.w.output=F.w0.output
  size:F.w0.heap.size≤C.w.heap.size
  keep : ∀b,b<F.w0.heap.size → ¬F.own0 b→C.w.heap[b]? = F.w0.heap[b]?
  r0 : ∀b,F.R0 b→C.R b
  rN : ∀b,C.R b→F.R0 b∨F.own0 b∨F.w0.heap.size≤b
  own : ∀i b,zA C.H i→C.ρ i=some b→F.own0 b∨F.w0.heap.size≤b
def Zq (C:Cx) (env:zT) (tmps:Array Value):Prop := ∀t,VRel C (Zm env t) (tmps.getD t undef)
def ZG (C:Cx):List zT→List (Array Value)→Prop
  | [],vs=>vs=[]
  | e::r,vs => ∃v vs',vs=v::vs'∧Zq C e v∧ZG C r vs'
structure zB [BT] (F:Fr) (C:Cx) (s:St) (tmps:Array Value) (stk:List (Array Value)):Prop where
  H:C.H=s.H
  heap:zY C
  env:Zq C s.env tmps
  stk:ZG C s.stk stk
  frame:zK F C
theorem zbs (t:Nat):Zm [] t = .unk:=rfl
theorem Zu (d:Nat) (v:AV) (r:zT) (t:Nat):Zm ((d,v)::r) t=if d=t then v else Zm r t:=by
  rw [Zm]
  by_cases h:d=t
  · simp [h]
  · have:Nat.beq d t=false:=by
      cases hb:Nat.beq d t
      · rfl
      · exact absurd (Nat.eq_of_beq_eq_true hb) h
    simp [h,this]
theorem Zq.put {C:Cx} {env:zT} {tmps:Array Value} (h:Zq C env tmps) {d:Nat} {v:AV} {u:Value} (hv:VRel C v u) (hd:d<tmps.size) :
    Zq C ((d,v)::env) (tmps.setIfInBounds d u):=by
  intro t
  rw [Zu]
  by_cases e:d=t
  · subst e
    rw [if_pos rfl]
    simp [hd]
    exact hv
  · rw [if_neg e]
    have:=h t
    simp only [Array.getD_eq_getD_getElem?] at *
    rwa [Array.getElem?_setIfInBounds_ne e]
end Go.AE
namespace Go.AE
variable {P:Program} {T:Tab} {C:Cx}
def zbW:AV→Value
  | .bool b => .bool b
  | .int k n => .int k n
  | .str s => .string ⟨s.toArray⟩
  | .nilp => .pointer none
  | .nils => .slice none 0 0
  | .nilm => .map none
  | .nilf => .nilFunc
  | .nili => .nilIface
  | _=>undef
def AV.isZero:AV→Bool
  | .bool _=>true
  | .int _ _=>true
  | .str _=>true
  | .nilp=>true
  | .nils=>true
  | .nilm=>true
  | .nilf=>true
  | .nili=>true
  | _=>false
def yu:List AV→TypeDesc→Bool
  | [.bool _],.bool=>true
  | [.int k _],.int k'=>decide (k=k')
  | [.str _],.string=>true
  | [.nilf],.func _ _ _=>true
  | [.nili],.interface _=>true
  | _,_=>false
def Z3 (zero:List AV):TK→TypeDesc→Prop
  | .sc,d=>yu zero d=true
  | .ptr e,d=>d = .pointer e∧zero=[.nilp]
  | .slice e,d=>d = .slice e∧zero=[.nils]
  | .array n e,d=>d = .array n e
  | .map k e,d=>d = .map k e∧zero=[.nilm]
  | .struct fs,d => ∃fields,d = .struct fields∧fields.toList.map (fun f=>(f.type,f.offset))=fs∧fields.toList.all (fun f=>f.name != "_")=true
def Ty.isSt:Ty→Bool
  | .st _=>true
  | _=>false
def zuz:Value→Bool
  | .agg _=>false
  | _=>true
def methB (P:Program) (t:Nat) (name:String) (g:Nat):Bool :=
  match P.info? t,P.underlying t with
  | some info,some d=>(match info.methods.find? (·.name == name) with
    | some m=>m.path.toList.isEmpty&&(match m.func with
      | some fp=>Nat.beq fp.1 g&&(match d,fp.2 with
        | .pointer _,true=>true
        | .pointer _,false=>false
        | _,true=>false
        | _,false=>true)
      | none=>false)
    | none=>false)
  | _,_=>false
structure y7 [BT] (P:Program) (t:Nat) (i:TI) (d:TypeDesc) (info:TypeInfo) (z:Value):Prop where
  under:P.underlying t=some d
  inf:P.info? t=some info
  size:info.size=i.size
  bytes:info.bytes=i.bytes
  zero:info.zero=some z
  cells:z.cells.toList=i.zero.map zbW
  isz:i.zero.all AV.isZero=true
  len:i.zero.length=i.size
  kind:Z3 i.zero i.k d
  one:i.isAgg=false→i.size=1
  byte:i.ty=some (.int .u8)→t=BT.byte
  ty : ∀ty,i.ty=some ty→ty.size=i.size∧ty.isSt=i.isAgg∧ty ≠ .unit
  stood:i.isAgg=true→zJV i.zero=true→P.stoodInHeld t=false∧P.eqGuardType P.depth t=false
  plain:i.isAgg=false→zuz z=true
  agg:i.isAgg=true→zuz z=false
  meth : ∀name g,zlK BT.meths t name=some g→methB P t name g=true
def zN [BT] (P:Program) (T:Tab):Prop := ∀t i,Tab.get T t=some i → ∃d info z,y7 P t i d info z
theorem zr {α:Type} {o:Option α} {k:α→Ans} {res:AV×List Obj} (h:za o k=some res) : ∃a,o=some a∧k a=some res:=by
  cases o with
  | none=>cases h
  | some a=>exact ⟨a,rfl,h⟩
theorem zI {c:Bool} {x:Ans} {res:AV×List Obj} (h:cond c x none=some res):c=true∧x=some res:=by
  cases c with
  | true=>exact ⟨rfl,h⟩
  | false=>cases h
theorem Qt {c:Bool} {x:Ans} {res:AV×List Obj} (h:cond c none x=some res):c=false∧x=some res:=by
  cases c with
  | true=>cases h
  | false=>exact ⟨rfl,h⟩
theorem YR {v:AV} {K:Int→Ans} {res:AV×List Obj} (h:asInt v K=some res) : ∃k n,v = .int k n∧K n=some res:=by
  cases v <;> first | (cases h;done) | exact ⟨_,_,rfl,h⟩
theorem y7.isRow [BT] {t:Nat} {i:TI} {d:TypeDesc} {info:TypeInfo} {z:Value} (h:y7 P t i d info z):d.isRow=i.isAgg:=by
  have hk:=h.kind
  unfold TI.isAgg
  cases hi:i.k <;> rw [hi] at hk <;> simp only [Z3] at hk
  · unfold yu at hk
    split at hk <;> first | rfl | (cases hk;done)
  · obtain ⟨rfl,_⟩:=hk;rfl
  · obtain ⟨rfl,_⟩:=hk;rfl
  · subst hk;rfl
  · obtain ⟨f,rfl,_⟩:=hk;rfl
  · obtain ⟨rfl,_⟩:=hk;rfl
theorem y7.run_isAgg [BT] {t:Nat} {i:TI} {d:TypeDesc} {info:TypeInfo} {z:Value} (h:y7 P t i d info z) (w:World):(isAgg t).run P w = .ok i.isAgg w:=by
  have hr:=h.isRow
  unfold isAgg
  rw [Sem.run_bind,run_underlying h.under w]
  cases d <;> simp_all
theorem y7.run_sizeOf [BT] {t:Nat} {i:TI} {d:TypeDesc} {info:TypeInfo} {z:Value} (h:y7 P t i d info z) (w:World):(sizeOf t).run P w = .ok i.size w:=by
  simp [sizeOf,typeInfo,h.inf,h.size]
theorem y7.run_zero [BT] {t:Nat} {i:TI} {d:TypeDesc} {info:TypeInfo} {z:Value} (h:y7 P t i d info z) (w:World):(zeroValue t).run P w = .ok z w:=by
  simp [zeroValue,typeInfo,h.inf,h.zero]
theorem y7.run_info [BT] {t:Nat} {i:TI} {d:TypeDesc} {info:TypeInfo} {z:Value} (h:y7 P t i d info z) (w:World):(typeInfo t).run P w = .ok info w:=by
  simp [typeInfo,h.inf]
theorem zjd (v:Value):VRel C (zfh v) v:=by
  unfold zfh
  split <;> simp [VRel]
theorem zNh (v:Value):VRel C (zdp v) v:=by
  unfold zdp
  split
  · rename_i cs
    rw [VRel]
    refine ⟨cs,rfl,?_⟩
    generalize cs.toList=l
    induction l with
    | nil=>simp [VRels]
    | cons x r ih=>rw [List.map_cons,VRels];exact ⟨x,r,rfl,zjd x,ih⟩
  · exact zjd v
theorem zR {env:zT} {a:Act} (h:Zq C env a.tmps) (x:Operand):VRel C (opd env x) (a.eval x):=by
  cases x with
  | tmp t=>exact h t
  | const v=>exact zNh v
  | global g=>simp only [opd,VRel]
  | func f=>simp only [opd,VRel,Act.eval];exact ⟨#[],#[],rfl,by simp [VRels],by simp [VRels]⟩
theorem qV {env:zT} {a:Act} (h:Zq C env a.tmps) (l:List Operand):VRels C (l.map (opd env)) (l.map a.eval):=by
  induction l with
  | nil=>simp [VRels]
  | cons x r ih=>rw [List.map_cons,List.map_cons,VRels];exact ⟨_,_,rfl,zR h x,ih⟩
theorem zqE {cs r:List AV} {vs:List Value} {off n:Nat} (h:qa cs off n=some r) (hv:VRels C cs vs) :
    VRels C r ((vs.drop off).take n)∧r.length=n∧((vs.drop off).take n).length=n:=by
  unfold qa at h
  obtain ⟨rfl,hn⟩:=zix h
  have hl:=hv.length
  refine ⟨(hv.drop off).take n,?_,?_⟩
  · simp;simp at hn;omega
  · simp;simp at hn;omega
theorem zSF [BT] {t:Nat} {i:TI} {d:TypeDesc} {info:TypeInfo} {z:Value} (hi:y7 P t i d info z) {w:World} {b o:Nat} {us:List Value} (hl:us.length=i.size)
    (hc:w.rangeAt b o us):(Instr.loadAt t (.pointer (some ⟨b,o,none⟩))).run P w = .ok (if i.isAgg then .agg us.toArray else us.headD undef) w:=by
  cases ha:i.isAgg with
  | true =>
    rw [if_pos rfl]
    exact run_loadAt_mid w b o t us d hc hi.under (by rw [hi.isRow,ha]) (by rw [hi.inf];simp [hi.size,hl])
  | false =>
    have h1:=hi.one ha
    obtain ⟨u,rfl⟩ : ∃u,us=[u]:=by
      cases us with
      | nil=>simp at hl;omega
      | cons u r=>cases r with
        | nil=>exact ⟨u,rfl⟩
        | cons=>simp at hl;omega
    have hu:w.cell? ⟨b,o,none⟩=some u:=hc 0 u rfl
    simp [Instr.loadAt,Instr.sureAddr,loadVar,hi.run_isAgg,ha,hu]
theorem z5n {i:TI} {cs:List AV} {us:List Value} {K:AV→Ans} {res:AV×List Obj} (hl:cs.length=i.size) (hv:VRels C cs us)
    (h:cond i.isAgg (K (.agg cs)) (za (oneCell cs) K)=some res) : ∃r,K r=some res∧VRel C r (if i.isAgg then .agg us.toArray else us.headD undef):=by
  cases ha:i.isAgg with
  | true =>
    rw [ha] at h
    exact ⟨_,h,by rw [if_pos rfl,VRel];exact ⟨us.toArray,rfl,by simpa using hv⟩⟩
  | false =>
    rw [ha] at h
    obtain ⟨x,hx,hk⟩:=zr h
    unfold oneCell at hx
    split at hx
    · rename_i y
      cases hx
      rw [VRels] at hv
      obtain ⟨v,vs',rfl,hxv,_⟩:=hv
      exact ⟨x,hk,by simpa using hxv⟩
    · cases hx
def zGU (w w':World):Prop := ∀b,b<w.heap.size→w'.heap[b]? = w.heap[b]?
theorem zGU.refl (w:World):zGU w w:=fun _ _=>rfl
theorem zGU.cell {w w':World} (h:zGU w w') {a:Addr} {u:Value} (hc:w.cell? a=some u):w'.cell? a=some u:=by
  have hb:a.block<w.heap.size:=by
    unfold World.cell? at hc
    split at hc <;> first | (cases hc;done) | skip
    · rename_i e
      exact (Array.getElem?_eq_some_iff.1 e).1
  rw [World.cell?,h _ hb]
  exact hc
def zq6 (C:Cx) (ids:List Nat) (W:World):Prop := ∀b,(C.R b ∨ ∃i ∈ ids,zA C.H i∧C.ρ i=some b)→W.heap[b]? = C.w.heap[b]?
def zii (C:Cx) (rd:Option (List Nat)) (W:World):Prop := ∀l,rd=some l→zq6 C l W
theorem zii.refl (C:Cx) (rd:Option (List Nat)):zii C rd C.w:=fun _ _ _ _=>rfl
theorem zq6.refl (C:Cx) (ids:List Nat):zq6 C ids C.w:=fun _ _=>rfl
theorem zhU [BT] {t:Nat} {i:TI} {d:TypeDesc} {info:TypeInfo} {z:Value} (hi:y7 P t i d info z) {b o off:Nat} {us:List Value} {cs r:List AV} {K:AV→Ans} {res:AV×List Obj}
    (hc : ∀j u,us[j]? = some u→C.w.cell? ⟨b,o+j,none⟩=some u) (hv:VRels C cs us) (hr:qa cs off i.size=some r)
    (h:cond i.isAgg (K (.agg r)) (za (oneCell r) K)=some res) :
    ∃r v,K r=some res∧(∀W:World,W.heap[b]? = C.w.heap[b]? → (Instr.loadAt t (.pointer (some ⟨b,o+off,none⟩))).run P W = .ok v W)∧VRel C r v:=by
  obtain ⟨h1,h2,h3⟩:=zqE hr hv
  obtain ⟨r',hk,hrel⟩:=z5n h2 h1 h
  refine ⟨r',_,hk,fun W hW=>zSF hi h3 ?_,hrel⟩
  intro j u hj
  rw [zav hW]
  rw [List.getElem?_take] at hj
  split at hj
  · rw [List.getElem?_drop] at hj
    rw [Nat.add_assoc]
    exact hc _ _ hj
  · cases hj
theorem qH [BT] {i:Nat} {cs:List AV} (hh:zY C) (h:zp C.H i = .cells cs) : ∃b c e fr,C.ρ i=some b∧C.w.heap[b]? = some (.cells c e fr)∧qX fr c.size∧VRels C cs c.toList ∧ ∀u ∈ c.toList,u.oneCell'=true:=by
  have:=hh.obj i
  rw [h] at this
  exact this
theorem zbv [BT] {i:Nat} {t:Ty} {l:List t.T} (hh:zY C) (h:zp C.H i = .arr t l):(C.ρ i=none∧l=[]) ∨ ∃b c e fr,C.ρ i=some b∧C.w.heap[b]? = some (.cells c e fr)∧qX fr c.size∧l.length*t.size≤c.size ∧
      ∀k x,l[k]? = some x → ∃us,zJ C.R C.w t x us ∧ ∀j u,us[j]? = some u→c[k*t.size+j]? = some u:=by
  have:=hh.obj i
  rw [h] at this
  rcases this with this | ⟨b,c,e,fr,h1,h2,h3,h4,h5,_⟩
  · exact .inl this
  · exact .inr ⟨b,c,e,fr,h1,h2,h3,h4,h5⟩
theorem zeB [BT] {i:Nat} {t:Ty} {l:List t.T} (hh:zY C) (h:zp C.H i = .arr t l):(C.ρ i=none∧l=[]) ∨ ∃b c e fr,C.ρ i=some b∧C.w.heap[b]? = some (.cells c e fr)∧qX fr c.size∧l.length*t.size≤c.size ∧
      (∀k x,l[k]? = some x → ∃us,zJ C.R C.w t x us ∧ ∀j u,us[j]? = some u→c[k*t.size+j]? = some u)∧(t = .int .u8→e=BT.byte):=by
  have:=hh.obj i
  rw [h] at this
  exact this
theorem zda [BT] {i:Nat} {cs:List AV} (hh:zY C) (h:zp C.H i = .bcells cs) : ∃b c v0,C.ρ i=some b∧C.w.heap[b]? = some (.cells c BT.bld (0,0))∧(∃vs,c.toList=v0::vs∧VRels C cs vs)∧(∀u ∈ c.toList,u.oneCell'=true)∧(v0 = .pointer none∨v0 = .pointer (some ⟨b,0,none⟩)):=by
  have:=hh.obj i
  rw [h] at this
  exact this
theorem zDc [BT] {i:Nat} {s:List Int} (hh:zY C) (h:zp C.H i = .btold s) : ∃b v0 v,C.ρ i=some b∧C.w.heap[b]? = some (.cells #[v0,v] BT.bld (0,0))∧(∀u ∈ (#[v0,v]:Array Value).toList,u.oneCell'=true)∧(v0 = .pointer none∨v0 = .pointer (some ⟨b,0,none⟩)) ∧
      ((s=[]∧v = .slice none 0 0) ∨ ∃g cap cur fr,v = .slice (some ⟨g,0,none⟩) s.length cap∧s.length≤cap∧C.R g∧C.w.heap[g]? = some (.cells cur BT.byte fr)∧(s=[]∨fr.1=0∧fr.2≠0∧s.length≤fr.2)∧s.length≤cur.size ∧ ∀(j:Nat) (x:Int),s[j]? = some x→cur[j]? = some (Value.int .u8 x)):=by
  have:=hh.obj i
  rw [h] at this
  exact this
theorem zvw [BT] (hT:zN P T) (hh:zY C) {s:St} (hs:C.H=s.H) {t:Nat} {p:AV} {v:Value} (hp:VRel C p v) {K:AV→Ans} {res:AV×List Obj}
    (h:load T s t p K=some res) : ∃r u,K r=some res∧(∀W,zq6 C p.refs W→(Instr.loadAt t v).run P W = .ok u W)∧VRel C r u:=by
  unfold load at h
  replace h:=zr h;obtain ⟨i,hti,h⟩:=h
  obtain ⟨d,info,z,hi⟩:=hT t i hti
  cases p with
  | ptr n off =>
    simp only at h
    rw [VRel] at hp
    obtain ⟨b,hb,rfl,hlv⟩:=hp
    rw [← hs] at h
    split at h
    · rename_i cs hg
      replace h:=zr h;obtain ⟨cs',hcs,h⟩:=h
      obtain ⟨b',c,e,fr,hb',hw,hfr,hv,_⟩:=qH hh hg
      obtain rfl:b=b':=Option.some.inj (hb.symm.trans hb')
      obtain ⟨r,u,h1,h2,h3⟩:=zhU (P:=P) (o:=0) hi (fun j u hj=>by rw [cell_blk (blkOf_cells hw)];simpa using hj) hv hcs h
      rw [Nat.zero_add] at h2
      exact ⟨r,u,h1,fun W hW=>h2 W (hW b (.inr ⟨n,by simp [AV.refs],hlv,hb⟩)),h3⟩
    · rename_i cs hg
      obtain ⟨h1off,h⟩:=zI h
      have h1off:=Nat.le_of_ble_eq_true h1off
      replace h:=zr h;obtain ⟨cs',hcs,h⟩:=h
      obtain ⟨b',c,v0,hb',hw,⟨vs,hc,hv⟩,_,_⟩:=zda hh hg
      obtain rfl:b=b':=Option.some.inj (hb.symm.trans hb')
      obtain ⟨r,u,h1,h2,h3⟩:=zhU (P:=P) (o:=1) hi (fun j u hj=>by
        rw [cell_blk (blkOf_cells hw)]
        have:c.toList[1+j]? = some u:=by rw [hc,Nat.add_comm];simpa using hj
        simpa using this) hv hcs h
      rw [show 1+Nat.sub off 1=off by have:Nat.sub off 1=off - 1:=rfl;omega] at h2
      exact ⟨r,u,h1,fun W hW=>h2 W (hW b (.inr ⟨n,by simp [AV.refs],hlv,hb⟩)),h3⟩
    · cases h
  | eptr n idx off =>
    simp only at h
    rw [VRel] at hp
    obtain ⟨b,ty,l,hb,hg,rfl⟩:=hp
    rw [← hs] at h
    rw [hg] at h
    simp only at h
    replace h:=zr h;obtain ⟨x,hx,h⟩:=h
    replace h:=zr h;obtain ⟨cs',hcs,h⟩:=h
    rcases zbv hh hg with ⟨hn,_⟩ | ⟨b',c,e,fr,hb',hw,hfr,hl,hel⟩
    · rw [hn] at hb;cases hb
    · obtain rfl:b=b':=Option.some.inj (hb.symm.trans hb')
      obtain ⟨us,hd,hu⟩:=hel idx x hx
      obtain ⟨r,u,h1,h2,h3⟩:=zhU (P:=P) (o:=idx*ty.size) hi (fun j u hj=>by rw [cell_blk (blkOf_cells hw)];exact hu j u hj) hd.cells hcs h
      exact ⟨r,u,h1,fun W hW=>h2 W (hW b (.inr ⟨n,by simp [AV.refs],by unfold zA;rw [hg];simp,hb⟩)),h3⟩
  | rptr ty x off =>
    simp only at h
    rw [VRel] at hp
    obtain ⟨b,o,us,hb,hd,hu,rfl⟩:=hp
    replace h:=zr h;obtain ⟨cs',hcs,h⟩:=h
    obtain ⟨r,u,h1,h2,h3⟩:=zhU (P:=P) (o:=o) hi hu hd.cells hcs h
    exact ⟨r,u,h1,fun W hW=>h2 W (hW b (.inl hb)),h3⟩
  | _=>cases h
end Go.AE
namespace Go.AE
variable {P:Program} {T:Tab} {C:Cx}
theorem yw {a b:Nat} (h:Nat.beq a b=true):a=b:=Nat.eq_of_beq_eq_true h
theorem w8 {i:Int} {n:Nat} (h:inR i n=true):0≤i∧i<n:=by
  simpa [inR] using h
theorem zJ0 {α:Type} {l:List α} {i:Int} {x:α} (h:nth l i=some x):0≤i∧i<l.length∧l[i.toNat]? = some x:=by
  unfold nth at h
  split at h
  · rename_i h0
    refine ⟨h0,?_,h⟩
    have:=(List.getElem?_eq_some_iff.1 h).1
    omega
  · cases h
theorem zlD {fs:List (Nat×Nat)} {zero:List AV} {d:TypeDesc} (h:Z3 zero (.struct fs) d) {n:Nat} {ft off:Nat} (hf:fs[n]? = some (ft,off)) :
    ∃fields f,d = .struct fields∧fields[n]? = some f∧f.type=ft∧f.offset=off:=by
  obtain ⟨fields,rfl,hm,_⟩:=h
  rw [← hm,List.getElem?_map] at hf
  cases hg:fields.toList[n]? with
  | none=>rw [hg] at hf;cases hf
  | some f =>
    rw [hg] at hf
    simp at hf
    exact ⟨fields,f,rfl,by simpa using hg,hf.1,hf.2⟩
theorem zve [BT] (hT:zN P T) {t:Nat} {p:AV} {v:Value} (hp:VRel C p v) {f:Nat} {K:AV→Ans} {res:AV×List Obj}
    (h:fieldAddr T t p f K=some res) : ∃r u,K r=some res∧(∀W,(Instr.fieldAt t v f).run P W = .ok u W)∧VRel C r u:=by
  unfold fieldAddr at h
  replace h:=zr h;obtain ⟨i,hti,h⟩:=h
  obtain ⟨d,info,z,hi⟩:=hT t i hti
  have hk:=hi.kind
  split at h
  · rename_i fs hfs
    rw [hfs] at hk
    replace h:=zr h;obtain ⟨⟨ft,off⟩,hff,h⟩:=h
    dsimp only at h
    obtain ⟨j,hj,h2⟩:=zr h
    obtain ⟨hz,h3⟩:=Qt h2
    clear h h2
    obtain ⟨fields,fl,rfl,hfl,rfl,rfl⟩:=zlD hk hff
    obtain ⟨d',info',z',hj'⟩:=hT _ j hj
    have hne:j.size≠0:=by intro e;rw [e] at hz;exact absurd hz (by decide)
    have run : ∀b o W,(Instr.fieldAt t (.pointer (some ⟨b,o,none⟩)) f).run P W = .ok (.pointer (some ⟨b,o+fl.offset,none⟩)) W:=by
      intro b o W
      simp [Instr.fieldAt,run_underlying hi.under,hfl,Instr.sureAddr,fieldPlace,hj'.run_sizeOf,hne,Addr.add_mid]
    cases p with
    | ptr n o =>
      rw [VRel] at hp
      obtain ⟨b,hb,rfl,hlv⟩:=hp
      exact ⟨.ptr n (o+fl.offset),_,h3,run _ _,by rw [VRel];exact ⟨b,hb,rfl,hlv⟩⟩
    | eptr n ix o =>
      rw [VRel] at hp
      obtain ⟨b,ty,l,hb,hg,rfl⟩:=hp
      exact ⟨.eptr n ix (o+fl.offset),_,h3,run _ _,by rw [VRel];exact ⟨b,ty,l,hb,hg,by rw [Nat.add_assoc]⟩⟩
    | rptr ty x o =>
      rw [VRel] at hp
      obtain ⟨b,o,us,hb,hd,hu,rfl⟩:=hp
      exact ⟨.rptr ty x (_+fl.offset),_,h3,run _ _,by rw [VRel];exact ⟨b,o,us,hb,hd,hu,by rw [Nat.add_assoc]⟩⟩
    | _=>cases h3
  · cases h
theorem wq [BT] (hT:zN P T) {t off:Nat} {cs:List AV} {vs:Array Value} (hv:VRels C cs vs.toList) {r:AV} (h:zcF T t cs off=some r) :
    ∃u,(∀W,(part t vs off).run P W = .ok u W)∧VRel C r u:=by
  unfold zcF at h
  split at h
  · rename_i i hti
    obtain ⟨d,info,z,hi⟩:=hT t i hti
    split at h
    · rename_i a ha
      obtain ⟨h1,h2,h3⟩:=zqE ha hv
      split at h
      · rename_i hg
        cases h
        refine ⟨.agg (vs.extract off (off+i.size)),fun W=>by simp [part,hi.run_isAgg,hg,hi.run_sizeOf],?_⟩
        rw [VRel]
        refine ⟨_,rfl,?_⟩
        have:(vs.extract off (off+i.size)).toList=(vs.toList.drop off).take i.size:=by
          simp [Array.toList_extract]
        rw [this]
        exact h1
      · rename_i hg
        have hg':i.isAgg=false:=by simpa using hg
        have h1':=hi.one hg'
        unfold oneCell at h
        split at h
        · cases h
          rw [VRels] at h1
          obtain ⟨v,vs',he,hr,_⟩:=h1
          have hcell:vs[off]? = some v:=by
            have h0:((vs.toList.drop off).take i.size)[0]? = some v:=by rw [he];rfl
            rw [h1'] at h0
            simpa using h0
          exact ⟨v,fun W=>by simp [part,hi.run_isAgg,hg',hcell],hr⟩
        · cases h
    · cases h
  · cases h
theorem zOd [BT] (hT:zN P T) {t:Nat} {p:AV} {v:Value} (hp:VRel C p v) {f:Nat} {K:AV→Ans} {res:AV×List Obj}
    (h:field T t p f K=some res) : ∃r u,K r=some res∧(∀W,(Instr.field t v f).run P W = .ok u W)∧VRel C r u:=by
  unfold field at h
  replace h:=zr h;obtain ⟨i,hti,h⟩:=h
  obtain ⟨d,info,z,hi⟩:=hT t i hti
  have hk:=hi.kind
  split at h
  · rename_i fs cs hfs
    rw [hfs] at hk
    rw [VRel] at hp
    obtain ⟨vs,rfl,hv⟩:=hp
    replace h:=zr h;obtain ⟨⟨ft,off⟩,hff,h⟩:=h
    dsimp only at h
    replace h:=zr h;obtain ⟨r,hr,h⟩:=h
    obtain ⟨fields,fl,rfl,hfl,rfl,rfl⟩:=zlD hk hff
    obtain ⟨u,hu,hrel⟩:=wq hT hv hr
    exact ⟨r,u,h,fun W=>by simp [Instr.field,run_underlying hi.under,hfl,asAgg,hu],hrel⟩
  · cases h
theorem Y1 [BT] {t:Nat} {i:TI} {d:TypeDesc} {info:TypeInfo} {z:Value} (hi:y7 P t i d info z) (hk:i.k = .sc) (h:qy i=true):d = .string:=by
  have:=hi.kind
  rw [hk] at this
  unfold qy at h
  split at h
  · rename_i s hz
    simp only [Z3,hz] at this
    cases d <;> simp_all [yu]
  · cases h
theorem zOm [BT] (hT:zN P T) {t:Nat} {x ix:AV} {v w:Value} (hx:VRel C x v) (hix:VRel C ix w) {K:AV→Ans} {res:AV×List Obj}
    (h:index T t x ix K=some res) : ∃r u,K r=some res∧(∀W,(Instr.index t v w).run P W = .ok u W)∧VRel C r u:=by
  unfold index at h
  replace h:=YR h;obtain ⟨k,n,rfl,h⟩:=h
  rw [VRel] at hix
  subst hix
  replace h:=zr h;obtain ⟨i,hti,h⟩:=h
  obtain ⟨d,info,z,hi⟩:=hT t i hti
  split at h
  · rename_i hk
    replace h:=zI h;obtain ⟨hs,h⟩:=h
    have hd:=Y1 hi hk hs
    subst hd
    split at h
    · rename_i s
      rw [VRel] at hx
      subst hx
      replace h:=zr h;obtain ⟨c,hc,h⟩:=h
      obtain ⟨h0,h1,h2⟩:=zJ0 hc
      refine ⟨_,.int .u8 c.toNat,h,?_,by rw [VRel]⟩
      have hg:(⟨s.toArray⟩:ByteArray)[n.toNat]? = some c:=by
        have:n.toNat<s.length:=by omega
        rw [List.getElem?_eq_getElem this] at h2
        have hsz:n.toNat<(⟨s.toArray⟩:ByteArray).size:=by simpa [ByteArray.size] using this
        rw [getElem?_pos (⟨s.toArray⟩:ByteArray) n.toNat hsz]
        simpa [ByteArray.getElem_eq_getElem_data] using h2
      intro W
      simp [Instr.index,asIntOf,run_underlying hi.under,h0,hg]
    · cases h
  · rename_i len e hk
    have hkk:=hi.kind
    rw [hk] at hkk
    simp only [Z3] at hkk
    subst hkk
    replace h:=zr h;obtain ⟨ei,hei,h⟩:=h
    obtain ⟨d',info',z',hj⟩:=hT _ ei hei
    split at h
    · rename_i cs
      rw [zKn] at h
      replace h:=zI h;obtain ⟨hr,h⟩:=h
      obtain ⟨h0,h1⟩:=w8 hr
      rw [VRel] at hx
      obtain ⟨vs,rfl,hv⟩:=hx
      replace h:=zr h;obtain ⟨r,hpr,h⟩:=h
      obtain ⟨u,hu,hrel⟩:=wq hT hv hpr
      exact ⟨r,u,h,fun W=>by simp [Instr.index,asIntOf,run_underlying hi.under,h0,h1,hj.run_sizeOf,hu],hrel⟩
    · cases h
  · cases h
theorem zvZ [BT] (hT:zN P T) {s:St} (hs:C.H=s.H) {t:Nat} {x ix:AV} {v w:Value} (hx:VRel C x v) (hix:VRel C ix w) {K:AV→Ans} {res:AV×List Obj}
    (h:indexAddr T s t x ix K=some res) : ∃r u,K r=some res∧(∀W,(Instr.indexAt t v w).run P W = .ok u W)∧VRel C r u:=by
  unfold indexAddr at h
  simp only [zKn] at h
  replace h:=YR h;obtain ⟨k,n,rfl,h⟩:=h
  rw [VRel] at hix
  subst hix
  replace h:=zr h;obtain ⟨i,hti,h⟩:=h
  obtain ⟨d,info,z,hi⟩:=hT t i hti
  have hkk:=hi.kind
  split at h
  · rename_i e hk
    rw [hk] at hkk
    obtain ⟨rfl,_⟩:=hkk
    replace h:=zr h;obtain ⟨ei,hei,h⟩:=h
    obtain ⟨d',info',z',hj⟩:=hT _ ei hei
    have run : ∀(a:Addr) (len cap:Nat),0≤n→n<(len:Int) → ∀W,(Instr.indexAt t (.slice (some a) len cap) (.int k n)).run P W = .ok (.pointer (some (a.add (n.toNat*ei.size)))) W:=by
      intro a len cap h0 h1 W
      simp [Instr.indexAt,asIntOf,run_underlying hi.under,h0,h1,hj.run_sizeOf]
    split at h
    · rename_i m
      rw [VRel] at hx
      obtain ⟨ty,l,hg,hx⟩:=hx
      rw [← hs,hg] at h
      simp only at h
      replace h:=zI h;obtain ⟨hse,h⟩:=h
      replace h:=zI h;obtain ⟨hr,h⟩:=h
      obtain ⟨h0,h1⟩:=w8 hr
      rcases hx with ⟨_,hl,rfl⟩ | ⟨b,c,cap,hb,hbl,hcap,hcs,rfl⟩
      · subst hl;simp at h1;omega
      · refine ⟨_,_,h,run _ _ _ h0 h1,?_⟩
        rw [VRel]
        refine ⟨b,ty,l,hb,hg,?_⟩
        rw [yw hse,Addr.add_mid]
        simp
    · rename_i m off len e'
      replace h:=zI h;obtain ⟨hse,h⟩:=h
      have hse:=yw hse
      rw [VRel] at hx
      obtain ⟨A,cap,rfl,hlc,hx⟩:=hx
      have key : ∀(hr:inR n len=true),0≤n∧n<len ∧ ∃b,C.ρ m=some b∧A=some ⟨b,off*e',none⟩:=by
        intro hr
        obtain ⟨h0,h1⟩:=w8 hr
        refine ⟨h0,h1,?_⟩
        rcases hx with ⟨hl,_⟩ | ⟨hl,_⟩ | ⟨b,hb,hA,_⟩
        · omega
        · omega
        · exact ⟨b,hb,hA⟩
      split at h
      · rename_i ty l hg
        rw [← hs] at hg
        replace h:=zI h;obtain ⟨hr,h⟩:=h
        obtain ⟨h0,h1,b,hb,rfl⟩:=key hr
        refine ⟨_,_,h,run _ _ _ h0 h1,?_⟩
        have hety:e'=ty.size:=by
          rcases hx with ⟨hl,_⟩ | ⟨_,hx,_⟩ | ⟨b',hb',_,c,_,_,hm⟩
          · omega
          · cases hx
          · rw [hg] at hm;exact hm.1
        rw [VRel]
        refine ⟨b,ty,l,hb,hg,?_⟩
        rw [Addr.add_mid,hse,hety,Nat.add_mul]
        simp
      · rename_i cs hg
        replace h:=zI h;obtain ⟨hr,h⟩:=h
        obtain ⟨h0,h1,b,hb,rfl⟩:=key hr
        refine ⟨_,_,h,run _ _ _ h0 h1,?_⟩
        rw [VRel]
        refine ⟨b,hb,?_,?_⟩
        · rw [Addr.add_mid,hse,Nat.add_mul]
        · unfold zA;rw [hs,hg];simp
      · cases h
    · rename_i ty l
      replace h:=zI h;obtain ⟨hse,h⟩:=h
      have hse:=yw hse
      replace h:=zr h;obtain ⟨y,hy,h⟩:=h
      obtain ⟨h0,h1,h2⟩:=zJ0 hy
      rw [VRel,zJ] at hx
      obtain ⟨A,c,hv,hlc,hx⟩:=hx
      obtain rfl:v = .slice A l.length c:=by simpa using hv
      rcases hx with rfl | ⟨b,o,rfl,hb,hx⟩
      · simp at h1;omega
      · obtain ⟨us,hd,hu⟩:=hx _ _ h2
        refine ⟨_,_,h,run _ _ _ h0 h1,?_⟩
        rw [VRel]
        refine ⟨b,o+n.toNat*ty.size,us,hb,hd,fun j u hj=>by rw [Nat.add_assoc];exact hu j u hj,?_⟩
        rw [Addr.add_mid,hse]
        simp
    · cases h
  · rename_i len e hk
    rw [hk] at hkk
    simp only [Z3] at hkk
    subst hkk
    replace h:=zr h;obtain ⟨ei,hei,h⟩:=h
    obtain ⟨d',info',z',hj⟩:=hT _ ei hei
    have run : ∀(a:Addr),0≤n→n<(len:Int) → ∀W,(Instr.indexAt t (.pointer (some a)) (.int k n)).run P W = .ok (.pointer (some (a.add (n.toNat*ei.size)))) W:=by
      intro a h0 h1 W
      simp [Instr.indexAt,asIntOf,run_underlying hi.under,h0,h1,hj.run_sizeOf,Instr.sureAddr]
    split at h
    · rename_i m off
      rw [VRel] at hx
      obtain ⟨b,hb,rfl,hlv⟩:=hx
      split at h
      · replace h:=zI h;obtain ⟨hr,h⟩:=h
        obtain ⟨h0,h1⟩:=w8 hr
        exact ⟨_,_,h,run _ h0 h1,by rw [VRel];exact ⟨b,hb,by rw [Addr.add_mid],hlv⟩⟩
      · rename_i ty l hg
        rw [← hs] at hg
        replace h:=zI h;obtain ⟨hr,h⟩:=h
        simp only [Bool.and_eq_true] at hr
        obtain ⟨⟨ho,hse⟩,hr⟩:=hr
        have hse:=yw hse
        have ho:=yw ho
        obtain ⟨h0,h1⟩:=w8 hr
        subst ho
        refine ⟨_,_,h,run _ h0 h1,?_⟩
        rw [VRel]
        exact ⟨b,ty,l,hb,hg,by rw [Addr.add_mid,hse];simp⟩
      · cases h
    · rename_i m ix off
      rw [VRel] at hx
      obtain ⟨b,ty,l,hb,hg,rfl⟩:=hx
      replace h:=zI h;obtain ⟨hr,h⟩:=h
      obtain ⟨h0,h1⟩:=w8 hr
      exact ⟨_,_,h,run _ h0 h1,by rw [VRel];exact ⟨b,ty,l,hb,hg,by rw [Addr.add_mid,Nat.add_assoc]⟩⟩
    · rename_i ty y off
      rw [VRel] at hx
      obtain ⟨b,o,us,hb,hd,hu,rfl⟩:=hx
      replace h:=zI h;obtain ⟨hr,h⟩:=h
      obtain ⟨h0,h1⟩:=w8 hr
      exact ⟨_,_,h,run _ h0 h1,by rw [VRel];exact ⟨b,o,us,hb,hd,hu,by rw [Addr.add_mid,Nat.add_assoc]⟩⟩
    · cases h
  · cases h
end Go.AE
namespace Go.AE
variable {P:Program} {T:Tab} {C:Cx}
def zc7 (C:Cx):Option AV→Option Value→Prop
  | none,none=>True
  | some a,some v=>VRel C a v
  | _,_=>False
theorem y3 {len cap:Nat} {sl:Bool} {lo hi:Option AV} {vl vh:Option Value} (hl:zc7 C lo vl) (hh:zc7 C hi vh) (hcap:len≤cap) {K:Nat→Nat→Ans} {res:AV×List Obj}
    (h:q1 len lo hi K=some res) : ∃a b,K a b=some res∧a≤b∧b≤len∧(∀W,(Instr.sliceBounds sl len cap vl vh none).run P W = .ok (a,b,cap) W) ∧
      (lo=none→a=0)∧(hi=none→b=len):=by
  unfold q1 at h
  have sb : ∀(k:IntKind) (n:Int) (y:Nat) (code:BoundsCode),0≤n→n≤y → ∀W,(Instr.sliceBound (.int k n) y code).run P W = .ok n.toNat W:=by
    intro k n y code h0 h1 W
    simp [Instr.sliceBound,asIntOf,h0,h1]
  split at h
  · cases vl with
    | some _=>cases hl
    | none=>cases vh with
      | some _=>cases hh
      | none=>exact ⟨0,len,h,Nat.zero_le _,Nat.le_refl _,fun W=>by simp [Instr.sliceBounds],fun _=>rfl,fun _=>rfl⟩
  · rename_i l
    cases vh with
    | some _=>cases hh
    | none=>cases vl with
      | none=>cases hl
      | some u =>
        replace h:=YR h;obtain ⟨k,n,rfl,h⟩:=h
        replace h:=zI h;obtain ⟨hr,h⟩:=h
        obtain ⟨h0,h1⟩:=w8 hr
        simp only [zc7,VRel] at hl
        subst hl
        exact ⟨n.toNat,len,h,by omega,Nat.le_refl _,fun W=>by simp [Instr.sliceBounds,sb k n len .sliceB h0 (by omega)],(by simp),fun _=>rfl⟩
  · rename_i l
    cases vl with
    | some _=>cases hl
    | none=>cases vh with
      | none=>cases hh
      | some u =>
        replace h:=YR h;obtain ⟨k,n,rfl,h⟩:=h
        replace h:=zI h;obtain ⟨hr,h⟩:=h
        obtain ⟨h0,h1⟩:=w8 hr
        simp only [zc7,VRel] at hh
        subst hh
        refine ⟨0,n.toNat,h,by omega,by omega,?_,fun _=>rfl,by simp⟩
        intro W
        simp [Instr.sliceBounds,sb k n cap _ h0 (by omega)]
  · rename_i l1 l2
    cases vl with
    | none=>cases hl
    | some u=>cases vh with
      | none=>cases hh
      | some u' =>
        replace h:=YR h;obtain ⟨k,n,rfl,h⟩:=h
        replace h:=YR h;obtain ⟨k',n',rfl,h⟩:=h
        replace h:=zI h;obtain ⟨hr,h⟩:=h
        simp only [Bool.and_eq_true] at hr
        obtain ⟨h0,h1⟩:=w8 hr.1
        obtain ⟨h2,h3⟩:=w8 hr.2
        simp only [zc7,VRel] at hh hl
        subst hh
        subst hl
        refine ⟨n.toNat,n'.toNat,h,by omega,by omega,?_,by simp,by simp⟩
        intro W
        simp [Instr.sliceBounds,sb k' n' cap _ h0 (by omega),sb k n n'.toNat .sliceB h2 (by omega)]
theorem zzk {α:Type} (l:List α) {lo hi:Option AV} {a b:Nat} (ha:lo=none→a=0) (hb:hi=none→b=l.length) (hab:b≤l.length) :
    zrI l lo hi a b=(l.drop a).take (b - a):=by
  unfold zrI
  cases lo with
  | none =>
    obtain rfl:=ha rfl
    cases hi with
    | none=>obtain rfl:=hb rfl;simp
    | some _=>simp
  | some _=>cases hi with
    | none=>obtain rfl:=hb rfl;simp [List.take_of_length_le]
    | some _=>rfl
theorem zNM {α:Type} (l:List α) {lo hi:Option AV} {a b:Nat} (ha:lo=none→a=0) (hb:hi=none→b=l.length) (hab:b≤l.length) (hle:a≤b) :
    (zrI l lo hi a b).length=b - a:=by
  rw [zzk l ha hb hab]
  simp
  omega
theorem zFX (s:List UInt8) (a b:Nat):(⟨s.toArray⟩:ByteArray).extract a b=⟨((s.drop a).take (b - a)).toArray⟩:=by
  apply ByteArray.ext
  simp [List.extract_eq_take_drop]
theorem zdV (b o n size:Nat):(⟨b,o,none⟩:Addr).add (n*size)=⟨b,o+n*size,none⟩:=Addr.add_mid _ _ _
theorem zNc [BT] (hT:zN P T) (hh:zY C) {s:St} (hs:C.H=s.H) {t:Nat} {x:AV} {v:Value} (hx:VRel C x v) {lo hi mx:Option AV} {vl vh vm:Option Value}
    (hlo:zc7 C lo vl) (hhi:zc7 C hi vh) (hmx:zc7 C mx vm) {K:AV→Ans} {res:AV×List Obj}
    (h:slice T s t x lo hi mx K=some res) : ∃r u,K r=some res∧(∀W,(Instr.sliceAt t v vl vh vm).run P W = .ok u W)∧VRel C r u:=by
  unfold slice at h
  cases mx with
  | some _=>cases h
  | none =>
  cases vm with
  | some _=>cases hmx
  | none =>
  simp only at h
  replace h:=zr h;obtain ⟨i,hti,h⟩:=h
  obtain ⟨d,info,z,hi'⟩:=hT t i hti
  have hkk:=hi'.kind
  split at h
  · rename_i hk
    replace h:=zI h;obtain ⟨hst,h⟩:=h
    have hd:=Y1 hi' hk hst
    subst hd
    cases x with
    | str a =>
      simp only at h
      rw [VRel] at hx
      subst hx
      obtain ⟨i,j,hK,h1,h2,hrun,ha,hb⟩:=y3 (P:=P) (sl:=false) (cap:=a.length) hlo hhi (Nat.le_refl _) h
      refine ⟨_,.string ⟨((a.drop i).take (j - i)).toArray⟩,hK,?_,by rw [VRel,zzk a ha hb h2]⟩
      have hsz:(⟨a.toArray⟩:ByteArray).size=a.length:=by simp [ByteArray.size]
      intro W
      simp [Instr.sliceAt,run_underlying hi'.under,Instr.slice,hsz,hrun,zFX a i j]
    | _=>cases h
  · rename_i e hk
    rw [hk] at hkk
    obtain ⟨rfl,_⟩:=hkk
    replace h:=zr h;obtain ⟨ei,hei,h⟩:=h
    obtain ⟨d',info',z',hj⟩:=hT _ ei hei
    have run : ∀(A:Option Addr) (len cap a b:Nat),(∀W,(Instr.sliceBounds true len cap vl vh none).run P W = .ok (a,b,cap) W) →
        ∀W,(Instr.sliceAt t (.slice A len cap) vl vh none).run P W = .ok (.slice (if cap=a then A else A.map (·.add (a*ei.size))) (b - a) (cap - a)) W:=by
      intro A len cap a b hb W
      simp [Instr.sliceAt,run_underlying hi'.under,Instr.slice,hb,hj.run_sizeOf]
    cases x with
    | own n =>
      simp only at h
      rw [VRel] at hx
      obtain ⟨ty,l,hg,hx⟩:=hx
      rw [← hs,hg] at h
      simp only at h
      replace h:=zI h;obtain ⟨hse,h⟩:=h
      have hse:=yw hse
      rcases hx with ⟨hn,hl,rfl⟩ | ⟨b,c,cap,hb,hbl,hcap,hcs,rfl⟩
      · subst hl
        obtain ⟨x,y,hK,h1,h2,hrun,ha,hb⟩:=y3 (P:=P) (sl:=true) (cap:=0) hlo hhi (Nat.le_refl _) h
        have hy:y=0:=by simpa using h2
        subst hy
        have hx0:x=0:=by omega
        subst hx0
        refine ⟨_,_,hK,run _ _ _ _ _ hrun,?_⟩
        unfold zjC
        split
        · rw [VRel];exact ⟨ty,[],hg,.inl ⟨hn,rfl,rfl⟩⟩
        · rw [VRel];exact ⟨none,0,by simp,by simp,.inr (.inl ⟨rfl,rfl,rfl⟩)⟩
      · obtain ⟨x,y,hK,h1,h2,hrun,ha,hb'⟩:=y3 (P:=P) (sl:=true) (cap:=cap) hlo hhi hcap h
        refine ⟨_,_,hK,run _ _ _ _ _ hrun,?_⟩
        unfold zjC
        split
        · obtain rfl:=ha rfl
          obtain rfl:=hb' rfl
          rw [VRel]
          refine ⟨ty,l,hg,.inr ⟨b,c,cap,hb,hbl,hcap,hcs,?_⟩⟩
          simp [Addr.add]
        · rw [VRel]
          refine ⟨_,cap - x,rfl,by omega,?_⟩
          by_cases hxc:cap=x
          · by_cases hx0:x=0
            · refine .inr (.inr ⟨b,hb,?_,c,hbl,?_,?_⟩)
              · simp [hxc,hx0]
              · subst hx0;simpa using hcs
              · rw [hg];simp only;exact ⟨trivial,by omega⟩
            · exact .inl ⟨by omega,hx0⟩
          · refine .inr (.inr ⟨b,hb,?_,c,hbl,?_,?_⟩)
            · rw [if_neg hxc,Option.map_some,zdV,hse];simp
            · rw [Nat.add_sub_cancel' (by omega)];exact hcs
            · rw [hg];simp only;exact ⟨trivial,by omega⟩
    | sub n off len e' =>
      simp only at h
      replace h:=zI h;obtain ⟨hse,h⟩:=h
      have hse:=yw hse
      rw [VRel] at hx
      obtain ⟨A,cap,rfl,hlc,hx⟩:=hx
      obtain ⟨x,y,hK,h1,h2,hrun,ha,hb'⟩:=y3 (P:=P) (sl:=true) (cap:=cap) hlo hhi hlc h
      refine ⟨_,_,hK,run _ _ _ _ _ hrun,?_⟩
      rw [VRel]
      refine ⟨_,cap - x,rfl,by omega,?_⟩
      rcases hx with ⟨hl,ho⟩ | ⟨hl,rfl,rfl⟩ | ⟨b,hb,rfl,c,hbl,hcs,hm⟩
      · exact .inl ⟨by omega,by omega⟩
      · refine .inr (.inl ⟨by omega,?_,by omega⟩)
        split <;> rfl
      · have hm':(match zp C.H n with
            | .arr t l=>e'=t.size∧off+x+(y - x)≤l.length
            | .cells cs=>(off+x+(y - x))*e'≤cs.length
            | _=>False):=by
          generalize zp C.H n=g at hm ⊢
          cases g with
          | arr t l=>exact ⟨hm.1,by have:=hm.2;omega⟩
          | cells cs=>exact Nat.le_trans (Nat.mul_le_mul_right _ (by omega)) hm
          | _=>exact hm
        by_cases hxc:cap=x
        · by_cases hx0:off+x=0
          · refine .inr (.inr ⟨b,hb,?_,c,hbl,?_,hm'⟩)
            · rw [if_pos hxc]
              have:x=0:=by omega
              subst this
              simp
            · rw [show off+x+(cap - x)=off+cap by omega];exact hcs
          · exact .inl ⟨by omega,hx0⟩
        · refine .inr (.inr ⟨b,hb,?_,c,hbl,?_,hm'⟩)
          · rw [if_neg hxc,Option.map_some,zdV,hse,Nat.add_mul]
          · rw [show off+x+(cap - x)=off+cap by omega];exact hcs
    | ro ty l =>
      simp only at h
      replace h:=zI h;obtain ⟨hse,h⟩:=h
      have hse:=yw hse
      rw [VRel,zJ] at hx
      obtain ⟨A,c,hv,hlc,hx⟩:=hx
      obtain rfl:v = .slice A l.length c:=by simpa using hv
      obtain ⟨x,y,hK,h1,h2,hrun,ha,hb'⟩:=y3 (P:=P) (sl:=true) (cap:=c) hlo hhi hlc h
      refine ⟨_,_,hK,run _ _ _ _ _ hrun,?_⟩
      rw [VRel,zJ]
      have hlen:=zNM l ha hb' h2 h1
      refine ⟨_,c - x,by rw [hlen],by omega,?_⟩
      rw [zzk l ha hb' h2]
      rcases hx with rfl | ⟨b,o,rfl,hb,hx⟩
      · exact .inl (by simp)
      · by_cases hxc:c=x
        · refine .inl (List.eq_nil_of_length_eq_zero ?_)
          simp;omega
        · refine .inr ⟨b,o+x*ty.size,by rw [if_neg hxc,Option.map_some,zdV,hse],hb,fun i z hz => ?_⟩
          rw [List.getElem?_take] at hz
          split at hz
          · rw [List.getElem?_drop] at hz
            obtain ⟨us,hd,hu⟩:=hx _ _ hz
            refine ⟨us,hd,fun j u hj => ?_⟩
            have:=hu j u hj
            rw [Nat.add_mul] at this
            rw [show o+x*ty.size+(i*ty.size+j)=o+(x*ty.size+i*ty.size+j) by omega]
            exact this
          · cases hz
    | nils =>
      simp only at h
      rw [VRel] at hx
      subst hx
      obtain ⟨x,y,hK,h1,h2,hrun,ha,hb'⟩:=y3 (P:=P) (sl:=true) (cap:=0) hlo hhi (Nat.le_refl _) h
      have hy:y=0:=by simpa using h2
      subst hy
      have hx0:x=0:=by omega
      subst hx0
      exact ⟨_,_,hK,run _ _ _ _ _ hrun,by rw [VRel];simp⟩
    | _=>cases h
  · rename_i len e hk
    rw [hk] at hkk
    simp only [Z3] at hkk
    subst hkk
    replace h:=zr h;obtain ⟨ei,hei,h⟩:=h
    obtain ⟨d',info',z',hj⟩:=hT _ ei hei
    have run : ∀(A:Addr) (a b:Nat),(∀W,(Instr.sliceBounds false len len vl vh none).run P W = .ok (a,b,len) W) →
        ∀W,(Instr.sliceAt t (.pointer (some A)) vl vh none).run P W = .ok (.slice (some (if len=a then A else A.add (a*ei.size))) (b - a) (len - a)) W:=by
      intro A a b hb W
      simp [Instr.sliceAt,run_underlying hi'.under,Instr.sureAddr,hb,hj.run_sizeOf]
    cases x with
    | ptr n off =>
      simp only at h
      rw [VRel] at hx
      obtain ⟨b,hb,rfl,hlv⟩:=hx
      rw [← hs] at h
      split at h
      · rename_i ty l hg
        replace h:=zI h;obtain ⟨hc,h⟩:=h
        simp only [Bool.and_eq_true] at hc
        obtain ⟨⟨ho,hl⟩,hse⟩:=hc
        have ho:=yw ho
        have hl:=yw hl
        have hse:=yw hse
        subst ho
        subst hl
        rcases zbv hh hg with ⟨hn,_⟩ | ⟨b',c,e,fr,hb',hw,hfr,hlc,hel⟩
        · rw [hn] at hb;cases hb
        · obtain rfl:b=b':=Option.some.inj (hb.symm.trans hb')
          obtain ⟨x,y,hK,h1,h2,hrun,ha,hb''⟩:=y3 (P:=P) (sl:=false) (cap:=l.length) hlo hhi (Nat.le_refl _) h
          refine ⟨_,_,hK,run _ _ _ hrun,?_⟩
          unfold zjC
          split
          · obtain rfl:=ha rfl
            obtain rfl:=hb'' rfl
            rw [VRel]
            refine ⟨ty,l,hg,.inr ⟨b,c,l.length,hb,blkOf_cells hw,Nat.le_refl _,hlc,?_⟩⟩
            simp [Addr.add]
          · rw [VRel]
            refine ⟨_,l.length - x,rfl,by omega,?_⟩
            by_cases hxc:l.length=x
            · by_cases hx0:x=0
              · refine .inr (.inr ⟨b,hb,?_,c,blkOf_cells hw,?_,?_⟩)
                · simp [hxc,hx0]
                · subst hx0;simpa using hlc
                · rw [hg];simp only;exact ⟨trivial,by omega⟩
              · exact .inl ⟨by omega,hx0⟩
            · refine .inr (.inr ⟨b,hb,?_,c,blkOf_cells hw,?_,?_⟩)
              · rw [if_neg hxc,zdV,hse];simp
              · rw [Nat.add_sub_cancel' (by omega)];exact hlc
              · rw [hg];simp only;exact ⟨trivial,by omega⟩
      · rename_i cs hg
        replace h:=zI h;obtain ⟨hc,h⟩:=h
        simp only [Bool.and_eq_true] at hc
        obtain ⟨ho,hl⟩:=hc
        have ho:=yw ho
        have hl:=yw hl
        subst ho
        obtain ⟨b',c,e,fr,hb',hw,hfr,hv,_⟩:=qH hh hg
        obtain rfl:b=b':=Option.some.inj (hb.symm.trans hb')
        have hcl:c.size=cs.length:=by have:=hv.length;simpa using this
        obtain ⟨x,y,hK,h1,h2,hrun,ha,hb''⟩:=y3 (P:=P) (sl:=false) (cap:=len) hlo hhi (Nat.le_refl _) h
        refine ⟨_,_,hK,run _ _ _ hrun,?_⟩
        rw [VRel]
        refine ⟨_,len - x,rfl,by omega,?_⟩
        have hm:(x+(len - x))*ei.size≤c.size:=by rw [Nat.add_sub_cancel' (by omega),hcl,hl];exact Nat.le_refl _
        have hm2:(x+(y - x))*ei.size≤cs.length:=by rw [hl];exact Nat.mul_le_mul_right _ (by omega)
        by_cases hxc:len=x
        · by_cases hx0:x=0
          · refine .inr (.inr ⟨b,hb,?_,c,blkOf_cells hw,hm,?_⟩)
            · simp [hxc,hx0]
            · rw [hg];exact hm2
          · exact .inl ⟨by omega,hx0⟩
        · refine .inr (.inr ⟨b,hb,?_,c,blkOf_cells hw,hm,?_⟩)
          · rw [if_neg hxc,zdV];simp
          · rw [hg];exact hm2
      · cases h
    | _=>cases h
  · cases h
theorem VRel.ptrs {x y:AV} {u v:Value} (hx:VRel C x u) (hy:VRel C y v) {b:Bool} (h:zGS x y=some b) (d t e:Nat) (ht:P.underlying t=some (.pointer e)) (w:World) :
    (Op.equalIn (d+1) t u v).run P w = .ok b w:=by
  unfold zGS at h
  split at h <;> first | (cases h;done) | skip
  all_goals
    obtain rfl:=Option.some.inj h
    simp only [VRel] at hx hy
  · subst hx;subst hy;simp [Op.equalIn,run_underlying ht]
  · subst hx;obtain ⟨b,_,rfl,_⟩:=hy;simp [Op.equalIn,run_underlying ht]
  · subst hy;obtain ⟨b,_,rfl,_⟩:=hx;simp [Op.equalIn,run_underlying ht]
  · subst hx;obtain ⟨b,_,_,_,_,rfl⟩:=hy;simp [Op.equalIn,run_underlying ht]
  · subst hy;obtain ⟨b,_,_,_,_,rfl⟩:=hx;simp [Op.equalIn,run_underlying ht]
  · subst hx;obtain ⟨b,_,_,_,_,_,rfl⟩:=hy;simp [Op.equalIn,run_underlying ht]
  · subst hy;obtain ⟨b,_,_,_,_,_,rfl⟩:=hx;simp [Op.equalIn,run_underlying ht]
theorem VRel.maps {x y:AV} {u v:Value} (hx:VRel C x u) (hy:VRel C y v) {b:Bool} (h:zGX x y=some b) (d t k e:Nat) (ht:P.underlying t=some (.map k e)) (w:World) :
    (Op.equalIn (d+1) t u v).run P w = .ok b w:=by
  unfold zGX at h
  split at h <;> first | (cases h;done) | skip
  all_goals
    obtain rfl:=Option.some.inj h
    simp only [VRel] at hx hy
  · subst hx;subst hy;simp [Op.equalIn,run_underlying ht]
  · subst hx;obtain ⟨b,_,rfl,_⟩:=hy;simp [Op.equalIn,run_underlying ht]
  · subst hy;obtain ⟨b,_,rfl,_⟩:=hx;simp [Op.equalIn,run_underlying ht]
theorem ziO (s:List UInt8):(⟨s.toArray⟩:ByteArray).toList=s:=by rw [ByteArray.toList_eq]
theorem zdJ (s:List UInt8):(⟨s.toArray⟩:ByteArray).size=s.length:=by simp [ByteArray.size]
theorem VRel.scs {zero:List AV} {dd:TypeDesc} {x y:AV} {u v:Value} (hx:VRel C x u) (hy:VRel C y v) {b:Bool} (h:zTb zero x y=some b) (hk:yu zero dd=true) (d t:Nat)
    (ht:P.underlying t=some dd) (w:World):(Op.equalIn (d+1) t u v).run P w = .ok b w:=by
  unfold zTb at h
  split at h <;> first | (cases h;done) | skip
  · obtain rfl:=Option.some.inj h
    simp only [VRel] at hx hy
    subst hx;subst hy
    cases dd <;> simp_all [yu]
    simp [Op.equalIn,run_underlying ht]
  · split at h
    · rename_i hkk _
      obtain rfl:=Option.some.inj h
      simp only [VRel] at hx hy
      subst hx;subst hy
      cases dd <;> simp_all [yu]
      simp [Op.equalIn,run_underlying ht]
    · cases h
  · obtain rfl:=Option.some.inj h
    simp only [VRel] at hx hy
    subst hx;subst hy
    cases dd <;> simp_all [yu]
    rw [run_equalIn_string w d t _ _ ht,ziO,ziO]
  · obtain rfl:=Option.some.inj h
    simp only [VRel] at hx hy
    subst hx;subst hy
    cases dd <;> simp_all [yu]
    simp [Op.equalIn,run_underlying ht]
  · obtain rfl:=Option.some.inj h
    simp only [VRel] at hx hy
    subst hx;obtain ⟨_,_,rfl,_⟩:=hy
    cases dd <;> simp_all [yu]
    simp [Op.equalIn,run_underlying ht]
  · obtain rfl:=Option.some.inj h
    simp only [VRel] at hx hy
    subst hy;obtain ⟨_,_,rfl,_⟩:=hx
    cases dd <;> simp_all [yu]
    simp [Op.equalIn,run_underlying ht]
  · obtain rfl:=Option.some.inj h
    simp only [VRel] at hx hy
    subst hx;obtain ⟨_,rfl,_⟩:=hy
    cases dd <;> simp_all [yu]
    simp [Op.equalIn,run_underlying ht]
  · obtain rfl:=Option.some.inj h
    simp only [VRel] at hx hy
    subst hy;obtain ⟨_,rfl,_⟩:=hx
    cases dd <;> simp_all [yu]
    simp [Op.equalIn,run_underlying ht]
end Go.AE
namespace Go.AE
variable {P:Program} {T:Tab} {C:Cx}
theorem zKc [BT] {t:Nat} {i:TI} {d:TypeDesc} {info:TypeInfo} {z:Value} (hi:y7 P t i d info z):P.cellsOf t=i.size:=by
  simp [Program.cellsOf,hi.inf,hi.size]
mutual
theorem zlo [BT] (hT:zN P T) (w:World) : ∀{d:Nat} {t:Nat} {x y:AV} {u v:Value} {b:Bool},eqV T d t x y=some b→VRel C x u→VRel C y v → ∀D,d≤D →
    (Op.equalIn D t u v).run P w = .ok b w
  | 0,_,_,_,_,_,_,h,_,_,_,_=>by rw [eqV] at h;cases h
  | d+1,t,x,y,u,v,b,h,hx,hy,D,hD=>by
    obtain ⟨D,rfl⟩ : ∃m,D=m+1:=⟨D - 1,by omega⟩
    unfold eqV at h
    split at h
    · cases h
    · rename_i i hti
      obtain ⟨dd,info,z,hi⟩:=hT t i hti
      have hk:=hi.kind
      split at h
      · rename_i hkk
        rw [hkk] at hk
        exact VRel.scs hx hy h hk D t hi.under w
      · rename_i e hkk
        rw [hkk] at hk
        obtain ⟨rfl,_⟩:=hk
        exact VRel.ptrs hx hy h D t e hi.under w
      · rename_i k e hkk
        rw [hkk] at hk
        obtain ⟨rfl,_⟩:=hk
        exact VRel.maps hx hy h D t k e hi.under w
      · rename_i e hkk
        rw [hkk] at hk
        obtain ⟨rfl,_⟩:=hk
        unfold zx9 at h
        split at h
        · obtain rfl:=Option.some.inj h
          simp only [VRel] at hx hy
          subst hx;subst hy
          simp [Op.equalIn,run_underlying hi.under]
        · cases h
      · rename_i fs hkk
        split at h
        · rename_i hno
          split at h
          · rename_i xs ys
            rw [VRel] at hx hy
            obtain ⟨us,rfl,hus⟩:=hx
            obtain ⟨vs,rfl,hvs⟩:=hy
            rw [hkk] at hk
            obtain ⟨fields,rfl,hm,hn⟩:=hk
            have hag:i.isAgg=true:=by simp [TI.isAgg,hkk]
            have hf:P.fieldsOf t=fields:=by simp [Program.fieldsOf,hi.under]
            rw [run_equalIn_struct w D t us vs (by rw [hf];exact hi.under) (hi.stood hag hno).1,hf]
            rw [← hm] at h
            exact zuY hT w h hus hvs hn D (by omega)
          · cases h
        · cases h
      · rename_i n e hkk
        split at h
        · split at h
          · rename_i xs ys
            rw [VRel] at hx hy
            obtain ⟨us,rfl,hus⟩:=hx
            obtain ⟨vs,rfl,hvs⟩:=hy
            rw [hkk] at hk
            simp only [Z3] at hk
            subst hk
            split at h
            · rename_i j hej
              obtain ⟨d',info',z',hj⟩:=hT e j hej
              rw [run_equalIn_array w D us vs hi.under hj.inf,zKc hj]
              exact zwE hT w h hus hvs D (by omega)
            · cases h
          · cases h
        · cases h
theorem zuY [BT] (hT:zN P T) (w:World) : ∀{d:Nat} {fields:List Field} {xs ys:List AV} {us vs:Array Value} {b:Bool},
    zAc T d (fields.map fun f=>(f.type,f.offset)) xs ys=some b→VRels C xs us.toList→VRels C ys vs.toList→fields.all (fun f=>f.name != "_")=true → ∀D,d≤D →
    (Op.eqFields D us vs fields).run P w = .ok b w
  | 0,_,_,_,_,_,_,h,_,_,_,_,_=>by rw [zAc] at h;cases h
  | _+1,[],_,_,_,_,_,h,_,_,_,_,_=>by
    rw [List.map_nil,zAc] at h
    obtain rfl:=Option.some.inj h
    simp [Op.eqFields]
  | d+1,f::r,xs,ys,us,vs,b,h,hx,hy,hn,D,hD=>by
    rw [List.map_cons,zAc] at h
    simp only [List.all_cons,Bool.and_eq_true] at hn
    have hname:f.name ≠ "_" := by simpa using hn.1
    split at h
    · rename_i p q hp hq
      obtain ⟨u,hu,hru⟩:=wq hT hx hp
      obtain ⟨v,hv,hrv⟩:=wq hT hy hq
      split at h
      · rename_i b1 hb1
        have he:=zlo hT w hb1 hru hrv D (by omega)
        split at h
        · rename_i b2 hb2
          obtain rfl:=Option.some.inj h
          have hr:=zuY hT w hb2 hx hy hn.2 D (by omega)
          simp only [Op.eqFields,ne_eq,hname,not_false_eq_true,if_true,Sem.run_bind,hu,hv,he,Result.andThen_ok]
          cases b1 <;> simp [hr]
        · cases h
      · cases h
    · cases h
theorem zwE [BT] (hT:zN P T) (w:World) : ∀{d:Nat} {is:List Nat} {e sz:Nat} {xs ys:List AV} {us vs:Array Value} {b:Bool},
    zyw T d is e sz xs ys=some b→VRels C xs us.toList→VRels C ys vs.toList → ∀D,d≤D →
    (Op.eqItems D e sz us vs is).run P w = .ok b w
  | 0,_,_,_,_,_,_,_,_,h,_,_,_,_=>by rw [zyw] at h;cases h
  | _+1,[],_,_,_,_,_,_,_,h,_,_,_,_=>by
    rw [zyw] at h
    obtain rfl:=Option.some.inj h
    simp [Op.eqItems]
  | d+1,n::r,e,sz,xs,ys,us,vs,b,h,hx,hy,D,hD=>by
    rw [zyw] at h
    split at h
    · rename_i p q hp hq
      obtain ⟨u,hu,hru⟩:=wq hT hx hp
      obtain ⟨v,hv,hrv⟩:=wq hT hy hq
      split at h
      · rename_i b1 hb1
        have he:=zlo hT w hb1 hru hrv D (by omega)
        split at h
        · rename_i b2 hb2
          obtain rfl:=Option.some.inj h
          have hr:=zwE hT w hb2 hx hy D (by omega)
          simp only [Op.eqItems,Sem.run_bind,hu,hv,he,Result.andThen_ok]
          cases b1 <;> simp [hr]
        · cases h
      · cases h
    · cases h
end
theorem zJE {op:BinOp} {k:IntKind} {a b:Int} {K:AV→Ans} {res:AV×List Obj} (hns:zbK op=false) (h:zcs op k a b K=some res) (t:Nat) :
    ∃r u,K r=some res∧(∀w,(Go.binOp op t (.int k a) (.int k b)).run P w = .ok u w)∧VRel C r u:=by
  cases op <;> simp only [zcs,zbK,Bool.true_eq_false] at h hns
  case quo =>
    replace h:=Qt h;obtain ⟨hb,h⟩:=h
    have hb:b≠0:=by simpa using hb
    exact ⟨_,_,h,fun w=>by simp [Go.binOp,Op.intDiv,hb];rfl,by rw [VRel]⟩
  case rem =>
    replace h:=Qt h;obtain ⟨hb,h⟩:=h
    have hb:b≠0:=by simpa using hb
    exact ⟨_,_,h,fun w=>by simp [Go.binOp,Op.intDiv,hb];rfl,by rw [VRel]⟩
  all_goals exact ⟨_,_,h,fun w=>by simp [Go.binOp,Op.intArith,Op.intBits,Op.intCmp] <;> rfl,by rw [VRel]⟩
theorem zCB {op:BinOp} {k k':IntKind} {a b:Int} {K:AV→Ans} {res:AV×List Obj} (hs:zbK op=true) (h:zrT op k a b K=some res) (t:Nat) :
    ∃r u,K r=some res∧(∀w,(Go.binOp op t (.int k a) (.int k' b)).run P w = .ok u w)∧VRel C r u:=by
  unfold zrT at h
  replace h:=Qt h;obtain ⟨hb,h⟩:=h
  have hb : ¬b<0:=by simpa using hb
  cases op <;> first | (cases hs;done) | skip
  all_goals exact ⟨_,_,h,fun w=>by simp [Go.binOp,Op.shift,hb];rfl,by rw [VRel]⟩
theorem zHG {op:BinOp} {a b:List UInt8} {K:AV→Ans} {res:AV×List Obj} (h:zM4 op a b K=some res) (t:Nat) :
    ∃r u,K r=some res∧(∀w,(Go.binOp op t (.string ⟨a.toArray⟩) (.string ⟨b.toArray⟩)).run P w = .ok u w)∧VRel C r u:=by
  cases op <;> simp only [zM4] at h <;> first | (cases h;done) | skip
  case add =>
    replace h:=zI h;obtain ⟨hl,h⟩:=h
    have hl:=Nat.le_of_ble_eq_true hl
    refine ⟨_,.string ⟨(a++b).toArray⟩,h,?_,by rw [VRel]⟩
    have hn : ¬(((⟨a.toArray⟩:ByteArray).size+(⟨b.toArray⟩:ByteArray).size:Nat):Int)>IntKind.i64.max:=by
      rw [zdJ,zdJ]
      simp [IntKind.max,IntKind.signed,IntKind.bits]
      omega
    have happ:(⟨a.toArray⟩:ByteArray)++⟨b.toArray⟩=⟨(a++b).toArray⟩:=by apply ByteArray.ext;simp
    intro w
    simp only [Go.binOp,Op.stringOp,if_neg hn,happ]
    simp
  all_goals exact ⟨_,_,h,fun w=>by simp only [Go.binOp,Op.stringOp,ziO];rfl,by rw [VRel]⟩
theorem zqU [BT] (hT:zN P T) {op:BinOp} {t:Nat} {x y:AV} {u v:Value} (hx:VRel C x u) (hy:VRel C y v) {K:AV→Ans} {res:AV×List Obj}
    (h:binOp T op t x y K=some res) (ox oy:Operand) :
    ∃r z,K r=some res∧(∀w,(do eqGuard op t ox oy u v;Go.binOp op t u v:Sem Value).run P w = .ok z w)∧VRel C r z:=by
  unfold binOp at h
  split at h
  · rename_i k a k' b
    rw [VRel] at hx hy
    subst hx;subst hy
    have hg : ∀w,(eqGuard op t ox oy (.int k a) (.int k' b)).run P w = .ok () w:=by intro w;cases op <;> simp [eqGuard]
    cases hs:zbK op with
    | true =>
      rw [hs] at h
      obtain ⟨r,z,hK,hr,hv⟩:=zCB (C:=C) (k':=k') hs h t
      exact ⟨r,z,hK,fun w=>by rw [Sem.run_bind,hg];exact hr w,hv⟩
    | false =>
      rw [hs] at h
      simp only [cond_false] at h
      split at h
      · rename_i hk _
        subst hk
        obtain ⟨r,z,hK,hr,hv⟩:=zJE (C:=C) hs h t
        exact ⟨r,z,hK,fun w=>by rw [Sem.run_bind,hg];exact hr w,hv⟩
      · cases h
  · rename_i a b
    rw [VRel] at hx hy
    subst hx;subst hy
    have hg : ∀w,(eqGuard op t ox oy (.string ⟨a.toArray⟩) (.string ⟨b.toArray⟩)).run P w = .ok () w:=by intro w;cases op <;> simp [eqGuard]
    obtain ⟨r,z,hK,hr,hv⟩:=zHG (C:=C) h t
    exact ⟨r,z,hK,fun w=>by rw [Sem.run_bind,hg];exact hr w,hv⟩
  · rename_i hni hns
    have main : ∀b,eqV T 40 t x y=some b → ∀w,((eqGuard .eql t ox oy u v).run P w = .ok () w∧(eqGuard .neq t ox oy u v).run P w = .ok () w)∧(Go.binOp .eql t u v).run P w = .ok (.bool b) w∧(Go.binOp .neq t u v).run P w = .ok (.bool (!b)) w:=by
      intro b hb w
      have hq:(Op.equal t u v).run P w = .ok b w:=zlo hT w hb hx hy 10000 (by omega)
      have hcases:(∃p q,x = .bool p∧y = .bool q)∨(∃p q,x = .agg p∧y = .agg q∧P.eqGuardType P.depth t=false) ∨
          ((u = .pointer none∨(∃a,u = .pointer a)∨u = .slice none 0 0∨(∃r,u = .map r)∨u = .nilFunc∨(∃f a b,u = .func f a b)∨(∃a b,u = .iface a b)) ∨
           (u = .nilIface ∧ ∃a b,v = .iface a b)):=by
        unfold eqV at hb
        split at hb
        · cases hb
        · rename_i i hti
          obtain ⟨dd,info,z,hi⟩:=hT t i hti
          split at hb
          · unfold zTb at hb
            split at hb <;> first | (cases hb;done) | skip
            · exact .inl ⟨_,_,rfl,rfl⟩
            · exact absurd rfl (hni _ _ _ _ rfl)
            · exact absurd rfl (hns _ _ rfl)
            · rw [VRel] at hx;exact .inr (.inr (.inl (by simp [hx])))
            · rw [VRel] at hx;exact .inr (.inr (.inl (by simp [hx])))
            · rw [VRel] at hx;obtain ⟨a,b,rfl,_⟩:=hx;exact .inr (.inr (.inl (by simp)))
            · simp only [VRel] at hx hy;obtain ⟨a,rfl,_⟩:=hy;exact .inr (.inr (.inr ⟨hx,_,_,rfl⟩))
            · simp only [VRel] at hx;obtain ⟨a,rfl,_⟩:=hx;exact .inr (.inr (.inl (by simp)))
          · unfold zGS at hb
            split at hb <;> first | (cases hb;done) | skip
            all_goals (simp only [VRel] at hx;refine .inr (.inr (.inl ?_)))
            · simp [hx]
            · simp [hx]
            · obtain ⟨_,_,rfl,_⟩:=hx;simp
            · simp [hx]
            · obtain ⟨_,_,_,_,_,rfl⟩:=hx;simp
            · simp [hx]
            · obtain ⟨_,_,_,_,_,_,rfl⟩:=hx;simp
          · unfold zGX at hb
            split at hb <;> first | (cases hb;done) | skip
            all_goals (simp only [VRel] at hx;refine .inr (.inr (.inl ?_)))
            · simp [hx]
            · simp [hx]
            · obtain ⟨_,_,rfl,_⟩:=hx;simp
          · unfold zx9 at hb
            split at hb <;> first | (cases hb;done) | skip
            rw [VRel] at hx;exact .inr (.inr (.inl (by simp [hx])))
          · rename_i fs hkk
            split at hb
            · rename_i hno
              split at hb
              · exact .inr (.inl ⟨_,_,rfl,rfl,(hi.stood (by simp [TI.isAgg,hkk]) hno).2⟩)
              · cases hb
            · cases hb
          · rename_i n e hkk
            split at hb
            · rename_i hno
              split at hb
              · exact .inr (.inl ⟨_,_,rfl,rfl,(hi.stood (by simp [TI.isAgg,hkk]) hno).2⟩)
              · cases hb
            · cases hb
      rcases hcases with ⟨p,q,rfl,rfl⟩ | ⟨p,q,rfl,rfl,hgt⟩ | (hu | ⟨rfl,a,b',rfl⟩)
      · rw [VRel] at hx hy
        subst hx;subst hy
        exact ⟨by simp [eqGuard],by simp [Go.binOp,hq]⟩
      · rw [VRel] at hx hy
        obtain ⟨us,rfl,_⟩:=hx
        obtain ⟨vs,rfl,_⟩:=hy
        exact ⟨⟨run_eqGuard_agg w .eql t ox oy us vs hgt,run_eqGuard_agg w .neq t ox oy us vs hgt⟩,by simp [Go.binOp,hq]⟩
      · rcases hu with rfl | ⟨a,rfl⟩ | rfl | ⟨r,rfl⟩ | rfl | ⟨f,a,b',rfl⟩ | ⟨a,b',rfl⟩
        all_goals exact ⟨by simp [eqGuard],by cases v <;> simp [Go.binOp,hq]⟩
      · exact ⟨by simp [eqGuard],by simp [Go.binOp,hq]⟩
    split at h
    · replace h:=zr h;obtain ⟨b,hb,h⟩:=h
      exact ⟨_,.bool b,h,fun w=>by rw [Sem.run_bind,(main b hb w).1.1];exact (main b hb w).2.1,by rw [VRel]⟩
    · replace h:=zr h;obtain ⟨b,hb,h⟩:=h
      exact ⟨_,.bool (!b),h,fun w=>by rw [Sem.run_bind,(main b hb w).1.2];exact (main b hb w).2.2,by rw [VRel]⟩
    · cases h
theorem zIs [BT] (hT:zN P T) {op:BinOp} {t:Nat} {x y:AV} {u v:Value} (hx:VRel C x u) (hy:VRel C y v) {K:AV→Ans} {res:AV×List Obj}
    (ox oy:Operand) (h:zdU T op t (isConst ox || isConst oy) x y K=some res) :
    ∃r z,K r=some res∧(∀w,(do eqGuard op t ox oy u v;Go.binOp op t u v:Sem Value).run P w = .ok z w)∧VRel C r z:=by
  unfold zdU at h
  split at h
  · split at h
    · replace h:=zI h;obtain ⟨hc,h⟩:=h
      replace h:=zr h;obtain ⟨i,hti,h⟩:=h
      obtain ⟨dd,info,z,hi⟩:=hT t i hti
      rw [VRel] at hx hy
      subst hx;subst hy
      split at h
      · rename_i hk
        split at h
        · rename_i hz
          have hkind:=hi.kind
          rw [hk,hz] at hkind
          have hd : ∃ms,dd = .interface ms:=by
            unfold Z3 at hkind
            cases dd <;> simp_all [yu]
          obtain ⟨ms,rfl⟩:=hd
          have hq0 : ∀d w,(Op.equalIn (d+1) t .nilIface .nilIface).run P w = .ok true w:=fun d w=>by
            simp [Op.equalIn,run_underlying hi.under]
          have hq : ∀w,(Op.equal t .nilIface .nilIface).run P w = .ok true w:=fun w=>hq0 9999 w
          have hg : ∀o w,(eqGuard o t ox oy .nilIface .nilIface).run P w = .ok () w:=by
            intro o w
            cases ox <;> cases oy <;> simp [isConst] at hc <;> cases o <;> simp [eqGuard]
          split at h
          · exact ⟨_,.bool true,h,fun w=>by rw [Sem.run_bind,hg];simp [Go.binOp,hq],by rw [VRel]⟩
          · exact ⟨_,.bool false,h,fun w=>by rw [Sem.run_bind,hg];simp [Go.binOp,hq],by rw [VRel]⟩
          · cases h
        · cases h
      · cases h
    · exact zqU hT (by rw [VRel];rw [VRel] at hx;exact hx) hy h ox oy
  · exact zqU hT hx hy h ox oy
end Go.AE
namespace Go.AE
variable {P:Program} {T:Tab} {C:Cx}
theorem qS {cs new r:List AV} {vs us:List Value} {off:Nat} (h:y9 cs off new=some r) (hv:VRels C cs vs) (hu:VRels C new us) :
    VRels C r (vs.take off++us++vs.drop (off+us.length))∧off+us.length≤vs.length∧r.length=cs.length:=by
  unfold y9 at h
  split at h
  · cases h
  · rename_i a ha
    split at h
    · cases h
    · rename_i b hb
      cases h
      obtain ⟨rfl,h1⟩:=zix ha
      obtain ⟨_,h2⟩:=zix hb
      have hl:=hv.length
      have hul:=hu.length
      simp only [List.length_drop] at h2
      refine ⟨?_,by omega,?_⟩
      · have:=VRels.append (VRels.append (hv.take off) hu) ((hv.drop off).drop us.length)
        rw [← hul]
        simp only [List.drop_drop] at this ⊢
        exact this
      · simp;omega
theorem zCX (off:Nat) : ∀(l:List Value) (k:Nat) (cs:Array Value),off+k+l.length≤cs.size →
    ((l.zipIdx k).foldl (fun cs (x:Value×Nat)=>cs.setIfInBounds (off+x.2) x.1) cs).toList=cs.toList.take (off+k)++l++cs.toList.drop (off+k+l.length)
  | [],k,cs,h=>by simp
  | v::l,k,cs,h=>by
    rw [List.zipIdx_cons,List.foldl_cons,zCX off l (k+1) _ (by simp at h ⊢;omega)]
    simp only [Array.toList_setIfInBounds,List.length_cons] at h ⊢
    have hlt:off+k<cs.toList.length:=by simp;omega
    rw [List.take_set,List.drop_set_of_lt (by omega)]
    rw [show off+(k+1)=off+k+1 by omega,List.take_succ_eq_append_getElem hlt]
    rw [show off+k+1+l.length=off+k+(l.length+1) by omega]
    rw [List.set_append_right _ _ (by simp;omega)]
    have hm:off+k - (List.take (off+k) cs.toList).length=0:=by simp;omega
    rw [hm]
    simp
theorem zfW {a:AV} {v:Value} (h:VRel C a v) (hok:Jn a.cellsOf=true):VRels C a.cellsOf v.cells.toList ∧ ∀u ∈ v.cells.toList,u.oneCell'=true:=by
  have one : ∀{a:AV} {v:Value},VRel C a v→a.cellOk=true→v.oneCell'=true:=by
    intro a v h hk
    cases a <;> simp only [VRel,AV.cellOk] at h hk <;> first
      | (cases hk;done)
      | (subst h;rfl)
      | (rename_i i;obtain ⟨t,l,_,h⟩:=h;rcases h with ⟨_,_,h⟩ | ⟨_,_,_,_,_,_,_,h⟩ <;> (rw [h];rfl))
      | (obtain ⟨b,_,rfl,_⟩:=h;rfl)
      | (obtain ⟨b,t,l,_,_,rfl⟩:=h;rfl)
      | (obtain ⟨b,o,us,_,_,_,rfl⟩:=h;rfl)
      | (obtain ⟨A,cap,rfl,_⟩:=h;rfl)
      | (obtain ⟨A,cap,rfl,_,_⟩:=h;rfl)
      | (obtain ⟨a',b',rfl,_,_⟩:=h;rfl)
      | (obtain ⟨y,rfl,_⟩:=h;rfl)
      | (rw [zJ] at h;obtain ⟨A,c,hv,_⟩:=h;simp at hv;subst hv;rfl)
  have ones : ∀{l:List AV} {vs:List Value},VRels C l vs→Jn l=true → ∀u ∈ vs,u.oneCell'=true:=by
    intro l
    induction l with
    | nil=>intro vs h _ u hu;rw [VRels] at h;subst h;cases hu
    | cons x r ih =>
      intro vs h hk u hu
      rw [VRels] at h
      obtain ⟨v,vs',rfl,hv,hr⟩:=h
      simp only [Jn,Bool.and_eq_true] at hk
      cases hu with
      | head=>exact one hv hk.1
      | tail _ hm=>exact ih hr hk.2 u hm
  by_cases hagg : ∃cs,a = .agg cs
  · obtain ⟨cs,rfl⟩:=hagg
    rw [VRel] at h
    obtain ⟨vs,rfl,hv⟩:=h
    exact ⟨hv,ones hv hok⟩
  · have hc:a.cellsOf=[a]:=by cases a <;> first | rfl | exact absurd ⟨_,rfl⟩ hagg
    rw [hc] at hok ⊢
    simp only [Jn,Bool.and_true] at hok
    have h1:=one h hok
    have hvc:v.cells = #[v]:=by cases v <;> first | rfl | simp [Value.oneCell'] at h1
    rw [hvc]
    exact ⟨by rw [VRels];exact ⟨v,[],rfl,h,by rw [VRels]⟩,by simpa using h1⟩
theorem zcT {place:Nat→Option (Nat×Nat)} {place':Nat→Option (Nat×Nat)} (hp : ∀n p,place n=some p→place' n=some p) : ∀{parts:List (Nat×AV)} {parts':List (Nat×Value)} {cs r:List AV} {c:Array Value},
    Y7 place cs parts=some r→VRels C cs c.toList→(∀u ∈ c.toList,u.oneCell'=true)→parts.map (·.1)=parts'.map (·.1)→VRels C (parts.map (·.2)) (parts'.map (·.2)) →
    ∃c',Instr.fill place' c parts'=some c'∧VRels C r c'.toList∧(∀u ∈ c'.toList,u.oneCell'=true)∧c'.size=c.size
  | [],parts',cs,r,c,h,hv,h1,hn,_=>by
    cases parts' with
    | cons=>simp at hn
    | nil =>
      rw [Y7] at h
      cases h
      exact ⟨c,rfl,hv,h1,rfl⟩
  | (n,a)::ps,parts',cs,r,c,h,hv,h1,hn,hr=>by
    cases parts' with
    | nil=>simp at hn
    | cons q ps' =>
    obtain ⟨n',v⟩:=q
    simp only [List.map_cons,List.cons.injEq] at hn
    obtain ⟨rfl,hn⟩:=hn
    simp only [List.map_cons] at hr
    rw [VRels] at hr
    obtain ⟨v',vs',he,hav,hr⟩:=hr
    simp only [List.cons.injEq] at he
    obtain ⟨rfl,rfl⟩:=he
    rw [Y7] at h
    split at h
    · cases h
    · rename_i off size hpl
      cases hc:(Nat.beq a.cellsOf.length size&&Jn a.cellsOf) with
      | false=>rw [hc] at h;cases h
      | true =>
        rw [hc] at h
        simp only [cond_true] at h
        simp only [Bool.and_eq_true] at hc
        have hsz:=yw hc.1
        obtain ⟨hcv,hco⟩:=zfW hav hc.2
        split at h
        · rename_i cs' hcs'
          obtain ⟨p1,p2,p3⟩:=qS hcs' hv hcv
          have hvl:=hcv.length
          simp only [Array.length_toList] at hvl p2
          have hfold:(v.cells.zipIdx.foldl (fun cs (x:Value×Nat)=>cs.setIfInBounds (off+x.2) x.1) c).toList=c.toList.take off++v.cells.toList++c.toList.drop (off+v.cells.size):=by
            rw [← Array.foldl_toList,Array.toList_zipIdx]
            have:=zCX off v.cells.toList 0 c (by simp;omega)
            simpa using this
          have hok' : ∀u ∈ (v.cells.zipIdx.foldl (fun cs (x:Value×Nat)=>cs.setIfInBounds (off+x.2) x.1) c).toList,u.oneCell'=true:=by
            rw [hfold]
            intro u hu
            simp only [List.mem_append] at hu
            rcases hu with (hu | hu) | hu
            · exact h1 u (List.mem_of_mem_take hu)
            · exact hco u hu
            · exact h1 u (List.mem_of_mem_drop hu)
          obtain ⟨c',hf,hrel,hone,hsize⟩:=zcT hp h (c:=v.cells.zipIdx.foldl (fun cs (x:Value×Nat)=>cs.setIfInBounds (off+x.2) x.1) c) (by rw [hfold];simpa using p1) hok' hn hr
          refine ⟨c',?_,hrel,hone,?_⟩
          · have e1 : ¬(v.cells.size≠size || off+v.cells.size>c.size)=true:=by
              simp
              omega
            rw [Instr.fill,hp _ _ hpl]
            simp only
            rw [if_neg e1]
            exact hf
          · rw [hsize,← Array.length_toList,hfold]
            simp
            omega
        · cases h
theorem ziX {env:zT} {a:Act} (h:Zq C env a.tmps) (l:List (Nat×Operand)) :
    (l.map fun (j,x)=>(j,opd env x)).map (·.1)=(l.map fun (j,x)=>(j,a.eval x)).map (·.1)∧VRels C ((l.map fun (j,x)=>(j,opd env x)).map (·.2)) ((l.map fun (j,x)=>(j,a.eval x)).map (·.2)):=by
  induction l with
  | nil=>simp [VRels]
  | cons p r ih =>
    obtain ⟨j,x⟩:=p
    simp only [List.map_cons,List.map_map] at ih ⊢
    exact ⟨by rw [ih.1],by rw [VRels];exact ⟨_,_,rfl,zR h x,ih.2⟩⟩
theorem zbz (l:List AV) (h:l.all AV.isZero=true):VRels C l (l.map zbW):=by
  induction l with
  | nil=>simp [VRels]
  | cons x r ih =>
    simp only [List.all_cons,Bool.and_eq_true] at h
    rw [List.map_cons,VRels]
    refine ⟨_,_,rfl,?_,ih h.2⟩
    cases x <;> simp_all [AV.isZero,VRel,zbW]
theorem zrd (l:List AV) (h:l.all AV.isZero=true) : ∀u ∈ l.map zbW,u.oneCell'=true:=by
  intro u hu
  obtain ⟨x,hx,rfl⟩:=List.mem_map.1 hu
  have:=List.all_eq_true.1 h x hx
  cases x <;> simp_all [AV.isZero,zbW,Value.oneCell']
theorem zqH [BT] (hT:zN P T) {t:Nat} {i:TI} (hti:Tab.get T t=some i) (hok:zpH T i=true) {z0:List AV} {z:Value} (hz : ∀W,(zeroValue t).run P W = .ok z W)
    (hz0:VRels C z0 z.cells.toList) (hz1 : ∀u ∈ z.cells.toList,u.oneCell'=true)
    {parts:List (Nat×AV)} {parts':Array (Nat×Value)} (hn:parts.map (·.1)=parts'.toList.map (·.1)) (hv:VRels C (parts.map (·.2)) (parts'.toList.map (·.2))) {cs:List AV}
    (h:Y7 (zbI T i) z0 parts=some cs) : ∃u,(∀W,(Instr.build t parts').run P W = .ok u W)∧VRel C (.agg cs) u:=by
  obtain ⟨d,info,z',hi⟩:=hT t i hti
  have hk:=hi.kind
  unfold zpH at hok
  split at hok
  · rename_i fs hkk
    rw [hkk] at hk
    obtain ⟨fields,rfl,hm,_⟩:=hk
    have hsz : ∀f ∈ fields.toList,∃j,Tab.get T f.type=some j:=by
      intro f hf
      have:(f.type,f.offset) ∈ fs:=by rw [← hm];exact List.mem_map.2 ⟨f,hf,rfl⟩
      have:=List.all_eq_true.1 hok _ this
      exact Option.isSome_iff_exists.1 this
    have hmap : ∀(l:List Field),(∀f:Field,f ∈ l → ∃j,Tab.get T f.type=some j) → ∃ps:List (Nat×Nat),(∀W,(l.mapM fun (f:Field)=>(do pure (f.offset,← sizeOf f.type):Sem (Nat×Nat))).run P W = .ok ps W) ∧
        ∀(n:Nat) (f:Field) (j:TI),l[n]? = some f→Tab.get T f.type=some j→ps[n]? = some (f.offset,j.size):=by
      intro l
      induction l with
      | nil=>intro _;exact ⟨[],by simp,by simp⟩
      | cons f r ih =>
        intro hl
        obtain ⟨ps,hr,hps⟩:=ih fun g hg=>hl g (List.mem_cons_of_mem _ hg)
        obtain ⟨j,hj⟩:=hl f (List.mem_cons_self ..)
        obtain ⟨d',info',z'',hj'⟩:=hT _ j hj
        refine ⟨(f.offset,j.size)::ps,fun W=>by rw [List.mapM_cons];simp only [Sem.run_bind,hj'.run_sizeOf,Result.andThen_ok,Sem.run_pure,hr],?_⟩
        intro n g k hg hk
        cases n with
        | zero=>simp at hg;subst hg;rw [hj] at hk;cases hk;rfl
        | succ n=>simpa using hps n g k (by simpa using hg) hk
    obtain ⟨ps,hps,hpl⟩:=hmap fields.toList hsz
    have hmA : ∀W,(fields.mapM fun (f:Field)=>(do pure (f.offset,← sizeOf f.type):Sem (Nat×Nat))).run P W = .ok ps.toArray W:=by
      intro W
      rw [Array.mapM_eq_mapM_toList]
      simp only [Sem.run_map,hps,Result.andThen_ok]
    have hplace : ∀n p,zbI T i n=some p→ps.toArray[n]? = some p:=by
      intro n p hp
      unfold zbI at hp
      rw [hkk] at hp
      simp only at hp
      split at hp
      · rename_i ft off hf
        split at hp
        · rename_i j hj
          cases hp
          rw [← hm,List.getElem?_map] at hf
          cases hg:fields.toList[n]? with
          | none=>rw [hg] at hf;cases hf
          | some f =>
            rw [hg] at hf
            simp at hf
            obtain ⟨rfl,rfl⟩:=hf
            simpa using hpl n f j hg hj
        · cases hp
      · cases hp
    obtain ⟨c',hf,hrel,_,_⟩:=zcT hplace h hz0 hz1 hn hv
    refine ⟨.agg c',?_,by rw [VRel];exact ⟨_,rfl,hrel⟩⟩
    intro W
    simp only [Instr.build,Sem.run_bind,hz,Result.andThen_ok,run_underlying hi.under,hmA,hf,Sem.run_pure]
  · rename_i n e hkk
    rw [hkk] at hk
    simp only [Z3] at hk
    subst hk
    -- of an array
    have hplace : ∀ej,Tab.get T e=some ej → ∀n p,zbI T i n=some p→(fun i=>some (i*ej.size,ej.size)) n=some p:=by
      intro ej hej n p hp
      unfold zbI at hp
      rw [hkk] at hp
      simp only [hej] at hp
      exact hp
    cases hej:Tab.get T e with
    | none=>rw [hej] at hok;cases hok
    | some ej =>
      obtain ⟨d',info',z'',hj⟩:=hT e ej hej
      obtain ⟨c',hf,hrel,_,_⟩:=zcT (hplace ej hej) h hz0 hz1 hn hv
      refine ⟨.agg c',?_,by rw [VRel];exact ⟨_,rfl,hrel⟩⟩
      intro W
      simp only [Instr.build,Sem.run_bind,hz,Result.andThen_ok,run_underlying hi.under,hj.run_sizeOf,hf,Sem.run_pure]
  · cases hok
end Go.AE
namespace Go.AE
variable {P:Program} {T:Tab} {C:Cx}
theorem zWn {op:UnOp} {x:AV} {u:Value} (hx:VRel C x u) {K:AV→Ans} {res:AV×List Obj} (h:unOp op x K=some res) :
    ∃r z,K r=some res∧(∀w,(Op.unary op u).run P w = .ok z w)∧VRel C r z:=by
  unfold unOp at h
  split at h
  · rw [VRel] at hx;subst hx
    exact ⟨_,_,h,fun w=>by simp [Op.unary,Op.intArith];rfl,by rw [VRel];simp⟩
  · rename_i k n
    rw [VRel] at hx;subst hx
    simp only [zcs] at h
    exact ⟨_,_,h,fun w=>by simp only [Op.unary,Op.intBits];simp;rfl,by rw [VRel]⟩
  · rw [VRel] at hx;subst hx
    exact ⟨_,_,h,fun w=>by simp [Op.unary];rfl,by rw [VRel]⟩
  · cases h
theorem zGi {x:AV} {u:Value} (hx:VRel C x u) {i:Nat} {K:AV→Ans} {res:AV×List Obj} (h:extract x i K=some res) :
    ∃r z,K r=some res∧(∀w,(Instr.extract u i).run P w = .ok z w)∧VRel C r z:=by
  unfold extract at h
  cases x with
  | tup vs =>
    simp only at h
    rw [VRel] at hx
    obtain ⟨us,rfl,hv⟩:=hx
    replace h:=zr h;obtain ⟨a,ha,h⟩:=h
    obtain ⟨v,hv1,hv2⟩:=hv.get ha
    have hv1:us[i]? = some v:=by simpa using hv1
    exact ⟨a,v,h,fun w=>by simp [Instr.extract,hv1],hv2⟩
  | _=>cases h
theorem zNu [BT] (hT:zN P T) {s:St} (hs:C.H=s.H) {t:Nat} {x:AV} {u:Value} (hx:VRel C x u) {K:AV→Ans} {res:AV×List Obj} (h:lenOf T t x s K=some res) (hh:zY C) (ts:Array TypeId)
    (ht0:ts[0]? = some t) (ty:TypeId) (args:Array Value) (ha0:args[0]? = some u) : ∃r z,K r=some res∧(∀W,(Builtin.len_ ts ty args).run P W = .ok z W)∧VRel C r z:=by
  unfold lenOf at h
  replace h:=zr h;obtain ⟨i,hti,h⟩:=h
  obtain ⟨d,info,z,hi⟩:=hT t i hti
  have hk:=hi.kind
  split at h
  · rename_i hkk
    replace h:=zI h;obtain ⟨hst,h⟩:=h
    have hd:=Y1 hi hkk hst
    subst hd
    cases x with
    | str a =>
      simp only at h
      rw [VRel] at hx;subst hx
      refine ⟨_,.int .i64 a.length,h,?_,by rw [VRel]⟩
      intro W
      simp [Builtin.len_,ht0,ha0,run_underlying hi.under,goInt,zdJ]
    | _=>cases h
  · rename_i e hkk
    rw [hkk] at hk
    obtain ⟨rfl,_⟩:=hk
    have run : ∀A n c,u = .slice A n c → ∀W,(Builtin.len_ ts ty args).run P W = .ok (.int .i64 n) W:=by
      intro A n c e W
      subst e
      simp [Builtin.len_,ht0,ha0,run_underlying hi.under,goInt]
    cases x with
    | nils =>
      simp only at h
      rw [VRel] at hx;subst hx
      exact ⟨_,_,h,run _ _ _ rfl,by rw [VRel];rfl⟩
    | own n =>
      simp only at h
      rw [VRel] at hx
      obtain ⟨ty,l,hg,hx⟩:=hx
      rw [← hs,hg] at h
      rcases hx with ⟨_,rfl,rfl⟩ | ⟨_,_,_,_,_,_,_,rfl⟩
      · exact ⟨_,_,h,run _ _ _ rfl,by rw [VRel];rfl⟩
      · exact ⟨_,_,h,run _ _ _ rfl,by rw [VRel]⟩
    | sub n off len e' =>
      simp only at h
      rw [VRel] at hx
      obtain ⟨A,cap,rfl,_⟩:=hx
      exact ⟨_,_,h,run _ _ _ rfl,by rw [VRel]⟩
    | ro ty l =>
      simp only at h
      rw [VRel,zJ] at hx
      obtain ⟨A,c,hv,_⟩:=hx
      obtain rfl:u = .slice A l.length c:=by simpa using hv
      exact ⟨_,_,h,run _ _ _ rfl,by rw [VRel]⟩
    | _=>cases h
  · rename_i n e hkk
    rw [hkk] at hk
    simp only [Z3] at hk
    subst hk
    exact ⟨_,.int .i64 n,h,fun W=>by simp [Builtin.len_,ht0,ha0,run_underlying hi.under,goInt],by rw [VRel]⟩
  · rename_i k e hkk
    rw [hkk] at hk
    obtain ⟨rfl,_⟩:=hk
    cases x with
    | nilm =>
      simp only at h
      rw [VRel] at hx;subst hx
      exact ⟨_,.int .i64 0,h,fun W=>by simp [Builtin.len_,ht0,ha0,run_underlying hi.under,goInt],by rw [VRel]⟩
    | _=>cases h
  · cases h
theorem zfM {f:AV→AV→Option AV} {g:Value→Value→Sem Value} (hfg : ∀x y u v r,f x y=some r→VRel C x u→VRel C y v → ∃z,(∀w,(g u v).run P w = .ok z w)∧VRel C r z) :
    ∀{l:List AV} {vs:List Value} {x r:AV} {u:Value},zo6 f x l=some r→VRel C x u→VRels C l vs → ∃z,(∀w,(vs.foldlM g u).run P w = .ok z w)∧VRel C r z
  | [],_,x,r,u,h,hx,hv=>by
    rw [VRels] at hv;subst hv
    rw [zo6] at h;cases h
    exact ⟨u,fun w=>by simp,hx⟩
  | y::l,_,x,r,u,h,hx,hv=>by
    rw [VRels] at hv
    obtain ⟨v,vs',rfl,hy,hr⟩:=hv
    rw [zo6] at h
    split at h
    · rename_i z hz
      obtain ⟨q,hq,hqr⟩:=hfg _ _ _ _ _ hz hx hy
      obtain ⟨p,hp,hpr⟩:=zfM hfg h hqr hr
      exact ⟨p,fun w=>by simp [List.foldlM_cons,hq,hp],hpr⟩
    · cases h
theorem zVz {x y r:AV} {u v:Value} (h:max2 x y=some r) (hx:VRel C x u) (hy:VRel C y v) : ∃z,(∀w,(Builtin.max2 u v).run P w = .ok z w)∧VRel C r z:=by
  unfold max2 at h
  split at h
  · cases h
    rw [VRel] at hx hy;subst hx;subst hy
    exact ⟨_,fun w=>by simp [Builtin.max2];rfl,by rw [VRel]⟩
  · cases h
theorem zS9 {x y r:AV} {u v:Value} (h:min2 x y=some r) (hx:VRel C x u) (hy:VRel C y v) : ∃z,(∀w,(Builtin.min2 u v).run P w = .ok z w)∧VRel C r z:=by
  unfold min2 at h
  split at h
  · cases h
    rw [VRel] at hx hy;subst hx;subst hy
    exact ⟨_,fun w=>by simp [Builtin.min2];rfl,by rw [VRel]⟩
  · cases h
theorem qd [BT] {t:Nat} {i:TI} {d:TypeDesc} {info:TypeInfo} {z:Value} (hi:y7 P t i d info z) {k:IntKind} (h:zb3 i=some k):d = .int k:=by
  have:=hi.kind
  unfold zb3 at h
  split at h
  · rename_i k' n hk hz
    cases h
    rw [hk] at this
    simp only [Z3,hz] at this
    cases d <;> simp_all [yu]
  · cases h
theorem y7.notIface [BT] {t:Nat} {i:TI} {d:TypeDesc} {info:TypeInfo} {z:Value} (hi:y7 P t i d info z) (h:znc i=false) : ∀ms,d ≠ .interface ms:=by
  intro ms e
  subst e
  have hk:=hi.kind
  unfold znc at h
  cases hkk:i.k with
  | sc =>
    rw [hkk] at hk h
    simp only [Z3] at hk
    cases hz:i.zero with
    | nil=>rw [hz] at hk;simp [yu] at hk
    | cons x r =>
      rw [hz] at hk h
      cases x <;> cases r <;> simp_all [yu]
  | ptr e=>rw [hkk] at hk;exact absurd hk.1 (by simp)
  | slice e=>rw [hkk] at hk;exact absurd hk.1 (by simp)
  | array n e=>rw [hkk] at hk;simp [Z3] at hk
  | struct fs=>rw [hkk] at hk;obtain ⟨_,h1,_⟩:=hk;cases h1
  | map k e=>rw [hkk] at hk;exact absurd hk.1 (by simp)
theorem zrC {env:zT} {a:Act} (h:Zq C env a.tmps) (x:Option Operand):zc7 C (x.map (opd env)) (x.map a.eval):=by
  cases x with
  | none=>trivial
  | some x=>exact zR h x
theorem ZP {α:Type} (a:Array α):a.toList.toArray=a:=by simp
theorem zOU {α:Type} {c:Bool} {x:Option α} {r:α} (h:cond c none x=some r):c=false∧x=some r:=by
  cases c <;> simp_all
theorem zje [BT] (hT:zN P T) (hh:zY C) {s:St} (hs:C.H=s.H) {a:Act} (he:Zq C s.env a.tmps) {o:Oper} {K:AV→Ans} {A:Ans} {res:AV×List Obj}
    (h:Zb T o s K=some A) (hA:A=some res) : ∃r v,K r=some res∧(∀W,zii C (yE T s o) W→(execOp a.eval o).run P W = .ok (.value v) W)∧VRel C r v:=by
  subst hA
  unfold Zb at h
  have wrapV : ∀{S:Sem Value} {r:AV},(∃u,K r=some res∧(∀W,zii C (yE T s o) W→S.run P W = .ok u W)∧VRel C r u)→execOp a.eval o=(do pure (.value (← S))) →
      ∃r v,K r=some res∧(∀W,zii C (yE T s o) W→(execOp a.eval o).run P W = .ok (.value v) W)∧VRel C r v:=by
    intro S r ⟨u,h1,h2,h3⟩ he
    exact ⟨r,u,h1,fun W hW=>by rw [he];simp [h2 W hW],h3⟩
  cases ho:o.op <;> rw [ho] at h <;> simp only at h <;> first | (cases h;done) | skip
  case move x =>
    have h:=Option.some.inj h
    exact ⟨_,_,h,fun W _=>by simp [execOp,ho],zR he x⟩
  case assign x =>
    have h:=Option.some.inj h
    exact ⟨_,_,h,fun W _=>by simp [execOp,ho],zR he x⟩
  case pick c x y =>
    have h:=Option.some.inj h
    have hc:=zR (C:=C) he c
    cases hcv:opd s.env c <;> rw [hcv] at h hc <;> first | (cases h;done) | skip
    rename_i p
    rw [VRel] at hc
    cases p with
    | true=>exact ⟨_,_,h,fun W _=>by simp [execOp,ho,hc,Go.asBool],zR he x⟩
    | false=>exact ⟨_,_,h,fun W _=>by simp [execOp,ho,hc,Go.asBool],zR he y⟩
  case build t parts =>
    have h:=Option.some.inj h
    replace h:=zr h;obtain ⟨i,hti,h⟩:=h
    replace h:=zI h;obtain ⟨hok,h⟩:=h
    replace h:=zr h;obtain ⟨cs,hcs,h⟩:=h
    obtain ⟨d,info,z,hi⟩:=hT t i hti
    obtain ⟨hn,hv⟩:=ziX (C:=C) he parts.toList
    obtain ⟨u,hu,hr⟩:=zqH (C:=C) hT hti hok (hi.run_zero) (by rw [hi.cells];exact zbz _ hi.isz) (by rw [hi.cells];exact zrd _ hi.isz)
      (parts':=parts.map fun (i,x)=>(i,a.eval x)) (by rw [Array.toList_map];exact hn) (by rw [Array.toList_map];exact hv) hcs
    exact wrapV ⟨u,h,fun W _=>hu W,hr⟩ (by simp [execOp,ho])
  case load t x =>
    have h:=Option.some.inj h
    obtain ⟨r,u,h1,h2,h3⟩:=zvw hT hh hs (zR he x) h
    have hrd:yE T s o=some (opd s.env x).refs:=by unfold yE;rw [ho]
    exact wrapV ⟨u,h1,fun W hW=>h2 W (hW _ hrd),h3⟩ (by simp [execOp,ho])
  case nilCheck x =>
    have h:=Option.some.inj h
    have hx:=zR (C:=C) he x
    cases hv:opd s.env x <;> rw [hv] at h hx <;> first | (cases h;done) | skip
    all_goals
      refine ⟨_,a.eval x,h,?_,hx⟩
      have hp : ∃p,a.eval x = .pointer (some p):=by
        simp only [VRel] at hx
        first
          | (obtain ⟨b,_,e,_⟩:=hx;exact ⟨_,e⟩)
          | (obtain ⟨b,_,_,_,_,e⟩:=hx;exact ⟨_,e⟩)
          | (obtain ⟨b,_,_,_,_,_,e⟩:=hx;exact ⟨_,e⟩)
      obtain ⟨p,e⟩:=hp
      intro W _
      simp [execOp,ho,e]
  case binOp op t x y yt =>
    have h:=Option.some.inj h
    obtain ⟨r,z,h1,h2,h3⟩:=zIs hT (zR he x) (zR he y) x y h
    exact wrapV ⟨z,h1,fun W _=>h2 W,h3⟩ (by simp [execOp,ho])
  case unOp op t x =>
    have h:=Option.some.inj h
    obtain ⟨r,z,h1,h2,h3⟩:=zWn (zR he x) h
    exact wrapV ⟨z,h1,fun W _=>h2 W,h3⟩ (by simp [execOp,ho])
  case convert src dst x =>
    have hx:=zR (C:=C) he x
    cases hv:opd s.env x <;> rw [hv] at h hx <;> first | (cases h;done) | skip
    rename_i k n
    have h:=Option.some.inj h
    unfold convert at h
    replace h:=zr h;obtain ⟨si,hsi,h⟩:=h
    replace h:=zr h;obtain ⟨di,hdi,h⟩:=h
    simp only at h
    replace h:=zr h;obtain ⟨k',hk',h⟩:=h
    rw [VRel] at hx
    obtain ⟨d1,i1,z1,h1⟩:=hT _ _ hsi
    obtain ⟨d2,i2,z2,h2⟩:=hT _ _ hdi
    obtain rfl:=qd h2 hk'
    refine ⟨_,.int k' (k'.wrap n),h,?_,by rw [VRel]⟩
    intro W _
    simp [execOp,ho,hx,Go.convert,run_underlying h1.under,run_underlying h2.under,Conv.intToInt]
  case makeInterface t x =>
    have h:=Option.some.inj h
    replace h:=zr h;obtain ⟨i,hti,h⟩:=h
    replace h:=zI h;obtain ⟨hc,h⟩:=h
    simp only [Bool.and_eq_true,Bool.not_eq_true'] at hc
    obtain ⟨d,info,z,hi⟩:=hT _ _ hti
    refine ⟨_,.iface t (a.eval x),h,?_,by rw [VRel];exact ⟨_,rfl,zR he x⟩⟩
    have hd:=hi.notIface hc.2
    intro W _
    simp only [execOp,ho,Instr.makeInterface,Sem.run_bind,run_underlying hi.under,Result.andThen_ok]
    cases d <;> first | rfl | exact absurd rfl (hd _)
  case typeAssert x xt t ok =>
    replace h:=Option.some.inj h
    unfold zrK at h
    replace h:=zr h;obtain ⟨i,hti,h⟩:=h
    replace h:=Qt h;obtain ⟨hif,h⟩:=h
    obtain ⟨d,info,z,hi⟩:=hT _ _ hti
    have hd:=hi.notIface hif
    have hx:=zR (C:=C) he x
    have hz : ∀z',zW4 i=some z'→VRel C z' z:=by
      intro z' hz'
      unfold zW4 at hz'
      have hz':=(zOU hz').2
      have hrel:VRels C i.zero z.cells.toList:=by rw [hi.cells];exact zbz _ hi.isz
      cases hag:i.isAgg with
      | true =>
        rw [hag] at hz'
        cases hz'
        have hp:=hi.agg hag
        cases z <;> first | (cases hp;done) | skip
        rw [VRel]
        exact ⟨_,rfl,hrel⟩
      | false =>
        rw [hag] at hz'
        have hp:=hi.plain hag
        have hzc:z.cells = #[z]:=by cases z <;> first | rfl | (cases hp;done)
        rw [hzc] at hrel
        dsimp only at hz'
        unfold oneCell at hz'
        split at hz'
        · rename_i v hv
          cases hz'
          rw [hv] at hrel
          rw [VRels] at hrel
          obtain ⟨v',vs',e,h1,_⟩:=hrel
          have e':[z]=v'::vs':=e
          cases e'
          exact h1
        · cases hz'
    cases hv:opd s.env x <;> rw [hv] at h hx <;> first | (cases h;done) | skip
    case nili =>
      dsimp only at h
      cases ok with
      | false=>cases h
      | true =>
      rw [cond_true] at h
      replace h:=zr h;obtain ⟨z',hz',h⟩:=h
      rw [VRel] at hx
      refine ⟨_,.tuple #[z,.bool false],h,?_,by rw [VRel];exact ⟨_,rfl,by simp only [VRels];exact ⟨_,_,rfl,hz _ hz',_,_,rfl,by rw [VRel],rfl⟩⟩⟩
      intro W _
      simp only [execOp,ho,hx,Instr.typeAssert,Sem.run_bind,run_underlying hi.under,Result.andThen_ok]
      cases d <;> first | exact absurd rfl (hd _) | simp [hi.run_zero]
    case ifc t' y =>
      rw [VRel] at hx
      obtain ⟨u,hu,hy⟩:=hx
      dsimp only at h
      cases hb:Nat.beq t' t with
      | true =>
        rw [hb,cond_true] at h
        obtain rfl:=Nat.eq_of_beq_eq_true hb
        cases ok with
        | true =>
          refine ⟨_,.tuple #[u,.bool true],h,?_,by rw [VRel];exact ⟨_,rfl,by simp only [VRels];exact ⟨_,_,rfl,hy,_,_,rfl,by rw [VRel],rfl⟩⟩⟩
          intro W _
          simp only [execOp,ho,hu,Instr.typeAssert,Sem.run_bind,run_underlying hi.under,Result.andThen_ok]
          cases d <;> first | exact absurd rfl (hd _) | simp
        | false =>
          refine ⟨_,u,h,?_,hy⟩
          intro W _
          simp only [execOp,ho,hu,Instr.typeAssert,Sem.run_bind,run_underlying hi.under,Result.andThen_ok]
          cases d <;> first | exact absurd rfl (hd _) | simp
      | false =>
        have hne:t'≠t:=fun e=>by subst e;rw [Nat.beq_refl] at hb;cases hb
        rw [hb,cond_false] at h
        cases ok with
        | false=>cases h
        | true =>
        rw [cond_true] at h
        replace h:=zr h;obtain ⟨z',hz',h⟩:=h
        refine ⟨_,.tuple #[z,.bool false],h,?_,by rw [VRel];exact ⟨_,rfl,by simp only [VRels];exact ⟨_,_,rfl,hz _ hz',_,_,rfl,by rw [VRel],rfl⟩⟩⟩
        intro W _
        simp only [execOp,ho,hu,Instr.typeAssert,Sem.run_bind,run_underlying hi.under,Result.andThen_ok]
        cases d <;> first | exact absurd rfl (hd _) | simp [hne,hi.run_zero]
  case makeFunc f fs cs =>
    have h:=Option.some.inj h
    refine ⟨_,_,h,fun W _=>by simp [execOp,ho,Instr.makeFunc];rfl,?_⟩
    rw [VRel]
    exact ⟨_,_,rfl,by rw [Array.toList_map];exact qV he _,by rw [Array.toList_map];exact qV he _⟩
  case slice t x lo hi mx =>
    have h:=Option.some.inj h
    obtain ⟨r,u,h1,h2,h3⟩:=zNc hT hh hs (zR he x) (zrC he lo) (zrC he hi) (zrC he mx) h
    exact wrapV ⟨u,h1,fun W _=>h2 W,h3⟩ (by simp [execOp,ho])
  case fieldAddr t x f =>
    have h:=Option.some.inj h
    obtain ⟨r,u,h1,h2,h3⟩:=zve hT (zR he x) h
    exact wrapV ⟨u,h1,fun W _=>h2 W,h3⟩ (by simp [execOp,ho])
  case field t x f =>
    have h:=Option.some.inj h
    obtain ⟨r,u,h1,h2,h3⟩:=zOd hT (zR he x) h
    exact wrapV ⟨u,h1,fun W _=>h2 W,h3⟩ (by simp [execOp,ho])
  case indexAddr t x ix =>
    have h:=Option.some.inj h
    obtain ⟨r,u,h1,h2,h3⟩:=zvZ hT hs (zR he x) (zR he ix) h
    exact wrapV ⟨u,h1,fun W _=>h2 W,h3⟩ (by simp [execOp,ho])
  case index t x ix =>
    have h:=Option.some.inj h
    obtain ⟨r,u,h1,h2,h3⟩:=zOm hT (zR he x) (zR he ix) h
    exact wrapV ⟨u,h1,fun W _=>h2 W,h3⟩ (by simp [execOp,ho])
  case extract t i =>
    have h:=Option.some.inj h
    obtain ⟨r,u,h1,h2,h3⟩:=zGi (zR he t) h
    exact wrapV ⟨u,h1,fun W _=>h2 W,h3⟩ (by simp [execOp,ho])
  case call c =>
    cases hc:c.callee <;> rw [hc] at h <;> first | (cases h;done) | skip
    rename_i b
    have hargs:=qV (C:=C) he c.args.toList
    cases b <;> simp only at h <;> first | (cases h;done) | skip
    case len =>
      have hcn : ∀{c:Bool} {x:Option Ans} {y:Ans},cond c Option.none x=Option.some y→x=Option.some y:=fun {c x y} h=>by
        cases c with
        | true=>cases h
        | false=>exact h
      replace h:=hcn h
      have h:=Option.some.inj h
      split at h
      · rename_i x t ts hx ht
        have ht0:c.argTypes[0]? = some t:=by rw [← Array.getElem?_toList,ht];rfl
        have ha0:(c.args.map a.eval)[0]? = some (a.eval x):=by rw [← Array.getElem?_toList,Array.toList_map,hx];rfl
        obtain ⟨r,u,h1,h2,h3⟩:=zNu hT hs (zR he x) h hh c.argTypes ht0 o.type (c.args.map a.eval) ha0
        exact ⟨r,u,h1,fun W _=>by simp [execOp,ho,resolve,hc,invoke,builtin,h2],h3⟩
      · cases h
    case max =>
      have h:=Option.some.inj h
      split at h
      · rename_i x r hx
        replace h:=zr h;obtain ⟨q,hq,h⟩:=h
        rw [hx] at hargs
        obtain ⟨z,hz,hr⟩:=zfM (g:=Builtin.max2) (fun x y u v r h hx hy=>zVz h hx hy) hq (zR he x) (qV he r)
        have hl:(c.args.map a.eval).toList=a.eval x::r.map a.eval:=by rw [Array.toList_map,hx];rfl
        exact ⟨q,z,h,fun W _=>by simp only [execOp,ho,resolve,hc,invoke,builtin,Sem.run_bind,Sem.run_pure,Result.andThen_ok,Builtin.max_,hl];rw [hz];rfl,hr⟩
      · cases h
    case min =>
      have h:=Option.some.inj h
      split at h
      · rename_i x r hx
        replace h:=zr h;obtain ⟨q,hq,h⟩:=h
        rw [hx] at hargs
        obtain ⟨z,hz,hr⟩:=zfM (g:=Builtin.min2) (fun x y u v r h hx hy=>zS9 h hx hy) hq (zR he x) (qV he r)
        have hl:(c.args.map a.eval).toList=a.eval x::r.map a.eval:=by rw [Array.toList_map,hx];rfl
        exact ⟨q,z,h,fun W _=>by simp only [execOp,ho,resolve,hc,invoke,builtin,Sem.run_bind,Sem.run_pure,Result.andThen_ok,Builtin.min_,hl];rw [hz];rfl,hr⟩
      · cases h
end Go.AE
namespace Go.AE
variable {P:Program} {T:Tab}
theorem ZJ : ∀(H:List Obj) (i:Nat),zp H i=(H[i]?).getD .dead
  | [],i=>by simp [zp]
  | o::r,0=>rfl
  | o::r,i+1=>by rw [zp,ZJ r i];simp
theorem Z7 {H:List Obj} {i:Nat} (h:zA H i):i<H.length:=by
  unfold zA at h
  rw [ZJ] at h
  rcases Nat.lt_or_ge i H.length with h' | h'
  · exact h'
  · rw [List.getElem?_eq_none h'] at h;exact absurd rfl h
theorem zbG {H:List Obj} {o:Obj} {i:Nat} (h:i<H.length):zp (H++[o]) i=zp H i:=by
  rw [ZJ,ZJ,List.getElem?_append_left h]
theorem Yv {H:List Obj} {o:Obj}:zp (H++[o]) H.length=o:=by
  rw [ZJ];simp
theorem zBl {H:List Obj} {o:Obj} {i:Nat} (h:H.length<i):zp (H++[o]) i = .dead:=by
  rw [ZJ,List.getElem?_eq_none (by simp;omega)];rfl
theorem zfo {H:List Obj} {i:Nat} (h:H.length≤i):zp H i = .dead:=by
  rw [ZJ,List.getElem?_eq_none h];rfl
theorem zbE : ∀(H:List Obj) (i:Nat) (o:Obj),Zc H i o=H.set i o
  | [],_,_=>rfl
  | _::_,0,_=>rfl
  | x::r,i+1,o=>by rw [Zc,zbE r i o];rfl
theorem ym {H:List Obj} {i:Nat} {o:Obj} (h:i<H.length):zp (Zc H i o) i=o:=by
  rw [ZJ,zbE];simp [h]
theorem ZX {H:List Obj} {i j:Nat} {o:Obj} (h:i≠j):zp (Zc H i o) j=zp H j:=by
  rw [ZJ,ZJ,zbE];simp [h]
theorem zqJ (H:List Obj) (i:Nat) (o:Obj):(Zc H i o).length=H.length:=by rw [zbE];simp
theorem zuQ (g:AV→AV) (H:List Obj):zV g H=H.map (Obj.mapR g):=by
  induction H with
  | nil=>rfl
  | cons o r ih=>rw [zV,ih];rfl
theorem YF (g:AV→AV) (H:List Obj) (i:Nat):zp (zV g H) i=(zp H i).mapR g:=by
  rw [ZJ,ZJ,zuQ,List.getElem?_map]
  cases H[i]? <;> rfl
theorem yO (g:AV→AV) (H:List Obj):(zV g H).length=H.length:=by rw [zuQ];simp
theorem zYd {H:List Obj} {n i:Nat} (h:i<n):zp (H.take n) i=zp H i:=by
  rw [ZJ,ZJ,List.getElem?_take_of_lt h]
theorem zjp (g:AV→AV) (env:zT) (t:Nat):Zm (Z8 g env) t=(Zm env t).mapR g:=by
  induction env with
  | nil=>rw [Z8,zbs,AV.mapR]
  | cons p r ih =>
    obtain ⟨d,v⟩:=p
    rw [Z8,Zu,Zu,ih]
    split <;> rfl
theorem z1h {env:zT} {t i:Nat} (h:i ∈ (Zm env t).refs):i ∈ yU env:=by
  induction env with
  | nil=>rw [zbs,AV.refs] at h;cases h
  | cons p r ih =>
    obtain ⟨d,v⟩:=p
    rw [Zu] at h
    rw [yU]
    split at h
    · exact List.mem_append.2 (.inl h)
    · exact List.mem_append.2 (.inr (ih h))
section
variable {C C':Cx} {g:AV→AV} {p:Nat→Prop}
theorem Zq.mapR (hl : ∀a v,a.isRef=true→(∀i ∈ a.refs,p i)→VRel C a v→VRel C' (g a) v) (hR : ∀b,C.R b→C'.R b∧C'.w.heap[b]? = C.w.heap[b]?)
    {env:zT} {tmps:Array Value} (h:Zq C env tmps) (hp : ∀i ∈ yU env,p i):Zq C' (Z8 g env) tmps:=by
  intro t
  rw [zjp]
  exact VRel.mapR hl hR _ _ (fun i hi=>hp i (z1h hi)) (h t)
theorem ZG.mapR (hl : ∀a v,a.isRef=true→(∀i ∈ a.refs,p i)→VRel C a v→VRel C' (g a) v) (hR : ∀b,C.R b→C'.R b∧C'.w.heap[b]? = C.w.heap[b]?) :
    ∀{stk:List zT} {vs:List (Array Value)},ZG C stk vs→(∀i ∈ Ye stk,p i)→ZG C' (YG g stk) vs
  | [],_,h,_=>by rw [ZG] at h;rw [YG,ZG];exact h
  | e::r,_,h,hp=>by
    rw [ZG] at h
    rw [YG,ZG]
    rw [Ye] at hp
    obtain ⟨v,vs',rfl,he,hr⟩:=h
    exact ⟨v,vs',rfl,Zq.mapR hl hR he fun i hi=>hp i (List.mem_append.2 (.inl hi)),ZG.mapR hl hR hr fun i hi=>hp i (List.mem_append.2 (.inr hi))⟩
end
theorem zcZ : ∀env:zT,Z8 (fun x=>x) env=env
  | []=>rfl
  | (d,v)::r=>by rw [Z8,mapR_id,zcZ r]
theorem zml : ∀stk:List zT,YG (fun x=>x) stk=stk
  | []=>rfl
  | e::r=>by rw [YG,zcZ,zml r]
section
variable {C C':Cx}
theorem Zq.mono (hl : ∀a v,a.isRef=true→VRel C a v→VRel C' a v) (hR : ∀b,C.R b→C'.R b∧C'.w.heap[b]? = C.w.heap[b]?)
    {env:zT} {tmps:Array Value} (h:Zq C env tmps):Zq C' env tmps:=by
  have:=Zq.mapR (p:=fun _=>True) (g:=fun x=>x) (fun a v h1 _ h2=>hl a v h1 h2) hR h (fun _ _=>trivial)
  rwa [zcZ] at this
theorem ZG.mono (hl : ∀a v,a.isRef=true→VRel C a v→VRel C' a v) (hR : ∀b,C.R b→C'.R b∧C'.w.heap[b]? = C.w.heap[b]?)
    {stk:List zT} {vs:List (Array Value)} (h:ZG C stk vs):ZG C' stk vs:=by
  have:=ZG.mapR (p:=fun _=>True) (g:=fun x=>x) (fun a v h1 _ h2=>hl a v h1 h2) hR h (fun _ _=>trivial)
  rwa [zml] at this
theorem yj.mapR [BT] {g:AV→AV} {p:Nat→Prop} (hl : ∀a v,a.isRef=true→(∀i ∈ a.refs,p i)→VRel C a v→VRel C' (g a) v) (hR : ∀b,C.R b→C'.R b∧C'.w.heap[b]? = C.w.heap[b]?)
    {o:Obj} {r:Option Nat} (h:yj C o r) (hb : ∀b,r=some b→o ≠ .dead→C'.w.heap[b]? = C.w.heap[b]?) (hp : ∀i ∈ o.refs,p i):yj C' (o.mapR g) r:=by
  cases o with
  | dead=>trivial
  | cells cs =>
    obtain ⟨b,c,e,fr,rfl,hw,hfr,hv,h1⟩:=h
    exact ⟨b,c,e,fr,rfl,by rw [hb b rfl (by simp)];exact hw,hfr,VRels.mapR hl hR _ _ hp hv,h1⟩
  | arr t l =>
    rcases h with h | ⟨b,c,e,fr,rfl,hw,hfr,hl',hel⟩
    · exact .inl h
    · refine .inr ⟨b,c,e,fr,rfl,by rw [hb b rfl (by simp)];exact hw,hfr,hl',fun k x hk => ?_,hel.2⟩
      replace hel:=hel.1
      obtain ⟨us,hd,hu⟩:=hel k x hk
      exact ⟨us,zJ.mono hR hd,hu⟩
  | bcells cs =>
    obtain ⟨b,c,v0,rfl,hw,⟨vs,hc,hv⟩,h1,h2⟩:=h
    exact ⟨b,c,v0,rfl,by rw [hb b rfl (by simp)];exact hw,⟨vs,hc,VRels.mapR hl hR _ _ hp hv⟩,h1,h2⟩
  | btold s =>
    obtain ⟨b,v0,v,rfl,hw,h1,h2,h3⟩:=h
    refine ⟨b,v0,v,rfl,by rw [hb b rfl (by simp)];exact hw,h1,h2,?_⟩
    rcases h3 with h3 | ⟨g,cap,cur,fr,g1,g2,g3,g4,g5⟩
    · exact .inl h3
    · exact .inr ⟨g,cap,cur,fr,g1,g2,(hR g g3).1,(hR g g3).2.trans g4,g5⟩
  | mp k t l =>
    obtain ⟨b,es,ck,rfl,hw,hm⟩:=h
    exact ⟨b,es,ck,rfl,by rw [hb b rfl (by simp)];exact hw,hm⟩
theorem Obj.mapR_id (o:Obj):o.mapR (fun x=>x)=o:=by
  cases o <;> simp [Obj.mapR,qF]
theorem yj.mono [BT] (hl : ∀a v,a.isRef=true→VRel C a v→VRel C' a v) (hR : ∀b,C.R b→C'.R b∧C'.w.heap[b]? = C.w.heap[b]?)
    {o:Obj} {r:Option Nat} (h:yj C o r) (hb : ∀b,r=some b→o ≠ .dead→C'.w.heap[b]? = C.w.heap[b]?):yj C' o r:=by
  have:=yj.mapR (p:=fun _=>True) (g:=fun x=>x) (fun a v h1 _ h2=>hl a v h1 h2) hR h hb (fun _ _=>trivial)
  rwa [Obj.mapR_id] at this
end
theorem zY.blk [BT] {C:Cx} (hh:zY C) {i b:Nat} (hl:zA C.H i) (hb:C.ρ i=some b) : ∃x,C.w.heap[b]? = some x:=by
  have:=hh.obj i
  unfold zA at hl
  cases hg:zp C.H i with
  | dead=>exact absurd hg hl
  | cells cs =>
    rw [hg] at this
    obtain ⟨b',c,e,fr,hb',hw,_⟩:=this
    obtain rfl:b=b':=Option.some.inj (hb.symm.trans hb')
    exact ⟨_,hw⟩
  | btold s =>
    rw [hg] at this
    obtain ⟨b',v0,v,hb',hw,_⟩:=this
    obtain rfl:b=b':=Option.some.inj (hb.symm.trans hb')
    exact ⟨_,hw⟩
  | bcells cs =>
    rw [hg] at this
    obtain ⟨b',c,v0,hb',hw,_⟩:=this
    obtain rfl:b=b':=Option.some.inj (hb.symm.trans hb')
    exact ⟨_,hw⟩
  | arr t l =>
    rw [hg] at this
    rcases this with ⟨h,_⟩ | ⟨b',c,e,fr,hb',hw,_⟩
    · rw [hb] at h;cases h
    · obtain rfl:b=b':=Option.some.inj (hb.symm.trans hb')
      exact ⟨_,hw⟩
  | mp k t l =>
    rw [hg] at this
    obtain ⟨b',es,ck,hb',hw,_⟩:=this
    obtain rfl:b=b':=Option.some.inj (hb.symm.trans hb')
    exact ⟨_,hw⟩
theorem zY.blk_lt [BT] {C:Cx} (hh:zY C) {i b:Nat} (hl:zA C.H i) (hb:C.ρ i=some b):b<C.w.heap.size:=by
  obtain ⟨_,hw⟩:=hh.blk hl hb
  exact (Array.getElem?_eq_some_iff.1 hw).1
structure World.Pushed (w w':World) (o:Option (_root_.Go.Obj)):Prop where
  os:w'.os=w.os
  tape:w'.tape=w.tape
  output:w'.output=w.output
  heap:w'.heap=match o with | some o=>w.heap.push o | none=>w.heap
theorem World.Pushed.old {w w':World} {o:Option (_root_.Go.Obj)} (h:World.Pushed w w' o) {b:Nat} (hb:b<w.heap.size):w'.heap[b]? = w.heap[b]? := by
  rw [h.heap]
  cases o with
  | none=>rfl
  | some o=>simp only;rw [Array.getElem?_push,if_neg (by omega)]
theorem World.Pushed.size {w w':World} {o:Option (_root_.Go.Obj)} (h:World.Pushed w w' o):w.heap.size≤w'.heap.size:=by
  rw [h.heap]
  cases o <;> simp
theorem World.Pushed.new {w w':World} {o:_root_.Go.Obj} (h:World.Pushed w w' (some o)):w'.heap[w.heap.size]? = some o:=by
  rw [h.heap];simp
def Cx.push (C:Cx) (o:Obj) (r:Option Nat) (w':World):Cx:=⟨C.R,fun i=>if i=C.H.length then r else C.ρ i,C.H++[o],w'⟩
section
variable {C:Cx} {o:Obj} {r:Option Nat} {w':World} {bo:Option (_root_.Go.Obj)}
theorem zlA [BT] (hh:zY C) (hw:World.Pushed C.w w' bo) : ∀b,C.R b→(C.push o r w').R b∧(C.push o r w').w.heap[b]? = C.w.heap[b]? :=
  fun b hb=>⟨hb,hw.old (hh.rlt b hb)⟩
theorem zeF [BT] (hh:zY C) (hw:World.Pushed C.w w' bo) : ∀a v,a.isRef=true→VRel C a v→VRel (C.push o r w') a v:=by
  intro a v ha h
  have hg : ∀i,zA C.H i→zp (C.H++[o]) i=zp C.H i∧(C.push o r w').ρ i=C.ρ i:=by
    intro i hl
    have:=Z7 hl
    exact ⟨zbG this,by simp [Cx.push];omega⟩
  have hbk : ∀i b c,zA C.H i→C.ρ i=some b→YI C.w b=some c→YI (C.push o r w').w b=some c:=by
    intro i b c hl hb hc
    rw [← hc]
    exact wb (hw.old (hh.blk_lt hl hb))
  have lv : ∀i x,zp C.H i=x→x ≠ .dead→zA C.H i:=fun i x e hx=>by unfold zA;rw [e];exact hx
  cases a <;> first | (cases ha;done) | skip
  case ptr i off =>
    rw [VRel] at h ⊢
    obtain ⟨b,hb,rfl,hl⟩:=h
    obtain ⟨h1,h2⟩:=hg i hl
    exact ⟨b,h2.trans hb,rfl,by unfold zA at hl ⊢;show zp (C.H++[o]) i≠_;rw [h1];exact hl⟩
  case eptr i n off =>
    rw [VRel] at h ⊢
    obtain ⟨b,t,l,hb,hgi,rfl⟩:=h
    obtain ⟨h1,h2⟩:=hg i (lv i _ hgi (by simp))
    exact ⟨b,t,l,h2.trans hb,h1.trans hgi,rfl⟩
  case own i =>
    rw [VRel] at h ⊢
    obtain ⟨t,l,hgi,h⟩:=h
    have hl:=lv i _ hgi (by simp)
    obtain ⟨h1,h2⟩:=hg i hl
    refine ⟨t,l,h1.trans hgi,?_⟩
    rcases h with ⟨hn,h⟩ | ⟨b,c,cap,hb,hc,h⟩
    · exact .inl ⟨h2.trans hn,h⟩
    · exact .inr ⟨b,c,cap,h2.trans hb,hbk i b c hl hb hc,h⟩
  case sub i off len e =>
    rw [VRel] at h ⊢
    obtain ⟨A,cap,rfl,hlc,h⟩:=h
    refine ⟨A,cap,rfl,hlc,?_⟩
    rcases h with h | h | ⟨b,hb,hA,c,hc,hcs,hm⟩
    · exact .inl h
    · exact .inr (.inl h)
    · have hl:zA C.H i:=by
        unfold zA
        intro hd
        rw [hd] at hm
        exact hm
      obtain ⟨h1,h2⟩:=hg i hl
      refine .inr (.inr ⟨b,h2.trans hb,hA,c,hbk i b c hl hb hc,hcs,?_⟩)
      show match zp (C.H++[o]) i with | .arr t l=>_ | .cells cs=>_ | _=>_
      rw [h1]
      exact hm
  case map i =>
    rw [VRel] at h ⊢
    obtain ⟨b,hb,rfl,hl⟩:=h
    obtain ⟨h1,h2⟩:=hg i hl
    exact ⟨b,h2.trans hb,rfl,by unfold zA at hl ⊢;show zp (C.H++[o]) i≠_;rw [h1];exact hl⟩
theorem J6 [BT] {F:Fr} {s:St} {tmps:Array Value} {stk:List (Array Value)} (hS:zB F C s tmps stk) (hw:World.Pushed C.w w' bo)
    (hr:r=none∨r=some C.w.heap.size) (hb:bo=none→r=none) (ho:yj (C.push o r w') o r) :
    zB F (C.push o r w') { s with H:=s.H++[o] } tmps stk:=by
  have hh:=hS.heap
  have hl:=zeF (o:=o) (r:=r) hh hw
  have hR:=zlA (o:=o) (r:=r) hh hw
  have hρ : ∀i,i<C.H.length→(C.push o r w').ρ i=C.ρ i:=fun i hi=>by simp [Cx.push];omega
  have hρe:(C.push o r w').ρ C.H.length=r:=by simp [Cx.push]
  have hlive : ∀i,zA (C.H++[o]) i→(i<C.H.length∧zA C.H i)∨i=C.H.length:=by
    intro i hi
    have:=Z7 hi
    simp at this
    rcases Nat.lt_or_ge i C.H.length with h | h
    · left;refine ⟨h,?_⟩;unfold zA at hi ⊢;rwa [zbG h] at hi
    · right;omega
  have newlt : ∀b,r=some b→b=C.w.heap.size∧b<w'.heap.size:=by
    intro b hb'
    rcases hr with h | h
    · rw [h] at hb';cases hb'
    · rw [h] at hb'
      cases hb'
      cases bo with
      | none=>rw [hb rfl] at h;cases h
      | some x=>exact ⟨rfl,by rw [hw.heap];simp⟩
  refine ⟨?_,⟨?_,?_,?_,?_⟩,hS.env.mono hl hR,hS.stk.mono hl hR,⟨?_,?_,?_,?_,?_,?_,?_,?_⟩⟩
  · show C.H++[o]=s.H++[o];rw [hS.H]
  · intro i
    show yj _ (zp (C.H++[o]) i) _
    rcases Nat.lt_trichotomy i C.H.length with h | h | h
    · rw [zbG h,hρ i h]
      by_cases hd:zp C.H i = .dead
      · rw [hd];trivial
      · exact (hh.obj i).mono hl hR fun b hb' _=>hw.old (hh.blk_lt hd hb')
    · subst h;rw [Yv,hρe];exact ho
    · rw [zBl h];trivial
  · intro i j b hi hj hib hjb
    have hi':=hlive i hi
    have hj':=hlive j hj
    rcases hi' with ⟨h1,h2⟩ | rfl
    · rw [hρ i h1] at hib
      rcases hj' with ⟨h3,h4⟩ | rfl
      · rw [hρ j h3] at hjb
        exact hh.inj i j b h2 h4 hib hjb
      · rw [hρe] at hjb
        have:=hh.blk_lt h2 hib
        have:=(newlt b hjb).1
        omega
    · rw [hρe] at hib
      rcases hj' with ⟨h3,h4⟩ | rfl
      · rw [hρ j h3] at hjb
        have:=hh.blk_lt h4 hjb
        have:=(newlt b hib).1
        omega
      · rfl
  · intro i b hi hib hRb
    rcases hlive i hi with ⟨h1,h2⟩ | rfl
    · rw [hρ i h1] at hib
      exact hh.ro i b h2 hib hRb
    · rw [hρe] at hib
      have:=hh.rlt b hRb
      have:=(newlt b hib).1
      omega
  · intro b hb'
    exact Nat.lt_of_lt_of_le (hh.rlt b hb') hw.size
  · exact hw.os.trans hS.frame.os
  · exact hw.tape.trans hS.frame.tape
  · exact hw.output.trans hS.frame.output
  · exact Nat.le_trans hS.frame.size hw.size
  · intro b hb' hno
    exact (hw.old (Nat.lt_of_lt_of_le hb' hS.frame.size)).trans (hS.frame.keep b hb' hno)
  · exact hS.frame.r0
  · exact hS.frame.rN
  · intro i b hi hib
    rcases hlive i hi with ⟨h1,h2⟩ | rfl
    · rw [hρ i h1] at hib
      exact hS.frame.own i b h2 hib
    · rw [hρe] at hib
      right
      rw [(newlt b hib).1]
      exact hS.frame.size
end
def Z0 (C C':Cx):Prop := ∀b,b<C.w.heap.size→C'.w.heap[b]? = C.w.heap[b]? ∧ b<C'.w.heap.size ∧ ∀i,zA C'.H i→C'.ρ i=some b→zA C.H i∧C.ρ i=some b
theorem Z0.refl (C:Cx):Z0 C C:=fun b hb=>⟨rfl,hb,fun i hl hi=>⟨hl,hi⟩⟩
theorem Z0.trans {A B C:Cx} (h:Z0 A B) (k:Z0 B C):Z0 A C:=fun b hb=>by
  obtain ⟨h1,h2,h3⟩:=h b hb
  obtain ⟨k1,k2,k3⟩:=k b h2
  exact ⟨k1.trans h1,k2,fun i hl hi=>h3 i (k3 i hl hi).1 (k3 i hl hi).2⟩
theorem Z0.of_less {C C':Cx} (hw:C'.w=C.w) (hρ:C'.ρ=C.ρ) (hl : ∀i,zA C'.H i→zA C.H i):Z0 C C':=fun b hb=>⟨by rw [hw],by rw [hw];exact hb,fun i h hi=>⟨hl i h,by rw [← hρ];exact hi⟩⟩
def Ze (C C':Cx):Option (List Nat)→Prop
  | none=>True
  | some sel => ∀b,b<C.w.heap.size→(∀i ∈ sel,zA C.H i→C.ρ i≠some b)→C'.w.heap[b]? = C.w.heap[b]? ∧ b<C'.w.heap.size ∧ ∀i,zA C'.H i→C'.ρ i=some b→zA C.H i∧C.ρ i=some b
theorem Ze.after {A B C:Cx} (h:Z0 A B) {f:Option (List Nat)} (k:Ze B C f):Ze A C f:=by
  cases f with
  | none=>trivial
  | some sel =>
    intro b hb hno
    obtain ⟨h1,h2,h3⟩:=h b hb
    obtain ⟨k1,k2,k3⟩:=k b h2 (fun i hi hl e=>hno i hi (h3 i hl e).1 (h3 i hl e).2)
    exact ⟨k1.trans h1,k2,fun i hl hi=>h3 i (k3 i hl hi).1 (k3 i hl hi).2⟩
theorem Ze.of0 {A B:Cx} (h:Z0 A B):Ze A B (some []):=fun b hb _=>h b hb
end Go.AE
namespace Go.AE
variable {P:Program} {T:Tab}
structure World.Turned (w w':World) (b:Nat) (c':Array Value):Prop where
  os:w'.os=w.os
  tape:w'.tape=w.tape
  output:w'.output=w.output
  size:w'.heap.size=w.heap.size
  other : ∀k,k≠b→w'.heap[k]? = w.heap[k]?
  blk : ∀c e fr,w.heap[b]? = some (.cells c e fr)→w'.heap[b]? = some (.cells c' e fr)∧c'.size=c.size
theorem jY {w:World} {b o:Nat} {c:Array Value} {e:TypeId} {fr:Nat×Nat} (h:w.heap[b]? = some (.cells c e fr)) (v:Value) :
    (w.setCell ⟨b,o,none⟩ v).heap[b]? = some (.cells (c.setIfInBounds o v) e fr):=by
  simp [World.setCell,Array.getElem?_modify,h]
theorem zcg {w:World} {b o k:Nat} (hk:k≠b) (v:Value):(w.setCell ⟨b,o,none⟩ v).heap[k]? = w.heap[k]? := by
  simp only [World.setCell,Array.getElem?_modify]
  rw [if_neg (by omega)]
theorem y5 (b:Nat) : ∀(vs:List Value) (o:Nat) (w:World) (c:Array Value) (e:TypeId) (fr:Nat×Nat),w.heap[b]? = some (.cells c e fr)→o+vs.length≤c.size →
    ∃c',(w.setCells b o vs).heap[b]? = some (.cells c' e fr)∧c'.toList=c.toList.take o++vs++c.toList.drop (o+vs.length)
  | [],o,w,c,e,fr,h,ho=>⟨c,h,by simp⟩
  | v::r,o,w,c,e,fr,h,ho=>by
    simp only [List.length_cons] at ho
    obtain ⟨c',h1,h2⟩:=y5 b r (o+1) (w.setCell ⟨b,o,none⟩ v) _ e fr (jY h v) (by simp;omega)
    refine ⟨c',h1,?_⟩
    rw [h2]
    have hlt:o<c.toList.length:=by simp;omega
    simp only [Array.toList_setIfInBounds]
    rw [List.take_set,List.drop_set_of_lt (by omega),List.take_succ_eq_append_getElem hlt,List.set_append_right _ _ (by simp;omega)]
    have hm:o - (List.take o c.toList).length=0:=by simp;omega
    rw [hm,show o+1+r.length=o+(r.length+1) by omega]
    simp
theorem YN (b:Nat) : ∀(vs:List Value) (o:Nat) (w:World),(w.setCells b o vs).os=w.os∧(w.setCells b o vs).tape=w.tape∧(w.setCells b o vs).output=w.output∧(w.setCells b o vs).heap.size=w.heap.size ∧
    ∀k,k≠b→(w.setCells b o vs).heap[k]? = w.heap[k]?
  | [],_,w=>⟨rfl,rfl,rfl,rfl,fun _ _=>rfl⟩
  | v::r,o,w=>by
    obtain ⟨h1,h2,h3,h4,h5⟩:=YN b r (o+1) (w.setCell ⟨b,o,none⟩ v)
    exact ⟨h1,h2,h3,h4.trans (by simp [World.setCell]),fun k hk=>(h5 k hk).trans (zcg hk v)⟩
inductive ZR:Obj→Obj→Prop
  | cells (cs cs':List AV):cs'.length=cs.length→ZR (.cells cs) (.cells cs')
  | arr (t:Ty) (l l':List t.T):l'.length=l.length→ZR (.arr t l) (.arr t l')
  | bcells (cs cs':List AV):ZR (.bcells cs) (.bcells cs')
  | mp (k:IntKind) (t:Ty) (l l':List (Int×t.T)):ZR (.mp k t l) (.mp k t l')
theorem ZR.live {o o':Obj} (h:ZR o o'):o ≠ .dead∧o' ≠ .dead:=by cases h <;> simp
section
variable {C:Cx} {n b:Nat} {o o':Obj} {w':World} {c':Array Value}
theorem zuo (hw:World.Turned C.w w' b c') {k:Nat} {c:Array Value} (h:YI C.w k=some c) : ∃d,YI w' k=some d∧d.size=c.size:=by
  by_cases hk:k=b
  · subst hk
    unfold YI at h
    split at h
    · rename_i c0 e fr he
      cases h
      obtain ⟨h1,h2⟩:=hw.blk _ _ _ he
      exact ⟨c',blkOf_cells h1,h2⟩
    · cases h
  · exact ⟨c,(wb (hw.other k hk)).trans h,rfl⟩
theorem zoz (hg:zp C.H n=o) (hs:ZR o o') (hw:World.Turned C.w w' b c') (R':Nat→Prop) :
    ∀a v,a.isRef=true→VRel C a v→VRel ⟨R',C.ρ,Zc C.H n o',w'⟩ a v:=by
  intro a v ha h
  have hn:n<C.H.length:=Z7 (by unfold zA;rw [hg];exact hs.live.1)
  have hgi : ∀i,i≠n→zp (Zc C.H n o') i=zp C.H i:=fun i hi=>ZX (Ne.symm hi)
  have hgn:zp (Zc C.H n o') n=o':=ym hn
  have lv : ∀i,zA C.H i→zA (Zc C.H n o') i:=by
    intro i hi
    unfold zA at hi ⊢
    by_cases e:i=n
    · subst e;rw [hgn];exact hs.live.2
    · rw [hgi i e];exact hi
  cases a <;> first | (cases ha;done) | skip
  case ptr i off =>
    rw [VRel] at h ⊢
    obtain ⟨b,hb,rfl,hl⟩:=h
    exact ⟨b,hb,rfl,lv i hl⟩
  case eptr i m off =>
    rw [VRel] at h ⊢
    obtain ⟨b,t,l,hb,hgx,rfl⟩:=h
    by_cases e:i=n
    · subst e
      rw [hg] at hgx
      subst hgx
      cases hs with
      | arr _ _ l' hlen=>exact ⟨b,t,l',hb,hgn,rfl⟩
    · exact ⟨b,t,l,hb,(hgi i e).trans hgx,rfl⟩
  case own i =>
    rw [VRel] at h ⊢
    obtain ⟨t,l,hgx,h⟩:=h
    have key : ∃l',zp (Zc C.H n o') i = .arr t l'∧l'.length=l.length:=by
      by_cases e:i=n
      · subst e
        rw [hg] at hgx
        subst hgx
        cases hs with
        | arr _ _ l' hlen=>exact ⟨l',hgn,hlen⟩
      · exact ⟨l,(hgi i e).trans hgx,rfl⟩
    obtain ⟨l',h1,h2⟩:=key
    refine ⟨t,l',h1,?_⟩
    rcases h with ⟨hr,rfl,rfl⟩ | ⟨b,c,cap,hb,hc,hcap,hcs,rfl⟩
    · exact .inl ⟨hr,List.eq_nil_of_length_eq_zero (by simpa using h2),rfl⟩
    · obtain ⟨d,hd,hds⟩:=zuo hw hc
      exact .inr ⟨b,d,cap,hb,hd,by omega,by omega,by rw [h2]⟩
  case sub i off len e =>
    rw [VRel] at h ⊢
    obtain ⟨A,cap,rfl,hlc,h⟩:=h
    refine ⟨A,cap,rfl,hlc,?_⟩
    rcases h with h | h | ⟨b,hb,hA,c,hc,hcs,hm⟩
    · exact .inl h
    · exact .inr (.inl h)
    · obtain ⟨d,hd,hds⟩:=zuo hw hc
      refine .inr (.inr ⟨b,hb,hA,d,hd,by omega,?_⟩)
      by_cases e':i=n
      · subst e'
        rw [hg] at hm
        show match zp (Zc C.H i o') i with | .arr t l=>_ | .cells cs=>_ | _=>_
        rw [hgn]
        cases hs with
        | arr t l l' hlen=>exact ⟨hm.1,by have:=hm.2;omega⟩
        | cells cs cs' hlen=>simp only at hm ⊢;omega
        | mp=>exact hm.elim
        | bcells=>exact hm.elim
      · show match zp (Zc C.H n o') i with | .arr t l=>_ | .cells cs=>_ | _=>_
        rw [hgi i e']
        exact hm
  case map i =>
    rw [VRel] at h ⊢
    obtain ⟨b,hb,rfl,hl⟩:=h
    exact ⟨b,hb,rfl,lv i hl⟩
theorem zbC [BT] {F:Fr} {s:St} {tmps:Array Value} {stk:List (Array Value)} (hS:zB F C s tmps stk) (hl:zA C.H n) (hb:C.ρ n=some b) (hw:World.Turned C.w w' b c') :
    ∀k,C.R k→C.R k∧w'.heap[k]? = C.w.heap[k]? :=
  fun k hk=>⟨hk,hw.other k fun e=>hS.heap.ro n b hl hb (e ▸ hk)⟩
theorem qY [BT] {F:Fr} {s:St} {tmps:Array Value} {stk:List (Array Value)} (hS:zB F C s tmps stk) (hg:zp C.H n=o) (hb:C.ρ n=some b) (hs:ZR o o') (hw:World.Turned C.w w' b c')
    (ho:yj ⟨C.R,C.ρ,Zc C.H n o',w'⟩ o' (some b)):zB F ⟨C.R,C.ρ,Zc C.H n o',w'⟩ { s with H:=Zc s.H n o' } tmps stk:=by
  have hh:=hS.heap
  have hln:zA C.H n:=by unfold zA;rw [hg];exact hs.live.1
  have hn:n<C.H.length:=Z7 hln
  have hl:=zoz hg hs hw C.R
  have hR:=zbC hS hln hb hw
  have lv : ∀i,zA (Zc C.H n o') i→zA C.H i:=by
    intro i hi
    unfold zA at hi ⊢
    by_cases e:i=n
    · subst e;rw [hg];exact hs.live.1
    · rw [ZX (Ne.symm e)] at hi;exact hi
  refine ⟨by show Zc C.H n o'=Zc s.H n o';rw [hS.H],⟨?_,?_,?_,?_⟩,hS.env.mono hl hR,hS.stk.mono hl hR,⟨hw.os.trans hS.frame.os,hw.tape.trans hS.frame.tape,hw.output.trans hS.frame.output,?_,?_,hS.frame.r0,hS.frame.rN,?_⟩⟩
  · intro i
    show yj _ (zp (Zc C.H n o') i) _
    by_cases e:i=n
    · subst e
      rw [ym hn]
      show yj _ o' (C.ρ i)
      rw [hb]
      exact ho
    · rw [ZX (Ne.symm e)]
      by_cases hd:zp C.H i = .dead
      · rw [hd];trivial
      · exact (hh.obj i).mono hl hR fun k hk _=>hw.other k fun ek=>e (hh.inj i n b hd hln (ek ▸ hk) hb)
  · intro i j k hi hj hik hjk
    exact hh.inj i j k (lv i hi) (lv j hj) hik hjk
  · intro i k hi hik
    exact hh.ro i k (lv i hi) hik
  · intro k hk
    show k<w'.heap.size
    rw [hw.size]
    exact hh.rlt k hk
  · show _≤w'.heap.size
    rw [hw.size]
    exact hS.frame.size
  · intro k hk hno
    refine (hw.other k fun e => ?_).trans (hS.frame.keep k hk hno)
    subst e
    rcases hS.frame.own n k hln hb with h | h
    · exact hno h
    · omega
  · intro i k hi hik
    exact hS.frame.own i k (lv i hi) hik
end
theorem zHr (n:Nat) (K:Nat→Ans) : ∀l,zGV n K l=K n
  | []=>rfl
  | a::r=>by
    rw [zGV]
    cases h:Nat.beq n a with
    | true=>rw [cond_true,yw h]
    | false=>rw [cond_false,zHr n K r]
theorem za5 (n:Nat) (K:Nat→Ans):lit n K=K n:=zHr n K Zap
mutual
theorem yn : ∀(v:AV) (K:AV→Ans),Z4 v K=K v
  | .unk,_=>rfl
  | .bool _,_=>rfl
  | .int _ _,_=>rfl
  | .str _,_=>rfl
  | .nilp,_=>rfl
  | .ptr _ _,_=>by rw [Z4,za5]
  | .eptr _ _ _,_=>by rw [Z4,za5]
  | .rptr _ _ _,_=>rfl
  | .gh _,_=>rfl
  | .nils,_=>rfl
  | .own _,_=>by rw [Z4,za5]
  | .sub _ _ _ _,_=>by rw [Z4,za5]
  | .ro _ _,_=>rfl
  | .nilm,_=>rfl
  | .map _,_=>by rw [Z4,za5]
  | .nilf,_=>rfl
  | .nili,_=>rfl
  | .fn f a b,K=>by rw [Z4,YC a,YC b]
  | .ifc t v,K=>by rw [Z4,yn v]
  | .agg cs,K=>by rw [Z4,YC cs]
  | .tup vs,K=>by rw [Z4,YC vs]
theorem YC : ∀(l:List AV) (K:List AV→Ans),Yx l K=K l
  | [],_=>rfl
  | v::r,K=>by rw [Yx,yn v,YC r]
end
theorem zYc (o:Obj) (K:Obj→Ans):zs5 o K=K o:=by
  cases o with
  | cells cs=>rw [zs5,YC]
  | bcells cs=>rw [zs5,YC]
  | _=>rfl
theorem JF : ∀(l:List Obj) (K:List Obj→Ans),zci l K=K l
  | [],_=>rfl
  | o::r,K=>by rw [zci,zYc,JF r]
theorem zjO : ∀(l:zT) (K:zT→Ans),zlN l K=K l
  | [],_=>rfl
  | (d,v)::r,K=>by rw [zlN,yn,zjO r]
theorem zDh : ∀(l:List zT) (K:List zT→Ans),ztp l K=K l
  | [],_=>rfl
  | e::r,K=>by rw [ztp,zjO,zDh r]
theorem ZV (s:St) (K:St→Ans):yl s K=K s:=by
  obtain ⟨env,stk,H,blk⟩:=s
  rw [yl]
  cases blk <;> rw [z0B,zjO,zDh,JF]
theorem Y5 (s:St) (o:Obj) (K:Nat→St→Ans):qP s o K=K s.H.length { s with H:=s.H++[o] }:=by
  obtain ⟨env,stk,H,blk⟩:=s
  rw [qP,za5,JF]
theorem YV (s:St) (i:Nat) (o:Obj) (K:St→Ans):Wy s i o K=K { s with H:=Zc s.H i o }:=by
  obtain ⟨env,stk,H,blk⟩:=s
  rw [Wy,JF]
theorem zhW {w:World} {b:Nat} {c:Array Value} {e:TypeId} {fr:Nat×Nat} (h:w.heap[b]? = some (.cells c e fr)) (hf:qX fr c.size) {o:Nat} (ho:o<c.size):w.frozen? ⟨b,o,none⟩=false:=by
  simp only [World.frozen?,h]
  have:=hf o ho
  simp
  intro h1
  have : ¬o<fr.2:=fun h2=>this ⟨h1,h2⟩
  omega
theorem zfZ [BT] {C:Cx} {t:Nat} {i:TI} {d:TypeDesc} {info:TypeInfo} {z:Value} (hi:y7 P t i d info z) {b o:Nat} {c:Array Value} {e:TypeId} {fr:Nat×Nat} (hw:C.w.heap[b]? = some (.cells c e fr)) (hf:qX fr c.size)
    {u:Value} (hsz:u.cells.size=i.size) (h1 : ∀x ∈ u.cells.toList,x.oneCell'=true) (ho:o+u.cells.size≤c.size) :
    (Instr.storeAt t (.pointer (some ⟨b,o,none⟩)) u).run P C.w = .ok () (C.w.setCells b o u.cells.toList):=by
  have hst:=run_storeCells_cells (P:=P) b o u.cells.toList 0 C.w (fun j hj=>by
      rw [cell_blk (blkOf_cells hw)]
      simp only [Array.length_toList] at hj
      rw [Array.getElem?_eq_getElem (by omega)];rfl)
    (fun j hj=>zhW hw hf (by simp only [Array.length_toList] at hj;omega)) h1
  rw [Nat.add_zero] at hst
  simp [Instr.storeAt,Instr.sureAddr,storeVar,hi.run_sizeOf,hsz,hst]
theorem zbr {C:Cx} {n b:Nat} {o o':Obj} {w':World} {c':Array Value} (hg:zp C.H n=o) (hb:C.ρ n=some b) (hs:ZR o o') (hw:World.Turned C.w w' b c'):Ze C ⟨C.R,C.ρ,Zc C.H n o',w'⟩ (some [n]):=by
  have hln:zA C.H n:=by unfold zA;rw [hg];exact hs.live.1
  intro k hk hno
  have hkb:k≠b:=fun e=>hno n (List.mem_singleton.2 rfl) hln (e ▸ hb)
  refine ⟨hw.other k hkb,by show k<w'.heap.size;rw [hw.size];exact hk,fun i hl hi=>⟨?_,hi⟩⟩
  by_cases e:i=n
  · rw [e];exact hln
  · unfold zA at hl ⊢
    intro hd
    exact hl ((ZX (Ne.symm e)).trans hd)
def zWM:AV→Option (List Nat)
  | .ptr n _=>some [n]
  | .eptr n _ _=>some [n]
  | _=>none
theorem zN8 [BT] (hT:zN P T) {F:Fr} {C:Cx} {s:St} {tmps:Array Value} {stk:List (Array Value)} (hS:zB F C s tmps stk) {t:Nat} {p v:AV} {pv u:Value} (hp:VRel C p pv) (hv:VRel C v u) {K:St→Ans} {res:AV×List Obj}
    (h:store T s t p v K=some res) : ∃s' C' w',K s'=some res∧(Instr.storeAt t pv u).run P C.w = .ok () w'∧C'.w=w'∧zB F C' s' tmps stk∧s'.env=s.env∧s'.stk=s.stk∧s'.blk=s.blk∧Ze C C' (zWM p):=by
  unfold store at h
  replace h:=zr h;obtain ⟨i,hti,h⟩:=h
  obtain ⟨d,info,z,hi⟩:=hT t i hti
  simp only at h
  replace h:=zI h;obtain ⟨hc,h⟩:=h
  simp only [Bool.and_eq_true] at hc
  have hsz:=yw hc.1
  obtain ⟨hcv,hco⟩:=zfW hv hc.2
  have hul:u.cells.size=i.size:=by have:=hcv.length;simp only [Array.length_toList] at this;omega
  have hH:=hS.H
  have hh:=hS.heap
  cases p with
  | ptr n off =>
    simp only at h
    rw [VRel] at hp
    obtain ⟨b,hb,rfl,_⟩:=hp
    rw [← hH] at h
    split at h
    · rename_i cs hg
      replace h:=zr h;obtain ⟨cs',hcs',h⟩:=h
      rw [YV] at h
      obtain ⟨b',c,e,fr,hb',hw,hfr,hvs,hone⟩:=qH hh hg
      obtain rfl:b=b':=Option.some.inj (hb.symm.trans hb')
      obtain ⟨p1,p2,p3⟩:=qS hcs' hvs hcv
      simp only [Array.length_toList] at p1 p2
      obtain ⟨c',hc1,hc2⟩:=y5 b u.cells.toList off C.w c e fr hw (by simpa using p2)
      obtain ⟨r1,r2,r3,r4,r5⟩:=YN b u.cells.toList off C.w
      have hcsz:c'.size=c.size:=by
        rw [← Array.length_toList,hc2];simp;omega
      have htn:World.Turned C.w (C.w.setCells b off u.cells.toList) b c':=⟨r1,r2,r3,r4,r5,fun c0 e0 fr0 h0=>by
        rw [hw] at h0;cases h0;exact ⟨hc1,hcsz⟩⟩
      have hsh:ZR (.cells cs) (.cells cs') := .cells cs cs' p3
      have hln:zA C.H n:=by unfold zA;rw [hg];simp
      refine ⟨_,_,_,h,zfZ hi hw hfr hul hco p2,rfl,qY hS hg hb hsh htn ?_,rfl,rfl,rfl,zbr hg hb hsh htn⟩
      refine ⟨b,c',e,fr,rfl,hc1,by rw [hcsz];exact hfr,?_,?_⟩
      · rw [hc2]
        simp only [Array.length_toList]
        exact VRels.mono (zoz hg hsh htn C.R) (zbC hS hln hb htn) p1
      · intro x hx
        rw [hc2] at hx
        simp only [List.mem_append] at hx
        rcases hx with (hx | hx) | hx
        · exact hone x (List.mem_of_mem_take hx)
        · exact hco x hx
        · exact hone x (List.mem_of_mem_drop hx)
    · rename_i cs hg
      obtain ⟨h1off,h⟩:=zI h
      have h1off:=Nat.le_of_ble_eq_true h1off
      obtain ⟨o1,rfl⟩ : ∃o1,off=o1+1:=⟨off - 1,by omega⟩
      rw [show Nat.sub (o1+1) 1=o1 from rfl] at h
      replace h:=zr h;obtain ⟨cs',hcs',h⟩:=h
      rw [YV] at h
      obtain ⟨b',c,v0,hb',hw,⟨vs,hcv0,hvs⟩,hone,hv0⟩:=zda hh hg
      obtain rfl:b=b':=Option.some.inj (hb.symm.trans hb')
      obtain ⟨p1,p2,p3⟩:=qS hcs' hvs hcv
      have hcs0:c.size=vs.length+1:=by rw [← Array.length_toList,hcv0];rfl
      have p2':(o1+1)+u.cells.size≤c.size:=by simp only [Array.length_toList] at p2;omega
      obtain ⟨c',hc1,hc2⟩:=y5 b u.cells.toList (o1+1) C.w c BT.bld (0,0) hw (by simpa using p2')
      obtain ⟨r1,r2,r3,r4,r5⟩:=YN b u.cells.toList (o1+1) C.w
      have hcsz:c'.size=c.size:=by
        rw [← Array.length_toList,hc2];simp;omega
      have htn:World.Turned C.w (C.w.setCells b (o1+1) u.cells.toList) b c':=⟨r1,r2,r3,r4,r5,fun c0 e0 fr0 h0=>by
        rw [hw] at h0;cases h0;exact ⟨hc1,hcsz⟩⟩
      have hsh:ZR (.bcells cs) (.bcells cs') := .bcells cs cs'
      have hln:zA C.H n:=by unfold zA;rw [hg];simp
      refine ⟨_,_,_,h,zfZ hi hw (fun x _ hx=>by omega) hul hco p2',rfl,qY hS hg hb hsh htn ?_,rfl,rfl,rfl,zbr hg hb hsh htn⟩
      refine ⟨b,c',v0,rfl,hc1,⟨_,?_,VRels.mono (zoz hg hsh htn C.R) (zbC hS hln hb htn) p1⟩,?_,hv0⟩
      · rw [hc2,hcv0]
        simp only [List.take_succ_cons,List.cons_append,List.append_assoc]
        congr 3
        rw [show o1+1+u.cells.toList.length=(o1+u.cells.toList.length)+1 by omega,List.drop_succ_cons]
      · intro x hx
        rw [hc2] at hx
        simp only [List.mem_append] at hx
        rcases hx with (hx | hx) | hx
        · exact hone x (List.mem_of_mem_take hx)
        · exact hco x hx
        · exact hone x (List.mem_of_mem_drop hx)
    · cases h
  | eptr n idx off =>
    simp only at h
    rw [VRel] at hp
    obtain ⟨b,ty,l,hb,hg,rfl⟩:=hp
    rw [← hH,hg] at h
    simp only at h
    replace h:=zr h;obtain ⟨x,hx,h⟩:=h
    replace h:=zr h;obtain ⟨cs',hcs',h⟩:=h
    replace h:=zr h;obtain ⟨x',hx',h⟩:=h
    rw [YV] at h
    rcases zeB hh hg with ⟨hn,_⟩ | ⟨b',c,e,fr,hb',hw,hfr,hl,hel,hby⟩
    · rw [hn] at hb;cases hb
    · obtain rfl:b=b':=Option.some.inj (hb.symm.trans hb')
      obtain ⟨us,hd,hu⟩:=hel idx x hx
      obtain ⟨p1,p2,p3⟩:=qS hcs' hd.cells hcv
      have hdl:=hd.length
      have hidx:idx<l.length:=(List.getElem?_eq_some_iff.1 hx).1
      have hin:idx*ty.size+ty.size≤c.size:=by
        have:(idx+1)*ty.size≤l.length*ty.size:=Nat.mul_le_mul_right _ hidx
        rw [Nat.add_mul,Nat.one_mul] at this
        omega
      simp only [Array.length_toList] at p1 p2
      obtain ⟨c',hc1,hc2⟩:=y5 b u.cells.toList (idx*ty.size+off) C.w c e fr hw (by simp;omega)
      obtain ⟨r1,r2,r3,r4,r5⟩:=YN b u.cells.toList (idx*ty.size+off) C.w
      have hcsz:c'.size=c.size:=by
        rw [← Array.length_toList,hc2];simp;omega
      have htn:World.Turned C.w (C.w.setCells b (idx*ty.size+off) u.cells.toList) b c':=⟨r1,r2,r3,r4,r5,fun c0 e0 fr0 h0=>by
        rw [hw] at h0;cases h0;exact ⟨hc1,hcsz⟩⟩
      have hsh:ZR (.arr ty l) (.arr ty (l.set idx x')) := .arr ty l _ (by simp)
      have hln:zA C.H n:=by unfold zA;rw [hg];simp
      have hRR:=zbC hS hln hb htn
      refine ⟨_,_,_,h,zfZ hi hw hfr hul hco (by omega),rfl,qY hS hg hb hsh htn ?_,rfl,rfl,rfl,zbr hg hb hsh htn⟩
      refine .inr ⟨b,c',e,fr,rfl,hc1,by rw [hcsz];exact hfr,by rw [hcsz];simpa using hl,?_,hby⟩
      -- the elements
      have hcell : ∀q,c'[q]? = if q<idx*ty.size+off then c[q]? else if q<idx*ty.size+off+u.cells.size then u.cells[q - (idx*ty.size+off)]? else c[q]? := by
        intro q
        rw [← Array.getElem?_toList,hc2]
        split
        · rename_i hq
          rw [List.append_assoc,List.getElem?_append_left (by simp;omega),List.getElem?_take_of_lt hq,Array.getElem?_toList]
        · rename_i hq
          split
          · rename_i hq2
            rw [List.append_assoc,List.getElem?_append_right (by simp;omega),List.getElem?_append_left (by simp;omega)]
            simp only [List.length_take,Array.length_toList]
            rw [Nat.min_eq_left (by omega),Array.getElem?_toList]
          · rename_i hq2
            rw [List.getElem?_append_right (by simp;omega),List.getElem?_drop,Array.getElem?_toList]
            congr 1
            simp
            omega
      intro k y hk
      by_cases e:k=idx
      · subst e
        have hy:y=x':=by
          rw [List.getElem?_set_self hidx] at hk
          exact (Option.some.inj hk).symm
        subst hy
        have hdr:=zc4 hx' p1
        refine ⟨_,zJ.mono (fun k hk=>⟨hk,(hRR k hk).2⟩) hdr,fun j x hj => ?_⟩
        have hjl:=(List.getElem?_eq_some_iff.1 hj).1
        simp at hjl
        rw [hcell]
        rw [List.append_assoc] at hj
        by_cases hj1:j<off
        · rw [if_pos (by omega)]
          rw [List.getElem?_append_left (by simp;omega),List.getElem?_take_of_lt hj1] at hj
          exact hu j x hj
        · rw [if_neg (by omega)]
          rw [List.getElem?_append_right (by simp;omega)] at hj
          simp only [List.length_take] at hj
          rw [Nat.min_eq_left (by omega)] at hj
          by_cases hj2:j<off+u.cells.size
          · rw [if_pos (by omega)]
            rw [List.getElem?_append_left (by simp;omega),Array.getElem?_toList] at hj
            rw [← hj]
            congr 1
            omega
          · rw [if_neg (by omega)]
            rw [List.getElem?_append_right (by simp;omega),List.getElem?_drop] at hj
            refine hu j x ?_
            rw [← hj]
            congr 1
            simp
            omega
      · rw [List.getElem?_set_ne (Ne.symm e)] at hk
        obtain ⟨us',hd',hu'⟩:=hel k y hk
        refine ⟨us',zJ.mono (fun k hk=>⟨hk,(hRR k hk).2⟩) hd',fun j x hj => ?_⟩
        have hjl:=(List.getElem?_eq_some_iff.1 hj).1
        rw [hd'.length] at hjl
        rw [hcell]
        rcases Nat.lt_or_gt_of_ne e with hlt | hgt
        · have:(k+1)*ty.size≤idx*ty.size:=Nat.mul_le_mul_right _ hlt
          rw [Nat.add_mul,Nat.one_mul] at this
          rw [if_pos (by omega)]
          exact hu' j x hj
        · have:(idx+1)*ty.size≤k*ty.size:=Nat.mul_le_mul_right _ hgt
          rw [Nat.add_mul,Nat.one_mul] at this
          rw [if_neg (by omega),if_neg (by omega)]
          exact hu' j x hj
  | _=>cases h
end Go.AE
namespace Go.AE
variable {P:Program} {T:Tab}
theorem zez (g:AV→AV) : ∀l,(AV.mapRs g l).length=l.length
  | []=>rfl
  | a::r=>by rw [AV.mapRs,List.length_cons,zez g r,List.length_cons]
def AV.idOf:AV→Nat
  | .ptr i _=>i
  | .eptr i _ _=>i
  | .own i=>i
  | .sub i _ _ _=>i
  | .map i=>i
  | _=>0
theorem Wk {C C':Cx} {a:AV} {v:Value} (ha:a.isRef=true) (h:VRel C a v) (hρ:C'.ρ a.idOf=C.ρ a.idOf)
    (hg:match zp C.H a.idOf with
      | .dead=>True
      | .arr t l=>zp C'.H a.idOf = .arr t l
      | .cells cs => ∃cs',zp C'.H a.idOf = .cells cs'∧cs'.length=cs.length
      | .bcells _ => ∃cs',zp C'.H a.idOf = .bcells cs' | .btold _ => ∃cs',zp C'.H a.idOf = .btold cs' | .mp k w l=>zp C'.H a.idOf = .mp k w l)
    (hb : ∀b,zA C.H a.idOf→C.ρ a.idOf=some b→C'.w.heap[b]? = C.w.heap[b]?):VRel C' a v:=by
  have lv:zA C.H a.idOf→zA C'.H a.idOf:=by
    intro hl
    unfold zA at hl ⊢
    generalize zp C.H a.idOf=g at hg hl
    cases g with
    | dead=>exact absurd rfl hl
    | arr t l=>rw [hg];simp
    | cells cs=>obtain ⟨cs',h1,_⟩:=hg;rw [h1];simp
    | bcells cs=>obtain ⟨cs',h1⟩:=hg;rw [h1];simp
    | btold cs=>obtain ⟨cs',h1⟩:=hg;rw [h1];simp
    | mp k w l=>rw [hg];simp
  cases a <;> first | (cases ha;done) | skip
  case ptr i off =>
    simp only [AV.idOf] at *
    rw [VRel] at h ⊢
    obtain ⟨b,hb',rfl,hl⟩:=h
    exact ⟨b,hρ.trans hb',rfl,lv hl⟩
  case eptr i n off =>
    simp only [AV.idOf] at *
    rw [VRel] at h ⊢
    obtain ⟨b,t,l,hb',hgi,rfl⟩:=h
    rw [hgi] at hg
    exact ⟨b,t,l,hρ.trans hb',hg,rfl⟩
  case own i =>
    simp only [AV.idOf] at *
    rw [VRel] at h ⊢
    obtain ⟨t,l,hgi,h⟩:=h
    have hl:zA C.H i:=by unfold zA;rw [hgi];simp
    rw [hgi] at hg
    refine ⟨t,l,hg,?_⟩
    rcases h with ⟨hn,h⟩ | ⟨b,c,cap,hb',hc,h⟩
    · exact .inl ⟨hρ.trans hn,h⟩
    · exact .inr ⟨b,c,cap,hρ.trans hb',(wb (hb b hl hb')).trans hc,h⟩
  case sub i off len e =>
    simp only [AV.idOf] at *
    rw [VRel] at h ⊢
    obtain ⟨A,cap,rfl,hlc,h⟩:=h
    refine ⟨A,cap,rfl,hlc,?_⟩
    rcases h with h | h | ⟨b,hb',hA,c,hc,hcs,hm⟩
    · exact .inl h
    · exact .inr (.inl h)
    · have hl:zA C.H i:=by
        unfold zA
        intro hd
        rw [hd] at hm
        exact hm
      refine .inr (.inr ⟨b,hρ.trans hb',hA,c,(wb (hb b hl hb')).trans hc,hcs,?_⟩)
      generalize zp C.H i=g at hg hm
      cases g with
      | dead=>exact hm.elim
      | arr t l=>rw [hg];exact hm
      | cells cs=>obtain ⟨cs',h1,h2⟩:=hg;rw [h1];simp only at hm ⊢;omega
      | bcells cs=>exact hm.elim
      | btold cs=>exact hm.elim
      | mp k w l=>exact hm.elim
  case map i =>
    simp only [AV.idOf] at *
    rw [VRel] at h ⊢
    obtain ⟨b,hb',rfl,hl⟩:=h
    exact ⟨b,hρ.trans hb',rfl,lv hl⟩
theorem zhG (g:AV→AV) (o:Obj):match o with
      | .dead=>True
      | .arr t l=>o.mapR g = .arr t l
      | .cells cs => ∃cs',o.mapR g = .cells cs'∧cs'.length=cs.length
      | .bcells _ => ∃cs',o.mapR g = .bcells cs' | .btold _ => ∃cs',o.mapR g = .btold cs' | .mp k w l=>o.mapR g = .mp k w l:=by
  cases o with
  | dead=>trivial
  | arr t l=>rfl
  | cells cs=>exact ⟨_,rfl,zez g cs⟩
  | bcells cs=>exact ⟨_,rfl⟩
  | btold cs=>exact ⟨_,rfl⟩
  | mp k w l=>rfl
theorem zTn {i:Nat} {a:AV} (ha:a.isRef=true) (h:a.idOf=i):Zx i a = .unk:=by
  cases a <;> first | (cases ha;done) | skip
  all_goals (simp only [AV.idOf] at h;subst h;simp [Zx,Nat.beq_refl])
theorem zhi {i j:Nat} (h:i≠j):Nat.beq i j=false:=by
  cases hb:Nat.beq i j
  · rfl
  · exact absurd (yw hb) h
theorem zNf {i:Nat} {a:AV} (ha:a.isRef=true) (h:a.idOf≠i):Zx i a=a:=by
  have hb:Nat.beq i a.idOf=false:=zhi (Ne.symm h)
  cases a <;> first | (cases ha;done) | skip
  all_goals (simp only [AV.idOf] at hb;rw [Zx,hb];rfl)
theorem zEP {i:Nat} {t:Ty} {l:List t.T} {a:AV} (ha:a.isRef=true) (h:a.idOf≠i):Zo i t l a=a:=by
  have hb:Nat.beq i a.idOf=false:=zhi (Ne.symm h)
  cases a <;> first | (cases ha;done) | skip
  all_goals (simp only [AV.idOf] at hb;rw [Zo,hb];rfl)
def Cx.regrow (C:Cx) (i:Nat) (o:Obj) (r:Option Nat) (w':World):Cx:=⟨C.R,fun j=>if j=i then r else C.ρ j,Zc (zV (Zx i) C.H) i o,w'⟩
theorem zey [BT] {F:Fr} {C:Cx} {s:St} {tmps:Array Value} {stk:List (Array Value)} (hS:zB F C s tmps stk) {i:Nat} {t:Ty} {l:List t.T} (hg:zp C.H i = .arr t l) {o:Obj} {r:Option Nat} {w':World}
    (hos:w'.os=C.w.os) (htape:w'.tape=C.w.tape) (hout:w'.output=C.w.output) (hsz:C.w.heap.size≤w'.heap.size)
    (hother : ∀k,k<C.w.heap.size→C.ρ i≠some k→w'.heap[k]? = C.w.heap[k]?)
    (hr : ∀b,r=some b→C.ρ i=some b∨C.w.heap.size≤b)
    (ho:yj (C.regrow i o r w') o r):zB F (C.regrow i o r w') { s.mapR (Zx i) with H:=Zc (zV (Zx i) s.H) i o } tmps stk:=by
  have hh:=hS.heap
  have hli:zA C.H i:=by unfold zA;rw [hg];simp
  have hi:=Z7 hli
  have hi':i<(zV (Zx i) C.H).length:=by rw [yO];exact hi
  have hgj : ∀j,j≠i→zp (Zc (zV (Zx i) C.H) i o) j=(zp C.H j).mapR (Zx i):=fun j hj=>by
    rw [ZX (Ne.symm hj),YF]
  have hblk : ∀j b,j≠i→zA C.H j→C.ρ j=some b→w'.heap[b]? = C.w.heap[b]? := fun j b hj hl hb =>
    hother b (hh.blk_lt hl hb) fun e=>hj (hh.inj j i b hl hli hb e)
  have hR : ∀b,C.R b→(C.regrow i o r w').R b∧(C.regrow i o r w').w.heap[b]? = C.w.heap[b]? := fun b hb =>
    ⟨hb,hother b (hh.rlt b hb) fun e=>hh.ro i b hli e hb⟩
  have hρ : ∀j,j≠i→(C.regrow i o r w').ρ j=C.ρ j:=fun j hj=>by simp [Cx.regrow,hj]
  have hl : ∀a v,a.isRef=true→(∀i ∈ a.refs,True)→VRel C a v→VRel (C.regrow i o r w') (Zx i a) v:=by
    intro a v ha _ h
    by_cases e:a.idOf=i
    · rw [zTn ha e,VRel];trivial
    · rw [zNf ha e]
      refine Wk ha h (hρ _ e) ?_ fun b hlv hb=>hblk _ b e hlv hb
      show match zp C.H a.idOf with | .dead=>True | .arr t l=>zp (Zc (zV (Zx i) C.H) i o) a.idOf = .arr t l | .cells cs => ∃cs',zp (Zc (zV (Zx i) C.H) i o) a.idOf = .cells cs'∧cs'.length=cs.length | .bcells _ => ∃cs',zp (Zc (zV (Zx i) C.H) i o) a.idOf = .bcells cs' | .btold _ => ∃cs',zp (Zc (zV (Zx i) C.H) i o) a.idOf = .btold cs' | .mp k w l=>zp (Zc (zV (Zx i) C.H) i o) a.idOf = .mp k w l
      rw [hgj _ e]
      exact zhG _ _
  have hlive : ∀j,j≠i→zA (Zc (zV (Zx i) C.H) i o) j→zA C.H j:=by
    intro j hj h
    unfold zA at h
    rw [hgj j hj] at h
    unfold zA
    intro e
    rw [e] at h
    exact h rfl
  have hown : ∀j b,zA (Zc (zV (Zx i) C.H) i o) j→(C.regrow i o r w').ρ j=some b→j=i∧r=some b∨j≠i∧zA C.H j∧C.ρ j=some b:=by
    intro j b hj hb
    by_cases e:j=i
    · subst e
      exact .inl ⟨rfl,by simpa [Cx.regrow] using hb⟩
    · rw [hρ j e] at hb
      exact .inr ⟨e,hlive j e hj,hb⟩
  refine ⟨?_,⟨?_,?_,?_,?_⟩,Zq.mapR hl hR hS.env (fun _ _=>trivial),ZG.mapR hl hR hS.stk (fun _ _=>trivial),⟨hos.trans hS.frame.os,htape.trans hS.frame.tape,hout.trans hS.frame.output,Nat.le_trans hS.frame.size hsz,?_,hS.frame.r0,hS.frame.rN,?_⟩⟩
  · show Zc (zV (Zx i) C.H) i o=Zc (zV (Zx i) s.H) i o
    rw [hS.H]
  · intro j
    show yj _ (zp (Zc (zV (Zx i) C.H) i o) j) _
    by_cases e:j=i
    · subst e
      rw [ym hi']
      have:(C.regrow j o r w').ρ j=r:=by simp [Cx.regrow]
      rw [this]
      exact ho
    · rw [hgj j e,hρ j e]
      by_cases hd:zp C.H j = .dead
      · rw [hd];trivial
      · exact yj.mapR (p:=fun _=>True) hl hR (hh.obj j) (fun b hb _=>hblk j b e hd hb) (fun _ _=>trivial)
  · intro j k b hj hk hjb hkb
    rcases hown j b hj hjb with ⟨rfl,h1⟩ | ⟨e1,l1,h1⟩
    · rcases hown k b hk hkb with ⟨rfl,_⟩ | ⟨e2,l2,h2⟩
      · rfl
      · rcases hr b h1 with h3 | h3
        · exact hh.inj j k b hli l2 h3 h2
        · have:=hh.blk_lt l2 h2;omega
    · rcases hown k b hk hkb with ⟨rfl,h2⟩ | ⟨e2,l2,h2⟩
      · rcases hr b h2 with h3 | h3
        · exact hh.inj j k b l1 hli h1 h3
        · have:=hh.blk_lt l1 h1;omega
      · exact hh.inj j k b l1 l2 h1 h2
  · intro j b hj hb hRb
    rcases hown j b hj hb with ⟨rfl,h1⟩ | ⟨e1,l1,h1⟩
    · rcases hr b h1 with h3 | h3
      · exact hh.ro j b hli h3 hRb
      · have:=hh.rlt b hRb;omega
    · exact hh.ro j b l1 h1 hRb
  · intro b hb
    exact Nat.lt_of_lt_of_le (hh.rlt b hb) hsz
  · intro b hb hno
    refine (hother b (Nat.lt_of_lt_of_le hb hS.frame.size) fun e => ?_).trans (hS.frame.keep b hb hno)
    rcases hS.frame.own i b hli e with h | h
    · exact hno h
    · omega
  · intro j b hj hb
    rcases hown j b hj hb with ⟨rfl,h1⟩ | ⟨e1,l1,h1⟩
    · rcases hr b h1 with h3 | h3
      · exact hS.frame.own j b hli h3
      · exact .inr (Nat.le_trans hS.frame.size h3)
    · exact hS.frame.own j b l1 h1
theorem zfF {C:Cx} {i:Nat} {t:Ty} {l:List t.T} (hg:zp C.H i = .arr t l) {o:Obj} {r:Option Nat} {w':World} (hsz:C.w.heap.size≤w'.heap.size)
    (hother : ∀k,k<C.w.heap.size→C.ρ i≠some k→w'.heap[k]? = C.w.heap[k]?)
    (hr : ∀b,r=some b→C.ρ i=some b∨C.w.heap.size≤b):Ze C (C.regrow i o r w') (some [i]):=by
  have hli:zA C.H i:=by unfold zA;rw [hg];simp
  intro b hb hno
  have hne:=hno i (List.mem_singleton.2 rfl) hli
  refine ⟨hother b hb hne,Nat.lt_of_lt_of_le hb hsz,fun j hl hj => ?_⟩
  have hj:(if j=i then r else C.ρ j)=some b:=hj
  by_cases e:j=i
  · rw [if_pos e] at hj
    rcases hr b hj with h | h
    · exact absurd h hne
    · omega
  · rw [if_neg e] at hj
    refine ⟨?_,hj⟩
    unfold zA at hl ⊢
    intro hd
    apply hl
    show zp (Zc (zV (Zx i) C.H) i o) j = .dead
    rw [ZX (Ne.symm e),YF,hd]
    rfl
def Cx.freeze (C:Cx) (i:Nat) (t:Ty) (l:List t.T):Cx:=⟨fun b=>C.R b∨C.ρ i=some b,C.ρ,Zc (zV (Zo i t l) C.H) i .dead,C.w⟩
theorem zwG [BT] {C:Cx} (hh:zY C) {i:Nat} {t:Ty} {l:List t.T} (hg:zp C.H i = .arr t l) {R':Nat→Prop} (hR' : ∀b,C.R b∨C.ρ i=some b→R' b) {b:Nat} (hb:C.ρ i=some b) :
    ∀k x,l[k]? = some x → ∃us,zJ R' C.w t x us ∧ ∀j u,us[j]? = some u→C.w.cell? ⟨b,k*t.size+j,none⟩=some u:=by
  intro k x hk
  rcases zbv hh hg with ⟨hn,_⟩ | ⟨b',c,e,fr,hb',hw,hfr,hl,hel⟩
  · rw [hn] at hb;cases hb
  · obtain rfl:b=b':=Option.some.inj (hb.symm.trans hb')
    obtain ⟨us,hd,hu⟩:=hel k x hk
    exact ⟨us,zJ.mono (fun k hk=>⟨hR' k (.inl hk),rfl⟩) hd,fun j u hj=>by rw [cell_blk (blkOf_cells hw)];exact hu j u hj⟩
theorem zh4 [BT] {C:Cx} (hh:zY C) {i:Nat} {t:Ty} {l:List t.T} (hg:zp C.H i = .arr t l) {C':Cx} (hw:C'.w=C.w) (hR' : ∀b,C.R b∨C.ρ i=some b→C'.R b)
    {a:AV} {v:Value} (ha:a.isRef=true) (e:a.idOf=i) (h:VRel C a v):VRel C' (Zo i t l a) v:=by
  cases a <;> first | (cases ha;done) | skip
  all_goals simp only [AV.idOf] at e;subst e
  case ptr=>rw [Zo,Nat.beq_refl,cond_true,VRel];trivial
  case eptr=>rw [Zo,Nat.beq_refl,cond_true,VRel];trivial
  case map=>rw [Zo,Nat.beq_refl,cond_true,VRel];trivial
  case own j =>
    rw [Zo,Nat.beq_refl,cond_true,VRel,zJ]
    rw [VRel] at h
    obtain ⟨t',l',hg',h⟩:=h
    rw [hg] at hg'
    cases hg'
    rcases h with ⟨_,rfl,rfl⟩ | ⟨b,c,cap,hb,hc,hcap,hcs,rfl⟩
    · exact ⟨none,0,rfl,Nat.le_refl _,.inl rfl⟩
    · refine ⟨_,cap,rfl,hcap,.inr ⟨b,0,rfl,hR' b (.inr hb),fun k x hk => ?_⟩⟩
      obtain ⟨us,hd,hu⟩:=zwG hh hg hR' hb k x hk
      exact ⟨us,by rw [hw];exact hd,fun j u hj=>by rw [hw,Nat.zero_add];exact hu j u hj⟩
  case sub j off len es =>
    rw [Zo,Nat.beq_refl,cond_true,VRel,zJ]
    rw [VRel] at h
    obtain ⟨A,cap,rfl,hlc,h⟩:=h
    have hnil:len=0→(l.drop off).take len=[]:=fun e=>by rw [e];simp
    rcases h with ⟨h0,_⟩ | ⟨h0,_⟩ | ⟨b,hb,rfl,c,hc,hcs,hm⟩
    · exact ⟨A,cap,by rw [hnil h0,h0];rfl,by rw [hnil h0];simp,.inl (hnil h0)⟩
    · exact ⟨A,cap,by rw [hnil h0,h0];rfl,by rw [hnil h0];simp,.inl (hnil h0)⟩
    · rw [hg] at hm
      obtain ⟨rfl,hle⟩:=hm
      have hlen:((l.drop off).take len).length=len:=by simp;omega
      refine ⟨_,cap,by rw [hlen],by rw [hlen];exact hlc,.inr ⟨b,off*t.size,rfl,hR' b (.inr hb),fun k x hk => ?_⟩⟩
      rw [List.getElem?_take] at hk
      split at hk
      · rw [List.getElem?_drop] at hk
        obtain ⟨us,hd,hu⟩:=zwG hh hg hR' hb _ x hk
        refine ⟨us,by rw [hw];exact hd,fun j u hj => ?_⟩
        rw [hw,← hu j u hj,Nat.add_mul]
        congr 2
        omega
      · cases hk
theorem zLA [BT] {F:Fr} {C:Cx} {s:St} {tmps:Array Value} {stk:List (Array Value)} (hS:zB F C s tmps stk) {i:Nat} {t:Ty} {l:List t.T} (hg:zp C.H i = .arr t l) :
    zB F (C.freeze i t l) { s.mapR (Zo i t l) with H:=Zc (zV (Zo i t l) s.H) i .dead } tmps stk ∧
    (∀b,C.R b→(C.freeze i t l).R b∧(C.freeze i t l).w.heap[b]? = C.w.heap[b]?) ∧
    (∀a v,a.isRef=true→(∀i ∈ a.refs,True)→VRel C a v→VRel (C.freeze i t l) (Zo i t l a) v):=by
  have hh:=hS.heap
  have hli:zA C.H i:=by unfold zA;rw [hg];simp
  have hi:=Z7 hli
  have hi':i<(zV (Zo i t l) C.H).length:=by rw [yO];exact hi
  have hgj : ∀j,j≠i→zp (Zc (zV (Zo i t l) C.H) i .dead) j=(zp C.H j).mapR (Zo i t l):=fun j hj=>by
    rw [ZX (Ne.symm hj),YF]
  have hR : ∀b,C.R b→(C.freeze i t l).R b∧(C.freeze i t l).w.heap[b]? = C.w.heap[b]? := fun b hb=>⟨.inl hb,rfl⟩
  have hl : ∀a v,a.isRef=true→(∀i ∈ a.refs,True)→VRel C a v→VRel (C.freeze i t l) (Zo i t l a) v:=by
    intro a v ha _ h
    by_cases e:a.idOf=i
    · exact zh4 (C':=C.freeze i t l) hh hg rfl (fun b hb=>hb) ha e h
    · rw [zEP ha e]
      refine Wk ha h rfl ?_ fun b hlv hb=>rfl
      show match zp C.H a.idOf with | .dead=>True | .arr t' l'=>zp (Zc (zV (Zo i t l) C.H) i .dead) a.idOf = .arr t' l' | .cells cs => ∃cs',zp (Zc (zV (Zo i t l) C.H) i .dead) a.idOf = .cells cs'∧cs'.length=cs.length | .bcells _ => ∃cs',zp (Zc (zV (Zo i t l) C.H) i .dead) a.idOf = .bcells cs' | .btold _ => ∃cs',zp (Zc (zV (Zo i t l) C.H) i .dead) a.idOf = .btold cs' | .mp k w l'=>zp (Zc (zV (Zo i t l) C.H) i .dead) a.idOf = .mp k w l'
      rw [hgj _ e]
      exact zhG _ _
  have hlive : ∀j,zA (Zc (zV (Zo i t l) C.H) i .dead) j→j≠i∧zA C.H j:=by
    intro j h
    have hji:j≠i:=by
      intro e
      subst e
      unfold zA at h
      rw [ym hi'] at h
      exact h rfl
    refine ⟨hji,?_⟩
    unfold zA at h
    rw [hgj j hji] at h
    unfold zA
    intro e
    rw [e] at h
    exact h rfl
  refine ⟨⟨?_,⟨?_,?_,?_,?_⟩,Zq.mapR hl hR hS.env (fun _ _=>trivial),ZG.mapR hl hR hS.stk (fun _ _=>trivial),⟨hS.frame.os,hS.frame.tape,hS.frame.output,hS.frame.size,hS.frame.keep,?_,?_,?_⟩⟩,hR,hl⟩
  · show Zc (zV (Zo i t l) C.H) i .dead=Zc (zV (Zo i t l) s.H) i .dead
    rw [hS.H]
  · intro j
    show yj _ (zp (Zc (zV (Zo i t l) C.H) i .dead) j) (C.ρ j)
    by_cases e:j=i
    · subst e
      rw [ym hi']
      trivial
    · rw [hgj j e]
      exact yj.mapR (p:=fun _=>True) hl hR (hh.obj j) (fun b hb _=>rfl) (fun _ _=>trivial)
  · intro j k b hj hk hjb hkb
    exact hh.inj j k b (hlive j hj).2 (hlive k hk).2 hjb hkb
  · intro j b hj hb hRb
    rcases hRb with h | h
    · exact hh.ro j b (hlive j hj).2 hb h
    · exact (hlive j hj).1 (hh.inj j i b (hlive j hj).2 hli hb h)
  · intro b hb
    rcases hb with h | h
    · exact hh.rlt b h
    · exact hh.blk_lt hli h
  · intro b hb;exact .inl (hS.frame.r0 b hb)
  · intro b hb
    rcases hb with h | h
    · exact hS.frame.rN b h
    · rcases hS.frame.own i b hli h with h' | h'
      · exact .inr (.inl h')
      · exact .inr (.inr h')
  · intro j b hj hb
    exact hS.frame.own j b (hlive j hj).2 hb
end Go.AE
namespace Go.AE
theorem zcQ {l:List Nat} {n:Nat} (h:YM l n=false):n ∉ l:=by
  induction l with
  | nil=>simp
  | cons a r ih =>
    rw [YM] at h
    cases hb:Nat.beq a n with
    | true=>rw [hb] at h;cases h
    | false =>
      rw [hb] at h
      intro hm
      cases hm with
      | head=>rw [Nat.beq_refl] at hb;cases hb
      | tail _ hm=>exact ih h hm
theorem zYB {H:List Obj} {o:Obj} (ho:o ∈ H) {i:Nat} (hi:i ∈ o.refs):i ∈ zpO H:=by
  induction H with
  | nil=>cases ho
  | cons x r ih =>
    rw [zpO]
    cases ho with
    | head=>exact List.mem_append.2 (.inl hi)
    | tail _ hm=>exact List.mem_append.2 (.inr (ih hm))
theorem z5L {H:List Obj} {i:Nat} (h:zp H i ≠ .dead):zp H i ∈ H:=by
  have hi:=Z7 h
  rw [ZJ,List.getElem?_eq_getElem hi]
  exact List.getElem_mem hi
theorem zd3 {a:AV} (ha:a.isRef=true):a.refs=[a.idOf]:=by
  cases a <;> first | (cases ha;done) | rfl
theorem z1R [BT] {C:Cx} (hh:zY C) {m:Nat} (hlen:C.H.length=m+1) (hno:m ∉ zpO (C.H.take m)) :
    zY { C with H:=C.H.take m }∧(∀F,zK F C→zK F { C with H:=C.H.take m }) ∧
    (∀a v,a.isRef=true→(∀i ∈ a.refs,i≠m)→VRel C a v→VRel { C with H:=C.H.take m } a v):=by
  have hg : ∀i,i<m→zp (C.H.take m) i=zp C.H i:=fun i hi=>zYd hi
  have hd : ∀i,m≤i→zp (C.H.take m) i = .dead:=fun i hi=>zfo (by simp;omega)
  have hl : ∀a v,a.isRef=true→(∀i ∈ a.refs,i≠m)→VRel C a v→VRel { C with H:=C.H.take m } a v:=by
    intro a v ha hne h
    have hne':a.idOf≠m:=hne a.idOf (by rw [zd3 ha];simp)
    refine Wk ha h rfl ?_ (fun _ _ _=>rfl)
    show match zp C.H a.idOf with | .dead=>True | .arr t l=>zp (C.H.take m) a.idOf = .arr t l | .cells cs => ∃cs',zp (C.H.take m) a.idOf = .cells cs'∧cs'.length=cs.length | .bcells _ => ∃cs',zp (C.H.take m) a.idOf = .bcells cs' | .btold _ => ∃cs',zp (C.H.take m) a.idOf = .btold cs' | .mp k w l=>zp (C.H.take m) a.idOf = .mp k w l
    by_cases hlv:zp C.H a.idOf = .dead
    · rw [hlv];trivial
    · have:=Z7 hlv
      have hlt:a.idOf<m:=by omega
      rw [hg _ hlt]
      cases hx:zp C.H a.idOf with
      | dead=>trivial
      | arr t l=>simp
      | cells cs=>exact ⟨cs,rfl,rfl⟩
      | bcells cs=>exact ⟨cs,rfl⟩
      | btold cs=>exact ⟨cs,rfl⟩
      | mp=>simp
  have hR : ∀b,C.R b→C.R b∧C.w.heap[b]? = C.w.heap[b]? := fun b hb=>⟨hb,rfl⟩
  have lv : ∀i,zA (C.H.take m) i→i<m∧zA C.H i:=by
    intro i hi
    have hlt:i<m:=by
      rcases Nat.lt_or_ge i m with h | h
      · exact h
      · exact absurd (hd i h) hi
    refine ⟨hlt,?_⟩
    unfold zA at hi ⊢
    rwa [hg i hlt] at hi
  refine ⟨⟨?_,?_,?_,hh.rlt⟩,?_,hl⟩
  · intro i
    show yj _ (zp (C.H.take m) i) (C.ρ i)
    by_cases hi:i<m
    · rw [hg i hi]
      by_cases hx:zp C.H i = .dead
      · rw [hx];trivial
      · have:=yj.mapR (C':={ C with H:=C.H.take m }) (p:=fun j=>j≠m) (g:=fun x=>x) hl hR (hh.obj i) (fun _ _ _=>rfl) (fun j hj e=>by
          subst e
          refine hno (zYB (o:=zp C.H i) ?_ hj)
          rw [← hg i hi]
          exact z5L (by rw [hg i hi];exact hx))
        rwa [Obj.mapR_id] at this
    · rw [hd i (by omega)];trivial
  · intro i j b hi hj
    exact hh.inj i j b (lv i hi).2 (lv j hj).2
  · intro i b hi
    exact hh.ro i b (lv i hi).2
  · intro F hF
    exact ⟨hF.os,hF.tape,hF.output,hF.size,hF.keep,hF.r0,hF.rN,fun i b hi=>hF.own i b (lv i hi).2⟩
theorem zI4 [BT] (roots:List Nat) : ∀(n:Nat) (C:Cx),zY C →
    zY { C with H:=zbe roots n C.H }∧(∀F,zK F C→zK F { C with H:=zbe roots n C.H }) ∧
    (∀a v,a.isRef=true→(∀i ∈ a.refs,i ∈ roots)→VRel C a v→VRel { C with H:=zbe roots n C.H } a v)
  | 0,C,hh=>by
    rw [zbe]
    exact ⟨hh,fun F hF=>hF,fun a v _ _ h=>h⟩
  | n+1,C,hh=>by
    rw [zbe]
    split
    · exact ⟨hh,fun F hF=>hF,fun a v _ _ h=>h⟩
    · rename_i m hlen
      cases hb:YM (roots++zpO (C.H.take m)) m with
      | true=>exact ⟨hh,fun F hF=>hF,fun a v _ _ h=>h⟩
      | false =>
        rw [cond_false]
        have hm:=zcQ hb
        rw [List.mem_append,not_or] at hm
        obtain ⟨h1,h2,h3⟩:=z1R hh hlen hm.2
        obtain ⟨g1,g2,g3⟩:=zI4 roots n { C with H:=C.H.take m } h1
        exact ⟨g1,fun F hF=>g2 F (h2 F hF),fun a v ha hi h=>g3 a v ha hi (h3 a v ha (fun i hii e=>hm.1 (e ▸ hi i hii)) h)⟩
theorem zU4 (env:zT) (keep:List Nat) (t:Nat):Zm (YH env keep) t=if t ∈ keep then Zm env t else .unk:=by
  induction keep with
  | nil=>rw [YH,zbs,if_neg (by simp)]
  | cons d r ih =>
    rw [YH,Zu,ih]
    by_cases e:d=t
    · subst e;simp
    · rw [if_neg e]
      by_cases h:t ∈ r
      · rw [if_pos h,if_pos (List.mem_cons_of_mem _ h)]
      · rw [if_neg h,if_neg]
        intro hm
        cases hm with
        | head=>exact e rfl
        | tail _ hm=>exact h hm
theorem Zq.keep {C:Cx} {env:zT} {tmps:Array Value} (h:Zq C env tmps) (keep:List Nat):Zq C (YH env keep) tmps:=by
  intro t
  rw [zU4]
  split
  · exact h t
  · rw [VRel];trivial
theorem Y6 [BT] {F:Fr} {C:Cx} {s:St} {tmps:Array Value} {stk:List (Array Value)} (hS:zB F C s tmps stk) (keep:List Nat) :
    ∃C',C'.w=C.w∧zB F C' (s.head keep) tmps stk:=by
  obtain ⟨h1,h2,h3⟩:=zI4 (yU (YH s.env keep)++Ye s.stk) s.H.length C hS.heap
  have hR : ∀b,C.R b→C.R b∧C.w.heap[b]? = C.w.heap[b]? := fun b hb=>⟨hb,rfl⟩
  refine ⟨{ C with H:=zbe (yU (YH s.env keep)++Ye s.stk) s.H.length C.H },rfl,⟨?_,h1,?_,?_,h2 F hS.frame⟩⟩
  · show zbe _ _ C.H=zbe _ _ s.H
    rw [hS.H]
  · have:=Zq.mapR (g:=fun x=>x) (p:=fun i=>i ∈ yU (YH s.env keep)++Ye s.stk) h3 hR (hS.env.keep keep) (fun i hi=>List.mem_append.2 (.inl hi))
    rwa [zcZ] at this
  · have:=ZG.mapR (g:=fun x=>x) (p:=fun i=>i ∈ yU (YH s.env keep)++Ye s.stk) h3 hR hS.stk (fun i hi=>List.mem_append.2 (.inr hi))
    rwa [zml] at this
end Go.AE
