/- The abstract evaluator AE, proved: part 1. -/
import Derived.Calls
import Derived.Still
import Derived.KernelRfl
import Derived.StillTail
import Derived.Deep.Quiet
import Derived.Below
import Derived.MapKept
import Derived.Deep.MidRow
import Derived.ChangeKeysEq
import Derived.Laws.StructEq
set_option linter.unusedVariables false
set_option linter.unusedSimpArgs false
namespace Go.AE
class BT where
  byte:Nat
  bld:Nat
  meths:List (Nat×String×Nat)
def zg7:List (Nat×String×Nat)→Nat→String→Option Nat
  | [],_,_=>none
  | (t,n,g)::r,t',n'=>cond (Nat.beq t t'&&n == n') (some g) (zg7 r t' n')
inductive Ty where
  | int (k:IntKind)
  | bool
  | str
  | unit
  | st (fs:Ty)
  | pair (a b:Ty)
  | list (e:Ty)
  deriving DecidableEq,Inhabited
@[reducible] def Ty.T:Ty→Type
  | .int _=>Int
  | .bool=>Bool
  | .str=>List UInt8
  | .unit=>Unit
  | .st f=>f.T
  | .pair a b=>a.T×b.T
  | .list e=>List e.T
def Ty.size:Ty→Nat
  | .unit=>0
  | .st f=>f.size
  | .pair a b=>a.size+b.size
  | _=>1
def Ty.flat:Ty→Bool      -- no slice inside
  | .st f=>f.flat
  | .pair a b=>a.flat&&b.flat
  | .list _=>false
  | _=>true
inductive AV where
  | unk
  | bool (b:Bool)
  | int (k:IntKind) (n:Int)
  | str (s:List UInt8)
  | nilp
  | ptr (i off:Nat)
  | eptr (i idx off:Nat)
  | rptr (t:Ty) (x:t.T) (off:Nat)
  | nils
  | own (i:Nat)
  | sub (i off len esz:Nat)
  | ro (t:Ty) (l:List t.T)
  | nilm
  | map (i:Nat)
  | fn (f:Fn) (first cap:List AV)
  | nilf
  | nili
  | ifc (t:Nat) (v:AV)
  | agg (cs:List AV)
  | tup (vs:List AV)
  | gh (l:List Int)
def cells:(t:Ty)→t.T→List AV
  | .int k,n=>[.int k n]
  | .bool,b=>[.bool b]
  | .str,s=>[.str s]
  | .unit,_=>[]
  | .st f,x=>cells f x
  | .pair a b,x=>cells a x.1++cells b x.2
  | .list e,l=>[.ro e l]
def enc:(t:Ty)→t.T→AV
  | .int k,n => .int k n
  | .bool,b => .bool b
  | .str,s => .str s
  | .unit,_ => .agg []
  | .st f,x => .agg (cells f x)
  | .pair a b,x => .agg (cells a x.1++cells b x.2)
  | .list e,l => .ro e l
def yw (e e':Ty) (l:List e'.T):Option (List e.T) :=
  match decEq e' e with
  | isTrue h=>some (h ▸ l)
  | isFalse _=>none
def dec:(t:Ty)→List AV→Option (t.T×List AV)
  | .int k,cs=>match cs with
    | .int k' n::r=>match decEq k' k with | isTrue _=>some (n,r) | isFalse _=>none
    | _=>none
  | .bool,cs=>match cs with
    | .bool b::r=>some (b,r)
    | _=>none
  | .str,cs=>match cs with
    | .str s::r=>some (s,r)
    | _=>none
  | .unit,r=>some ((),r)
  | .st f,r=>dec f r
  | .pair a b,r=>match dec a r with
    | some (x,r')=>match dec b r' with
      | some (y,r'')=>some ((x,y),r'')
      | none=>none
    | none=>none
  | .list e,cs=>match cs with
    | .ro e' l::r=>match yw e e' l with | some l'=>some (l',r) | none=>none
    | .nils::r=>some ([],r)
    | _=>none
def Q2 (t:Ty) (cs:List AV):Option t.T :=
  match dec t cs with
  | some (x,[])=>some x
  | _=>none
def AV.cellsOf:AV→List AV
  | .agg cs=>cs
  | v=>[v]
def AV.cellOk:AV→Bool
  | .unk=>false
  | .agg _=>false
  | .tup _=>false
  | .gh _=>false
  | .eptr .. => true
  | _=>true
inductive Obj where
  | dead
  | cells (cs:List AV)
  | arr (t:Ty) (l:List t.T)
  | bcells (cs:List AV)
  | btold (s:List Int)
  | mp (k:IntKind) (v:Ty) (l:List (Int×v.T))
def Ty.sc:Ty→Bool
  | .int _=>true
  | .bool=>true
  | .str=>true
  | _=>false
def j8 {α:Type} (n:Int) (z:α):List (Int×α)→α
  | []=>z
  | (m,x)::r=>cond (n == m) x (j8 n z r)
def zd5 {α:Type} (n:Int):List (Int×α)→Bool
  | []=>false
  | (m,_)::r=>cond (n == m) true (zd5 n r)
def zci {α:Type} (n:Int) (x:α):List (Int×α)→List (Int×α)
  | []=>[(n,x)]
  | (m,y)::r=>cond (n == m) ((n,x)::r) ((m,y)::zci n x r)
def zyy (k:IntKind) (e:Ty) (k':IntKind) (e':Ty) (l:List (Int×e'.T)):Option (List (Int×e.T)) :=
  match decEq k' k with
  | isTrue _=>match decEq e' e with
    | isTrue h=>some (h ▸ l)
    | isFalse _=>none
  | isFalse _=>none
inductive TK where
  | sc                              -- one cell
  | ptr (e:Nat)
  | slice (e:Nat)
  | array (n e:Nat)
  | struct (fs:List (Nat×Nat))  -- each field's type and offset
  | map (k e:Nat)
structure TI where
  k:TK
  size:Nat
  bytes:Nat
  zero:List AV
  ty:Option Ty
abbrev Tab:=List (Nat×TI)
def Tab.get:Tab→Nat→Option TI
  | [],_=>none
  | (n,i)::r,t=>cond (Nat.beq n t) (some i) (Tab.get r t)
def TI.isAgg (i:TI):Bool :=
  match i.k with
  | .struct _=>true
  | .array _ _=>true
  | _=>false
abbrev zQ:=List (Nat×AV)
def Zd:zQ→Nat→AV
  | [],_ => .unk
  | (d,v)::r,t=>cond (Nat.beq d t) v (Zd r t)
structure St where
  env:zQ
  stk:List zQ
  H:List Obj
  blk:Nat
inductive Ex where
  | norm
  | exit (id:Nat)
  | ret
  | goto (l:Nat)
abbrev Ans:=Option (AV×List Obj)
abbrev KV:=AV→St→Ans
def zc8:Value→AV
  | .bool b => .bool b
  | .int k n => .int k n
  | .string s => .str s.data.toList
  | .pointer none => .nilp
  | .slice none 0 0 => .nils
  | .map none => .nilm
  | .nilFunc => .nilf
  | .nilIface => .nili
  | _ => .unk
def zbK:Value→AV
  | .agg cs => .agg (cs.toList.map zc8)
  | v=>zc8 v
def opd (env:zQ):Operand→AV
  | .tmp t=>Zd env t
  | .const v=>zbK v
  | .global _ => .unk
  | .func f => .fn (.func f) [] []
mutual
def AV.mapR (g:AV→AV):AV→AV
  | .fn f a b => .fn f (AV.mapRs g a) (AV.mapRs g b)
  | .ifc t v => .ifc t (v.mapR g)
  | .agg cs => .agg (AV.mapRs g cs)
  | .tup vs => .tup (AV.mapRs g vs)
  | .unk => .unk
  | .bool b => .bool b
  | .int k n => .int k n
  | .str s => .str s
  | .nilp => .nilp
  | .nils => .nils
  | .nilm => .nilm
  | .nilf => .nilf
  | .nili => .nili
  | .ro t l => .ro t l
  | .rptr t x o => .rptr t x o
  | .gh l => .gh l
  | .ptr i o=>g (.ptr i o)
  | .eptr i n o=>g (.eptr i n o)
  | .own i=>g (.own i)
  | .sub i o l e=>g (.sub i o l e)
  | .map i=>g (.map i)
def AV.mapRs (g:AV→AV):List AV→List AV
  | []=>[]
  | v::r=>v.mapR g::AV.mapRs g r
end
def Zq (i:Nat):AV→AV
  | .own j=>cond (Nat.beq i j) .unk (.own j)
  | .sub j o l e=>cond (Nat.beq i j) .unk (.sub j o l e)
  | .eptr j n o=>cond (Nat.beq i j) .unk (.eptr j n o)
  | .ptr j o=>cond (Nat.beq i j) .unk (.ptr j o)
  | .map j=>cond (Nat.beq i j) .unk (.map j)
  | v=>v
def Zg (i:Nat) (t:Ty) (l:List t.T):AV→AV
  | .own j=>cond (Nat.beq i j) (.ro t l) (.own j)
  | .sub j o n e=>cond (Nat.beq i j) (.ro t ((l.drop o).take n)) (.sub j o n e)
  | .eptr j n o=>cond (Nat.beq i j) .unk (.eptr j n o)
  | .ptr j o=>cond (Nat.beq i j) .unk (.ptr j o)
  | .map j=>cond (Nat.beq i j) .unk (.map j)
  | v=>v
def Z1 (g:AV→AV):zQ→zQ
  | []=>[]
  | (d,v)::r=>(d,v.mapR g)::Z1 g r
def Obj.mapR (g:AV→AV):Obj→Obj
  | .cells cs => .cells (AV.mapRs g cs)
  | .bcells cs => .bcells (AV.mapRs g cs)
  | o=>o
def zS (g:AV→AV):List Obj→List Obj
  | []=>[]
  | o::r=>o.mapR g::zS g r
def Yq (g:AV→AV):List zQ→List zQ
  | []=>[]
  | e::r=>Z1 g e::Yq g r
def St.mapR (g:AV→AV) (s:St):St:={ s with env:=Z1 g s.env,stk:=Yq g s.stk,H:=zS g s.H }
def zn:List Obj→Nat→Obj
  | [],_ => .dead
  | o::_,0=>o
  | _::r,i+1=>zn r i
def Za:List Obj→Nat→Obj→List Obj
  | [],_,_=>[]
  | _::r,0,x=>x::r
  | o::r,i+1,x=>o::Za r i x
mutual
def AV.refs:AV→List Nat
  | .ptr i _=>[i]
  | .eptr i _ _=>[i]
  | .own i=>[i]
  | .sub i _ _ _=>[i]
  | .map i=>[i]
  | .fn _ a b=>AV.refsL a++AV.refsL b
  | .ifc _ v=>v.refs
  | .agg cs=>AV.refsL cs
  | .tup vs=>AV.refsL vs
  | .unk=>[]
  | .bool _=>[]
  | .int _ _=>[]
  | .str _=>[]
  | .nilp=>[]
  | .nils=>[]
  | .nilm=>[]
  | .nilf=>[]
  | .nili=>[]
  | .ro _ _=>[]
  | .rptr _ _ _=>[]
  | .gh _=>[]
def AV.refsL:List AV→List Nat
  | []=>[]
  | v::r=>v.refs++AV.refsL r
end
def Obj.refs:Obj→List Nat
  | .cells cs=>AV.refsL cs
  | .bcells cs=>AV.refsL cs
  | _=>[]
def yJ:zQ→List Nat
  | []=>[]
  | (_,v)::r=>v.refs++yJ r
def y8:List zQ→List Nat
  | []=>[]
  | e::r=>yJ e++y8 r
def zjF:List Obj→List Nat
  | []=>[]
  | o::r=>o.refs++zjF r
def YA:List Nat→Nat→Bool
  | [],_=>false
  | a::r,n=>cond (Nat.beq a n) true (YA r n)
def JN (roots:List Nat):Nat→List Obj→List Obj
  | 0,H=>H
  | n+1,H =>
    match H.length with
    | 0=>H
    | m+1=>cond (YA (roots++zjF (H.take m)) m) H (JN roots n (H.take m))
def Yy (env:zQ):List Nat→zQ
  | []=>[]
  | d::r=>(d,Zd env d)::Yy env r
def St.head (s:St) (keep:List Nat):St :=
  let env:=Yy s.env keep
  { s with env,H:=JN (yJ env++y8 s.stk) s.H.length s.H }
def nth {α:Type} (l:List α) (i:Int):Option α:=if 0≤i then l[i.toNat]? else none
def oneCell (cs:List AV):Option AV:=match cs with | [v]=>some v | _=>none
def YZ {α:Type}:Nat→List α→Option (List α)     -- just so many
  | 0,_=>some []
  | n+1,x::r=>match YZ n r with | some l=>some (x::l) | none=>none
  | _+1,[]=>none
def yV (cs:List AV) (off:Nat) (new:List AV):Option (List AV) :=
  match YZ off cs with
  | none=>none
  | some a=>match YZ new.length (cs.drop off) with
    | none=>none
    | some _=>some (a++new++(cs.drop off).drop new.length)
def WP (cs:List AV) (off n:Nat):Option (List AV):=YZ n (cs.drop off)
def z6 (l:List Int):List UInt8:=l.map fun n=>UInt8.ofNat n.toNat
def zW (s:List UInt8):List Int:=s.map fun c=>(c.toNat:Int)
def za {α β:Type} (o:Option α) (k:α→Option β):Option β:=match o with | some a=>k a | none=>none
def asInt (v:AV) (k:Int→Ans):Ans:=match v with | .int _ n=>k n | _=>none
def jd:List AV→Bool
  | []=>true
  | v::r=>v.cellOk&&jd r
def zIZ:List AV→AV→AV→Option Bool
  | [.bool _],.bool a,.bool b=>some (a == b)
  | [.int _ _],.int k a,.int k' b=>match decEq k k' with | isTrue _=>some (a == b) | isFalse _=>none
  | [.str _],.str a,.str b=>some (a == b)
  | [.nilf],.nilf,.nilf=>some true
  | [.nilf],.nilf,.fn _ _ _=>some false
  | [.nilf],.fn _ _ _,.nilf=>some false
  | [.nili],.nili,.ifc _ _=>some false
  | [.nili],.ifc _ _,.nili=>some false
  | _,_,_=>none
def zym:AV→AV→Option Bool
  | .nilp,.nilp=>some true
  | .nilp,.ptr _ _=>some false
  | .ptr _ _,.nilp=>some false
  | .nilp,.eptr _ _ _=>some false
  | .eptr _ _ _,.nilp=>some false
  | .nilp,.rptr _ _ _=>some false
  | .rptr _ _ _,.nilp=>some false
  | _,_=>none
def zyr:AV→AV→Option Bool
  | .nilm,.nilm=>some true
  | .nilm,.map _=>some false
  | .map _,.nilm=>some false
  | _,_=>none
def zuX:AV→AV→Option Bool
  | .nils,.nils=>some true
  | _,_=>none
def zaX (T:Tab) (t:Nat) (cs:List AV) (off:Nat):Option AV :=
  match Tab.get T t with
  | some i=>match WP cs off i.size with
    | some a=>match i.isAgg with
      | true=>some (.agg a)
      | false=>oneCell a
    | none=>none
  | none=>none
def zBi:List AV→Bool
  | []=>true
  | .nili::_=>false
  | _::r=>zBi r
mutual
def eqV (T:Tab):Nat→Nat→AV→AV→Option Bool
  | 0,_,_,_=>none
  | d+1,t,x,y=>match Tab.get T t with
    | none=>none
    | some i=>match i.k with
      | .sc=>zIZ i.zero x y
      | .ptr _=>zym x y
      | .map _ _=>zyr x y
      | .slice _=>zuX x y
      | .struct fs=>match zBi i.zero with
        | true=>match x,y with
          | .agg xs,.agg ys=>zuV T d fs xs ys
          | _,_=>none
        | false=>none
      | .array n e=>match zBi i.zero with
        | true=>match x,y with
          | .agg xs,.agg ys=>match Tab.get T e with
            | some j=>zua T d (List.range n) e j.size xs ys
            | none=>none
          | _,_=>none
        | false=>none
def zuV (T:Tab):Nat→List (Nat×Nat)→List AV→List AV→Option Bool
  | 0,_,_,_=>none
  | _+1,[],_,_=>some true
  | d+1,(t,off)::r,xs,ys =>
    match zaX T t xs off,zaX T t ys off with
    | some a,some b=>match eqV T d t a b with
      | some p=>match zuV T d r xs ys with
        | some q=>some (p&&q)
        | none=>none
      | none=>none
    | _,_=>none
def zua (T:Tab):Nat→List Nat→Nat→Nat→List AV→List AV→Option Bool
  | 0,_,_,_,_,_=>none
  | _+1,[],_,_,_,_=>some true
  | d+1,n::r,t,sz,xs,ys =>
    match zaX T t xs (n*sz),zaX T t ys (n*sz) with
    | some a,some b=>match eqV T d t a b with
      | some p=>match zua T d r t sz xs ys with
        | some q=>some (p&&q)
        | none=>none
      | none=>none
    | _,_=>none
end
def zaS (op:BinOp) (k:IntKind) (a b:Int) (K:AV→Ans):Ans :=
  match op with
  | .add=>K (.int k (k.wrap (a+b)))
  | .sub=>K (.int k (k.wrap (a - b)))
  | .mul=>K (.int k (k.wrap (a*b)))
  | .quo=>cond (b == 0) none (K (.int k (k.wrap (a.tdiv b))))
  | .rem=>cond (b == 0) none (K (.int k (a.tmod b)))
  | .and=>K (.int k (k.wrap (((a % 2 ^ k.bits).toNat &&& (b % 2 ^ k.bits).toNat:Nat):Int)))
  | .or=>K (.int k (k.wrap (((a % 2 ^ k.bits).toNat ||| (b % 2 ^ k.bits).toNat:Nat):Int)))
  | .xor=>K (.int k (k.wrap (((a % 2 ^ k.bits).toNat ^^^ (b % 2 ^ k.bits).toNat:Nat):Int)))
  | .andNot=>K (.int k (k.wrap (((a % 2 ^ k.bits).toNat &&& (2 ^ k.bits - 1 - (b % 2 ^ k.bits).toNat):Nat):Int)))
  | .eql=>K (.bool (a == b))
  | .neq=>K (.bool (a != b))
  | .lss=>K (.bool (decide (a<b)))
  | .leq=>K (.bool (decide (a≤b)))
  | .gtr=>K (.bool (decide (a>b)))
  | .geq=>K (.bool (decide (a≥b)))
  | _=>none
def znP (op:BinOp) (k:IntKind) (a b:Int) (K:AV→Ans):Ans :=
  cond (decide (b<0)) none
    (match op with
     | .shl=>K (.int k (k.wrap (a*2 ^ min b.toNat k.bits)))
     | .shr=>K (.int k (a.fdiv (2 ^ min b.toNat k.bits)))
     | _=>none)
def zCd (op:BinOp) (a b:List UInt8) (K:AV→Ans):Ans :=
  match op with
  | .add=>cond (Nat.ble (a.length+b.length) 9223372036854775807) (K (.str (a++b))) none
  | .eql=>K (.bool (a == b))
  | .neq=>K (.bool (!(a == b)))
  | .lss=>K (.bool (Op.bytesLess a b))
  | .leq=>K (.bool (Op.bytesLess a b || a == b))
  | .gtr=>K (.bool (!(Op.bytesLess a b || a == b)))
  | .geq=>K (.bool (!(Op.bytesLess a b)))
  | _=>none
def J2:BinOp→Bool
  | .shl=>true
  | .shr=>true
  | _=>false
def binOp (T:Tab) (op:BinOp) (t:Nat) (x y:AV) (K:AV→Ans):Ans :=
  match x,y with
  | .int k a,.int k' b =>
    cond (J2 op) (znP op k a b K) (match decEq k k' with | isTrue _=>zaS op k a b K | isFalse _=>none)
  | .str a,.str b=>zCd op a b K
  | x,y=>match op with
    | .eql=>za (eqV T 40 t x y) fun b=>K (.bool b)
    | .neq=>za (eqV T 40 t x y) fun b=>K (.bool (!b))
    | _=>none
def unOp (op:UnOp) (x:AV) (K:AV→Ans):Ans :=
  match op,x with
  | .neg,.int k n=>K (.int k (k.wrap (0 - n)))
  | .xor,.int k n=>zaS .xor k (if k.signed then -1 else k.max) n K
  | .not,.bool b=>K (.bool (!b))
  | _,_=>none
def zK4 (n:Nat):Bool:=Nat.ble 5 n
def load (T:Tab) (s:St) (t:Nat) (p:AV) (K:AV→Ans):Ans :=
  za (Tab.get T t) fun i =>
    let back (cs:List AV):Ans:=cond i.isAgg (K (.agg cs)) (za (oneCell cs) K)
    match p with
    | .ptr n off=>match zn s.H n with
      | .cells cs=>za (WP cs off i.size) back
      | .bcells cs=>cond (Nat.ble 1 off) (za (WP cs (Nat.sub off 1) i.size) back) none
      | _=>none
    | .eptr n idx off=>match zn s.H n with
      | .arr ty l=>za (l[idx]?) fun x=>za (WP (cells ty x) off i.size) back
      | _=>none
    | .rptr ty x off=>za (WP (cells ty x) off i.size) back
    | _=>none
def fieldAddr (T:Tab) (t:Nat) (p:AV) (f:Nat) (K:AV→Ans):Ans :=
  za (Tab.get T t) fun i=>match i.k with
    | .struct fs=>za (fs[f]?) fun (ft,off)=>za (Tab.get T ft) fun j=>cond (Nat.beq j.size 0) none
      (match p with
       | .ptr n o=>K (.ptr n (o+off))
       | .eptr n x o=>K (.eptr n x (o+off))
       | .rptr ty x o=>K (.rptr ty x (o+off))
       | _=>none)
    | _=>none
def field (T:Tab) (t:Nat) (x:AV) (f:Nat) (K:AV→Ans):Ans :=
  za (Tab.get T t) fun i=>match i.k,x with
    | .struct fs,.agg cs=>za (fs[f]?) fun (ft,off)=>za (zaX T ft cs off) K
    | _,_=>none
def inR (i:Int) (n:Nat):Bool:=decide (0≤i)&&decide (i<(n:Int))
def W7 (i:TI):Bool :=
  match i.zero with
  | [.str _]=>true
  | _=>false
def zkj (len:Nat) (i:Int) (K:Nat→Ans):Ans :=
  match len with
  | 1=>cond (i == 0) (K 0) none
  | 2=>cond (i == 0) (K 0) (cond (i == 1) (K 1) none)
  | len=>cond (inR i len) (K i.toNat) none
theorem zAy (len:Nat) (i:Int) (K:Nat→Ans):zkj len i K=cond (inR i len) (K i.toNat) none:=by
  unfold zkj
  split
  · by_cases h:i=0
    · subst h;rfl
    · have h1:inR i 1=false:=by
        unfold inR
        simp only [Bool.and_eq_false_iff,decide_eq_false_iff_not]
        omega
      have hb:(i == 0)=false:=by simpa using h
      rw [h1,hb]
      rfl
  · by_cases h:i=0
    · subst h;rfl
    · by_cases h2:i=1
      · subst h2;rfl
      · have h1:inR i 2=false:=by
          unfold inR
          simp only [Bool.and_eq_false_iff,decide_eq_false_iff_not]
          omega
        have hb:(i == 0)=false:=by simpa using h
        have hc:(i == 1)=false:=by simpa using h2
        rw [h1,hb,hc]
        rfl
  · rfl
def indexAddr (T:Tab) (s:St) (t:Nat) (x ix:AV) (K:AV→Ans):Ans :=
  asInt ix fun i=>za (Tab.get T t) fun ti=>match ti.k with
    | .slice e=>za (Tab.get T e) fun ei=>match x with
      | .own n=>match zn s.H n with
        | .arr ty l=>cond (Nat.beq ei.size ty.size) (cond (inR i l.length) (K (.eptr n i.toNat 0)) none) none
        | _=>none
      | .sub n off len e'=>cond (Nat.beq ei.size e') (match zn s.H n with
        | .arr _ _=>cond (inR i len) (K (.eptr n (off+i.toNat) 0)) none
        | .cells _=>cond (inR i len) (K (.ptr n ((off+i.toNat)*ei.size))) none
        | _=>none) none
      | .ro ty l=>cond (Nat.beq ei.size ty.size) (za (nth l i) fun y=>K (.rptr ty y 0)) none
      | _=>none
    | .array len e=>za (Tab.get T e) fun ei=>match x with
      | .ptr n off=>match zn s.H n with
        | .cells _=>zkj len i fun j=>K (.ptr n (off+j*ei.size))
        | .arr ty l=>cond (Nat.beq off 0&&Nat.beq ei.size ty.size&&inR i len) (K (.eptr n i.toNat 0)) none
        | _=>none
      | .eptr n x off=>zkj len i fun j=>K (.eptr n x (off+j*ei.size))
      | .rptr ty x off=>zkj len i fun j=>K (.rptr ty x (off+j*ei.size))
      | _=>none
    | _=>none
def index (T:Tab) (t:Nat) (x ix:AV) (K:AV→Ans):Ans :=
  asInt ix fun i=>za (Tab.get T t) fun ti=>match ti.k with
    | .sc=>cond (W7 ti) (match x with
      | .str s=>za (nth s i) fun c=>K (.int .u8 (c.toNat:Int))
      | _=>none) none
    | .array len e=>za (Tab.get T e) fun ei=>match x with
      | .agg cs=>zkj len i fun j=>za (zaX T e cs (j*ei.size)) K
      | _=>none
    | _=>none
def qk (len:Nat) (lo hi:Option AV) (K:Nat→Nat→Ans):Ans :=
  match lo,hi with
  | none,none=>K 0 len
  | some l,none=>asInt l fun a=>cond (inR a (len+1)) (K a.toNat len) none
  | none,some h=>asInt h fun b=>cond (inR b (len+1)) (K 0 b.toNat) none
  | some l,some h=>asInt l fun a=>asInt h fun b=>cond (inR b (len+1)&&inR a (b.toNat+1)) (K a.toNat b.toNat) none
def zmI {α:Type} (l:List α) (lo hi:Option AV) (a b:Nat):List α :=
  match lo,hi with
  | none,none=>l
  | some _,none=>l.drop a
  | none,some _=>l.take b
  | some _,some _=>(l.drop a).take (b - a)
def ziv (n:Nat) (lo hi:Option AV) (a b size:Nat):AV :=
  match lo,hi with
  | none,none => .own n
  | _,_ => .sub n a (b - a) size
def slice (T:Tab) (s:St) (t:Nat) (x:AV) (lo hi mx:Option AV) (K:AV→Ans):Ans :=
  match mx with
  | some _=>none
  | none=>za (Tab.get T t) fun ti=>match ti.k with
    | .sc=>cond (W7 ti) (match x with
      | .str a=>qk a.length lo hi fun i j=>K (.str (zmI a lo hi i j))
      | _=>none) none
    | .slice e=>za (Tab.get T e) fun ei=>match x with
      | .own n=>match zn s.H n with
        | .arr ty l=>cond (Nat.beq ei.size ty.size) (qk l.length lo hi fun a b=>K (ziv n lo hi a b ty.size)) none
        | _=>none
      | .sub n off len e'=>cond (Nat.beq ei.size e') (qk len lo hi fun a b=>K (.sub n (off+a) (b - a) e')) none
      | .ro ty l=>cond (Nat.beq ei.size ty.size) (qk l.length lo hi fun a b=>K (.ro ty (zmI l lo hi a b))) none
      | .nils=>qk 0 lo hi fun _ _=>K .nils
      | _=>none
    | .array len e=>za (Tab.get T e) fun ei=>match x with
      | .ptr n off=>match zn s.H n with
        | .arr ty l=>cond (Nat.beq off 0&&Nat.beq l.length len&&Nat.beq ei.size ty.size) (qk l.length lo hi fun a b=>K (ziv n lo hi a b ty.size)) none
        | .cells cs=>cond (Nat.beq off 0&&Nat.beq cs.length (len*ei.size)) (qk len lo hi fun a b=>K (.sub n a (b - a) ei.size)) none
        | _=>none
      | _=>none
    | _=>none
def Y4 (place:Nat→Option (Nat×Nat)):List AV→List (Nat×AV)→Option (List AV)
  | cs,[]=>some cs
  | cs,(i,v)::r=>match place i with
    | none=>none
    | some (off,size)=>cond (Nat.beq v.cellsOf.length size&&jd v.cellsOf) (match yV cs off v.cellsOf with
      | some cs'=>Y4 place cs' r
      | none=>none) none
def JZ (T:Tab) (i:TI) (n:Nat):Option (Nat×Nat) :=
  match i.k with
  | .struct fs=>match fs[n]? with
    | some (ft,off)=>match Tab.get T ft with
      | some j=>some (off,j.size)
      | none=>none
    | none=>none
  | .array _ e=>match Tab.get T e with
    | some j=>some (n*j.size,j.size)
    | none=>none
  | _=>none
def zkU (T:Tab) (i:TI):Bool :=
  match i.k with
  | .struct fs=>fs.all fun f=>(Tab.get T f.1).isSome
  | .array _ e=>(Tab.get T e).isSome
  | _=>false
def wZ (z:List AV):Nat→List AV
  | 0=>[]
  | n+1=>z++wZ z n
def Q7 (t:Ty):Nat→List AV→Option (List t.T)
  | 0,[]=>some []
  | 0,_::_=>none
  | n+1,cs=>match dec t cs with
    | some (x,r)=>match Q7 t n r with
      | some l=>some (x::l)
      | none=>none
    | none=>none
def Ty.isU8:Ty→Bool
  | .int .u8=>true
  | _=>false
def zrg [BT] (T:Tab) (t:Nat) (zero:List AV):Obj :=
  match Tab.get T t with
  | some i=>match i.k with
    | .array n e=>cond (zK4 n) (match Tab.get T e with
        | some j=>match j.ty with
          | some ty=>cond ty.isU8 (.cells zero) (match Q7 ty n zero with
            | some l => .arr ty l
            | none => .cells zero)
          | none => .cells zero
        | none => .cells zero) (.cells zero)
    | _=>match zero with
      | .nilp::r=>cond (Nat.beq t BT.bld) (.bcells r) (.cells zero)
      | _ => .cells zero
  | none => .cells zero
def jM (s:St) (t:Ty) (v:AV):Option (List t.T) :=
  match v with
  | .nils=>some []
  | .ro t' l=>yw t t' l
  | .own n=>match zn s.H n with
    | .arr t' l=>yw t t' l
    | _=>none
  | .sub n off len e=>match zn s.H n with
    | .arr t' l=>match yw t t' l with
      | some l'=>cond (Nat.ble (off+len) l'.length) (some ((l'.drop off).take len)) none
      | none=>none
    | .cells cs=>cond (Nat.beq e t.size) (Q7 t len ((cs.drop (off*e)).take (len*e))) none
    | _=>none
  | _=>none
def zys (s:St) (t:Ty) (v:AV) (K:List t.T→Ans):Ans :=
  match v with
  | .nils=>K []
  | .ro t' l=>za (yw t t' l) K
  | .own n=>match zn s.H n with
    | .arr t' l=>za (yw t t' l) K
    | _=>none
  | .sub n off len e=>match zn s.H n with
    | .arr t' l=>za (yw t t' l) fun l'=>cond (Nat.ble (off+len) l'.length) (K ((l'.drop off).take len)) none
    | .cells cs=>cond (Nat.beq e t.size) (za (Q7 t len ((cs.drop (off*e)).take (len*e))) K) none
    | _=>none
  | _=>none
theorem zBy {α β:Type} (c:Bool) (x:α) (K:α→Option β):za (cond c (some x) none) K=cond c (K x) none:=by cases c <;> rfl
theorem zTw {α β:Type} (c:Bool) (x:Option α) (K:α→Option β):za (cond c x none) K=cond c (za x K) none:=by cases c <;> rfl
theorem zPI (s:St) (t:Ty) (v:AV) (K:List t.T→Ans):zys s t v K=za (jM s t v) K:=by
  unfold zys jM
  cases v <;> try rfl
  case own n =>
    simp only
    cases zn s.H n <;> rfl
  case sub n off len e =>
    simp only
    cases zn s.H n <;> try rfl
    case cells cs=>simp only [zTw]
    case arr t' l =>
      simp only
      cases yw t t' l with
      | none=>rfl
      | some l'=>exact (zBy _ _ _).symm
def zVd:List Nat:=[0,1,2,3,4,5,6,7,8,9,10,11,12,13,14,15,16,17,18,19,20,21,22,23,24,25,26,27,28,29,30,31,32,33,34,35,36,37,38,39,40,41,42,43,44,45,46,47,48,49,50,51,52,53,54,55,56,57,58,59,60,61,62,63]
def zyn (n:Nat) (K:Nat→Ans):List Nat→Ans
  | []=>K n
  | a::r=>cond (Nat.beq n a) (K a) (zyn n K r)
def lit (n:Nat) (K:Nat→Ans):Ans:=zyn n K zVd
mutual
def ZZ (v:AV) (K:AV→Ans):Ans :=
  match v with
  | .unk=>K .unk
  | .bool b=>K (.bool b)
  | .int k n=>K (.int k n)
  | .str s=>K (.str s)
  | .nilp=>K .nilp
  | .ptr i o=>lit i fun i=>K (.ptr i o)
  | .eptr i n o=>lit i fun i=>K (.eptr i n o)
  | .rptr t x o=>K (.rptr t x o)
  | .nils=>K .nils
  | .own i=>lit i fun i=>K (.own i)
  | .sub i o l e=>lit i fun i=>K (.sub i o l e)
  | .ro t l=>K (.ro t l)
  | .nilm=>K .nilm
  | .map i=>lit i fun i=>K (.map i)
  | .fn f a b=>Yj a fun a=>Yj b fun b=>K (.fn f a b)
  | .nilf=>K .nilf
  | .nili=>K .nili
  | .ifc t v=>ZZ v fun v=>K (.ifc t v)
  | .agg cs=>Yj cs fun cs=>K (.agg cs)
  | .tup vs=>Yj vs fun vs=>K (.tup vs)
  | .gh l=>K (.gh l)
def Yj (l:List AV) (K:List AV→Ans):Ans :=
  match l with
  | []=>K []
  | v::r=>ZZ v fun v=>Yj r fun r=>K (v::r)
end
def zpc (o:Obj) (K:Obj→Ans):Ans :=
  match o with
  | .dead=>K .dead
  | .cells cs=>Yj cs fun cs=>K (.cells cs)
  | .bcells cs=>Yj cs fun cs=>K (.bcells cs)
  | .btold s=>K (.btold s)
  | .arr t l=>K (.arr t l)
  | .mp k v l=>K (.mp k v l)
def zaC (l:List Obj) (K:List Obj→Ans):Ans :=
  match l with
  | []=>K []
  | o::r=>zpc o fun o=>zaC r fun r=>K (o::r)
def zhE (l:zQ) (K:zQ→Ans):Ans :=
  match l with
  | []=>K []
  | (d,v)::r=>ZZ v fun v=>zhE r fun r=>K ((d,v)::r)
def zn6 (l:List zQ) (K:List zQ→Ans):Ans :=
  match l with
  | []=>K []
  | e::r=>zhE e fun e=>zn6 r fun r=>K (e::r)
def zLc (n:Nat) (K:Nat→Ans):Ans :=
  match n with
  | 0=>K 0
  | n+1=>K (n+1)
def yg (s:St) (K:St→Ans):Ans :=
  match s with
  | ⟨env,stk,H,blk⟩=>zLc blk fun blk=>zhE env fun env=>zn6 stk fun stk=>zaC H fun H=>K ⟨env,stk,H,blk⟩
def qv (s:St) (o:Obj) (K:Nat→St→Ans):Ans :=
  match s with
  | ⟨env,stk,H,blk⟩=>lit H.length fun i=>zaC (H++[o]) fun H=>K i ⟨env,stk,H,blk⟩
def Wf (s:St) (i:Nat) (o:Obj) (K:St→Ans):Ans :=
  match s with
  | ⟨env,stk,H,blk⟩=>zaC (Za H i o) fun H=>K ⟨env,stk,H,blk⟩
def store (T:Tab) (s:St) (t:Nat) (p v:AV) (K:St→Ans):Ans :=
  za (Tab.get T t) fun i =>
    let vs:=v.cellsOf
    cond (Nat.beq vs.length i.size&&jd vs)
      (match p with
       | .ptr n off=>match zn s.H n with
         | .cells cs=>za (yV cs off vs) fun cs'=>Wf s n (.cells cs') K
         | .bcells cs=>cond (Nat.ble 1 off) (za (yV cs (Nat.sub off 1) vs) fun cs'=>Wf s n (.bcells cs') K) none
         | _=>none
       | .eptr n idx off=>match zn s.H n with
         | .arr ty l=>za (l[idx]?) fun x=>za (yV (cells ty x) off vs) fun cs'=>za (Q2 ty cs') fun x'=>Wf s n (.arr ty (l.set idx x')) K
         | _=>none
       | _=>none)
      none
def jA:List Nat→List AV→St→(List AV→St→Ans)→Ans
  | [],vs,s,K=>K vs s
  | i::r,vs,s,K=>match zn s.H i with
    | .arr t l=>Yj (AV.mapRs (Zg i t l) vs) fun vs=>yg { s.mapR (Zg i t l) with H:=Za (zS (Zg i t l) s.H) i .dead } fun s=>jA r vs s K
    | _=>jA r vs s K
end Go.AE
namespace Go.AE
inductive Ann where
  | none
  | seq (a b:Ann)
  | cond (a b:Ann)
  | block (a:Ann)
  | loop (a:Ann)
  | sum (G:(Ex→St→Ans)→St→Ans)
  | pack (k0:Nat) (a:Ann)
  | cut (k0:Nat) (keep:List Nat) (G:(Ex→St→Ans)→St→Ans)
  | at (k0:Nat) (keep:List Nat) (a:Ann)
  | norm (k0:Nat) (keep:List Nat)
  | rnd (a:Ann)
  | peel (k0:Nat) (keep:List Nat) (a:Ann) (G:(Ex→St→Ans)→St→Ans)
def Ann.fst:Ann→Ann
  | .pack _ a=>a.fst
  | .at _ _ a=>a.fst
  | .peel _ _ a _=>a
  | .seq a _=>a
  | .cond a _=>a
  | .block a=>a
  | .loop a=>a
  | _ => .none
def Ann.snd:Ann→Ann
  | .seq _ b=>b
  | .cond _ b=>b
  | _ => .none
def Ann.sum? : Ann→Option ((Ex→St→Ans)→St→Ans)
  | .sum G=>some G
  | .peel _ _ _ G=>some G
  | .pack _ a=>a.sum?
  | _=>Option.none
def Ann.pack? : Ann→Option Nat
  | .pack n _=>some n
  | _=>Option.none
def Ann.at? : Ann→Option (Nat×List Nat)
  | .at n l _=>some (n,l)
  | .peel n l _ _=>some (n,l)
  | _=>Option.none
inductive zkf where
  | inline (nt:Nat) (res:List ResultVar) (ann:Ann) (body:Code)
  | pure (F:List AV→(AV→Ans)→Ans)
  | func (F:List AV→List Obj→(AV→List Obj→Ans)→Ans)
  | iter (start:List AV→List Obj→(List Int→Ans)→Ans) (next:List AV→List Obj→List Int→Ans→(List AV→List Int→Ans)→Ans)
abbrev Env:=List (Nat×zkf)
def Env.get:Env→Nat→Option zkf
  | [],_=>none
  | (n,i)::r,t=>cond (Nat.beq n t) (some i) (Env.get r t)
abbrev ziK:=Nat→List Nat     -- which temporaries are kept at a loop's head (by the function's number*4096+the block round it)
def zVB (blk id:Nat):Nat:=Nat.add (Nat.sub blk (Nat.mod blk 4096)) id
def zar (H:List Obj):Nat→List Nat→List Nat→List Nat
  | 0,_,done=>done
  | _+1,[],done=>done
  | n+1,i::r,done=>cond (YA done i) (zar H n r done) (zar H n (r++(zn H i).refs) (done++[i]))
def zR:List Nat→Nat→Nat
  | [],_=>0
  | a::r,i=>cond (Nat.beq a i) 0 (zR r i+1)
def AV.reId (f:Nat→Nat):AV→AV
  | .ptr i o => .ptr (f i) o
  | .eptr i n o => .eptr (f i) n o
  | .own i => .own (f i)
  | .sub i o l e => .sub (f i) o l e
  | .map i => .map (f i)
  | v=>v
def getN:List Nat→Nat→Nat
  | [],_=>0
  | a::_,0=>a
  | _::r,i+1=>getN r i
def znC (sel:List Nat) (base:Nat) (j:Nat):Nat:=cond (Nat.blt j sel.length) (getN sel j) (base+(j - sel.length))
def ZM (H:List Obj) (f:Nat→Nat):List Nat→List Obj
  | []=>[]
  | i::r=>(zn H i).mapR (AV.reId f)::ZM H f r
def wP (f:Nat→Nat):List Nat→List Obj→List Obj→List Obj     -- selected ids,what they hold now,the caller's heap
  | [],news,H=>H++zS (AV.reId f) news
  | i::r,o::os,H=>wP f r os (Za H i (o.mapR (AV.reId f)))
  | _::_,[],H=>H
def Qp (H:List Obj):AV→AV
  | .own n=>match zn H n with
    | .arr t l => .ro t l
    | _ => .own n
  | .sub n off len e=>match zn H n with
    | .arr t l=>cond (Nat.ble (off+len) l.length) (.ro t ((l.drop off).take len)) (.sub n off len e)
    | _ => .sub n off len e
  | v=>v
def zeR (H:List Obj) (sel:List Nat):AV→AV
  | .own j=>cond (YA sel j) .unk (.own j)
  | .sub j o l e=>cond (YA sel j) .unk (.sub j o l e)
  | .eptr j n o=>cond (YA sel j) .unk (.eptr j n o)
  | .map j=>cond (YA sel j) (match zn H j with | .mp _ _ _ => .map j | _ => .unk) (.map j)
  | .ptr j o=>cond (YA sel j) (match zn H j with | .cells _ => .ptr j o | .bcells _ => .ptr j o | .btold _ => .ptr j o | _ => .unk) (.ptr j o)
  | v=>v
def zhJ:List Nat→List Nat→Bool
  | [],_=>true
  | a::r,l=>YA l a&&zhJ r l
def zbQ:List Nat→Bool
  | []=>true
  | a::r => !YA r a&&zbQ r
def zbL (n:Nat):List Nat→Bool
  | []=>true
  | a::r=>Nat.blt a n&&zbL n r
def zaa (H:List Obj) (sel:List Nat):List Nat→Bool
  | []=>true
  | a::r=>zhJ (zn H a).refs sel&&zaa H sel r
def zaE (l:List Nat) (K:List Nat→Ans):Ans :=
  match l with
  | []=>K []
  | a::r=>lit a fun a=>zaE r fun r=>K (a::r)
def zfn (H:List Obj) (roots sel:List Nat):Bool:=zbQ sel&&zbL H.length sel&&zhJ roots sel&&zaa H sel sel
def zld (k0:Nat) (s:St) (K:St→Ans):Ans :=
  zaE (zar s.H 400 (List.range k0++(y8 s.stk++yJ s.env)) []) fun sel =>
  cond (zfn s.H (List.range k0++(y8 s.stk++yJ s.env)) sel)
    (yg ⟨Z1 (AV.reId (zR sel)) s.env,Yq (AV.reId (zR sel)) s.stk,ZM s.H (zR sel) sel,s.blk⟩ K) none
def zWu:Obj→Bool
  | .arr _ _=>true
  | _=>false
def zBF (H:List Obj) (L:Nat):List Nat→List Nat
  | []=>[]
  | j::r=>cond (zWu (zn H j)) (Nat.add L j) j::zBF H L r
def qi (H:List Obj) (roots sel:List Nat):Bool:=zbQ sel&&zhJ roots sel&&zaa H sel sel
def zgR (k0:Nat) (s:St) (K:St→Ans):Ans :=
  lit s.H.length fun L =>
  zaE (zBF s.H L (List.range k0)) fun sl =>
  zaE (zar s.H 400 (sl++(y8 s.stk++yJ s.env)) []) fun sel =>
  cond (qi s.H (sl++(y8 s.stk++yJ s.env)) sel)
    (yg ⟨Z1 (AV.reId (zR sel)) s.env,Yq (AV.reId (zR sel)) s.stk,ZM s.H (zR sel) sel,s.blk⟩ K) none
def ze9 (j len e:Nat):AV→AV
  | .own i=>cond (Nat.beq i j) (.sub j 0 len e) (.own i)
  | v=>v
def zr9 (b c:Nat) (s:St) (K:St→Ans):Ans :=
  match zn s.H b with
  | .cells cs=>match cs[c]? with
    | some (.own j)=>match zn s.H j with
      | .arr t l=>yg (s.mapR (ze9 j l.length t.size)) K
      | _=>K s
    | _=>K s
  | _=>K s
def zyv (b b2:Bool) (q c k1 k0:Nat) (s:St) (K:St→Ans):Ans:=cond b (cond b2 (zgR k1 s fun s=>zr9 q c s K) (zgR k1 s K)) (zld k0 s K)
def y2 (k0:Nat) (s:St) (K:St→Ans):Ans :=
  zyv (Nat.ble 100000 k0) (Nat.ble 200000 k0) (Nat.div (Nat.sub (Nat.div k0 100000) 2) 16) (Nat.mod (Nat.sub (Nat.div k0 100000) 2) 16) (Nat.mod k0 100000) k0 s K
def zn5 (sel:List Nat):List Nat→Bool
  | []=>true
  | j::r=>Nat.beq (zR sel j) j&&zn5 sel r
def zfp (k0:Nat) (v:AV) (H:List Obj) (K:AV→List Obj→Ans):Ans :=
  zaE (zar H 400 (List.range k0++v.refs) []) fun sel =>
  cond (zfn H (List.range k0++v.refs) sel&&zn5 sel (List.range k0))
    (ZZ (v.mapR (AV.reId (zR sel))) fun v=>zaC (ZM H (zR sel) sel) fun H=>K v H) none
def zal {α:Type}:List α→Bool
  | []=>true
  | _=>false
def jl (H:List Obj):List AV→(List AV→Ans)→Ans
  | [],K=>K []
  | .sub n off len e::r,K=>(match zn H n with
    | .arr t l=>cond (Nat.ble (off+len) l.length) (jl H r fun r=>K (.ro t ((l.drop off).take len)::r)) none
    | _=>jl H r fun r=>K (.sub n off len e::r))
  | v::r,K=>jl H r fun r=>K (v::r)
def zfE (F:List AV→(AV→Ans)→Ans) (s:St) (args:List AV) (K:KV):Ans :=
  jl s.H args fun args=>Yj (AV.mapRs (Qp s.H) args) fun args=>cond (zal (AV.refsL args)) (F args fun r=>K r s) none
def jB (F:List AV→List Obj→(AV→List Obj→Ans)→Ans) (s:St) (args:List AV) (K:List Nat→KV):Ans :=
  jA (AV.refsL args) args s fun args s =>
  zaE (zar s.H 400 (AV.refsL args) []) fun sel =>
  cond (zbQ sel&&zbL s.H.length sel&&zhJ (AV.refsL args) sel&&zaa s.H sel sel)
    (lit s.H.length fun base =>
     Yj (AV.mapRs (AV.reId (zR sel)) args) fun args'=>zaC (ZM s.H (zR sel) sel) fun H' =>
     F args' H' fun r H'=>cond (Nat.ble sel.length H'.length)
       (ZZ (r.mapR (AV.reId (znC sel base))) fun r =>
        yg { s.mapR (zeR s.H sel) with H:=wP (znC sel base) sel H' (zS (zeR s.H sel) s.H) } fun s=>K sel r s) none)
    none
def callFunc (F:List AV→List Obj→(AV→List Obj→Ans)→Ans) (s:St) (args:List AV) (K:KV):Ans:=jB F s args fun _ r s=>K r s
def zfl (T:Tab) (t:Nat) (v:AV):Option Ty :=
  match v with
  | .nils=>match Tab.get T t with
    | some i=>match i.k with
      | .slice e=>match Tab.get T e with
        | some j=>j.ty
        | none=>none
      | _=>none
    | none=>none
  | _=>none
def yb (T:Tab) (t:Nat) (v:AV) (s:St) (K:KV):Ans :=
  match zfl T t v with
  | some ty=>qv s (.arr ty []) fun i s'=>K (.own i) s'
  | none=>K v s
def zaY (T:Tab):List (Nat×Nat)→List AV→St→(List AV→St→Ans)→Ans     -- a struct's fields (type,offset) | its cells
  | [],cs,s,K=>K cs s
  | (t,off)::r,cs,s,K=>match cs.drop off with
    | .nils::_=>yb T t .nils s fun v s'=>match yV cs off [v] with
      | some cs'=>zaY T r cs' s' K
      | none=>none
    | _=>zaY T r cs s K
def zeroCells (T:Tab) (t:Nat) (s:St) (K:List AV→St→Ans):Ans :=
  za (Tab.get T t) fun i=>match i.k with
    | .struct fs=>zaY T fs i.zero s K
    | .slice _=>match i.zero with
      | [v]=>yb T t v s fun v' s'=>K [v'] s'
      | _=>none
    | _=>K i.zero s
def JU (T:Tab) (t:Nat):Option (Nat×TI) :=
  match Tab.get T t with
  | some i=>match i.k with
    | .slice e=>match Tab.get T e with
      | some j=>some (e,j)
      | none=>none
    | _=>none
  | none=>none
def buildSlice (T:Tab) (t len:Nat) (parts:List (Nat×AV)) (s:St) (K:KV):Ans :=
  za (JU T t) fun (_,j)=>cond (Nat.ble (len*j.size) 16777216)
    (za (Y4 (fun i=>some (i*j.size,j.size)) (wZ j.zero len) parts) fun cs =>
      match j.ty with
      | some ty =>
        jA (AV.refsL cs) cs s fun cs s =>
        za (Q7 ty len cs) fun l=>qv s (.arr ty l) fun i s=>K (.own i) s
      | none=>qv s (.cells cs) fun i s=>K (.sub i 0 len j.size) s)
    none
def zpg (i:TI):Bool :=
  match i.k with
  | .slice _=>true
  | .sc=>W7 i
  | _=>false
def append (T:Tab) (t t2:Nat) (x y:AV) (s:St) (K:KV):Ans :=
  za (Tab.get T t2) fun i2=>cond (zpg i2) (za (JU T t) fun (_,j)=>cond (Nat.beq j.bytes 0) none (za j.ty fun ty =>
    let news:Option (List ty.T):=match y with
      | .str a=>yw ty (.int .u8) (zW a)
      | y=>jM s ty y
    za news fun b =>
      let put (i:Nat) (a:List ty.T) (s:St):Ans:=cond (Nat.ble ((a.length+b.length)*j.bytes) 140737488355328)
        (yg (s.mapR (Zq i)) fun s'=>Wf s' i (.arr ty (a++b)) fun s'=>K (.own i) s') none
      match x with
      | .own i=>match zn s.H i with
        | .arr t' l=>za (yw ty t' l) fun a=>put i a s
        | _=>none
      | .sub i off len _=>match zn s.H i with
        | .arr t' l=>cond (Nat.beq off 0&&Nat.ble len l.length) (za (yw ty t' l) fun a=>put i (a.take len) s) none
        | _=>none
      | _=>none)) none
def makeSlice (T:Tab) (t:Nat) (l c:AV) (s:St) (K:KV):Ans :=
  za (JU T t) fun (_,j)=>za j.ty fun ty=>za (Q2 ty j.zero) fun z=>asInt l fun a=>asInt c fun b =>
    cond (decide (0≤a)&&decide (a≤b)&&decide (j.bytes*b≤281474976710656)&&decide (b≤9223372036854775807))
      (qv s (.arr ty (List.replicate a.toNat z)) fun i s=>K (.own i) s) none
def zaU (i:TI):Option IntKind :=
  match i.k,i.zero with
  | .sc,[.int k _]=>some k
  | _,_=>none
def zjZ (i:TI):Bool :=
  match i.k,i.zero with
  | .sc,[.nili]=>true
  | _,_=>false
def zcN [BT] (T:Tab) (e:Nat):Bool :=
  Nat.beq e BT.byte&&match Tab.get T e with
  | some i=>match zaU i with
    | some .u8=>true
    | _=>false
  | none=>false
def convert [BT] (T:Tab) (src dst:Nat) (x:AV) (s:St) (K:KV):Ans :=
  za (Tab.get T src) fun si=>za (Tab.get T dst) fun di =>
    match x with
    | .int _ n=>za (zaU di) fun k=>K (.int k (k.wrap n)) s
    | .str a=>match di.k with
      | .slice e=>cond (zcN T e) (cond (Nat.ble a.length 140737488355328) (qv s (.arr (.int .u8) (zW a)) fun i s=>K (.own i) s) none) none
      | .sc=>cond (W7 di) (K (.str a) s) none
      | _=>none
    | x=>match si.k,di.k with
      | .slice e,.sc=>cond (zcN T e&&W7 di) (za (jM s (.int .u8) x) fun l=>K (.str (z6 l)) s) none
      | _,_=>none
def lenOf (T:Tab) (t:Nat) (x:AV) (s:St) (K:AV→Ans):Ans :=
  za (Tab.get T t) fun i=>match i.k with
  | .sc=>cond (W7 i) (match x with
    | .str a=>K (.int .i64 a.length)
    | _=>none) none
  | .slice _=>match x with
    | .nils=>K (.int .i64 0)
    | .own n=>match zn s.H n with
      | .arr _ l=>K (.int .i64 l.length)
      | _=>none
    | .sub _ _ len _=>K (.int .i64 len)
    | .ro _ l=>K (.int .i64 l.length)
    | _=>none
  | .array n _=>K (.int .i64 n)
  | .map _ _=>match x with
    | .nilm=>K (.int .i64 0)
    | _=>none
  | _=>none
def zc1 (T:Tab) (t:Nat):Option (IntKind×TI×Ty) :=
  match Tab.get T t with
  | some i=>match i.k with
    | .map k e=>match Tab.get T k,Tab.get T e with
      | some ki,some ei=>match zaU ki,ei.ty with
        | some kk,some ty=>cond ty.sc (some (kk,ei,ty)) none
        | _,_=>none
      | _,_=>none
    | _=>none
  | none=>none
def zbf (s:St) (kk:IntKind) (ty:Ty) (x:AV):Option (List (Int×ty.T)) :=
  match x with
  | .nilm=>some []
  | .map i=>match zn s.H i with
    | .mp k' t' l=>zyy kk ty k' t' l
    | _=>none
  | _=>none
def zfs (kk:IntKind) (ix:AV):Option Int :=
  match ix with
  | .int k n=>match decEq k kk with
    | isTrue _=>some n
    | isFalse _=>none
  | _=>none
def zcu (T:Tab) (t:Nat) (x ix:AV) (ok:Bool) (s:St) (K:AV→Ans):Ans :=
  za (zc1 T t) fun (kk,ei,ty)=>za (zfs kk ix) fun n=>za (zbf s kk ty x) fun l=>za (Q2 ty ei.zero) fun z =>
    cond ok (K (.tup [enc ty (j8 n z l),.bool (zd5 n l)])) (K (enc ty (j8 n z l)))
def ziC (T:Tab) (t:Nat) (x ix y:AV) (s:St) (K:KV):Ans :=
  match x with
  | .map i=>za (zc1 T t) fun (kk,_,ty)=>za (zfs kk ix) fun n=>za (zbf s kk ty (.map i)) fun l=>za (Q2 ty [y]) fun z =>
      Wf s i (.mp kk ty (zci n z l)) fun s=>K .unk s
  | _=>none
def zgK (T:Tab) (t:Nat) (r:Option Operand) (s:St) (K:KV):Ans :=
  match r with
  | none=>za (zc1 T t) fun (kk,_,ty)=>qv s (.mp kk ty []) fun i s=>K (.map i) s
  | some _=>none
def zBQ (x:AV) (s:St) (K:KV):Ans :=
  match x with
  | .map i=>match zn s.H i with
    | .mp _ _ l=>K (.int .i64 l.length) s
    | _=>none
  | _=>none
def zvb (x:AV) (s:St) (K:KV):Ans :=
  match x with
  | .nilm=>K (.tup []) s
  | .map i=>match zn s.H i with
    | .mp k t _=>Wf s i (.mp k t []) fun s=>K (.tup []) s
    | _=>none
  | _=>none
def zTQ:AV→Bool
  | .map _=>true
  | _=>false
def zH9 (s:St) (t:Ty) (y:AV) (K:List t.T→Ans):Ans :=
  match y with
  | .str a=>za (yw t (.int .u8) (zW a)) K
  | y=>zys s t y K
def zz6 (T:Tab) (t:Nat) (x y:AV) (s:St) (K:KV):Ans :=
  za (JU T t) fun (_,j)=>za j.ty fun ty=>zH9 s ty y fun b =>
    match x with
    | .nils=>K (.int .i64 0) s
    | .own i=>match zn s.H i with
      | .arr t' l=>za (yw ty t' l) fun a=>Wf s i (.arr ty (b.take a.length++a.drop b.length)) fun s=>K (.int .i64 (Nat.min b.length a.length:Nat)) s
      | _=>none
    | .sub i off len _=>match zn s.H i with
      | .arr t' l=>cond (Nat.ble (off+len) l.length) (za (yw ty t' l) fun a=>Wf s i (.arr ty (a.take off++(b.take len++a.drop (off+Nat.min b.length len)))) fun s=>K (.int .i64 (Nat.min b.length len:Nat)) s) none
      | _=>none
    | _=>none
def max2 (x y:AV):Option AV :=
  match x,y with
  | .int k a,.int _ b=>some (.int k (if b>a then b else a))
  | _,_=>none
def min2 (x y:AV):Option AV :=
  match x,y with
  | .int k a,.int _ b=>some (.int k (if b<a then b else a))
  | _,_=>none
def zkC (f:AV→AV→Option AV):AV→List AV→Option AV
  | x,[]=>some x
  | x,y::r=>match f x y with | some z=>zkC f z r | none=>none
def extract (x:AV) (i:Nat) (K:AV→Ans):Ans :=
  match x with
  | .tup vs=>za (vs[i]?) K
  | _=>none
def isConst (x:Operand):Bool:=match x with | .const _=>true | _=>false
def zcv (T:Tab) (op:BinOp) (t:Nat) (c:Bool) (x y:AV) (K:AV→Ans):Ans :=
  match x with
  | .nili=>match y with
    | .nili=>cond c (za (Tab.get T t) fun i=>match i.k with
      | .sc=>match i.zero with
        | [.nili]=>match op with
          | .eql=>K (.bool true)
          | .neq=>K (.bool false)
          | _=>none
        | _=>none
      | _=>none) none
    | y=>binOp T op t x y K
  | x=>binOp T op t x y K
def zJF (i:TI):Option AV :=
  cond (i.zero.any fun v=>match v with | .nils=>true | _=>false) none (match i.isAgg with
    | true=>some (.agg i.zero)
    | false=>oneCell i.zero)
def zmO (T:Tab) (t:Nat) (ok:Bool) (x:AV) (K:AV→Ans):Ans :=
  za (Tab.get T t) fun i=>cond (zjZ i) none
    (match x with
     | .ifc t' y=>cond (Nat.beq t' t) (cond ok (K (.tup [y,.bool true])) (K y)) (cond ok (za (zJF i) fun z=>K (.tup [z,.bool false])) none)
     | .nili=>cond ok (za (zJF i) fun z=>K (.tup [z,.bool false])) none
     | _=>none)
def AV.ifcOk:AV→Bool
  | .agg _=>true
  | v=>v.cellOk
def z8 [BT] (T:Tab) (o:Oper) (s:St) (K:AV→Ans):Option Ans :=
  let v:=opd s.env
  match o.op with
  | .move x=>some (K (v x))
  | .assign x=>some (K (v x))
  | .load t a=>some (load T s t (v a) K)
  | .nilCheck x=>some (match v x with
    | .ptr i off=>K (.ptr i off)
    | .eptr i n off=>K (.eptr i n off)
    | .rptr t y off=>K (.rptr t y off)
    | _=>none)
  | .binOp op t x y _=>some (zcv T op t (isConst x || isConst y) (v x) (v y) K)
  | .unOp op _ x=>some (unOp op (v x) K)
  | .slice t x lo hi mx=>some (slice T s t (v x) (lo.map v) (hi.map v) (mx.map v) K)
  | .fieldAddr t x f=>some (fieldAddr T t (v x) f K)
  | .field t x f=>some (field T t (v x) f K)
  | .indexAddr t x i=>some (indexAddr T s t (v x) (v i) K)
  | .index t x i=>some (index T t (v x) (v i) K)
  | .extract t i=>some (extract (v t) i K)
  | .makeInterface t x=>some (za (Tab.get T t) fun i=>cond ((v x).ifcOk && !zjZ i) (K (.ifc t (v x))) none)
  | .makeFunc f a b=>some (K (.fn f (a.toList.map v) (b.toList.map v)))
  | .typeAssert x _ t ok=>some (zmO T t ok (v x) K)
  | .pick c a b=>some (match v c with
    | .bool p=>cond p (K (v a)) (K (v b))
    | _=>none)
  | .build t parts=>some (za (Tab.get T t) fun i=>cond (zkU T i) (za (Y4 (JZ T i) i.zero (parts.toList.map fun (j,x)=>(j,v x))) fun cs=>K (.agg cs)) none)
  | .convert src dst x=>match v x with
    | .int k n=>some (convert T src dst (.int k n) s fun r _=>K r)
    | _=>none
  | .call c=>match c.callee with
    | .builtin .len=>cond ((c.args.toList.map v).any zTQ) none (some (match c.args.toList,c.argTypes.toList with
      | [x],t::_=>lenOf T t (v x) s K
      | _,_=>none))
    | .builtin .max=>some (match c.args.toList with
      | x::r=>za (zkC max2 (v x) (r.map v)) K
      | _=>none)
    | .builtin .min=>some (match c.args.toList with
      | x::r=>za (zkC min2 (v x) (r.map v)) K
      | _=>none)
    | _=>none
  | _=>none
def Yn [BT] (T:Tab) (o:Oper) (s:St) (K:KV):Ans :=
  let v:=opd s.env
  match o.op with
  | .assign x=>yb T o.type (v x) s K
  | .alloc t=>zeroCells T t s fun z s'=>qv s' (zrg T t z) fun i s'=>K (.ptr i 0) s'
  | .box t x=>za (Tab.get T t) fun i=>yb T t (v x) s fun r s' =>
      cond (Nat.beq r.cellsOf.length i.size&&jd r.cellsOf) (qv s' (.cells r.cellsOf) fun i s'=>K (.ptr i 0) s') none
  | .build t parts=>za (Tab.get T t) fun i=>cond (zkU T i) (zeroCells T t s fun z s' =>
      za (Y4 (JZ T i) z (parts.toList.map fun (j,x)=>(j,v x))) fun cs=>Yj cs fun cs=>K (.agg cs) s') none
  | .buildSlice t len parts=>buildSlice T t len (parts.toList.map fun (j,x)=>(j,v x)) s K
  | .store t a x=>yb T t (v x) s fun r s'=>store T s' t (v a) r fun s''=>K .unk s''
  | .makeSlice t l c=>makeSlice T t (v l) (v c) s K
  | .convert src dst x=>convert T src dst (v x) s K
  | .lookup t x ix ok=>zcu T t (v x) (v ix) ok s fun r=>K r s
  | .mapUpdate t x ix y=>ziC T t (v x) (v ix) (v y) s K
  | .makeMap t r=>zgK T t r s K
  | .call c=>match c.callee with
    | .builtin .append=>(match c.args.toList,c.argTypes.toList with
      | [x,y],[t,t2]=>yb T t (v x) s fun r s'=>append T t t2 r (v y) s' K
      | _,_=>none)
    | .builtin .copy=>(match c.args.toList,c.argTypes.toList with
      | [x,y],[t,_]=>zz6 T t (v x) (v y) s K
      | _,_=>none)
    | .builtin .len=>(match c.args.toList,c.argTypes.toList with
      | [x],[t]=>za (zc1 T t) fun _=>zBQ (v x) s K
      | _,_=>none)
    | .builtin .clear=>(match c.args.toList,c.argTypes.toList with
      | [x],[t]=>za (Tab.get T t) fun _=>zvb (v x) s K
      | _,_=>none)
    | _=>none
  | _=>none
def za6 (nt:Nat) (dst:Option Nat) (v:AV) (s:St) (K:St→Ans):Ans :=
  match dst,s with
  | some d,⟨env,stk,H,blk⟩=>cond (Nat.blt d nt) (ZZ v fun v=>K ⟨(d,v)::env,stk,H,blk⟩) none
  | none,s=>K s
def zev (all:Array Oper) (j:Nat):Option Nat:=match all[j]? with | some o=>o.dst | none=>none
def qL (all:Array Oper) (nt:Nat) (o:Oper) (s:St) (run skip:St→Ans):Ans :=
  match o.guard with
  | none=>run s
  | some (j,want)=>za (zev all j) fun g=>match Zd s.env g with
    | .bool b=>cond (Nat.blt g nt) (cond b
        (match s,want with
         | ⟨env,stk,H,blk⟩,true=>run ⟨(g,.bool true)::env,stk,H,blk⟩
         | ⟨env,stk,H,blk⟩,false=>skip ⟨(g,.bool true)::env,stk,H,blk⟩)
        (match s,want with
         | ⟨env,stk,H,blk⟩,true=>skip ⟨(g,.bool false)::env,stk,H,blk⟩
         | ⟨env,stk,H,blk⟩,false=>run ⟨(g,.bool false)::env,stk,H,blk⟩)) none
    | .tup _=>cond (Nat.blt g nt) (skip s) none
    | _=>none
def Zn (T:Tab) (s:St):List ResultVar→List AV→(List AV→Ans)→Ans
  | [],acc,K=>K acc
  | .tmp t::r,acc,K=>Zn T s r (acc++[Zd s.env t]) K
  | .cell a t::r,acc,K=>load T s t (Zd s.env a) fun v=>Zn T s r (acc++[v]) K
def yP (vs:List AV):AV:=match vs with | [v]=>v | vs => .tup vs
def ZD:Nat→List AV→zQ
  | _,[]=>[]
  | n,v::r=>(n,v)::ZD (n+1) r
section
variable (T:Tab) (E:Env) (hint:ziK)
def zdn (body:Nat→Ann→Code→(Ex→St→Ans)→St→Ans) (g:Nat) (args:List AV) (s:St) (K:KV):Ans :=
  za (Env.get E g) fun sp=>match sp with
    | .pure F=>zfE F s args K
    | .func F=>callFunc F s args K
    | .inline nt res ann c=>body nt ann c (fun e s'=>match e with
        | .norm | .ret=>match s'.stk with
          | env::stk=>Zn T s' res [] fun vs=>ZZ (yP vs) fun v=>K v ⟨env,stk,s'.H,s.blk⟩
          | []=>none
        | _=>none) { env:=ZD 0 args,stk:=s.env::s.stk,H:=s.H,blk:=Nat.mul g 4096 }
    | .iter _ _=>none
def wu [BT] (s:St) (c:Call):Option (Nat×List AV) :=
  match c.callee with
  | .value f=>match opd s.env f with
    | .fn (.func g) first cap=>some (g,first++c.args.toList.map (opd s.env)++cap)
    | _=>none
  | .invoke r name=>match opd s.env r with
    | .ifc t v=>match Tab.get T t with
      | some _=>match zg7 BT.meths t name with
        | some g=>some (g,v::c.args.toList.map (opd s.env))
        | none=>none
      | none=>none
    | _=>none
  | _=>none
def opE [BT] (body:Nat→Ann→Code→(Ex→St→Ans)→St→Ans) (o:Oper) (s:St) (K:KV):Ans :=
  match (match o.op with
    | .assign (.const _)=>none
    | .build .. => none
    | _=>z8 T o s fun v=>K v s:Option Ans) with
  | some r=>r
  | none=>match o.op with
    | .call c=>match c.callee with
      | .value _=>za (wu T s c) fun (g,args)=>zdn T E body g args s K
      | .invoke _ _=>za (wu T s c) fun (g,args)=>zdn T E body g args s K
      | _=>Yn T o s K
    | _=>Yn T o s K
def yr [BT] (s:St) (o:Oper):Option (List Nat) :=
  match o.op with
  | .load _ x=>some (opd s.env x).refs
  | .call c=>match wu T s c with
    | some (_,args)=>some (AV.refsL args)
    | none=>none
  | _=>none
def opQ [BT] (o:Oper) (s:St) (K:AV→Ans):Ans :=
  match z8 T o s K with
  | some r=>r
  | none=>match o.op with
    | .call c=>za (wu T s c) fun (g,args)=>za (Env.get E g) fun sp=>match sp with
      | .pure F=>zfE F s args fun v _=>K v
      | _=>none
    | _=>none
def zuh [BT] (body:Nat→Ann→Code→(Ex→St→Ans)→St→Ans) (all:Array Oper) (nt:Nat):List Oper→(St→Ans)→St→Ans
  | [],K,s=>K s
  | o::r,K,s=>qL all nt o s
      (fun s=>opE T E body o s fun v s'=>za6 nt o.dst v s' (zuh body all nt r K))
      (fun s=>za6 nt o.dst (.tup []) s (zuh body all nt r K))
def ZB (o:Oper):Bool :=
  match o.op with
  | .assign _ | .alloc _ | .box .. | .build .. | .buildSlice .. | .makeSlice .. | .convert .. | .lookup .. | .makeMap .. => true
  | _=>false
def Zk (s:St) (o:Oper):Option (List Nat) :=
  cond (ZB o) (some [])
    (match o.op with
     | .store _ p _=>match opd s.env p with
       | .ptr n _=>some [n]
       | .eptr n _ _=>some [n]
       | _=>none
     | .mapUpdate _ m _ _=>match opd s.env m with
       | .map n=>some [n]
       | _=>none
     | .call c=>match c.callee with
       | .builtin .len=>some []
       | .builtin .clear=>match c.args.toList with
         | [x]=>match opd s.env x with
           | .map n=>some [n]
           | _=>none
         | _=>none
       | .builtin .copy=>match c.args.toList with
         | [x,_]=>match opd s.env x with
           | .own i=>some [i]
           | .sub i _ _ _=>some [i]
           | _=>none
         | _=>none
       | .builtin .append=>match c.args.toList with
         | [x,_]=>match opd s.env x with
           | .own i=>some [i]
           | .sub i _ _ _=>some [i]
           | _=>none
         | _=>none
       | _=>none
     | _=>none)
def opL [BT] (body:Nat→Ann→Code→(Ex→St→Ans)→St→Ans) (o:Oper) (s:St) (K:Option (List Nat)→KV):Ans :=
  match o.op with
  | .call c=>match c.callee with
    | .value _=>za (wu T s c) fun (g,args)=>match Env.get E g with
      | some (.func F)=>jB F s args fun sel r s=>K (some sel) r s
      | _=>zdn T E body g args s (K none)
    | .invoke _ _=>za (wu T s c) fun (g,args)=>match Env.get E g with
      | some (.func F)=>jB F s args fun sel r s=>K (some sel) r s
      | _=>zdn T E body g args s (K none)
    | _=>opE T E body o s (K (Zk s o))
  | _=>opE T E body o s (K (Zk s o))
def maskOf (ms:List Nat):List Edge→Nat
  | []=>0
  | e::r=>cond (Region.binds .any e) (Nat.lor (Nat.lor (Nat.shiftLeft 1 e.on) (getN ms e.on)) (maskOf ms r)) (maskOf ms r)
def Yw (all:Array Oper):Nat→List Nat
  | 0=>[]
  | k+1=>match Yw all k with
    | ms=>ms++[match all[k]? with | some o=>maskOf ms o.after.toList | none=>0]
def zea (ms:List Nat) (i j:Nat):Bool:=Nat.testBit (getN ms j) i
def zyu:List Nat→List Nat→Bool
  | [],_=>true
  | a::r,l => !YA l a&&zyu r l
def untouched (foot rd:Option (List Nat)):Bool :=
  match foot,rd with
  | some f,some l=>zyu l f
  | _,_=>false
def zbe (ms:List Nat) (i:Nat) (foot:Option (List Nat)):List (Nat×Option (List Nat))→Bool
  | []=>true
  | (k,rd)::r=>(zea ms k i || untouched foot rd)&&zbe ms i foot r
def zbI (foot:Option (List Nat)):List (Nat×Option (List Nat))→List (Nat×Option (List Nat))
  | []=>[]
  | (k,rd)::r=>(k,cond (untouched foot rd) rd none)::zbI foot r
def zeU (i:Nat) (rd:Option (List Nat)) (acc:List (Nat×Option (List Nat))):List (Nat×Option (List Nat)) :=
  match rd with
  | some l=>(i,some l)::acc
  | none=>acc
def zhv (q:Nat→Bool):List Nat→Option Nat
  | []=>none
  | i::r=>cond (q i) (some i) (zhv q r)
noncomputable def zfU {β:Type} (x y:Option β):Option β := @ite _ (x=y) (Classical.propDecidable _) x none
noncomputable def J1 (g:Nat→Ans):List Nat→Ans
  | []=>none
  | [i]=>g i
  | i::r=>zfU (g i) (J1 g r)
noncomputable def zid [BT] (body:Nat→Ann→Code→(Ex→St→Ans)→St→Ans) (all:Array Oper) (q:Nat→Bool) (ms:List Nat) (nt:Nat):Nat→Array Bool→List (Nat×Option (List Nat))→(St→Ans)→St→Ans
  | 0,listed,_,K,s=>match Region.ready .any all listed with
    | []=>K s
    | _::_=>none
  | f+1,listed,acc,K,s=>match Region.ready .any all listed with
    | []=>K s
    | i::r=>match zhv q (i::r) with
      | some j=>cond (Region.free .any all listed j) (za all[j]? fun o=>qL all nt o s
          (fun s=>opQ T E o s fun v=>za6 nt o.dst v s (zid body all q ms nt f (listed.setIfInBounds j true) (zeU j (yr T s o) acc) K))
          (fun s=>za6 nt o.dst (.tup []) s (zid body all q ms nt f (listed.setIfInBounds j true) acc K))) none
      | none=>J1 (fun i=>za all[i]? fun o=>qL all nt o s
          (fun s=>opL T E body o s fun foot v s'=>cond (zbe ms i foot acc) (za6 nt o.dst v s' (zid body all q ms nt f (listed.setIfInBounds i true) (zbI foot acc) K)) none)
          (fun s=>za6 nt o.dst (.tup []) s (zid body all q ms nt f (listed.setIfInBounds i true) acc K))) (i::r)
def zO0 (o:Oper):Bool :=
  match o.op with
  | .alloc _ | .box .. | .buildSlice .. | .store .. | .makeSlice .. | .makeMap .. | .mapUpdate .. | .insert .. | .mapEntry .. | .entryStore .. | .lookup .. => false
  | .convert src _ _=>match Tab.get T src with
    | some i=>(zaU i).isSome
    | none=>false
  | .call c=>match c.callee with
    | .builtin .len=>match c.argTypes.toList with
      | t::_=>match Tab.get T t with
        | some i=>match i.k with
          | .map _ _=>false
          | _=>true
        | none=>false
      | []=>false
    | .builtin .max=>true
    | .builtin .min=>true
    | .builtin _=>false
    | .value (.func g)=>match Env.get E g with
      | some (.pure _)=>true
      | _=>false
    | _=>false
  | _=>true
def zEA (all:Array Oper) (i:Nat):Bool :=
  match all[i]? with
  | some o=>zO0 T E o
  | none=>false
def zJT (x:Ann) (s:St) (K:St→Ans):Ans :=
  match x with
  | .norm k0 keep=>match s with
    | ⟨env,stk,H,blk⟩=>y2 k0 ⟨Yy env keep,stk,H,blk⟩ K
  | _=>K s
def zaw (keep:List Nat) (x:Ann) (s:St) (K:St→Ans):Ans :=
  match x.at? with
  | some (k0,keep')=>yg (s.head keep') fun s=>y2 k0 s K
  | none=>yg (s.head keep) fun s=>match x.pack? with
    | some k0=>y2 k0 s K
    | Option.none=>K s
def zaz (f:Ann→(Ex→St→Ans)→St→Ans) (x:Ann) (K:Ex→St→Ans) (s:St):Ans :=
  match x with
  | .cut k0 keep G=>yg (s.head keep) fun s=>y2 k0 s fun s=>G K s
  | x=>f x K s
def zeM (s:St) (g:Operand):Option ((List AV→List Obj→(List Int→Ans)→Ans)×(List AV→List Obj→List Int→Ans→(List AV→List Int→Ans)→Ans)×List AV) :=
  match opd s.env g with
  | .fn (.func gf) [] cap=>match Env.get E (Nat.add gf 100000) with
    | some (.iter start next)=>some (start,next,cap)
    | _=>none
  | _=>none
def zdo (nt:Nat):List Nat→List AV→zQ→(zQ→Ans)→Ans
  | [],[],env,K=>K env
  | p::r,x::xs,env,K=>cond (Nat.blt p nt) (ZZ x fun x=>zdo nt r xs ((p,x)::env) K) none
  | _,_,_,_=>none
def zPf (blk:Nat) (K:Ex→St→Ans) (e:Ex) (s:St):Ans :=
  match s with
  | ⟨_,stk,H,_⟩=>match stk with
    | env::stk=>K e ⟨env,stk,H,blk⟩
    | []=>none
noncomputable def Z7 [BT] (inl:Nat→Ann→Code→(Ex→St→Ans)→St→Ans) (nt:Nat) (rec:Nat→Ann→Code→(Ex→St→Ans)→St→Ans):Code→Ann→(Ex→St→Ans)→St→Ans
  | .skip,_,K,s=>K .norm s
  | .region _ ops draw,x,K,s =>
    cond draw
      (cond (Region.noSelect ops) (zid T E inl ops (zEA T E ops) (Yw ops ops.size) nt ops.size (Array.replicate ops.size false) [] (fun s=>zJT x s fun s=>K .norm s) s) none)
      (zuh T E inl ops nt ops.toList (fun s=>K .norm s) s)
  | .seq a b,x,K,s=>zaz (fun x K s=>Z7 inl nt rec a x K s) x.fst (fun e s'=>match e with | .norm=>zaz (fun x K s=>Z7 inl nt rec b x K s) x.snd K s' | e=>K e s') s
  | .cond c a b,x,K,s=>match opd s.env c with
    | .bool p=>cond p (zaz (fun x K s=>Z7 inl nt rec a x K s) x.fst K s) (zaz (fun x K s=>Z7 inl nt rec b x K s) x.snd K s)
    | _=>none
  | .block id c,x,K,⟨env,stk,H,blk⟩=>zaz (fun x K s=>Z7 inl nt rec c x K s) x.fst (fun e s'=>match e with
      | .exit i=>cond (Nat.beq i id) (K .norm s') (K (.exit i) s')
      | e=>K e s') ⟨env,stk,H,zVB blk id⟩
  | .loop c,x,K,s=>zaw (hint s.blk) x s fun s=>match x.sum? with
    | some G=>G K s
    | none=>rec nt x (.loop c) K s
  | .exit id,_,K,s=>K (.exit id) s
  | .ret,_,K,s=>K .ret s
  | .label _,_,K,s=>K .norm s
  | _,_,_,_=>none
def zeS (nt k0:Nat) (keep:List Nat) (g:Operand) (G:(Ex→St→Ans)→St→Ans) (K:Ex→St→Ans) (s:St):Ans :=
  za (zeM E s g) fun it=>it.1 it.2.2 s.H fun L =>
    match s with
    | ⟨env,stk,H,blk⟩=>yg (St.head ⟨(nt,.gh L)::env,stk,H,blk⟩ keep) fun s=>y2 k0 s fun s=>G K s
def Ju (n:Nat):zQ→zQ
  | []=>[]
  | (d,v)::r=>cond (Nat.beq d n) (Ju n r) ((d,v)::Ju n r)
noncomputable def zNk [BT] (inl:Nat→Ann→Code→(Ex→St→Ans)→St→Ans) (nt:Nat) (rec:Nat→Ann→Code→(Ex→St→Ans)→St→Ans) (x:Ann) (g:Operand) (ps:Array Nat) (as c:Code) (K:Ex→St→Ans) (s:St):Ans :=
  match Zd s.env nt with
  | .gh L=>za (zeM E s g) fun it=>it.2.1 it.2.2 s.H L (K .norm s) fun xs L' =>
      (match s with
       | ⟨env,stk,H,blk⟩=>zdo nt ps.toList xs (Ju nt env) fun env' =>
          Z7 T E hint inl nt rec as .none (fun e s1=>match e with
            | .norm=>zaz (fun x K s=>Z7 T E hint inl nt rec c x K s) x.fst
                (zPf blk fun e s=>match e with
                  | .norm=>match s with
                    | ⟨env,stk,H,blk⟩=>zaw (hint blk) x ⟨(nt,.gh L')::env,stk,H,blk⟩ fun s=>rec nt (.rnd x) (.rangeFunc g ps as c) K s
                  | e=>K e s) s1
            | _=>none) ⟨env',Ju nt env::stk,H,blk⟩)
  | _=>none
noncomputable def zM0 [BT] (inl:Nat→Ann→Code→(Ex→St→Ans)→St→Ans) (nt:Nat) (rec:Nat→Ann→Code→(Ex→St→Ans)→St→Ans) (x:Ann) (c:Code) (K:Ex→St→Ans) (s:St):Ans :=
  zaz (fun x K s=>Z7 T E hint inl nt rec c x K s) x.fst (fun e s'=>match e,s' with
    | .norm,⟨env,stk,H,_⟩=>Z7 T E hint inl nt rec (.loop c) x K ⟨env,stk,H,s.blk⟩
    | e,s'=>K e s') s
noncomputable def zA [BT] (inl:Nat→Ann→Code→(Ex→St→Ans)→St→Ans):Nat→Nat→Ann→Code→(Ex→St→Ans)→St→Ans
  | 0,_,_,_,_,_=>none
  | n+1,nt,x,c,K,s=>match c with
    | .loop b=>zM0 T E hint inl nt (zA inl n) x b K s
    | .rangeFunc g ps as b=>match x with
      | .rnd y=>zNk T E hint inl nt (zA inl n) y g ps as b K s
      | x=>Z7 T E hint inl nt (zA inl n) (.rangeFunc g ps as b) x K s
    | c=>Z7 T E hint inl nt (zA inl n) c x K s
noncomputable def zD [BT]:Nat→Nat→Nat→Ann→Code→(Ex→St→Ans)→St→Ans
  | 0,n,nt,x,c,K,s=>zA T E hint (fun _ _ _ _ _=>none) n nt x c K s
  | d+1,n,nt,x,c,K,s=>zA T E hint (zD d n) n nt x c K s
def Z4:Nat→List Obj→zQ
  | _,[]=>[]
  | n,.cells _::r=>(n,.ptr n 0)::Z4 (n+1) r
  | n,.bcells _::r=>(n,.ptr n 0)::Z4 (n+1) r
  | n,.btold _::r=>(n,.ptr n 0)::Z4 (n+1) r
  | n,.mp _ _ _::r=>(n,.map n)::Z4 (n+1) r
  | n,_::r=>Z4 (n+1) r
def ziR (n:Nat):AV→Bool
  | .ptr i o=>Nat.beq i n&&Nat.beq o 0
  | _=>false
def zsg (n:Nat):AV→Bool
  | .map i=>Nat.beq i n
  | _=>false
def Z3 (env:zQ):Nat→List Obj→Bool
  | _,[]=>true
  | n,.cells _::r=>ziR n (Zd env n)&&Z3 env (n+1) r
  | n,.bcells _::r=>ziR n (Zd env n)&&Z3 env (n+1) r
  | n,.btold _::r=>ziR n (Zd env n)&&Z3 env (n+1) r
  | n,.mp _ _ _::r=>zsg n (Zd env n)&&Z3 env (n+1) r
  | n,_::r=>Z3 env (n+1) r
def zy9 (H0:List Obj) (res:List ResultVar) (K:AV→List Obj→Ans) (e:Ex) (s:St):Ans :=
  match e with
  | .norm | .ret=>match s.stk with
    | [env]=>cond (Z3 env 0 H0) (Zn T s res [] fun vs=>zfp H0.length (yP vs) s.H K) none
    | _=>none
  | _=>none
noncomputable def fnE [BT] (d n g nt:Nat) (res:List ResultVar) (x:Ann) (c:Code) (args:List AV) (H:List Obj) (K:AV→List Obj→Ans):Ans :=
  zD T E hint d n nt x c (zy9 T H res K) { env:=ZD 0 args,stk:=[Z4 0 H],H:=H,blk:=Nat.mul g 4096 }
end
end Go.AE
namespace Go.AE
open Go.RowKit (Below)
structure Cx where
  R:Nat→Prop
  ρ:Nat→Option Nat
  H:List Obj
  w:World
def Yx (w:World) (b:Nat):Option (Array Value) :=
  match w.heap[b]? with
  | some (.cells c _ _)=>some c
  | _=>none
theorem cell_blk {w:World} {b:Nat} {c:Array Value} (h:Yx w b=some c) (o:Nat):w.cell? ⟨b,o,none⟩=c[o]? := by
  unfold Yx at h
  unfold World.cell?
  split at h
  · rename_i c' e fr he
    obtain rfl:=Option.some.inj h
    simp [he]
  · cases h
theorem blkOf_cells {w:World} {b:Nat} {c:Array Value} {e:TypeId} {fr:Nat×Nat} (h:w.heap[b]? = some (.cells c e fr)):Yx w b=some c:=by
  simp [Yx,h]
theorem Y9 {w w':World} {b:Nat} (h:w'.heap[b]? = w.heap[b]?):Yx w' b=Yx w b:=by simp [Yx,h]
def zE (R:Nat→Prop) (w:World):(t:Ty)→t.T→List Value→Prop
  | .int k,n,vs=>vs=[.int k n]
  | .bool,b,vs=>vs=[.bool b]
  | .str,s,vs=>vs=[.string ⟨s.toArray⟩]
  | .unit,_,vs=>vs=[]
  | .st f,x,vs=>zE R w f x vs
  | .pair a b,x,vs => ∃u v,vs=u++v∧zE R w a x.1 u∧zE R w b x.2 v
  | .list e,l,vs => ∃A c,vs=[.slice A l.length c]∧l.length≤c∧(l=[] ∨ ∃b o,A=some ⟨b,o,none⟩∧R b ∧
      ∀i x,l[i]? = some x → ∃us,zE R w e x us ∧ ∀j u,us[j]? = some u→w.cell? ⟨b,o+(i*e.size+j),none⟩=some u)
theorem zE.length {R:Nat→Prop} {w:World} : ∀{t:Ty} {x:t.T} {vs:List Value},zE R w t x vs→vs.length=t.size
  | .int _,_,_,h=>by rw [zE] at h;subst h;rfl
  | .bool,_,_,h=>by rw [zE] at h;subst h;rfl
  | .str,_,_,h=>by rw [zE] at h;subst h;rfl
  | .unit,_,_,h=>by rw [zE] at h;subst h;rfl
  | .st f,_,_,h=>by rw [zE] at h;rw [Ty.size];exact zE.length h
  | .pair a b,_,_,h=>by
    rw [zE] at h
    obtain ⟨u,v,rfl,hu,hv⟩:=h
    rw [List.length_append,zE.length hu,zE.length hv,Ty.size]
  | .list e,_,_,h=>by rw [zE] at h;obtain ⟨A,c,rfl,_⟩:=h;rfl
theorem zE.oneCell {R:Nat→Prop} {w:World} : ∀{t:Ty} {x:t.T} {vs:List Value},zE R w t x vs → ∀u ∈ vs,u.oneCell'=true
  | .int _,_,_,h=>by rw [zE] at h;subst h;simp [Value.oneCell']
  | .bool,_,_,h=>by rw [zE] at h;subst h;simp [Value.oneCell']
  | .str,_,_,h=>by rw [zE] at h;subst h;simp [Value.oneCell']
  | .unit,_,_,h=>by rw [zE] at h;subst h;simp
  | .st f,_,_,h=>by rw [zE] at h;exact zE.oneCell h
  | .pair a b,_,_,h=>by
    rw [zE] at h
    obtain ⟨u,v,rfl,hu,hv⟩:=h
    intro x hx
    rcases List.mem_append.1 hx with hx | hx
    · exact zE.oneCell hu x hx
    · exact zE.oneCell hv x hx
  | .list e,_,_,h=>by rw [zE] at h;obtain ⟨A,c,rfl,_⟩:=h;simp [Value.oneCell']
theorem jN {w w':World} {b:Nat} (h:w'.heap[b]? = w.heap[b]?) (o:Nat) (s:Option Nat):w'.cell? ⟨b,o,s⟩=w.cell? ⟨b,o,s⟩:=by
  simp [World.cell?,h]
theorem zE.mono {R R':Nat→Prop} {w w':World} (hR : ∀b,R b→R' b∧w'.heap[b]? = w.heap[b]?) :
    ∀{t:Ty} {x:t.T} {vs:List Value},zE R w t x vs→zE R' w' t x vs
  | .int _,_,_,h=>h
  | .bool,_,_,h=>h
  | .str,_,_,h=>h
  | .unit,_,_,h=>h
  | .st f,_,_,h=>by rw [zE] at *;exact zE.mono hR h
  | .pair a b,_,_,h=>by
    rw [zE] at *
    obtain ⟨u,v,rfl,hu,hv⟩:=h
    exact ⟨u,v,rfl,zE.mono hR hu,zE.mono hR hv⟩
  | .list e,_,_,h=>by
    rw [zE] at *
    obtain ⟨A,c,rfl,hc,h⟩:=h
    refine ⟨A,c,rfl,hc,?_⟩
    rcases h with h | ⟨b,o,rfl,hb,h⟩
    · exact .inl h
    · refine .inr ⟨b,o,rfl,(hR b hb).1,fun i x hi => ?_⟩
      obtain ⟨us,hd,hu⟩:=h i x hi
      exact ⟨us,zE.mono hR hd,fun j u hj=>by rw [jN (hR b hb).2];exact hu j u hj⟩
def zt (H:List Obj) (i:Nat):Prop:=zn H i ≠ .dead
mutual
def VRel (C:Cx):AV→Value→Prop
  | .unk,_=>True
  | .bool b,v=>v = .bool b
  | .int k n,v=>v = .int k n
  | .str s,v=>v = .string ⟨s.toArray⟩
  | .nilp,v=>v = .pointer none
  | .ptr i off,v => ∃b,C.ρ i=some b∧v = .pointer (some ⟨b,off,none⟩)∧zt C.H i
  | .eptr i n off,v => ∃b t l,C.ρ i=some b∧zn C.H i = .arr t l∧v = .pointer (some ⟨b,n*t.size+off,none⟩)
  | .rptr t x off,v => ∃b o us,C.R b∧zE C.R C.w t x us∧(∀j u,us[j]? = some u→C.w.cell? ⟨b,o+j,none⟩=some u)∧v = .pointer (some ⟨b,o+off,none⟩)
  | .nils,v=>v = .slice none 0 0
  | .own i,v => ∃t l,zn C.H i = .arr t l∧((C.ρ i=none∧l=[]∧v = .slice none 0 0) ∨
      ∃b c cap,C.ρ i=some b∧Yx C.w b=some c∧l.length≤cap∧cap*t.size≤c.size∧v = .slice (some ⟨b,0,none⟩) l.length cap)
  | .sub i off len e,v => ∃A cap,v = .slice A len cap∧len≤cap∧(len=0∧off≠0∨len=0∧A=none∧cap=0 ∨
      ∃b,C.ρ i=some b∧A=some ⟨b,off*e,none⟩ ∧ ∃c,Yx C.w b=some c∧(off+cap)*e≤c.size ∧
        match zn C.H i with
        | .arr t l=>e=t.size∧off+len≤l.length
        | .cells cs=>(off+len)*e≤cs.length
        | _=>False)
  | .ro t l,v=>zE C.R C.w (.list t) l [v]
  | .nilm,v=>v = .map none
  | .map i,v => ∃b,C.ρ i=some b∧v = .map (some b)∧zt C.H i
  | .fn f a b,v => ∃a' b',v = .func f a' b'∧VRels C a a'.toList∧VRels C b b'.toList
  | .nilf,v=>v = .nilFunc
  | .nili,v=>v = .nilIface
  | .ifc t x,v => ∃y,v = .iface t y∧VRel C x y
  | .agg cs,v => ∃vs,v = .agg vs∧VRels C cs vs.toList
  | .tup cs,v => ∃vs,v = .tuple vs∧VRels C cs vs.toList
  | .gh _,_=>True
def VRels (C:Cx):List AV→List Value→Prop
  | [],vs=>vs=[]
  | a::r,vs => ∃v vs',vs=v::vs'∧VRel C a v∧VRels C r vs'
end
def AV.isRef:AV→Bool
  | .ptr .. => true
  | .eptr .. => true
  | .own _=>true
  | .sub .. => true
  | .map _=>true
  | _=>false
section
variable {C C':Cx} {g:AV→AV} {p:Nat→Prop}
mutual
theorem VRel.mapR (hl : ∀a v,a.isRef=true→(∀i ∈ a.refs,p i)→VRel C a v→VRel C' (g a) v) (hR : ∀b,C.R b→C'.R b∧C'.w.heap[b]? = C.w.heap[b]?) :
    ∀(a:AV) (v:Value),(∀i ∈ a.refs,p i)→VRel C a v→VRel C' (a.mapR g) v
  | .unk,_,_,_=>by rw [AV.mapR,VRel];trivial
  | .gh _,_,_,_=>by rw [AV.mapR,VRel];trivial
  | .bool _,_,_,h=>by rw [VRel] at h;rw [AV.mapR,VRel];exact h
  | .int _ _,_,_,h=>by rw [VRel] at h;rw [AV.mapR,VRel];exact h
  | .str _,_,_,h=>by rw [VRel] at h;rw [AV.mapR,VRel];exact h
  | .nilp,_,_,h=>by rw [VRel] at h;rw [AV.mapR,VRel];exact h
  | .nils,_,_,h=>by rw [VRel] at h;rw [AV.mapR,VRel];exact h
  | .nilm,_,_,h=>by rw [VRel] at h;rw [AV.mapR,VRel];exact h
  | .nilf,_,_,h=>by rw [VRel] at h;rw [AV.mapR,VRel];exact h
  | .nili,_,_,h=>by rw [VRel] at h;rw [AV.mapR,VRel];exact h
  | .ptr _ _,v,hp,h=>by rw [AV.mapR];exact hl _ v rfl hp h
  | .eptr _ _ _,v,hp,h=>by rw [AV.mapR];exact hl _ v rfl hp h
  | .own _,v,hp,h=>by rw [AV.mapR];exact hl _ v rfl hp h
  | .sub _ _ _ _,v,hp,h=>by rw [AV.mapR];exact hl _ v rfl hp h
  | .map _,v,hp,h=>by rw [AV.mapR];exact hl _ v rfl hp h
  | .ro t l,v,_,h=>by rw [VRel] at h;rw [AV.mapR,VRel];exact zE.mono hR h
  | .rptr t x off,v,_,h=>by
    rw [VRel] at h;rw [AV.mapR,VRel]
    obtain ⟨b,o,us,hb,hd,hu,rfl⟩:=h
    exact ⟨b,o,us,(hR b hb).1,zE.mono hR hd,fun j u hj=>by rw [jN (hR b hb).2];exact hu j u hj,rfl⟩
  | .fn f a b,v,hp,h=>by
    rw [VRel] at h;rw [AV.mapR,VRel]
    rw [AV.refs] at hp
    obtain ⟨a',b',rfl,ha,hb⟩:=h
    exact ⟨a',b',rfl,VRels.mapR hl hR a _ (fun i hi=>hp i (List.mem_append.2 (.inl hi))) ha,VRels.mapR hl hR b _ (fun i hi=>hp i (List.mem_append.2 (.inr hi))) hb⟩
  | .ifc t x,v,hp,h=>by
    rw [VRel] at h;rw [AV.mapR,VRel]
    rw [AV.refs] at hp
    obtain ⟨y,rfl,hy⟩:=h
    exact ⟨y,rfl,VRel.mapR hl hR x y hp hy⟩
  | .agg cs,v,hp,h=>by
    rw [VRel] at h;rw [AV.mapR,VRel]
    rw [AV.refs] at hp
    obtain ⟨vs,rfl,hv⟩:=h
    exact ⟨vs,rfl,VRels.mapR hl hR cs _ hp hv⟩
  | .tup cs,v,hp,h=>by
    rw [VRel] at h;rw [AV.mapR,VRel]
    rw [AV.refs] at hp
    obtain ⟨vs,rfl,hv⟩:=h
    exact ⟨vs,rfl,VRels.mapR hl hR cs _ hp hv⟩
theorem VRels.mapR (hl : ∀a v,a.isRef=true→(∀i ∈ a.refs,p i)→VRel C a v→VRel C' (g a) v) (hR : ∀b,C.R b→C'.R b∧C'.w.heap[b]? = C.w.heap[b]?) :
    ∀(l:List AV) (vs:List Value),(∀i ∈ AV.refsL l,p i)→VRels C l vs→VRels C' (AV.mapRs g l) vs
  | [],_,_,h=>by rw [VRels] at h;rw [AV.mapRs,VRels];exact h
  | a::r,_,hp,h=>by
    rw [VRels] at h;rw [AV.mapRs,VRels]
    rw [AV.refsL] at hp
    obtain ⟨v,vs',rfl,hv,hr⟩:=h
    exact ⟨v,vs',rfl,VRel.mapR hl hR a v (fun i hi=>hp i (List.mem_append.2 (.inl hi))) hv,VRels.mapR hl hR r vs' (fun i hi=>hp i (List.mem_append.2 (.inr hi))) hr⟩
end
end
mutual
theorem mapR_id : ∀a:AV,a.mapR (fun x=>x)=a
  | .unk=>rfl
  | .bool _=>rfl
  | .int _ _=>rfl
  | .str _=>rfl
  | .nilp=>rfl
  | .nils=>rfl
  | .nilm=>rfl
  | .nilf=>rfl
  | .nili=>rfl
  | .ptr _ _=>rfl
  | .eptr _ _ _=>rfl
  | .own _=>rfl
  | .sub _ _ _ _=>rfl
  | .map _=>rfl
  | .ro _ _=>rfl
  | .rptr _ _ _=>rfl
  | .gh _=>rfl
  | .fn f a b=>by rw [AV.mapR,W8 a,W8 b]
  | .ifc t x=>by rw [AV.mapR,mapR_id x]
  | .agg cs=>by rw [AV.mapR,W8 cs]
  | .tup cs=>by rw [AV.mapR,W8 cs]
theorem W8 : ∀l:List AV,AV.mapRs (fun x=>x) l=l
  | []=>rfl
  | a::r=>by rw [AV.mapRs,mapR_id a,W8 r]
end
theorem VRel.mono {C C':Cx} (hl : ∀a v,a.isRef=true→VRel C a v→VRel C' a v) (hR : ∀b,C.R b→C'.R b∧C'.w.heap[b]? = C.w.heap[b]?) {a:AV} {v:Value} (h:VRel C a v):VRel C' a v:=by
  have:=VRel.mapR (p:=fun _=>True) (g:=fun x=>x) (fun a v h1 _ h2=>hl a v h1 h2) hR a v (fun _ _=>trivial) h
  rwa [mapR_id] at this
theorem VRels.mono {C C':Cx} (hl : ∀a v,a.isRef=true→VRel C a v→VRel C' a v) (hR : ∀b,C.R b→C'.R b∧C'.w.heap[b]? = C.w.heap[b]?) {a:List AV} {v:List Value} (h:VRels C a v):VRels C' a v:=by
  have:=VRels.mapR (p:=fun _=>True) (g:=fun x=>x) (fun a v h1 _ h2=>hl a v h1 h2) hR a v (fun _ _=>trivial) h
  rwa [W8] at this
theorem VRels.length {C:Cx} : ∀{l:List AV} {vs:List Value},VRels C l vs→vs.length=l.length
  | [],_,h=>by rw [VRels] at h;subst h;rfl
  | _::r,_,h=>by
    rw [VRels] at h
    obtain ⟨v,vs',rfl,_,hr⟩:=h
    simp [VRels.length hr]
theorem VRels.get {C:Cx} : ∀{l:List AV} {vs:List Value},VRels C l vs → ∀{i:Nat} {a:AV},l[i]? = some a → ∃v,vs[i]? = some v∧VRel C a v
  | [],_,_,i,a,hi=>by simp at hi
  | x::r,_,h,0,a,hi=>by
    rw [VRels] at h
    obtain ⟨v,vs',rfl,hv,_⟩:=h
    simp at hi;subst hi
    exact ⟨v,rfl,hv⟩
  | x::r,_,h,i+1,a,hi=>by
    rw [VRels] at h
    obtain ⟨v,vs',rfl,_,hr⟩:=h
    exact VRels.get hr (i:=i) (by simpa using hi)
theorem VRels.append {C:Cx} : ∀{l m:List AV} {vs us:List Value},VRels C l vs→VRels C m us→VRels C (l++m) (vs++us)
  | [],_,_,_,h,h'=>by rw [VRels] at h;subst h;simpa using h'
  | x::r,_,_,_,h,h'=>by
    rw [VRels] at h
    obtain ⟨v,vs',rfl,hv,hr⟩:=h
    rw [List.cons_append,List.cons_append,VRels]
    exact ⟨v,_,rfl,hv,VRels.append hr h'⟩
theorem VRels.drop {C:Cx} : ∀{l:List AV} {vs:List Value} (n:Nat),VRels C l vs→VRels C (l.drop n) (vs.drop n)
  | _,_,0,h=>by simpa using h
  | [],_,n+1,h=>by rw [VRels] at h;subst h;simp [VRels]
  | x::r,_,n+1,h=>by
    rw [VRels] at h
    obtain ⟨v,vs',rfl,_,hr⟩:=h
    exact VRels.drop n hr
theorem VRels.take {C:Cx} : ∀{l:List AV} {vs:List Value} (n:Nat),VRels C l vs→VRels C (l.take n) (vs.take n)
  | _,_,0,_=>by simp [VRels]
  | [],_,n+1,h=>by rw [VRels] at h;subst h;simp [VRels]
  | x::r,_,n+1,h=>by
    rw [VRels] at h
    obtain ⟨v,vs',rfl,hv,hr⟩:=h
    rw [List.take_succ_cons,List.take_succ_cons,VRels]
    exact ⟨v,_,rfl,hv,VRels.take n hr⟩
theorem zf6 {α:Type} : ∀{n:Nat} {l r:List α},YZ n l=some r→r=l.take n∧n≤l.length
  | 0,l,r,h=>by simp [YZ] at h;subst h;simp
  | n+1,[],r,h=>by simp [YZ] at h
  | n+1,x::l,r,h=>by
    simp only [YZ] at h
    split at h
    · rename_i l' hl
      obtain ⟨e,hn⟩:=zf6 hl
      cases h
      exact ⟨by simp [e],by simpa using hn⟩
    · cases h
theorem zE.cells {C:Cx} : ∀{t:Ty} {x:t.T} {vs:List Value},zE C.R C.w t x vs→VRels C (cells t x) vs
  | .int _,_,_,h=>by rw [zE] at h;subst h;simp [AE.cells,VRels,VRel]
  | .bool,_,_,h=>by rw [zE] at h;subst h;simp [AE.cells,VRels,VRel]
  | .str,_,_,h=>by rw [zE] at h;subst h;simp [AE.cells,VRels,VRel]
  | .unit,_,_,h=>by rw [zE] at h;subst h;simp [AE.cells,VRels]
  | .st f,_,_,h=>by rw [zE] at h;rw [AE.cells];exact zE.cells h
  | .pair a b,_,_,h=>by
    rw [zE] at h
    obtain ⟨u,v,rfl,hu,hv⟩:=h
    rw [AE.cells]
    exact VRels.append (zE.cells hu) (zE.cells hv)
  | .list e,l,vs,h=>by
    have h':=h
    rw [zE] at h'
    obtain ⟨A,c,rfl,_⟩:=h'
    rw [AE.cells,VRels]
    exact ⟨_,[],rfl,by rw [VRel];exact h,by rw [VRels]⟩
theorem yE {e e':Ty} {l:List e'.T} {l':List e.T} (h:yw e e' l=some l') : ∃he:e'=e,l'=he ▸ l:=by
  unfold yw at h
  split at h
  · rename_i he _
    exact ⟨he,(Option.some.inj h).symm⟩
  · cases h
theorem zeW {C:Cx} : ∀{t:Ty} {cs r:List AV} {x:t.T} {vs:List Value},dec t cs=some (x,r)→VRels C cs vs →
    ∃us ws,vs=us++ws∧zE C.R C.w t x us∧VRels C r ws
  | .int k,cs,r,x,vs,h,hv=>by
    unfold dec at h
    split at h
    · rename_i k' n r'
      split at h
      · rename_i hk _
        cases h
        rw [VRels] at hv
        obtain ⟨v,vs',rfl,h1,h2⟩:=hv
        rw [VRel] at h1
        exact ⟨[v],vs',rfl,by rw [zE,h1,hk],h2⟩
      · cases h
    · cases h
  | .bool,cs,r,x,vs,h,hv=>by
    unfold dec at h
    split at h
    · cases h
      rw [VRels] at hv
      obtain ⟨v,vs',rfl,h1,h2⟩:=hv
      rw [VRel] at h1
      exact ⟨[v],vs',rfl,by rw [zE,h1],h2⟩
    · cases h
  | .str,cs,r,x,vs,h,hv=>by
    unfold dec at h
    split at h
    · cases h
      rw [VRels] at hv
      obtain ⟨v,vs',rfl,h1,h2⟩:=hv
      rw [VRel] at h1
      exact ⟨[v],vs',rfl,by rw [zE,h1],h2⟩
    · cases h
  | .unit,cs,r,x,vs,h,hv=>by
    unfold dec at h
    cases h
    exact ⟨[],vs,rfl,by rw [zE],hv⟩
  | .st f,cs,r,x,vs,h,hv=>by
    unfold dec at h
    obtain ⟨us,ws,e,hd,hr⟩:=zeW (t:=f) h hv
    exact ⟨us,ws,e,by rw [zE];exact hd,hr⟩
  | .pair a b,cs,r,x,vs,h,hv=>by
    unfold dec at h
    split at h
    · rename_i y r' h1
      split at h
      · rename_i z r'' h2
        cases h
        obtain ⟨us,ws,rfl,hd,hr⟩:=zeW h1 hv
        obtain ⟨us',ws',rfl,hd',hr'⟩:=zeW h2 hr
        exact ⟨us++us',ws',by simp,by rw [zE];exact ⟨us,us',rfl,hd,hd'⟩,hr'⟩
      · cases h
    · cases h
  | .list e,cs,r,x,vs,h,hv=>by
    unfold dec at h
    split at h
    · rename_i e' l r'
      split at h
      · rename_i l' hl
        cases h
        rw [VRels] at hv
        obtain ⟨v,vs',rfl,h1,h2⟩:=hv
        obtain ⟨he,hx⟩:=yE hl
        subst he
        simp at hx
        subst hx
        rw [VRel] at h1
        exact ⟨[v],vs',rfl,h1,h2⟩
      · cases h
    · cases h
      rw [VRels] at hv
      obtain ⟨v,vs',rfl,h1,h2⟩:=hv
      rw [VRel] at h1
      exact ⟨[v],vs',rfl,by rw [zE,h1];exact ⟨none,0,rfl,by simp,.inl rfl⟩,h2⟩
    · cases h
theorem zbh {C:Cx} {t:Ty} {cs:List AV} {x:t.T} {vs:List Value} (h:Q2 t cs=some x) (hv:VRels C cs vs):zE C.R C.w t x vs:=by
  unfold Q2 at h
  split at h
  · rename_i y hd
    cases h
    obtain ⟨us,ws,rfl,hx,hr⟩:=zeW hd hv
    rw [VRels] at hr
    subst hr
    simpa using hx
  · cases h
def qe (fr:Nat×Nat) (n:Nat):Prop := ∀x,x<n → ¬(fr.1≤x∧x<fr.2)
def zgl:(t:Ty)→t.T→Option Value
  | .int k,n=>some (.int k n)
  | .bool,b=>some (.bool b)
  | .str,s=>some (.string ⟨s.toArray⟩)
  | _,_=>none
def ZU (k:IntKind) (t:Ty):List (Int×t.T)→List MapEntry→Prop
  | [],es=>es=[]
  | (n,x)::r,es => ∃e es',es=e::es'∧e.key = .int k n∧zgl t x=some e.val∧ZU k t r es'
def ya [BT] (C:Cx) (o:Obj) (r:Option Nat):Prop :=
  match o with
  | .dead=>True
  | .cells cs => ∃b c e fr,r=some b∧C.w.heap[b]? = some (.cells c e fr)∧qe fr c.size∧VRels C cs c.toList ∧ ∀u ∈ c.toList,u.oneCell'=true
  | .arr t l=>(r=none∧l=[]) ∨ ∃b c e fr,r=some b∧C.w.heap[b]? = some (.cells c e fr)∧qe fr c.size∧l.length*t.size≤c.size ∧
      (∀k x,l[k]? = some x → ∃us,zE C.R C.w t x us ∧ ∀j u,us[j]? = some u→c[k*t.size+j]? = some u)∧(t = .int .u8→e=BT.byte)
  | .bcells cs => ∃b c v0,r=some b∧C.w.heap[b]? = some (.cells c BT.bld (0,0))∧(∃vs,c.toList=v0::vs∧VRels C cs vs)∧(∀u ∈ c.toList,u.oneCell'=true)∧(v0 = .pointer none∨v0 = .pointer (some ⟨b,0,none⟩))
  | .btold s => ∃b v0 v,r=some b∧C.w.heap[b]? = some (.cells #[v0,v] BT.bld (0,0))∧(∀u ∈ (#[v0,v]:Array Value).toList,u.oneCell'=true)∧(v0 = .pointer none∨v0 = .pointer (some ⟨b,0,none⟩)) ∧
      ((s=[]∧v = .slice none 0 0) ∨ ∃g cap cur fr,v = .slice (some ⟨g,0,none⟩) s.length cap∧s.length≤cap∧C.R g∧C.w.heap[g]? = some (.cells cur BT.byte fr)∧(s=[]∨fr.1=0∧fr.2≠0∧s.length≤fr.2)∧s.length≤cur.size ∧ ∀(j:Nat) (x:Int),s[j]? = some x→cur[j]? = some (Value.int .u8 x))
  | .mp k t l => ∃b es ck,r=some b∧C.w.heap[b]? = some (.map es ck)∧ZU k t l es.toList∧MapKept.Stamped es ck
structure zY [BT] (C:Cx):Prop where
  obj : ∀i,ya C (zn C.H i) (C.ρ i)
  inj : ∀i j b,zt C.H i→zt C.H j→C.ρ i=some b→C.ρ j=some b→i=j
  ro : ∀i b,zt C.H i→C.ρ i=some b → ¬C.R b
  rlt : ∀b,C.R b→b<C.w.heap.size
structure Fr where
  w0:World
  own0:Nat→Prop
  R0:Nat→Prop
  base:Nat
structure zF (F:Fr) (C:Cx):Prop where
  os:C.w.os=F.w0.os
  tape:C.w.tape=F.w0.tape
  output:C.w.output=F.w0.output
  size:F.w0.heap.size≤C.w.heap.size
  keep : ∀b,b<F.w0.heap.size → ¬F.own0 b→C.w.heap[b]? = F.w0.heap[b]?
  r0 : ∀b,F.R0 b→C.R b
  rN : ∀b,C.R b→F.R0 b∨F.own0 b∨F.w0.heap.size≤b
  own : ∀i b,zt C.H i→C.ρ i=some b→F.own0 b∨F.w0.heap.size≤b
def Zj (C:Cx) (env:zQ) (tmps:Array Value):Prop := ∀t,VRel C (Zd env t) (tmps.getD t undef)
def Zz (C:Cx):List zQ→List (Array Value)→Prop
  | [],vs=>vs=[]
  | e::r,vs => ∃v vs',vs=v::vs'∧Zj C e v∧Zz C r vs'
structure zw [BT] (F:Fr) (C:Cx) (s:St) (tmps:Array Value) (stk:List (Array Value)):Prop where
  H:C.H=s.H
  heap:zY C
  env:Zj C s.env tmps
  stk:Zz C s.stk stk
  frame:zF F C
theorem zaf (t:Nat):Zd [] t = .unk:=rfl
theorem Zm (d:Nat) (v:AV) (r:zQ) (t:Nat):Zd ((d,v)::r) t=if d=t then v else Zd r t:=by
  rw [Zd]
  by_cases h:d=t
  · simp [h]
  · have:Nat.beq d t=false:=by
      cases hb:Nat.beq d t
      · rfl
      · exact absurd (Nat.eq_of_beq_eq_true hb) h
    simp [h,this]
theorem Zj.put {C:Cx} {env:zQ} {tmps:Array Value} (h:Zj C env tmps) {d:Nat} {v:AV} {u:Value} (hv:VRel C v u) (hd:d<tmps.size) :
    Zj C ((d,v)::env) (tmps.setIfInBounds d u):=by
  intro t
  rw [Zm]
  by_cases e:d=t
  · subst e
    rw [if_pos rfl]
    simp [hd]
    exact hv
  · rw [if_neg e]
    have:=h t
    simp only [Array.getD_eq_getD_getElem?] at *
    rwa [Array.getElem?_setIfInBounds_ne e]
end Go.AE
namespace Go.AE
variable {P:Program} {T:Tab} {C:Cx}
def zaA:AV→Value
  | .bool b => .bool b
  | .int k n => .int k n
  | .str s => .string ⟨s.toArray⟩
  | .nilp => .pointer none
  | .nils => .slice none 0 0
  | .nilm => .map none
  | .nilf => .nilFunc
  | .nili => .nilIface
  | _=>undef
def AV.isZero:AV→Bool
  | .bool _=>true
  | .int _ _=>true
  | .str _=>true
  | .nilp=>true
  | .nils=>true
  | .nilm=>true
  | .nilf=>true
  | .nili=>true
  | _=>false
def yn:List AV→TypeDesc→Bool
  | [.bool _],.bool=>true
  | [.int k _],.int k'=>decide (k=k')
  | [.str _],.string=>true
  | [.nilf],.func _ _ _=>true
  | [.nili],.interface _=>true
  | _,_=>false
def Z0 (zero:List AV):TK→TypeDesc→Prop
  | .sc,d=>yn zero d=true
  | .ptr e,d=>d = .pointer e∧zero=[.nilp]
  | .slice e,d=>d = .slice e∧zero=[.nils]
  | .array n e,d=>d = .array n e
  | .map k e,d=>d = .map k e∧zero=[.nilm]
  | .struct fs,d => ∃fields,d = .struct fields∧fields.toList.map (fun f=>(f.type,f.offset))=fs∧fields.toList.all (fun f=>f.name != "_")=true
def Ty.isSt:Ty→Bool
  | .st _=>true
  | _=>false
def zop:Value→Bool
  | .agg _=>false
  | _=>true
def methB (P:Program) (t:Nat) (name:String) (g:Nat):Bool :=
  match P.info? t,P.underlying t with
  | some info,some d=>(match info.methods.find? (·.name == name) with
    | some m=>m.path.toList.isEmpty&&(match m.func with
      | some fp=>Nat.beq fp.1 g&&(match d,fp.2 with
        | .pointer _,true=>true
        | .pointer _,false=>false
        | _,true=>false
        | _,false=>true)
      | none=>false)
    | none=>false)
  | _,_=>false
structure y0 [BT] (P:Program) (t:Nat) (i:TI) (d:TypeDesc) (info:TypeInfo) (z:Value):Prop where
  under:P.underlying t=some d
  inf:P.info? t=some info
  size:info.size=i.size
  bytes:info.bytes=i.bytes
  zero:info.zero=some z
  cells:z.cells.toList=i.zero.map zaA
  isz:i.zero.all AV.isZero=true
  len:i.zero.length=i.size
  kind:Z0 i.zero i.k d
  one:i.isAgg=false→i.size=1
  byte:i.ty=some (.int .u8)→t=BT.byte
  ty : ∀ty,i.ty=some ty→ty.size=i.size∧ty.isSt=i.isAgg∧ty ≠ .unit
  stood:i.isAgg=true→zBi i.zero=true→P.stoodInHeld t=false∧P.eqGuardType P.depth t=false
  plain:i.isAgg=false→zop z=true
  agg:i.isAgg=true→zop z=false
  meth : ∀name g,zg7 BT.meths t name=some g→methB P t name g=true
def zJ [BT] (P:Program) (T:Tab):Prop := ∀t i,Tab.get T t=some i → ∃d info z,y0 P t i d info z
theorem zo {α:Type} {o:Option α} {k:α→Ans} {res:AV×List Obj} (h:za o k=some res) : ∃a,o=some a∧k a=some res:=by
  cases o with
  | none=>cases h
  | some a=>exact ⟨a,rfl,h⟩
theorem zC {c:Bool} {x:Ans} {res:AV×List Obj} (h:cond c x none=some res):c=true∧x=some res:=by
  cases c with
  | true=>exact ⟨rfl,h⟩
  | false=>cases h
theorem QB {c:Bool} {x:Ans} {res:AV×List Obj} (h:cond c none x=some res):c=false∧x=some res:=by
  cases c with
  | true=>cases h
  | false=>exact ⟨rfl,h⟩
theorem Y3 {v:AV} {K:Int→Ans} {res:AV×List Obj} (h:asInt v K=some res) : ∃k n,v = .int k n∧K n=some res:=by
  cases v <;> first | (cases h;done) | exact ⟨_,_,rfl,h⟩
theorem y0.isRow [BT] {t:Nat} {i:TI} {d:TypeDesc} {info:TypeInfo} {z:Value} (h:y0 P t i d info z):d.isRow=i.isAgg:=by
  have hk:=h.kind
  unfold TI.isAgg
  cases hi:i.k <;> rw [hi] at hk <;> simp only [Z0] at hk
  · unfold yn at hk
    split at hk <;> first | rfl | (cases hk;done)
  · obtain ⟨rfl,_⟩:=hk;rfl
  · obtain ⟨rfl,_⟩:=hk;rfl
  · subst hk;rfl
  · obtain ⟨f,rfl,_⟩:=hk;rfl
  · obtain ⟨rfl,_⟩:=hk;rfl
theorem y0.run_isAgg [BT] {t:Nat} {i:TI} {d:TypeDesc} {info:TypeInfo} {z:Value} (h:y0 P t i d info z) (w:World):(isAgg t).run P w = .ok i.isAgg w:=by
  have hr:=h.isRow
  unfold isAgg
  rw [Sem.run_bind,run_underlying h.under w]
  cases d <;> simp_all
theorem y0.run_sizeOf [BT] {t:Nat} {i:TI} {d:TypeDesc} {info:TypeInfo} {z:Value} (h:y0 P t i d info z) (w:World):(sizeOf t).run P w = .ok i.size w:=by
  simp [sizeOf,typeInfo,h.inf,h.size]
theorem y0.run_zero [BT] {t:Nat} {i:TI} {d:TypeDesc} {info:TypeInfo} {z:Value} (h:y0 P t i d info z) (w:World):(zeroValue t).run P w = .ok z w:=by
  simp [zeroValue,typeInfo,h.inf,h.zero]
theorem y0.run_info [BT] {t:Nat} {i:TI} {d:TypeDesc} {info:TypeInfo} {z:Value} (h:y0 P t i d info z) (w:World):(typeInfo t).run P w = .ok info w:=by
  simp [typeInfo,h.inf]
theorem zgq (v:Value):VRel C (zc8 v) v:=by
  unfold zc8
  split <;> simp [VRel]
theorem zDH (v:Value):VRel C (zbK v) v:=by
  unfold zbK
  split
  · rename_i cs
    rw [VRel]
    refine ⟨cs,rfl,?_⟩
    generalize cs.toList=l
    induction l with
    | nil=>simp [VRels]
    | cons x r ih=>rw [List.map_cons,VRels];exact ⟨x,r,rfl,zgq x,ih⟩
  · exact zgq v
theorem zN {env:zQ} {a:Act} (h:Zj C env a.tmps) (x:Operand):VRel C (opd env x) (a.eval x):=by
  cases x with
  | tmp t=>exact h t
  | const v=>exact zDH v
  | global g=>simp only [opd,VRel]
  | func f=>simp only [opd,VRel,Act.eval];exact ⟨#[],#[],rfl,by simp [VRels],by simp [VRels]⟩
theorem W9 {env:zQ} {a:Act} (h:Zj C env a.tmps) (l:List Operand):VRels C (l.map (opd env)) (l.map a.eval):=by
  induction l with
  | nil=>simp [VRels]
  | cons x r ih=>rw [List.map_cons,List.map_cons,VRels];exact ⟨_,_,rfl,zN h x,ih⟩
theorem zmc {cs r:List AV} {vs:List Value} {off n:Nat} (h:WP cs off n=some r) (hv:VRels C cs vs) :
    VRels C r ((vs.drop off).take n)∧r.length=n∧((vs.drop off).take n).length=n:=by
  unfold WP at h
  obtain ⟨rfl,hn⟩:=zf6 h
  have hl:=hv.length
  refine ⟨(hv.drop off).take n,?_,?_⟩
  · simp;simp at hn;omega
  · simp;simp at hn;omega
theorem zHJ [BT] {t:Nat} {i:TI} {d:TypeDesc} {info:TypeInfo} {z:Value} (hi:y0 P t i d info z) {w:World} {b o:Nat} {us:List Value} (hl:us.length=i.size)
    (hc:w.rangeAt b o us):(Instr.loadAt t (.pointer (some ⟨b,o,none⟩))).run P w = .ok (if i.isAgg then .agg us.toArray else us.headD undef) w:=by
  cases ha:i.isAgg with
  | true =>
    rw [if_pos rfl]
    exact run_loadAt_mid w b o t us d hc hi.under (by rw [hi.isRow,ha]) (by rw [hi.inf];simp [hi.size,hl])
  | false =>
    have h1:=hi.one ha
    obtain ⟨u,rfl⟩ : ∃u,us=[u]:=by
      cases us with
      | nil=>simp at hl;omega
      | cons u r=>cases r with
        | nil=>exact ⟨u,rfl⟩
        | cons=>simp at hl;omega
    have hu:w.cell? ⟨b,o,none⟩=some u:=hc 0 u rfl
    simp [Instr.loadAt,Instr.sureAddr,loadVar,hi.run_isAgg,ha,hu]
theorem zPW {i:TI} {cs:List AV} {us:List Value} {K:AV→Ans} {res:AV×List Obj} (hl:cs.length=i.size) (hv:VRels C cs us)
    (h:cond i.isAgg (K (.agg cs)) (za (oneCell cs) K)=some res) : ∃r,K r=some res∧VRel C r (if i.isAgg then .agg us.toArray else us.headD undef):=by
  cases ha:i.isAgg with
  | true =>
    rw [ha] at h
    exact ⟨_,h,by rw [if_pos rfl,VRel];exact ⟨us.toArray,rfl,by simpa using hv⟩⟩
  | false =>
    rw [ha] at h
    obtain ⟨x,hx,hk⟩:=zo h
    unfold oneCell at hx
    split at hx
    · rename_i y
      cases hx
      rw [VRels] at hv
      obtain ⟨v,vs',rfl,hxv,_⟩:=hv
      exact ⟨x,hk,by simpa using hxv⟩
    · cases hx
def zyk (w w':World):Prop := ∀b,b<w.heap.size→w'.heap[b]? = w.heap[b]?
theorem zyk.refl (w:World):zyk w w:=fun _ _=>rfl
theorem zyk.cell {w w':World} (h:zyk w w') {a:Addr} {u:Value} (hc:w.cell? a=some u):w'.cell? a=some u:=by
  have hb:a.block<w.heap.size:=by
    unfold World.cell? at hc
    split at hc <;> first | (cases hc;done) | skip
    · rename_i e
      exact (Array.getElem?_eq_some_iff.1 e).1
  rw [World.cell?,h _ hb]
  exact hc
def znO (C:Cx) (ids:List Nat) (W:World):Prop := ∀b,(C.R b ∨ ∃i ∈ ids,zt C.H i∧C.ρ i=some b)→W.heap[b]? = C.w.heap[b]?
def zf1 (C:Cx) (rd:Option (List Nat)) (W:World):Prop := ∀l,rd=some l→znO C l W
theorem zf1.refl (C:Cx) (rd:Option (List Nat)):zf1 C rd C.w:=fun _ _ _ _=>rfl
theorem znO.refl (C:Cx) (ids:List Nat):znO C ids C.w:=fun _ _=>rfl
theorem zgg [BT] {t:Nat} {i:TI} {d:TypeDesc} {info:TypeInfo} {z:Value} (hi:y0 P t i d info z) {b o off:Nat} {us:List Value} {cs r:List AV} {K:AV→Ans} {res:AV×List Obj}
    (hc : ∀j u,us[j]? = some u→C.w.cell? ⟨b,o+j,none⟩=some u) (hv:VRels C cs us) (hr:WP cs off i.size=some r)
    (h:cond i.isAgg (K (.agg r)) (za (oneCell r) K)=some res) :
    ∃r v,K r=some res∧(∀W:World,W.heap[b]? = C.w.heap[b]? → (Instr.loadAt t (.pointer (some ⟨b,o+off,none⟩))).run P W = .ok v W)∧VRel C r v:=by
  obtain ⟨h1,h2,h3⟩:=zmc hr hv
  obtain ⟨r',hk,hrel⟩:=zPW h2 h1 h
  refine ⟨r',_,hk,fun W hW=>zHJ hi h3 ?_,hrel⟩
  intro j u hj
  rw [jN hW]
  rw [List.getElem?_take] at hj
  split at hj
  · rw [List.getElem?_drop] at hj
    rw [Nat.add_assoc]
    exact hc _ _ hj
  · cases hj
theorem qy [BT] {i:Nat} {cs:List AV} (hh:zY C) (h:zn C.H i = .cells cs) : ∃b c e fr,C.ρ i=some b∧C.w.heap[b]? = some (.cells c e fr)∧qe fr c.size∧VRels C cs c.toList ∧ ∀u ∈ c.toList,u.oneCell'=true:=by
  have:=hh.obj i
  rw [h] at this
  exact this
theorem J3 [BT] {i:Nat} {t:Ty} {l:List t.T} (hh:zY C) (h:zn C.H i = .arr t l):(C.ρ i=none∧l=[]) ∨ ∃b c e fr,C.ρ i=some b∧C.w.heap[b]? = some (.cells c e fr)∧qe fr c.size∧l.length*t.size≤c.size ∧
      ∀k x,l[k]? = some x → ∃us,zE C.R C.w t x us ∧ ∀j u,us[j]? = some u→c[k*t.size+j]? = some u:=by
  have:=hh.obj i
  rw [h] at this
  rcases this with this | ⟨b,c,e,fr,h1,h2,h3,h4,h5,_⟩
  · exact .inl this
  · exact .inr ⟨b,c,e,fr,h1,h2,h3,h4,h5⟩
theorem zcV [BT] {i:Nat} {t:Ty} {l:List t.T} (hh:zY C) (h:zn C.H i = .arr t l):(C.ρ i=none∧l=[]) ∨ ∃b c e fr,C.ρ i=some b∧C.w.heap[b]? = some (.cells c e fr)∧qe fr c.size∧l.length*t.size≤c.size ∧
      (∀k x,l[k]? = some x → ∃us,zE C.R C.w t x us ∧ ∀j u,us[j]? = some u→c[k*t.size+j]? = some u)∧(t = .int .u8→e=BT.byte):=by
  have:=hh.obj i
  rw [h] at this
  exact this
theorem zbr [BT] {i:Nat} {cs:List AV} (hh:zY C) (h:zn C.H i = .bcells cs) : ∃b c v0,C.ρ i=some b∧C.w.heap[b]? = some (.cells c BT.bld (0,0))∧(∃vs,c.toList=v0::vs∧VRels C cs vs)∧(∀u ∈ c.toList,u.oneCell'=true)∧(v0 = .pointer none∨v0 = .pointer (some ⟨b,0,none⟩)):=by
  have:=hh.obj i
  rw [h] at this
  exact this
theorem zvI [BT] {i:Nat} {s:List Int} (hh:zY C) (h:zn C.H i = .btold s) : ∃b v0 v,C.ρ i=some b∧C.w.heap[b]? = some (.cells #[v0,v] BT.bld (0,0))∧(∀u ∈ (#[v0,v]:Array Value).toList,u.oneCell'=true)∧(v0 = .pointer none∨v0 = .pointer (some ⟨b,0,none⟩)) ∧
      ((s=[]∧v = .slice none 0 0) ∨ ∃g cap cur fr,v = .slice (some ⟨g,0,none⟩) s.length cap∧s.length≤cap∧C.R g∧C.w.heap[g]? = some (.cells cur BT.byte fr)∧(s=[]∨fr.1=0∧fr.2≠0∧s.length≤fr.2)∧s.length≤cur.size ∧ ∀(j:Nat) (x:Int),s[j]? = some x→cur[j]? = some (Value.int .u8 x)):=by
  have:=hh.obj i
  rw [h] at this
  exact this
theorem zo5 [BT] (hT:zJ P T) (hh:zY C) {s:St} (hs:C.H=s.H) {t:Nat} {p:AV} {v:Value} (hp:VRel C p v) {K:AV→Ans} {res:AV×List Obj}
    (h:load T s t p K=some res) : ∃r u,K r=some res∧(∀W,znO C p.refs W→(Instr.loadAt t v).run P W = .ok u W)∧VRel C r u:=by
  unfold load at h
  replace h:=zo h;obtain ⟨i,hti,h⟩:=h
  obtain ⟨d,info,z,hi⟩:=hT t i hti
  cases p with
  | ptr n off =>
    simp only at h
    rw [VRel] at hp
    obtain ⟨b,hb,rfl,hlv⟩:=hp
    rw [← hs] at h
    split at h
    · rename_i cs hg
      replace h:=zo h;obtain ⟨cs',hcs,h⟩:=h
      obtain ⟨b',c,e,fr,hb',hw,hfr,hv,_⟩:=qy hh hg
      obtain rfl:b=b':=Option.some.inj (hb.symm.trans hb')
      obtain ⟨r,u,h1,h2,h3⟩:=zgg (P:=P) (o:=0) hi (fun j u hj=>by rw [cell_blk (blkOf_cells hw)];simpa using hj) hv hcs h
      rw [Nat.zero_add] at h2
      exact ⟨r,u,h1,fun W hW=>h2 W (hW b (.inr ⟨n,by simp [AV.refs],hlv,hb⟩)),h3⟩
    · rename_i cs hg
      obtain ⟨h1off,h⟩:=zC h
      have h1off:=Nat.le_of_ble_eq_true h1off
      replace h:=zo h;obtain ⟨cs',hcs,h⟩:=h
      obtain ⟨b',c,v0,hb',hw,⟨vs,hc,hv⟩,_,_⟩:=zbr hh hg
      obtain rfl:b=b':=Option.some.inj (hb.symm.trans hb')
      obtain ⟨r,u,h1,h2,h3⟩:=zgg (P:=P) (o:=1) hi (fun j u hj=>by
        rw [cell_blk (blkOf_cells hw)]
        have:c.toList[1+j]? = some u:=by rw [hc,Nat.add_comm];simpa using hj
        simpa using this) hv hcs h
      rw [show 1+Nat.sub off 1=off by have:Nat.sub off 1=off - 1:=rfl;omega] at h2
      exact ⟨r,u,h1,fun W hW=>h2 W (hW b (.inr ⟨n,by simp [AV.refs],hlv,hb⟩)),h3⟩
    · cases h
  | eptr n idx off =>
    simp only at h
    rw [VRel] at hp
    obtain ⟨b,ty,l,hb,hg,rfl⟩:=hp
    rw [← hs] at h
    rw [hg] at h
    simp only at h
    replace h:=zo h;obtain ⟨x,hx,h⟩:=h
    replace h:=zo h;obtain ⟨cs',hcs,h⟩:=h
    rcases J3 hh hg with ⟨hn,_⟩ | ⟨b',c,e,fr,hb',hw,hfr,hl,hel⟩
    · rw [hn] at hb;cases hb
    · obtain rfl:b=b':=Option.some.inj (hb.symm.trans hb')
      obtain ⟨us,hd,hu⟩:=hel idx x hx
      obtain ⟨r,u,h1,h2,h3⟩:=zgg (P:=P) (o:=idx*ty.size) hi (fun j u hj=>by rw [cell_blk (blkOf_cells hw)];exact hu j u hj) hd.cells hcs h
      exact ⟨r,u,h1,fun W hW=>h2 W (hW b (.inr ⟨n,by simp [AV.refs],by unfold zt;rw [hg];simp,hb⟩)),h3⟩
  | rptr ty x off =>
    simp only at h
    rw [VRel] at hp
    obtain ⟨b,o,us,hb,hd,hu,rfl⟩:=hp
    replace h:=zo h;obtain ⟨cs',hcs,h⟩:=h
    obtain ⟨r,u,h1,h2,h3⟩:=zgg (P:=P) (o:=o) hi hu hd.cells hcs h
    exact ⟨r,u,h1,fun W hW=>h2 W (hW b (.inl hb)),h3⟩
  | _=>cases h
end Go.AE
namespace Go.AE
variable {P:Program} {T:Tab} {C:Cx}
theorem yq {a b:Nat} (h:Nat.beq a b=true):a=b:=Nat.eq_of_beq_eq_true h
theorem wy {i:Int} {n:Nat} (h:inR i n=true):0≤i∧i<n:=by
  simpa [inR] using h
theorem zAz {α:Type} {l:List α} {i:Int} {x:α} (h:nth l i=some x):0≤i∧i<l.length∧l[i.toNat]? = some x:=by
  unfold nth at h
  split at h
  · rename_i h0
    refine ⟨h0,?_,h⟩
    have:=(List.getElem?_eq_some_iff.1 h).1
    omega
  · cases h
theorem zhT {fs:List (Nat×Nat)} {zero:List AV} {d:TypeDesc} (h:Z0 zero (.struct fs) d) {n:Nat} {ft off:Nat} (hf:fs[n]? = some (ft,off)) :
    ∃fields f,d = .struct fields∧fields[n]? = some f∧f.type=ft∧f.offset=off:=by
  obtain ⟨fields,rfl,hm,_⟩:=h
  rw [← hm,List.getElem?_map] at hf
  cases hg:fields.toList[n]? with
  | none=>rw [hg] at hf;cases hf
  | some f =>
    rw [hg] at hf
    simp at hf
    exact ⟨fields,f,rfl,by simpa using hg,hf.1,hf.2⟩
theorem zpX [BT] (hT:zJ P T) {t:Nat} {p:AV} {v:Value} (hp:VRel C p v) {f:Nat} {K:AV→Ans} {res:AV×List Obj}
    (h:fieldAddr T t p f K=some res) : ∃r u,K r=some res∧(∀W,(Instr.fieldAt t v f).run P W = .ok u W)∧VRel C r u:=by
  unfold fieldAddr at h
  replace h:=zo h;obtain ⟨i,hti,h⟩:=h
  obtain ⟨d,info,z,hi⟩:=hT t i hti
  have hk:=hi.kind
  split at h
  · rename_i fs hfs
    rw [hfs] at hk
    replace h:=zo h;obtain ⟨⟨ft,off⟩,hff,h⟩:=h
    dsimp only at h
    obtain ⟨j,hj,h2⟩:=zo h
    obtain ⟨hz,h3⟩:=QB h2
    clear h h2
    obtain ⟨fields,fl,rfl,hfl,rfl,rfl⟩:=zhT hk hff
    obtain ⟨d',info',z',hj'⟩:=hT _ j hj
    have hne:j.size≠0:=by intro e;rw [e] at hz;exact absurd hz (by decide)
    have run : ∀b o W,(Instr.fieldAt t (.pointer (some ⟨b,o,none⟩)) f).run P W = .ok (.pointer (some ⟨b,o+fl.offset,none⟩)) W:=by
      intro b o W
      simp [Instr.fieldAt,run_underlying hi.under,hfl,Instr.sureAddr,fieldPlace,hj'.run_sizeOf,hne,Addr.add_mid]
    cases p with
    | ptr n o =>
      rw [VRel] at hp
      obtain ⟨b,hb,rfl,hlv⟩:=hp
      exact ⟨.ptr n (o+fl.offset),_,h3,run _ _,by rw [VRel];exact ⟨b,hb,rfl,hlv⟩⟩
    | eptr n ix o =>
      rw [VRel] at hp
      obtain ⟨b,ty,l,hb,hg,rfl⟩:=hp
      exact ⟨.eptr n ix (o+fl.offset),_,h3,run _ _,by rw [VRel];exact ⟨b,ty,l,hb,hg,by rw [Nat.add_assoc]⟩⟩
    | rptr ty x o =>
      rw [VRel] at hp
      obtain ⟨b,o,us,hb,hd,hu,rfl⟩:=hp
      exact ⟨.rptr ty x (_+fl.offset),_,h3,run _ _,by rw [VRel];exact ⟨b,o,us,hb,hd,hu,by rw [Nat.add_assoc]⟩⟩
    | _=>cases h3
  · cases h
theorem wK [BT] (hT:zJ P T) {t off:Nat} {cs:List AV} {vs:Array Value} (hv:VRels C cs vs.toList) {r:AV} (h:zaX T t cs off=some r) :
    ∃u,(∀W,(part t vs off).run P W = .ok u W)∧VRel C r u:=by
  unfold zaX at h
  split at h
  · rename_i i hti
    obtain ⟨d,info,z,hi⟩:=hT t i hti
    split at h
    · rename_i a ha
      obtain ⟨h1,h2,h3⟩:=zmc ha hv
      split at h
      · rename_i hg
        cases h
        refine ⟨.agg (vs.extract off (off+i.size)),fun W=>by simp [part,hi.run_isAgg,hg,hi.run_sizeOf],?_⟩
        rw [VRel]
        refine ⟨_,rfl,?_⟩
        have:(vs.extract off (off+i.size)).toList=(vs.toList.drop off).take i.size:=by
          simp [Array.toList_extract]
        rw [this]
        exact h1
      · rename_i hg
        have hg':i.isAgg=false:=by simpa using hg
        have h1':=hi.one hg'
        unfold oneCell at h
        split at h
        · cases h
          rw [VRels] at h1
          obtain ⟨v,vs',he,hr,_⟩:=h1
          have hcell:vs[off]? = some v:=by
            have h0:((vs.toList.drop off).take i.size)[0]? = some v:=by rw [he];rfl
            rw [h1'] at h0
            simpa using h0
          exact ⟨v,fun W=>by simp [part,hi.run_isAgg,hg',hcell],hr⟩
        · cases h
    · cases h
  · cases h
theorem zDR [BT] (hT:zJ P T) {t:Nat} {p:AV} {v:Value} (hp:VRel C p v) {f:Nat} {K:AV→Ans} {res:AV×List Obj}
    (h:field T t p f K=some res) : ∃r u,K r=some res∧(∀W,(Instr.field t v f).run P W = .ok u W)∧VRel C r u:=by
  unfold field at h
  replace h:=zo h;obtain ⟨i,hti,h⟩:=h
  obtain ⟨d,info,z,hi⟩:=hT t i hti
  have hk:=hi.kind
  split at h
  · rename_i fs cs hfs
    rw [hfs] at hk
    rw [VRel] at hp
    obtain ⟨vs,rfl,hv⟩:=hp
    replace h:=zo h;obtain ⟨⟨ft,off⟩,hff,h⟩:=h
    dsimp only at h
    replace h:=zo h;obtain ⟨r,hr,h⟩:=h
    obtain ⟨fields,fl,rfl,hfl,rfl,rfl⟩:=zhT hk hff
    obtain ⟨u,hu,hrel⟩:=wK hT hv hr
    exact ⟨r,u,h,fun W=>by simp [Instr.field,run_underlying hi.under,hfl,asAgg,hu],hrel⟩
  · cases h
theorem YY [BT] {t:Nat} {i:TI} {d:TypeDesc} {info:TypeInfo} {z:Value} (hi:y0 P t i d info z) (hk:i.k = .sc) (h:W7 i=true):d = .string:=by
  have:=hi.kind
  rw [hk] at this
  unfold W7 at h
  split at h
  · rename_i s hz
    simp only [Z0,hz] at this
    cases d <;> simp_all [yn]
  · cases h
theorem zDF [BT] (hT:zJ P T) {t:Nat} {x ix:AV} {v w:Value} (hx:VRel C x v) (hix:VRel C ix w) {K:AV→Ans} {res:AV×List Obj}
    (h:index T t x ix K=some res) : ∃r u,K r=some res∧(∀W,(Instr.index t v w).run P W = .ok u W)∧VRel C r u:=by
  unfold index at h
  replace h:=Y3 h;obtain ⟨k,n,rfl,h⟩:=h
  rw [VRel] at hix
  subst hix
  replace h:=zo h;obtain ⟨i,hti,h⟩:=h
  obtain ⟨d,info,z,hi⟩:=hT t i hti
  split at h
  · rename_i hk
    replace h:=zC h;obtain ⟨hs,h⟩:=h
    have hd:=YY hi hk hs
    subst hd
    split at h
    · rename_i s
      rw [VRel] at hx
      subst hx
      replace h:=zo h;obtain ⟨c,hc,h⟩:=h
      obtain ⟨h0,h1,h2⟩:=zAz hc
      refine ⟨_,.int .u8 c.toNat,h,?_,by rw [VRel]⟩
      have hg:(⟨s.toArray⟩:ByteArray)[n.toNat]? = some c:=by
        have:n.toNat<s.length:=by omega
        rw [List.getElem?_eq_getElem this] at h2
        have hsz:n.toNat<(⟨s.toArray⟩:ByteArray).size:=by simpa [ByteArray.size] using this
        rw [getElem?_pos (⟨s.toArray⟩:ByteArray) n.toNat hsz]
        simpa [ByteArray.getElem_eq_getElem_data] using h2
      intro W
      simp [Instr.index,asIntOf,run_underlying hi.under,h0,hg]
    · cases h
  · rename_i len e hk
    have hkk:=hi.kind
    rw [hk] at hkk
    simp only [Z0] at hkk
    subst hkk
    replace h:=zo h;obtain ⟨ei,hei,h⟩:=h
    obtain ⟨d',info',z',hj⟩:=hT _ ei hei
    split at h
    · rename_i cs
      rw [zAy] at h
      replace h:=zC h;obtain ⟨hr,h⟩:=h
      obtain ⟨h0,h1⟩:=wy hr
      rw [VRel] at hx
      obtain ⟨vs,rfl,hv⟩:=hx
      replace h:=zo h;obtain ⟨r,hpr,h⟩:=h
      obtain ⟨u,hu,hrel⟩:=wK hT hv hpr
      exact ⟨r,u,h,fun W=>by simp [Instr.index,asIntOf,run_underlying hi.under,h0,h1,hj.run_sizeOf,hu],hrel⟩
    · cases h
  · cases h
theorem zof [BT] (hT:zJ P T) {s:St} (hs:C.H=s.H) {t:Nat} {x ix:AV} {v w:Value} (hx:VRel C x v) (hix:VRel C ix w) {K:AV→Ans} {res:AV×List Obj}
    (h:indexAddr T s t x ix K=some res) : ∃r u,K r=some res∧(∀W,(Instr.indexAt t v w).run P W = .ok u W)∧VRel C r u:=by
  unfold indexAddr at h
  simp only [zAy] at h
  replace h:=Y3 h;obtain ⟨k,n,rfl,h⟩:=h
  rw [VRel] at hix
  subst hix
  replace h:=zo h;obtain ⟨i,hti,h⟩:=h
  obtain ⟨d,info,z,hi⟩:=hT t i hti
  have hkk:=hi.kind
  split at h
  · rename_i e hk
    rw [hk] at hkk
    obtain ⟨rfl,_⟩:=hkk
    replace h:=zo h;obtain ⟨ei,hei,h⟩:=h
    obtain ⟨d',info',z',hj⟩:=hT _ ei hei
    have run : ∀(a:Addr) (len cap:Nat),0≤n→n<(len:Int) → ∀W,(Instr.indexAt t (.slice (some a) len cap) (.int k n)).run P W = .ok (.pointer (some (a.add (n.toNat*ei.size)))) W:=by
      intro a len cap h0 h1 W
      simp [Instr.indexAt,asIntOf,run_underlying hi.under,h0,h1,hj.run_sizeOf]
    split at h
    · rename_i m
      rw [VRel] at hx
      obtain ⟨ty,l,hg,hx⟩:=hx
      rw [← hs,hg] at h
      simp only at h
      replace h:=zC h;obtain ⟨hse,h⟩:=h
      replace h:=zC h;obtain ⟨hr,h⟩:=h
      obtain ⟨h0,h1⟩:=wy hr
      rcases hx with ⟨_,hl,rfl⟩ | ⟨b,c,cap,hb,hbl,hcap,hcs,rfl⟩
      · subst hl;simp at h1;omega
      · refine ⟨_,_,h,run _ _ _ h0 h1,?_⟩
        rw [VRel]
        refine ⟨b,ty,l,hb,hg,?_⟩
        rw [yq hse,Addr.add_mid]
        simp
    · rename_i m off len e'
      replace h:=zC h;obtain ⟨hse,h⟩:=h
      have hse:=yq hse
      rw [VRel] at hx
      obtain ⟨A,cap,rfl,hlc,hx⟩:=hx
      have key : ∀(hr:inR n len=true),0≤n∧n<len ∧ ∃b,C.ρ m=some b∧A=some ⟨b,off*e',none⟩:=by
        intro hr
        obtain ⟨h0,h1⟩:=wy hr
        refine ⟨h0,h1,?_⟩
        rcases hx with ⟨hl,_⟩ | ⟨hl,_⟩ | ⟨b,hb,hA,_⟩
        · omega
        · omega
        · exact ⟨b,hb,hA⟩
      split at h
      · rename_i ty l hg
        rw [← hs] at hg
        replace h:=zC h;obtain ⟨hr,h⟩:=h
        obtain ⟨h0,h1,b,hb,rfl⟩:=key hr
        refine ⟨_,_,h,run _ _ _ h0 h1,?_⟩
        have hety:e'=ty.size:=by
          rcases hx with ⟨hl,_⟩ | ⟨_,hx,_⟩ | ⟨b',hb',_,c,_,_,hm⟩
          · omega
          · cases hx
          · rw [hg] at hm;exact hm.1
        rw [VRel]
        refine ⟨b,ty,l,hb,hg,?_⟩
        rw [Addr.add_mid,hse,hety,Nat.add_mul]
        simp
      · rename_i cs hg
        replace h:=zC h;obtain ⟨hr,h⟩:=h
        obtain ⟨h0,h1,b,hb,rfl⟩:=key hr
        refine ⟨_,_,h,run _ _ _ h0 h1,?_⟩
        rw [VRel]
        refine ⟨b,hb,?_,?_⟩
        · rw [Addr.add_mid,hse,Nat.add_mul]
        · unfold zt;rw [hs,hg];simp
      · cases h
    · rename_i ty l
      replace h:=zC h;obtain ⟨hse,h⟩:=h
      have hse:=yq hse
      replace h:=zo h;obtain ⟨y,hy,h⟩:=h
      obtain ⟨h0,h1,h2⟩:=zAz hy
      rw [VRel,zE] at hx
      obtain ⟨A,c,hv,hlc,hx⟩:=hx
      obtain rfl:v = .slice A l.length c:=by simpa using hv
      rcases hx with rfl | ⟨b,o,rfl,hb,hx⟩
      · simp at h1;omega
      · obtain ⟨us,hd,hu⟩:=hx _ _ h2
        refine ⟨_,_,h,run _ _ _ h0 h1,?_⟩
        rw [VRel]
        refine ⟨b,o+n.toNat*ty.size,us,hb,hd,fun j u hj=>by rw [Nat.add_assoc];exact hu j u hj,?_⟩
        rw [Addr.add_mid,hse]
        simp
    · cases h
  · rename_i len e hk
    rw [hk] at hkk
    simp only [Z0] at hkk
    subst hkk
    replace h:=zo h;obtain ⟨ei,hei,h⟩:=h
    obtain ⟨d',info',z',hj⟩:=hT _ ei hei
    have run : ∀(a:Addr),0≤n→n<(len:Int) → ∀W,(Instr.indexAt t (.pointer (some a)) (.int k n)).run P W = .ok (.pointer (some (a.add (n.toNat*ei.size)))) W:=by
      intro a h0 h1 W
      simp [Instr.indexAt,asIntOf,run_underlying hi.under,h0,h1,hj.run_sizeOf,Instr.sureAddr]
    split at h
    · rename_i m off
      rw [VRel] at hx
      obtain ⟨b,hb,rfl,hlv⟩:=hx
      split at h
      · replace h:=zC h;obtain ⟨hr,h⟩:=h
        obtain ⟨h0,h1⟩:=wy hr
        exact ⟨_,_,h,run _ h0 h1,by rw [VRel];exact ⟨b,hb,by rw [Addr.add_mid],hlv⟩⟩
      · rename_i ty l hg
        rw [← hs] at hg
        replace h:=zC h;obtain ⟨hr,h⟩:=h
        simp only [Bool.and_eq_true] at hr
        obtain ⟨⟨ho,hse⟩,hr⟩:=hr
        have hse:=yq hse
        have ho:=yq ho
        obtain ⟨h0,h1⟩:=wy hr
        subst ho
        refine ⟨_,_,h,run _ h0 h1,?_⟩
        rw [VRel]
        exact ⟨b,ty,l,hb,hg,by rw [Addr.add_mid,hse];simp⟩
      · cases h
    · rename_i m ix off
      rw [VRel] at hx
      obtain ⟨b,ty,l,hb,hg,rfl⟩:=hx
      replace h:=zC h;obtain ⟨hr,h⟩:=h
      obtain ⟨h0,h1⟩:=wy hr
      exact ⟨_,_,h,run _ h0 h1,by rw [VRel];exact ⟨b,ty,l,hb,hg,by rw [Addr.add_mid,Nat.add_assoc]⟩⟩
    · rename_i ty y off
      rw [VRel] at hx
      obtain ⟨b,o,us,hb,hd,hu,rfl⟩:=hx
      replace h:=zC h;obtain ⟨hr,h⟩:=h
      obtain ⟨h0,h1⟩:=wy hr
      exact ⟨_,_,h,run _ h0 h1,by rw [VRel];exact ⟨b,o,us,hb,hd,hu,by rw [Addr.add_mid,Nat.add_assoc]⟩⟩
    · cases h
  · cases h
end Go.AE
namespace Go.AE
variable {P:Program} {T:Tab} {C:Cx}
def zbx (C:Cx):Option AV→Option Value→Prop
  | none,none=>True
  | some a,some v=>VRel C a v
  | _,_=>False
theorem yR {len cap:Nat} {sl:Bool} {lo hi:Option AV} {vl vh:Option Value} (hl:zbx C lo vl) (hh:zbx C hi vh) (hcap:len≤cap) {K:Nat→Nat→Ans} {res:AV×List Obj}
    (h:qk len lo hi K=some res) : ∃a b,K a b=some res∧a≤b∧b≤len∧(∀W,(Instr.sliceBounds sl len cap vl vh none).run P W = .ok (a,b,cap) W) ∧
      (lo=none→a=0)∧(hi=none→b=len):=by
  unfold qk at h
  have sb : ∀(k:IntKind) (n:Int) (y:Nat) (code:BoundsCode),0≤n→n≤y → ∀W,(Instr.sliceBound (.int k n) y code).run P W = .ok n.toNat W:=by
    intro k n y code h0 h1 W
    simp [Instr.sliceBound,asIntOf,h0,h1]
  split at h
  · cases vl with
    | some _=>cases hl
    | none=>cases vh with
      | some _=>cases hh
      | none=>exact ⟨0,len,h,Nat.zero_le _,Nat.le_refl _,fun W=>by simp [Instr.sliceBounds],fun _=>rfl,fun _=>rfl⟩
  · rename_i l
    cases vh with
    | some _=>cases hh
    | none=>cases vl with
      | none=>cases hl
      | some u =>
        replace h:=Y3 h;obtain ⟨k,n,rfl,h⟩:=h
        replace h:=zC h;obtain ⟨hr,h⟩:=h
        obtain ⟨h0,h1⟩:=wy hr
        simp only [zbx,VRel] at hl
        subst hl
        exact ⟨n.toNat,len,h,by omega,Nat.le_refl _,fun W=>by simp [Instr.sliceBounds,sb k n len .sliceB h0 (by omega)],(by simp),fun _=>rfl⟩
  · rename_i l
    cases vl with
    | some _=>cases hl
    | none=>cases vh with
      | none=>cases hh
      | some u =>
        replace h:=Y3 h;obtain ⟨k,n,rfl,h⟩:=h
        replace h:=zC h;obtain ⟨hr,h⟩:=h
        obtain ⟨h0,h1⟩:=wy hr
        simp only [zbx,VRel] at hh
        subst hh
        refine ⟨0,n.toNat,h,by omega,by omega,?_,fun _=>rfl,by simp⟩
        intro W
        simp [Instr.sliceBounds,sb k n cap _ h0 (by omega)]
  · rename_i l1 l2
    cases vl with
    | none=>cases hl
    | some u=>cases vh with
      | none=>cases hh
      | some u' =>
        replace h:=Y3 h;obtain ⟨k,n,rfl,h⟩:=h
        replace h:=Y3 h;obtain ⟨k',n',rfl,h⟩:=h
        replace h:=zC h;obtain ⟨hr,h⟩:=h
        simp only [Bool.and_eq_true] at hr
        obtain ⟨h0,h1⟩:=wy hr.1
        obtain ⟨h2,h3⟩:=wy hr.2
        simp only [zbx,VRel] at hh hl
        subst hh
        subst hl
        refine ⟨n.toNat,n'.toNat,h,by omega,by omega,?_,by simp,by simp⟩
        intro W
        simp [Instr.sliceBounds,sb k' n' cap _ h0 (by omega),sb k n n'.toNat .sliceB h2 (by omega)]
theorem zsL {α:Type} (l:List α) {lo hi:Option AV} {a b:Nat} (ha:lo=none→a=0) (hb:hi=none→b=l.length) (hab:b≤l.length) :
    zmI l lo hi a b=(l.drop a).take (b - a):=by
  unfold zmI
  cases lo with
  | none =>
    obtain rfl:=ha rfl
    cases hi with
    | none=>obtain rfl:=hb rfl;simp
    | some _=>simp
  | some _=>cases hi with
    | none=>obtain rfl:=hb rfl;simp [List.take_of_length_le]
    | some _=>rfl
theorem zEg {α:Type} (l:List α) {lo hi:Option AV} {a b:Nat} (ha:lo=none→a=0) (hb:hi=none→b=l.length) (hab:b≤l.length) (hle:a≤b) :
    (zmI l lo hi a b).length=b - a:=by
  rw [zsL l ha hb hab]
  simp
  omega
theorem zxj (s:List UInt8) (a b:Nat):(⟨s.toArray⟩:ByteArray).extract a b=⟨((s.drop a).take (b - a)).toArray⟩:=by
  apply ByteArray.ext
  simp [List.extract_eq_take_drop]
theorem zcL (b o n size:Nat):(⟨b,o,none⟩:Addr).add (n*size)=⟨b,o+n*size,none⟩:=Addr.add_mid _ _ _
theorem zEr [BT] (hT:zJ P T) (hh:zY C) {s:St} (hs:C.H=s.H) {t:Nat} {x:AV} {v:Value} (hx:VRel C x v) {lo hi mx:Option AV} {vl vh vm:Option Value}
    (hlo:zbx C lo vl) (hhi:zbx C hi vh) (hmx:zbx C mx vm) {K:AV→Ans} {res:AV×List Obj}
    (h:slice T s t x lo hi mx K=some res) : ∃r u,K r=some res∧(∀W,(Instr.sliceAt t v vl vh vm).run P W = .ok u W)∧VRel C r u:=by
  unfold slice at h
  cases mx with
  | some _=>cases h
  | none =>
  cases vm with
  | some _=>cases hmx
  | none =>
  simp only at h
  replace h:=zo h;obtain ⟨i,hti,h⟩:=h
  obtain ⟨d,info,z,hi'⟩:=hT t i hti
  have hkk:=hi'.kind
  split at h
  · rename_i hk
    replace h:=zC h;obtain ⟨hst,h⟩:=h
    have hd:=YY hi' hk hst
    subst hd
    cases x with
    | str a =>
      simp only at h
      rw [VRel] at hx
      subst hx
      obtain ⟨i,j,hK,h1,h2,hrun,ha,hb⟩:=yR (P:=P) (sl:=false) (cap:=a.length) hlo hhi (Nat.le_refl _) h
      refine ⟨_,.string ⟨((a.drop i).take (j - i)).toArray⟩,hK,?_,by rw [VRel,zsL a ha hb h2]⟩
      have hsz:(⟨a.toArray⟩:ByteArray).size=a.length:=by simp [ByteArray.size]
      intro W
      simp [Instr.sliceAt,run_underlying hi'.under,Instr.slice,hsz,hrun,zxj a i j]
    | _=>cases h
  · rename_i e hk
    rw [hk] at hkk
    obtain ⟨rfl,_⟩:=hkk
    replace h:=zo h;obtain ⟨ei,hei,h⟩:=h
    obtain ⟨d',info',z',hj⟩:=hT _ ei hei
    have run : ∀(A:Option Addr) (len cap a b:Nat),(∀W,(Instr.sliceBounds true len cap vl vh none).run P W = .ok (a,b,cap) W) →
        ∀W,(Instr.sliceAt t (.slice A len cap) vl vh none).run P W = .ok (.slice (if cap=a then A else A.map (·.add (a*ei.size))) (b - a) (cap - a)) W:=by
      intro A len cap a b hb W
      simp [Instr.sliceAt,run_underlying hi'.under,Instr.slice,hb,hj.run_sizeOf]
    cases x with
    | own n =>
      simp only at h
      rw [VRel] at hx
      obtain ⟨ty,l,hg,hx⟩:=hx
      rw [← hs,hg] at h
      simp only at h
      replace h:=zC h;obtain ⟨hse,h⟩:=h
      have hse:=yq hse
      rcases hx with ⟨hn,hl,rfl⟩ | ⟨b,c,cap,hb,hbl,hcap,hcs,rfl⟩
      · subst hl
        obtain ⟨x,y,hK,h1,h2,hrun,ha,hb⟩:=yR (P:=P) (sl:=true) (cap:=0) hlo hhi (Nat.le_refl _) h
        have hy:y=0:=by simpa using h2
        subst hy
        have hx0:x=0:=by omega
        subst hx0
        refine ⟨_,_,hK,run _ _ _ _ _ hrun,?_⟩
        unfold ziv
        split
        · rw [VRel];exact ⟨ty,[],hg,.inl ⟨hn,rfl,rfl⟩⟩
        · rw [VRel];exact ⟨none,0,by simp,by simp,.inr (.inl ⟨rfl,rfl,rfl⟩)⟩
      · obtain ⟨x,y,hK,h1,h2,hrun,ha,hb'⟩:=yR (P:=P) (sl:=true) (cap:=cap) hlo hhi hcap h
        refine ⟨_,_,hK,run _ _ _ _ _ hrun,?_⟩
        unfold ziv
        split
        · obtain rfl:=ha rfl
          obtain rfl:=hb' rfl
          rw [VRel]
          refine ⟨ty,l,hg,.inr ⟨b,c,cap,hb,hbl,hcap,hcs,?_⟩⟩
          simp [Addr.add]
        · rw [VRel]
          refine ⟨_,cap - x,rfl,by omega,?_⟩
          by_cases hxc:cap=x
          · by_cases hx0:x=0
            · refine .inr (.inr ⟨b,hb,?_,c,hbl,?_,?_⟩)
              · simp [hxc,hx0]
              · subst hx0;simpa using hcs
              · rw [hg];simp only;exact ⟨trivial,by omega⟩
            · exact .inl ⟨by omega,hx0⟩
          · refine .inr (.inr ⟨b,hb,?_,c,hbl,?_,?_⟩)
            · rw [if_neg hxc,Option.map_some,zcL,hse];simp
            · rw [Nat.add_sub_cancel' (by omega)];exact hcs
            · rw [hg];simp only;exact ⟨trivial,by omega⟩
    | sub n off len e' =>
      simp only at h
      replace h:=zC h;obtain ⟨hse,h⟩:=h
      have hse:=yq hse
      rw [VRel] at hx
      obtain ⟨A,cap,rfl,hlc,hx⟩:=hx
      obtain ⟨x,y,hK,h1,h2,hrun,ha,hb'⟩:=yR (P:=P) (sl:=true) (cap:=cap) hlo hhi hlc h
      refine ⟨_,_,hK,run _ _ _ _ _ hrun,?_⟩
      rw [VRel]
      refine ⟨_,cap - x,rfl,by omega,?_⟩
      rcases hx with ⟨hl,ho⟩ | ⟨hl,rfl,rfl⟩ | ⟨b,hb,rfl,c,hbl,hcs,hm⟩
      · exact .inl ⟨by omega,by omega⟩
      · refine .inr (.inl ⟨by omega,?_,by omega⟩)
        split <;> rfl
      · have hm':(match zn C.H n with
            | .arr t l=>e'=t.size∧off+x+(y - x)≤l.length
            | .cells cs=>(off+x+(y - x))*e'≤cs.length
            | _=>False):=by
          generalize zn C.H n=g at hm ⊢
          cases g with
          | arr t l=>exact ⟨hm.1,by have:=hm.2;omega⟩
          | cells cs=>exact Nat.le_trans (Nat.mul_le_mul_right _ (by omega)) hm
          | _=>exact hm
        by_cases hxc:cap=x
        · by_cases hx0:off+x=0
          · refine .inr (.inr ⟨b,hb,?_,c,hbl,?_,hm'⟩)
            · rw [if_pos hxc]
              have:x=0:=by omega
              subst this
              simp
            · rw [show off+x+(cap - x)=off+cap by omega];exact hcs
          · exact .inl ⟨by omega,hx0⟩
        · refine .inr (.inr ⟨b,hb,?_,c,hbl,?_,hm'⟩)
          · rw [if_neg hxc,Option.map_some,zcL,hse,Nat.add_mul]
          · rw [show off+x+(cap - x)=off+cap by omega];exact hcs
    | ro ty l =>
      simp only at h
      replace h:=zC h;obtain ⟨hse,h⟩:=h
      have hse:=yq hse
      rw [VRel,zE] at hx
      obtain ⟨A,c,hv,hlc,hx⟩:=hx
      obtain rfl:v = .slice A l.length c:=by simpa using hv
      obtain ⟨x,y,hK,h1,h2,hrun,ha,hb'⟩:=yR (P:=P) (sl:=true) (cap:=c) hlo hhi hlc h
      refine ⟨_,_,hK,run _ _ _ _ _ hrun,?_⟩
      rw [VRel,zE]
      have hlen:=zEg l ha hb' h2 h1
      refine ⟨_,c - x,by rw [hlen],by omega,?_⟩
      rw [zsL l ha hb' h2]
      rcases hx with rfl | ⟨b,o,rfl,hb,hx⟩
      · exact .inl (by simp)
      · by_cases hxc:c=x
        · refine .inl (List.eq_nil_of_length_eq_zero ?_)
          simp;omega
        · refine .inr ⟨b,o+x*ty.size,by rw [if_neg hxc,Option.map_some,zcL,hse],hb,fun i z hz => ?_⟩
          rw [List.getElem?_take] at hz
          split at hz
          · rw [List.getElem?_drop] at hz
            obtain ⟨us,hd,hu⟩:=hx _ _ hz
            refine ⟨us,hd,fun j u hj => ?_⟩
            have:=hu j u hj
            rw [Nat.add_mul] at this
            rw [show o+x*ty.size+(i*ty.size+j)=o+(x*ty.size+i*ty.size+j) by omega]
            exact this
          · cases hz
    | nils =>
      simp only at h
      rw [VRel] at hx
      subst hx
      obtain ⟨x,y,hK,h1,h2,hrun,ha,hb'⟩:=yR (P:=P) (sl:=true) (cap:=0) hlo hhi (Nat.le_refl _) h
      have hy:y=0:=by simpa using h2
      subst hy
      have hx0:x=0:=by omega
      subst hx0
      exact ⟨_,_,hK,run _ _ _ _ _ hrun,by rw [VRel];simp⟩
    | _=>cases h
  · rename_i len e hk
    rw [hk] at hkk
    simp only [Z0] at hkk
    subst hkk
    replace h:=zo h;obtain ⟨ei,hei,h⟩:=h
    obtain ⟨d',info',z',hj⟩:=hT _ ei hei
    have run : ∀(A:Addr) (a b:Nat),(∀W,(Instr.sliceBounds false len len vl vh none).run P W = .ok (a,b,len) W) →
        ∀W,(Instr.sliceAt t (.pointer (some A)) vl vh none).run P W = .ok (.slice (some (if len=a then A else A.add (a*ei.size))) (b - a) (len - a)) W:=by
      intro A a b hb W
      simp [Instr.sliceAt,run_underlying hi'.under,Instr.sureAddr,hb,hj.run_sizeOf]
    cases x with
    | ptr n off =>
      simp only at h
      rw [VRel] at hx
      obtain ⟨b,hb,rfl,hlv⟩:=hx
      rw [← hs] at h
      split at h
      · rename_i ty l hg
        replace h:=zC h;obtain ⟨hc,h⟩:=h
        simp only [Bool.and_eq_true] at hc
        obtain ⟨⟨ho,hl⟩,hse⟩:=hc
        have ho:=yq ho
        have hl:=yq hl
        have hse:=yq hse
        subst ho
        subst hl
        rcases J3 hh hg with ⟨hn,_⟩ | ⟨b',c,e,fr,hb',hw,hfr,hlc,hel⟩
        · rw [hn] at hb;cases hb
        · obtain rfl:b=b':=Option.some.inj (hb.symm.trans hb')
          obtain ⟨x,y,hK,h1,h2,hrun,ha,hb''⟩:=yR (P:=P) (sl:=false) (cap:=l.length) hlo hhi (Nat.le_refl _) h
          refine ⟨_,_,hK,run _ _ _ hrun,?_⟩
          unfold ziv
          split
          · obtain rfl:=ha rfl
            obtain rfl:=hb'' rfl
            rw [VRel]
            refine ⟨ty,l,hg,.inr ⟨b,c,l.length,hb,blkOf_cells hw,Nat.le_refl _,hlc,?_⟩⟩
            simp [Addr.add]
          · rw [VRel]
            refine ⟨_,l.length - x,rfl,by omega,?_⟩
            by_cases hxc:l.length=x
            · by_cases hx0:x=0
              · refine .inr (.inr ⟨b,hb,?_,c,blkOf_cells hw,?_,?_⟩)
                · simp [hxc,hx0]
                · subst hx0;simpa using hlc
                · rw [hg];simp only;exact ⟨trivial,by omega⟩
              · exact .inl ⟨by omega,hx0⟩
            · refine .inr (.inr ⟨b,hb,?_,c,blkOf_cells hw,?_,?_⟩)
              · rw [if_neg hxc,zcL,hse];simp
              · rw [Nat.add_sub_cancel' (by omega)];exact hlc
              · rw [hg];simp only;exact ⟨trivial,by omega⟩
      · rename_i cs hg
        replace h:=zC h;obtain ⟨hc,h⟩:=h
        simp only [Bool.and_eq_true] at hc
        obtain ⟨ho,hl⟩:=hc
        have ho:=yq ho
        have hl:=yq hl
        subst ho
        obtain ⟨b',c,e,fr,hb',hw,hfr,hv,_⟩:=qy hh hg
        obtain rfl:b=b':=Option.some.inj (hb.symm.trans hb')
        have hcl:c.size=cs.length:=by have:=hv.length;simpa using this
        obtain ⟨x,y,hK,h1,h2,hrun,ha,hb''⟩:=yR (P:=P) (sl:=false) (cap:=len) hlo hhi (Nat.le_refl _) h
        refine ⟨_,_,hK,run _ _ _ hrun,?_⟩
        rw [VRel]
        refine ⟨_,len - x,rfl,by omega,?_⟩
        have hm:(x+(len - x))*ei.size≤c.size:=by rw [Nat.add_sub_cancel' (by omega),hcl,hl];exact Nat.le_refl _
        have hm2:(x+(y - x))*ei.size≤cs.length:=by rw [hl];exact Nat.mul_le_mul_right _ (by omega)
        by_cases hxc:len=x
        · by_cases hx0:x=0
          · refine .inr (.inr ⟨b,hb,?_,c,blkOf_cells hw,hm,?_⟩)
            · simp [hxc,hx0]
            · rw [hg];exact hm2
          · exact .inl ⟨by omega,hx0⟩
        · refine .inr (.inr ⟨b,hb,?_,c,blkOf_cells hw,hm,?_⟩)
          · rw [if_neg hxc,zcL];simp
          · rw [hg];exact hm2
      · cases h
    | _=>cases h
  · cases h
theorem VRel.ptrs {x y:AV} {u v:Value} (hx:VRel C x u) (hy:VRel C y v) {b:Bool} (h:zym x y=some b) (d t e:Nat) (ht:P.underlying t=some (.pointer e)) (w:World) :
    (Op.equalIn (d+1) t u v).run P w = .ok b w:=by
  unfold zym at h
  split at h <;> first | (cases h;done) | skip
  all_goals
    obtain rfl:=Option.some.inj h
    simp only [VRel] at hx hy
  · subst hx;subst hy;simp [Op.equalIn,run_underlying ht]
  · subst hx;obtain ⟨b,_,rfl,_⟩:=hy;simp [Op.equalIn,run_underlying ht]
  · subst hy;obtain ⟨b,_,rfl,_⟩:=hx;simp [Op.equalIn,run_underlying ht]
  · subst hx;obtain ⟨b,_,_,_,_,rfl⟩:=hy;simp [Op.equalIn,run_underlying ht]
  · subst hy;obtain ⟨b,_,_,_,_,rfl⟩:=hx;simp [Op.equalIn,run_underlying ht]
  · subst hx;obtain ⟨b,_,_,_,_,_,rfl⟩:=hy;simp [Op.equalIn,run_underlying ht]
  · subst hy;obtain ⟨b,_,_,_,_,_,rfl⟩:=hx;simp [Op.equalIn,run_underlying ht]
theorem VRel.maps {x y:AV} {u v:Value} (hx:VRel C x u) (hy:VRel C y v) {b:Bool} (h:zyr x y=some b) (d t k e:Nat) (ht:P.underlying t=some (.map k e)) (w:World) :
    (Op.equalIn (d+1) t u v).run P w = .ok b w:=by
  unfold zyr at h
  split at h <;> first | (cases h;done) | skip
  all_goals
    obtain rfl:=Option.some.inj h
    simp only [VRel] at hx hy
  · subst hx;subst hy;simp [Op.equalIn,run_underlying ht]
  · subst hx;obtain ⟨b,_,rfl,_⟩:=hy;simp [Op.equalIn,run_underlying ht]
  · subst hy;obtain ⟨b,_,rfl,_⟩:=hx;simp [Op.equalIn,run_underlying ht]
theorem zfT (s:List UInt8):(⟨s.toArray⟩:ByteArray).toList=s:=by rw [ByteArray.toList_eq]
theorem zbS (s:List UInt8):(⟨s.toArray⟩:ByteArray).size=s.length:=by simp [ByteArray.size]
theorem VRel.scs {zero:List AV} {dd:TypeDesc} {x y:AV} {u v:Value} (hx:VRel C x u) (hy:VRel C y v) {b:Bool} (h:zIZ zero x y=some b) (hk:yn zero dd=true) (d t:Nat)
    (ht:P.underlying t=some dd) (w:World):(Op.equalIn (d+1) t u v).run P w = .ok b w:=by
  unfold zIZ at h
  split at h <;> first | (cases h;done) | skip
  · obtain rfl:=Option.some.inj h
    simp only [VRel] at hx hy
    subst hx;subst hy
    cases dd <;> simp_all [yn]
    simp [Op.equalIn,run_underlying ht]
  · split at h
    · rename_i hkk _
      obtain rfl:=Option.some.inj h
      simp only [VRel] at hx hy
      subst hx;subst hy
      cases dd <;> simp_all [yn]
      simp [Op.equalIn,run_underlying ht]
    · cases h
  · obtain rfl:=Option.some.inj h
    simp only [VRel] at hx hy
    subst hx;subst hy
    cases dd <;> simp_all [yn]
    rw [run_equalIn_string w d t _ _ ht,zfT,zfT]
  · obtain rfl:=Option.some.inj h
    simp only [VRel] at hx hy
    subst hx;subst hy
    cases dd <;> simp_all [yn]
    simp [Op.equalIn,run_underlying ht]
  · obtain rfl:=Option.some.inj h
    simp only [VRel] at hx hy
    subst hx;obtain ⟨_,_,rfl,_⟩:=hy
    cases dd <;> simp_all [yn]
    simp [Op.equalIn,run_underlying ht]
  · obtain rfl:=Option.some.inj h
    simp only [VRel] at hx hy
    subst hy;obtain ⟨_,_,rfl,_⟩:=hx
    cases dd <;> simp_all [yn]
    simp [Op.equalIn,run_underlying ht]
  · obtain rfl:=Option.some.inj h
    simp only [VRel] at hx hy
    subst hx;obtain ⟨_,rfl,_⟩:=hy
    cases dd <;> simp_all [yn]
    simp [Op.equalIn,run_underlying ht]
  · obtain rfl:=Option.some.inj h
    simp only [VRel] at hx hy
    subst hy;obtain ⟨_,rfl,_⟩:=hx
    cases dd <;> simp_all [yn]
    simp [Op.equalIn,run_underlying ht]
end Go.AE
namespace Go.AE
variable {P:Program} {T:Tab} {C:Cx}
theorem zBV [BT] {t:Nat} {i:TI} {d:TypeDesc} {info:TypeInfo} {z:Value} (hi:y0 P t i d info z):P.cellsOf t=i.size:=by
  simp [Program.cellsOf,hi.inf,hi.size]
mutual
theorem zgC [BT] (hT:zJ P T) (w:World) : ∀{d:Nat} {t:Nat} {x y:AV} {u v:Value} {b:Bool},eqV T d t x y=some b→VRel C x u→VRel C y v → ∀D,d≤D →
    (Op.equalIn D t u v).run P w = .ok b w
  | 0,_,_,_,_,_,_,h,_,_,_,_=>by rw [eqV] at h;cases h
  | d+1,t,x,y,u,v,b,h,hx,hy,D,hD=>by
    obtain ⟨D,rfl⟩ : ∃m,D=m+1:=⟨D - 1,by omega⟩
    unfold eqV at h
    split at h
    · cases h
    · rename_i i hti
      obtain ⟨dd,info,z,hi⟩:=hT t i hti
      have hk:=hi.kind
      split at h
      · rename_i hkk
        rw [hkk] at hk
        exact VRel.scs hx hy h hk D t hi.under w
      · rename_i e hkk
        rw [hkk] at hk
        obtain ⟨rfl,_⟩:=hk
        exact VRel.ptrs hx hy h D t e hi.under w
      · rename_i k e hkk
        rw [hkk] at hk
        obtain ⟨rfl,_⟩:=hk
        exact VRel.maps hx hy h D t k e hi.under w
      · rename_i e hkk
        rw [hkk] at hk
        obtain ⟨rfl,_⟩:=hk
        unfold zuX at h
        split at h
        · obtain rfl:=Option.some.inj h
          simp only [VRel] at hx hy
          subst hx;subst hy
          simp [Op.equalIn,run_underlying hi.under]
        · cases h
      · rename_i fs hkk
        split at h
        · rename_i hno
          split at h
          · rename_i xs ys
            rw [VRel] at hx hy
            obtain ⟨us,rfl,hus⟩:=hx
            obtain ⟨vs,rfl,hvs⟩:=hy
            rw [hkk] at hk
            obtain ⟨fields,rfl,hm,hn⟩:=hk
            have hag:i.isAgg=true:=by simp [TI.isAgg,hkk]
            have hf:P.fieldsOf t=fields:=by simp [Program.fieldsOf,hi.under]
            rw [run_equalIn_struct w D t us vs (by rw [hf];exact hi.under) (hi.stood hag hno).1,hf]
            rw [← hm] at h
            exact zow hT w h hus hvs hn D (by omega)
          · cases h
        · cases h
      · rename_i n e hkk
        split at h
        · split at h
          · rename_i xs ys
            rw [VRel] at hx hy
            obtain ⟨us,rfl,hus⟩:=hx
            obtain ⟨vs,rfl,hvs⟩:=hy
            rw [hkk] at hk
            simp only [Z0] at hk
            subst hk
            split at h
            · rename_i j hej
              obtain ⟨d',info',z',hj⟩:=hT e j hej
              rw [run_equalIn_array w D us vs hi.under hj.inf,zBV hj]
              exact zpJ hT w h hus hvs D (by omega)
            · cases h
          · cases h
        · cases h
theorem zow [BT] (hT:zJ P T) (w:World) : ∀{d:Nat} {fields:List Field} {xs ys:List AV} {us vs:Array Value} {b:Bool},
    zuV T d (fields.map fun f=>(f.type,f.offset)) xs ys=some b→VRels C xs us.toList→VRels C ys vs.toList→fields.all (fun f=>f.name != "_")=true → ∀D,d≤D →
    (Op.eqFields D us vs fields).run P w = .ok b w
  | 0,_,_,_,_,_,_,h,_,_,_,_,_=>by rw [zuV] at h;cases h
  | _+1,[],_,_,_,_,_,h,_,_,_,_,_=>by
    rw [List.map_nil,zuV] at h
    obtain rfl:=Option.some.inj h
    simp [Op.eqFields]
  | d+1,f::r,xs,ys,us,vs,b,h,hx,hy,hn,D,hD=>by
    rw [List.map_cons,zuV] at h
    simp only [List.all_cons,Bool.and_eq_true] at hn
    have hname:f.name ≠ "_" := by simpa using hn.1
    split at h
    · rename_i p q hp hq
      obtain ⟨u,hu,hru⟩:=wK hT hx hp
      obtain ⟨v,hv,hrv⟩:=wK hT hy hq
      split at h
      · rename_i b1 hb1
        have he:=zgC hT w hb1 hru hrv D (by omega)
        split at h
        · rename_i b2 hb2
          obtain rfl:=Option.some.inj h
          have hr:=zow hT w hb2 hx hy hn.2 D (by omega)
          simp only [Op.eqFields,ne_eq,hname,not_false_eq_true,if_true,Sem.run_bind,hu,hv,he,Result.andThen_ok]
          cases b1 <;> simp [hr]
        · cases h
      · cases h
    · cases h
theorem zpJ [BT] (hT:zJ P T) (w:World) : ∀{d:Nat} {is:List Nat} {e sz:Nat} {xs ys:List AV} {us vs:Array Value} {b:Bool},
    zua T d is e sz xs ys=some b→VRels C xs us.toList→VRels C ys vs.toList → ∀D,d≤D →
    (Op.eqItems D e sz us vs is).run P w = .ok b w
  | 0,_,_,_,_,_,_,_,_,h,_,_,_,_=>by rw [zua] at h;cases h
  | _+1,[],_,_,_,_,_,_,_,h,_,_,_,_=>by
    rw [zua] at h
    obtain rfl:=Option.some.inj h
    simp [Op.eqItems]
  | d+1,n::r,e,sz,xs,ys,us,vs,b,h,hx,hy,D,hD=>by
    rw [zua] at h
    split at h
    · rename_i p q hp hq
      obtain ⟨u,hu,hru⟩:=wK hT hx hp
      obtain ⟨v,hv,hrv⟩:=wK hT hy hq
      split at h
      · rename_i b1 hb1
        have he:=zgC hT w hb1 hru hrv D (by omega)
        split at h
        · rename_i b2 hb2
          obtain rfl:=Option.some.inj h
          have hr:=zpJ hT w hb2 hx hy D (by omega)
          simp only [Op.eqItems,Sem.run_bind,hu,hv,he,Result.andThen_ok]
          cases b1 <;> simp [hr]
        · cases h
      · cases h
    · cases h
end
theorem zAn {op:BinOp} {k:IntKind} {a b:Int} {K:AV→Ans} {res:AV×List Obj} (hns:J2 op=false) (h:zaS op k a b K=some res) (t:Nat) :
    ∃r u,K r=some res∧(∀w,(Go.binOp op t (.int k a) (.int k b)).run P w = .ok u w)∧VRel C r u:=by
  cases op <;> simp only [zaS,J2,Bool.true_eq_false] at h hns
  case quo =>
    replace h:=QB h;obtain ⟨hb,h⟩:=h
    have hb:b≠0:=by simpa using hb
    exact ⟨_,_,h,fun w=>by simp [Go.binOp,Op.intDiv,hb];rfl,by rw [VRel]⟩
  case rem =>
    replace h:=QB h;obtain ⟨hb,h⟩:=h
    have hb:b≠0:=by simpa using hb
    exact ⟨_,_,h,fun w=>by simp [Go.binOp,Op.intDiv,hb];rfl,by rw [VRel]⟩
  all_goals exact ⟨_,_,h,fun w=>by simp [Go.binOp,Op.intArith,Op.intBits,Op.intCmp] <;> rfl,by rw [VRel]⟩
theorem zsi {op:BinOp} {k k':IntKind} {a b:Int} {K:AV→Ans} {res:AV×List Obj} (hs:J2 op=true) (h:znP op k a b K=some res) (t:Nat) :
    ∃r u,K r=some res∧(∀w,(Go.binOp op t (.int k a) (.int k' b)).run P w = .ok u w)∧VRel C r u:=by
  unfold znP at h
  replace h:=QB h;obtain ⟨hb,h⟩:=h
  have hb : ¬b<0:=by simpa using hb
  cases op <;> first | (cases hs;done) | skip
  all_goals exact ⟨_,_,h,fun w=>by simp [Go.binOp,Op.shift,hb];rfl,by rw [VRel]⟩
theorem zCR {op:BinOp} {a b:List UInt8} {K:AV→Ans} {res:AV×List Obj} (h:zCd op a b K=some res) (t:Nat) :
    ∃r u,K r=some res∧(∀w,(Go.binOp op t (.string ⟨a.toArray⟩) (.string ⟨b.toArray⟩)).run P w = .ok u w)∧VRel C r u:=by
  cases op <;> simp only [zCd] at h <;> first | (cases h;done) | skip
  case add =>
    replace h:=zC h;obtain ⟨hl,h⟩:=h
    have hl:=Nat.le_of_ble_eq_true hl
    refine ⟨_,.string ⟨(a++b).toArray⟩,h,?_,by rw [VRel]⟩
    have hn : ¬(((⟨a.toArray⟩:ByteArray).size+(⟨b.toArray⟩:ByteArray).size:Nat):Int)>IntKind.i64.max:=by
      rw [zbS,zbS]
      simp [IntKind.max,IntKind.signed,IntKind.bits]
      omega
    have happ:(⟨a.toArray⟩:ByteArray)++⟨b.toArray⟩=⟨(a++b).toArray⟩:=by apply ByteArray.ext;simp
    intro w
    simp only [Go.binOp,Op.stringOp,if_neg hn,happ]
    simp
  all_goals exact ⟨_,_,h,fun w=>by simp only [Go.binOp,Op.stringOp,zfT];rfl,by rw [VRel]⟩
theorem zl0 [BT] (hT:zJ P T) {op:BinOp} {t:Nat} {x y:AV} {u v:Value} (hx:VRel C x u) (hy:VRel C y v) {K:AV→Ans} {res:AV×List Obj}
    (h:binOp T op t x y K=some res) (ox oy:Operand) :
    ∃r z,K r=some res∧(∀w,(do eqGuard op t ox oy u v;Go.binOp op t u v:Sem Value).run P w = .ok z w)∧VRel C r z:=by
  unfold binOp at h
  split at h
  · rename_i k a k' b
    rw [VRel] at hx hy
    subst hx;subst hy
    have hg : ∀w,(eqGuard op t ox oy (.int k a) (.int k' b)).run P w = .ok () w:=by intro w;cases op <;> simp [eqGuard]
    cases hs:J2 op with
    | true =>
      rw [hs] at h
      obtain ⟨r,z,hK,hr,hv⟩:=zsi (C:=C) (k':=k') hs h t
      exact ⟨r,z,hK,fun w=>by rw [Sem.run_bind,hg];exact hr w,hv⟩
    | false =>
      rw [hs] at h
      simp only [cond_false] at h
      split at h
      · rename_i hk _
        subst hk
        obtain ⟨r,z,hK,hr,hv⟩:=zAn (C:=C) hs h t
        exact ⟨r,z,hK,fun w=>by rw [Sem.run_bind,hg];exact hr w,hv⟩
      · cases h
  · rename_i a b
    rw [VRel] at hx hy
    subst hx;subst hy
    have hg : ∀w,(eqGuard op t ox oy (.string ⟨a.toArray⟩) (.string ⟨b.toArray⟩)).run P w = .ok () w:=by intro w;cases op <;> simp [eqGuard]
    obtain ⟨r,z,hK,hr,hv⟩:=zCR (C:=C) h t
    exact ⟨r,z,hK,fun w=>by rw [Sem.run_bind,hg];exact hr w,hv⟩
  · rename_i hni hns
    have main : ∀b,eqV T 40 t x y=some b → ∀w,((eqGuard .eql t ox oy u v).run P w = .ok () w∧(eqGuard .neq t ox oy u v).run P w = .ok () w)∧(Go.binOp .eql t u v).run P w = .ok (.bool b) w∧(Go.binOp .neq t u v).run P w = .ok (.bool (!b)) w:=by
      intro b hb w
      have hq:(Op.equal t u v).run P w = .ok b w:=zgC hT w hb hx hy 10000 (by omega)
      have hcases:(∃p q,x = .bool p∧y = .bool q)∨(∃p q,x = .agg p∧y = .agg q∧P.eqGuardType P.depth t=false) ∨
          ((u = .pointer none∨(∃a,u = .pointer a)∨u = .slice none 0 0∨(∃r,u = .map r)∨u = .nilFunc∨(∃f a b,u = .func f a b)∨(∃a b,u = .iface a b)) ∨
           (u = .nilIface ∧ ∃a b,v = .iface a b)):=by
        unfold eqV at hb
        split at hb
        · cases hb
        · rename_i i hti
          obtain ⟨dd,info,z,hi⟩:=hT t i hti
          split at hb
          · unfold zIZ at hb
            split at hb <;> first | (cases hb;done) | skip
            · exact .inl ⟨_,_,rfl,rfl⟩
            · exact absurd rfl (hni _ _ _ _ rfl)
            · exact absurd rfl (hns _ _ rfl)
            · rw [VRel] at hx;exact .inr (.inr (.inl (by simp [hx])))
            · rw [VRel] at hx;exact .inr (.inr (.inl (by simp [hx])))
            · rw [VRel] at hx;obtain ⟨a,b,rfl,_⟩:=hx;exact .inr (.inr (.inl (by simp)))
            · simp only [VRel] at hx hy;obtain ⟨a,rfl,_⟩:=hy;exact .inr (.inr (.inr ⟨hx,_,_,rfl⟩))
            · simp only [VRel] at hx;obtain ⟨a,rfl,_⟩:=hx;exact .inr (.inr (.inl (by simp)))
          · unfold zym at hb
            split at hb <;> first | (cases hb;done) | skip
            all_goals (simp only [VRel] at hx;refine .inr (.inr (.inl ?_)))
            · simp [hx]
            · simp [hx]
            · obtain ⟨_,_,rfl,_⟩:=hx;simp
            · simp [hx]
            · obtain ⟨_,_,_,_,_,rfl⟩:=hx;simp
            · simp [hx]
            · obtain ⟨_,_,_,_,_,_,rfl⟩:=hx;simp
          · unfold zyr at hb
            split at hb <;> first | (cases hb;done) | skip
            all_goals (simp only [VRel] at hx;refine .inr (.inr (.inl ?_)))
            · simp [hx]
            · simp [hx]
            · obtain ⟨_,_,rfl,_⟩:=hx;simp
          · unfold zuX at hb
            split at hb <;> first | (cases hb;done) | skip
            rw [VRel] at hx;exact .inr (.inr (.inl (by simp [hx])))
          · rename_i fs hkk
            split at hb
            · rename_i hno
              split at hb
              · exact .inr (.inl ⟨_,_,rfl,rfl,(hi.stood (by simp [TI.isAgg,hkk]) hno).2⟩)
              · cases hb
            · cases hb
          · rename_i n e hkk
            split at hb
            · rename_i hno
              split at hb
              · exact .inr (.inl ⟨_,_,rfl,rfl,(hi.stood (by simp [TI.isAgg,hkk]) hno).2⟩)
              · cases hb
            · cases hb
      rcases hcases with ⟨p,q,rfl,rfl⟩ | ⟨p,q,rfl,rfl,hgt⟩ | (hu | ⟨rfl,a,b',rfl⟩)
      · rw [VRel] at hx hy
        subst hx;subst hy
        exact ⟨by simp [eqGuard],by simp [Go.binOp,hq]⟩
      · rw [VRel] at hx hy
        obtain ⟨us,rfl,_⟩:=hx
        obtain ⟨vs,rfl,_⟩:=hy
        exact ⟨⟨run_eqGuard_agg w .eql t ox oy us vs hgt,run_eqGuard_agg w .neq t ox oy us vs hgt⟩,by simp [Go.binOp,hq]⟩
      · rcases hu with rfl | ⟨a,rfl⟩ | rfl | ⟨r,rfl⟩ | rfl | ⟨f,a,b',rfl⟩ | ⟨a,b',rfl⟩
        all_goals exact ⟨by simp [eqGuard],by cases v <;> simp [Go.binOp,hq]⟩
      · exact ⟨by simp [eqGuard],by simp [Go.binOp,hq]⟩
    split at h
    · replace h:=zo h;obtain ⟨b,hb,h⟩:=h
      exact ⟨_,.bool b,h,fun w=>by rw [Sem.run_bind,(main b hb w).1.1];exact (main b hb w).2.1,by rw [VRel]⟩
    · replace h:=zo h;obtain ⟨b,hb,h⟩:=h
      exact ⟨_,.bool (!b),h,fun w=>by rw [Sem.run_bind,(main b hb w).1.2];exact (main b hb w).2.2,by rw [VRel]⟩
    · cases h
theorem zA8 [BT] (hT:zJ P T) {op:BinOp} {t:Nat} {x y:AV} {u v:Value} (hx:VRel C x u) (hy:VRel C y v) {K:AV→Ans} {res:AV×List Obj}
    (ox oy:Operand) (h:zcv T op t (isConst ox || isConst oy) x y K=some res) :
    ∃r z,K r=some res∧(∀w,(do eqGuard op t ox oy u v;Go.binOp op t u v:Sem Value).run P w = .ok z w)∧VRel C r z:=by
  unfold zcv at h
  split at h
  · split at h
    · replace h:=zC h;obtain ⟨hc,h⟩:=h
      replace h:=zo h;obtain ⟨i,hti,h⟩:=h
      obtain ⟨dd,info,z,hi⟩:=hT t i hti
      rw [VRel] at hx hy
      subst hx;subst hy
      split at h
      · rename_i hk
        split at h
        · rename_i hz
          have hkind:=hi.kind
          rw [hk,hz] at hkind
          have hd : ∃ms,dd = .interface ms:=by
            unfold Z0 at hkind
            cases dd <;> simp_all [yn]
          obtain ⟨ms,rfl⟩:=hd
          have hq0 : ∀d w,(Op.equalIn (d+1) t .nilIface .nilIface).run P w = .ok true w:=fun d w=>by
            simp [Op.equalIn,run_underlying hi.under]
          have hq : ∀w,(Op.equal t .nilIface .nilIface).run P w = .ok true w:=fun w=>hq0 9999 w
          have hg : ∀o w,(eqGuard o t ox oy .nilIface .nilIface).run P w = .ok () w:=by
            intro o w
            cases ox <;> cases oy <;> simp [isConst] at hc <;> cases o <;> simp [eqGuard]
          split at h
          · exact ⟨_,.bool true,h,fun w=>by rw [Sem.run_bind,hg];simp [Go.binOp,hq],by rw [VRel]⟩
          · exact ⟨_,.bool false,h,fun w=>by rw [Sem.run_bind,hg];simp [Go.binOp,hq],by rw [VRel]⟩
          · cases h
        · cases h
      · cases h
    · exact zl0 hT (by rw [VRel];rw [VRel] at hx;exact hx) hy h ox oy
  · exact zl0 hT hx hy h ox oy
end Go.AE
namespace Go.AE
variable {P:Program} {T:Tab} {C:Cx}
theorem qh {cs new r:List AV} {vs us:List Value} {off:Nat} (h:yV cs off new=some r) (hv:VRels C cs vs) (hu:VRels C new us) :
    VRels C r (vs.take off++us++vs.drop (off+us.length))∧off+us.length≤vs.length∧r.length=cs.length:=by
  unfold yV at h
  split at h
  · cases h
  · rename_i a ha
    split at h
    · cases h
    · rename_i b hb
      cases h
      obtain ⟨rfl,h1⟩:=zf6 ha
      obtain ⟨_,h2⟩:=zf6 hb
      have hl:=hv.length
      have hul:=hu.length
      simp only [List.length_drop] at h2
      refine ⟨?_,by omega,?_⟩
      · have:=VRels.append (VRels.append (hv.take off) hu) ((hv.drop off).drop us.length)
        rw [← hul]
        simp only [List.drop_drop] at this ⊢
        exact this
      · simp;omega
theorem zv1 (off:Nat) : ∀(l:List Value) (k:Nat) (cs:Array Value),off+k+l.length≤cs.size →
    ((l.zipIdx k).foldl (fun cs (x:Value×Nat)=>cs.setIfInBounds (off+x.2) x.1) cs).toList=cs.toList.take (off+k)++l++cs.toList.drop (off+k+l.length)
  | [],k,cs,h=>by simp
  | v::l,k,cs,h=>by
    rw [List.zipIdx_cons,List.foldl_cons,zv1 off l (k+1) _ (by simp at h ⊢;omega)]
    simp only [Array.toList_setIfInBounds,List.length_cons] at h ⊢
    have hlt:off+k<cs.toList.length:=by simp;omega
    rw [List.take_set,List.drop_set_of_lt (by omega)]
    rw [show off+(k+1)=off+k+1 by omega,List.take_succ_eq_append_getElem hlt]
    rw [show off+k+1+l.length=off+k+(l.length+1) by omega]
    rw [List.set_append_right _ _ (by simp;omega)]
    have hm:off+k - (List.take (off+k) cs.toList).length=0:=by simp;omega
    rw [hm]
    simp
theorem zdw {a:AV} {v:Value} (h:VRel C a v) (hok:jd a.cellsOf=true):VRels C a.cellsOf v.cells.toList ∧ ∀u ∈ v.cells.toList,u.oneCell'=true:=by
  have one : ∀{a:AV} {v:Value},VRel C a v→a.cellOk=true→v.oneCell'=true:=by
    intro a v h hk
    cases a <;> simp only [VRel,AV.cellOk] at h hk <;> first
      | (cases hk;done)
      | (subst h;rfl)
      | (rename_i i;obtain ⟨t,l,_,h⟩:=h;rcases h with ⟨_,_,h⟩ | ⟨_,_,_,_,_,_,_,h⟩ <;> (rw [h];rfl))
      | (obtain ⟨b,_,rfl,_⟩:=h;rfl)
      | (obtain ⟨b,t,l,_,_,rfl⟩:=h;rfl)
      | (obtain ⟨b,o,us,_,_,_,rfl⟩:=h;rfl)
      | (obtain ⟨A,cap,rfl,_⟩:=h;rfl)
      | (obtain ⟨A,cap,rfl,_,_⟩:=h;rfl)
      | (obtain ⟨a',b',rfl,_,_⟩:=h;rfl)
      | (obtain ⟨y,rfl,_⟩:=h;rfl)
      | (rw [zE] at h;obtain ⟨A,c,hv,_⟩:=h;simp at hv;subst hv;rfl)
  have ones : ∀{l:List AV} {vs:List Value},VRels C l vs→jd l=true → ∀u ∈ vs,u.oneCell'=true:=by
    intro l
    induction l with
    | nil=>intro vs h _ u hu;rw [VRels] at h;subst h;cases hu
    | cons x r ih =>
      intro vs h hk u hu
      rw [VRels] at h
      obtain ⟨v,vs',rfl,hv,hr⟩:=h
      simp only [jd,Bool.and_eq_true] at hk
      cases hu with
      | head=>exact one hv hk.1
      | tail _ hm=>exact ih hr hk.2 u hm
  by_cases hagg : ∃cs,a = .agg cs
  · obtain ⟨cs,rfl⟩:=hagg
    rw [VRel] at h
    obtain ⟨vs,rfl,hv⟩:=h
    exact ⟨hv,ones hv hok⟩
  · have hc:a.cellsOf=[a]:=by cases a <;> first | rfl | exact absurd ⟨_,rfl⟩ hagg
    rw [hc] at hok ⊢
    simp only [jd,Bool.and_true] at hok
    have h1:=one h hok
    have hvc:v.cells = #[v]:=by cases v <;> first | rfl | simp [Value.oneCell'] at h1
    rw [hvc]
    exact ⟨by rw [VRels];exact ⟨v,[],rfl,h,by rw [VRels]⟩,by simpa using h1⟩
theorem zbk {place:Nat→Option (Nat×Nat)} {place':Nat→Option (Nat×Nat)} (hp : ∀n p,place n=some p→place' n=some p) : ∀{parts:List (Nat×AV)} {parts':List (Nat×Value)} {cs r:List AV} {c:Array Value},
    Y4 place cs parts=some r→VRels C cs c.toList→(∀u ∈ c.toList,u.oneCell'=true)→parts.map (·.1)=parts'.map (·.1)→VRels C (parts.map (·.2)) (parts'.map (·.2)) →
    ∃c',Instr.fill place' c parts'=some c'∧VRels C r c'.toList∧(∀u ∈ c'.toList,u.oneCell'=true)∧c'.size=c.size
  | [],parts',cs,r,c,h,hv,h1,hn,_=>by
    cases parts' with
    | cons=>simp at hn
    | nil =>
      rw [Y4] at h
      cases h
      exact ⟨c,rfl,hv,h1,rfl⟩
  | (n,a)::ps,parts',cs,r,c,h,hv,h1,hn,hr=>by
    cases parts' with
    | nil=>simp at hn
    | cons q ps' =>
    obtain ⟨n',v⟩:=q
    simp only [List.map_cons,List.cons.injEq] at hn
    obtain ⟨rfl,hn⟩:=hn
    simp only [List.map_cons] at hr
    rw [VRels] at hr
    obtain ⟨v',vs',he,hav,hr⟩:=hr
    simp only [List.cons.injEq] at he
    obtain ⟨rfl,rfl⟩:=he
    rw [Y4] at h
    split at h
    · cases h
    · rename_i off size hpl
      cases hc:(Nat.beq a.cellsOf.length size&&jd a.cellsOf) with
      | false=>rw [hc] at h;cases h
      | true =>
        rw [hc] at h
        simp only [cond_true] at h
        simp only [Bool.and_eq_true] at hc
        have hsz:=yq hc.1
        obtain ⟨hcv,hco⟩:=zdw hav hc.2
        split at h
        · rename_i cs' hcs'
          obtain ⟨p1,p2,p3⟩:=qh hcs' hv hcv
          have hvl:=hcv.length
          simp only [Array.length_toList] at hvl p2
          have hfold:(v.cells.zipIdx.foldl (fun cs (x:Value×Nat)=>cs.setIfInBounds (off+x.2) x.1) c).toList=c.toList.take off++v.cells.toList++c.toList.drop (off+v.cells.size):=by
            rw [← Array.foldl_toList,Array.toList_zipIdx]
            have:=zv1 off v.cells.toList 0 c (by simp;omega)
            simpa using this
          have hok' : ∀u ∈ (v.cells.zipIdx.foldl (fun cs (x:Value×Nat)=>cs.setIfInBounds (off+x.2) x.1) c).toList,u.oneCell'=true:=by
            rw [hfold]
            intro u hu
            simp only [List.mem_append] at hu
            rcases hu with (hu | hu) | hu
            · exact h1 u (List.mem_of_mem_take hu)
            · exact hco u hu
            · exact h1 u (List.mem_of_mem_drop hu)
          obtain ⟨c',hf,hrel,hone,hsize⟩:=zbk hp h (c:=v.cells.zipIdx.foldl (fun cs (x:Value×Nat)=>cs.setIfInBounds (off+x.2) x.1) c) (by rw [hfold];simpa using p1) hok' hn hr
          refine ⟨c',?_,hrel,hone,?_⟩
          · have e1 : ¬(v.cells.size≠size || off+v.cells.size>c.size)=true:=by
              simp
              omega
            rw [Instr.fill,hp _ _ hpl]
            simp only
            rw [if_neg e1]
            exact hf
          · rw [hsize,← Array.length_toList,hfold]
            simp
            omega
        · cases h
theorem zf2 {env:zQ} {a:Act} (h:Zj C env a.tmps) (l:List (Nat×Operand)) :
    (l.map fun (j,x)=>(j,opd env x)).map (·.1)=(l.map fun (j,x)=>(j,a.eval x)).map (·.1)∧VRels C ((l.map fun (j,x)=>(j,opd env x)).map (·.2)) ((l.map fun (j,x)=>(j,a.eval x)).map (·.2)):=by
  induction l with
  | nil=>simp [VRels]
  | cons p r ih =>
    obtain ⟨j,x⟩:=p
    simp only [List.map_cons,List.map_map] at ih ⊢
    exact ⟨by rw [ih.1],by rw [VRels];exact ⟨_,_,rfl,zN h x,ih.2⟩⟩
theorem zad (l:List AV) (h:l.all AV.isZero=true):VRels C l (l.map zaA):=by
  induction l with
  | nil=>simp [VRels]
  | cons x r ih =>
    simp only [List.all_cons,Bool.and_eq_true] at h
    rw [List.map_cons,VRels]
    refine ⟨_,_,rfl,?_,ih h.2⟩
    cases x <;> simp_all [AV.isZero,VRel,zaA]
theorem znK (l:List AV) (h:l.all AV.isZero=true) : ∀u ∈ l.map zaA,u.oneCell'=true:=by
  intro u hu
  obtain ⟨x,hx,rfl⟩:=List.mem_map.1 hu
  have:=List.all_eq_true.1 h x hx
  cases x <;> simp_all [AV.isZero,zaA,Value.oneCell']
theorem zmk [BT] (hT:zJ P T) {t:Nat} {i:TI} (hti:Tab.get T t=some i) (hok:zkU T i=true) {z0:List AV} {z:Value} (hz : ∀W,(zeroValue t).run P W = .ok z W)
    (hz0:VRels C z0 z.cells.toList) (hz1 : ∀u ∈ z.cells.toList,u.oneCell'=true)
    {parts:List (Nat×AV)} {parts':Array (Nat×Value)} (hn:parts.map (·.1)=parts'.toList.map (·.1)) (hv:VRels C (parts.map (·.2)) (parts'.toList.map (·.2))) {cs:List AV}
    (h:Y4 (JZ T i) z0 parts=some cs) : ∃u,(∀W,(Instr.build t parts').run P W = .ok u W)∧VRel C (.agg cs) u:=by
  obtain ⟨d,info,z',hi⟩:=hT t i hti
  have hk:=hi.kind
  unfold zkU at hok
  split at hok
  · rename_i fs hkk
    rw [hkk] at hk
    obtain ⟨fields,rfl,hm,_⟩:=hk
    have hsz : ∀f ∈ fields.toList,∃j,Tab.get T f.type=some j:=by
      intro f hf
      have:(f.type,f.offset) ∈ fs:=by rw [← hm];exact List.mem_map.2 ⟨f,hf,rfl⟩
      have:=List.all_eq_true.1 hok _ this
      exact Option.isSome_iff_exists.1 this
    have hmap : ∀(l:List Field),(∀f:Field,f ∈ l → ∃j,Tab.get T f.type=some j) → ∃ps:List (Nat×Nat),(∀W,(l.mapM fun (f:Field)=>(do pure (f.offset,← sizeOf f.type):Sem (Nat×Nat))).run P W = .ok ps W) ∧
        ∀(n:Nat) (f:Field) (j:TI),l[n]? = some f→Tab.get T f.type=some j→ps[n]? = some (f.offset,j.size):=by
      intro l
      induction l with
      | nil=>intro _;exact ⟨[],by simp,by simp⟩
      | cons f r ih =>
        intro hl
        obtain ⟨ps,hr,hps⟩:=ih fun g hg=>hl g (List.mem_cons_of_mem _ hg)
        obtain ⟨j,hj⟩:=hl f (List.mem_cons_self ..)
        obtain ⟨d',info',z'',hj'⟩:=hT _ j hj
        refine ⟨(f.offset,j.size)::ps,fun W=>by rw [List.mapM_cons];simp only [Sem.run_bind,hj'.run_sizeOf,Result.andThen_ok,Sem.run_pure,hr],?_⟩
        intro n g k hg hk
        cases n with
        | zero=>simp at hg;subst hg;rw [hj] at hk;cases hk;rfl
        | succ n=>simpa using hps n g k (by simpa using hg) hk
    obtain ⟨ps,hps,hpl⟩:=hmap fields.toList hsz
    have hmA : ∀W,(fields.mapM fun (f:Field)=>(do pure (f.offset,← sizeOf f.type):Sem (Nat×Nat))).run P W = .ok ps.toArray W:=by
      intro W
      rw [Array.mapM_eq_mapM_toList]
      simp only [Sem.run_map,hps,Result.andThen_ok]
    have hplace : ∀n p,JZ T i n=some p→ps.toArray[n]? = some p:=by
      intro n p hp
      unfold JZ at hp
      rw [hkk] at hp
      simp only at hp
      split at hp
      · rename_i ft off hf
        split at hp
        · rename_i j hj
          cases hp
          rw [← hm,List.getElem?_map] at hf
          cases hg:fields.toList[n]? with
          | none=>rw [hg] at hf;cases hf
          | some f =>
            rw [hg] at hf
            simp at hf
            obtain ⟨rfl,rfl⟩:=hf
            simpa using hpl n f j hg hj
        · cases hp
      · cases hp
    obtain ⟨c',hf,hrel,_,_⟩:=zbk hplace h hz0 hz1 hn hv
    refine ⟨.agg c',?_,by rw [VRel];exact ⟨_,rfl,hrel⟩⟩
    intro W
    simp only [Instr.build,Sem.run_bind,hz,Result.andThen_ok,run_underlying hi.under,hmA,hf,Sem.run_pure]
  · rename_i n e hkk
    rw [hkk] at hk
    simp only [Z0] at hk
    subst hk
    -- of an array
    have hplace : ∀ej,Tab.get T e=some ej → ∀n p,JZ T i n=some p→(fun i=>some (i*ej.size,ej.size)) n=some p:=by
      intro ej hej n p hp
      unfold JZ at hp
      rw [hkk] at hp
      simp only [hej] at hp
      exact hp
    cases hej:Tab.get T e with
    | none=>rw [hej] at hok;cases hok
    | some ej =>
      obtain ⟨d',info',z'',hj⟩:=hT e ej hej
      obtain ⟨c',hf,hrel,_,_⟩:=zbk (hplace ej hej) h hz0 hz1 hn hv
      refine ⟨.agg c',?_,by rw [VRel];exact ⟨_,rfl,hrel⟩⟩
      intro W
      simp only [Instr.build,Sem.run_bind,hz,Result.andThen_ok,run_underlying hi.under,hj.run_sizeOf,hf,Sem.run_pure]
  · cases hok
end Go.AE
namespace Go.AE
variable {P:Program} {T:Tab} {C:Cx}
theorem zIu {op:UnOp} {x:AV} {u:Value} (hx:VRel C x u) {K:AV→Ans} {res:AV×List Obj} (h:unOp op x K=some res) :
    ∃r z,K r=some res∧(∀w,(Op.unary op u).run P w = .ok z w)∧VRel C r z:=by
  unfold unOp at h
  split at h
  · rw [VRel] at hx;subst hx
    exact ⟨_,_,h,fun w=>by simp [Op.unary,Op.intArith];rfl,by rw [VRel];simp⟩
  · rename_i k n
    rw [VRel] at hx;subst hx
    simp only [zaS] at h
    exact ⟨_,_,h,fun w=>by simp only [Op.unary,Op.intBits];simp;rfl,by rw [VRel]⟩
  · rw [VRel] at hx;subst hx
    exact ⟨_,_,h,fun w=>by simp [Op.unary];rfl,by rw [VRel]⟩
  · cases h
theorem zwU {x:AV} {u:Value} (hx:VRel C x u) {i:Nat} {K:AV→Ans} {res:AV×List Obj} (h:extract x i K=some res) :
    ∃r z,K r=some res∧(∀w,(Instr.extract u i).run P w = .ok z w)∧VRel C r z:=by
  unfold extract at h
  cases x with
  | tup vs =>
    simp only at h
    rw [VRel] at hx
    obtain ⟨us,rfl,hv⟩:=hx
    replace h:=zo h;obtain ⟨a,ha,h⟩:=h
    obtain ⟨v,hv1,hv2⟩:=hv.get ha
    have hv1:us[i]? = some v:=by simpa using hv1
    exact ⟨a,v,h,fun w=>by simp [Instr.extract,hv1],hv2⟩
  | _=>cases h
theorem zDU [BT] (hT:zJ P T) {s:St} (hs:C.H=s.H) {t:Nat} {x:AV} {u:Value} (hx:VRel C x u) {K:AV→Ans} {res:AV×List Obj} (h:lenOf T t x s K=some res) (hh:zY C) (ts:Array TypeId)
    (ht0:ts[0]? = some t) (ty:TypeId) (args:Array Value) (ha0:args[0]? = some u) : ∃r z,K r=some res∧(∀W,(Builtin.len_ ts ty args).run P W = .ok z W)∧VRel C r z:=by
  unfold lenOf at h
  replace h:=zo h;obtain ⟨i,hti,h⟩:=h
  obtain ⟨d,info,z,hi⟩:=hT t i hti
  have hk:=hi.kind
  split at h
  · rename_i hkk
    replace h:=zC h;obtain ⟨hst,h⟩:=h
    have hd:=YY hi hkk hst
    subst hd
    cases x with
    | str a =>
      simp only at h
      rw [VRel] at hx;subst hx
      refine ⟨_,.int .i64 a.length,h,?_,by rw [VRel]⟩
      intro W
      simp [Builtin.len_,ht0,ha0,run_underlying hi.under,goInt,zbS]
    | _=>cases h
  · rename_i e hkk
    rw [hkk] at hk
    obtain ⟨rfl,_⟩:=hk
    have run : ∀A n c,u = .slice A n c → ∀W,(Builtin.len_ ts ty args).run P W = .ok (.int .i64 n) W:=by
      intro A n c e W
      subst e
      simp [Builtin.len_,ht0,ha0,run_underlying hi.under,goInt]
    cases x with
    | nils =>
      simp only at h
      rw [VRel] at hx;subst hx
      exact ⟨_,_,h,run _ _ _ rfl,by rw [VRel];rfl⟩
    | own n =>
      simp only at h
      rw [VRel] at hx
      obtain ⟨ty,l,hg,hx⟩:=hx
      rw [← hs,hg] at h
      rcases hx with ⟨_,rfl,rfl⟩ | ⟨_,_,_,_,_,_,_,rfl⟩
      · exact ⟨_,_,h,run _ _ _ rfl,by rw [VRel];rfl⟩
      · exact ⟨_,_,h,run _ _ _ rfl,by rw [VRel]⟩
    | sub n off len e' =>
      simp only at h
      rw [VRel] at hx
      obtain ⟨A,cap,rfl,_⟩:=hx
      exact ⟨_,_,h,run _ _ _ rfl,by rw [VRel]⟩
    | ro ty l =>
      simp only at h
      rw [VRel,zE] at hx
      obtain ⟨A,c,hv,_⟩:=hx
      obtain rfl:u = .slice A l.length c:=by simpa using hv
      exact ⟨_,_,h,run _ _ _ rfl,by rw [VRel]⟩
    | _=>cases h
  · rename_i n e hkk
    rw [hkk] at hk
    simp only [Z0] at hk
    subst hk
    exact ⟨_,.int .i64 n,h,fun W=>by simp [Builtin.len_,ht0,ha0,run_underlying hi.under,goInt],by rw [VRel]⟩
  · rename_i k e hkk
    rw [hkk] at hk
    obtain ⟨rfl,_⟩:=hk
    cases x with
    | nilm =>
      simp only at h
      rw [VRel] at hx;subst hx
      exact ⟨_,.int .i64 0,h,fun W=>by simp [Builtin.len_,ht0,ha0,run_underlying hi.under,goInt],by rw [VRel]⟩
    | _=>cases h
  · cases h
theorem zdy {f:AV→AV→Option AV} {g:Value→Value→Sem Value} (hfg : ∀x y u v r,f x y=some r→VRel C x u→VRel C y v → ∃z,(∀w,(g u v).run P w = .ok z w)∧VRel C r z) :
    ∀{l:List AV} {vs:List Value} {x r:AV} {u:Value},zkC f x l=some r→VRel C x u→VRels C l vs → ∃z,(∀w,(vs.foldlM g u).run P w = .ok z w)∧VRel C r z
  | [],_,x,r,u,h,hx,hv=>by
    rw [VRels] at hv;subst hv
    rw [zkC] at h;cases h
    exact ⟨u,fun w=>by simp,hx⟩
  | y::l,_,x,r,u,h,hx,hv=>by
    rw [VRels] at hv
    obtain ⟨v,vs',rfl,hy,hr⟩:=hv
    rw [zkC] at h
    split at h
    · rename_i z hz
      obtain ⟨q,hq,hqr⟩:=hfg _ _ _ _ _ hz hx hy
      obtain ⟨p,hp,hpr⟩:=zdy hfg h hqr hr
      exact ⟨p,fun w=>by simp [List.foldlM_cons,hq,hp],hpr⟩
    · cases h
theorem zIH {x y r:AV} {u v:Value} (h:max2 x y=some r) (hx:VRel C x u) (hy:VRel C y v) : ∃z,(∀w,(Builtin.max2 u v).run P w = .ok z w)∧VRel C r z:=by
  unfold max2 at h
  split at h
  · cases h
    rw [VRel] at hx hy;subst hx;subst hy
    exact ⟨_,fun w=>by simp [Builtin.max2];rfl,by rw [VRel]⟩
  · cases h
theorem zJ0 {x y r:AV} {u v:Value} (h:min2 x y=some r) (hx:VRel C x u) (hy:VRel C y v) : ∃z,(∀w,(Builtin.min2 u v).run P w = .ok z w)∧VRel C r z:=by
  unfold min2 at h
  split at h
  · cases h
    rw [VRel] at hx hy;subst hx;subst hy
    exact ⟨_,fun w=>by simp [Builtin.min2];rfl,by rw [VRel]⟩
  · cases h
theorem Wv [BT] {t:Nat} {i:TI} {d:TypeDesc} {info:TypeInfo} {z:Value} (hi:y0 P t i d info z) {k:IntKind} (h:zaU i=some k):d = .int k:=by
  have:=hi.kind
  unfold zaU at h
  split at h
  · rename_i k' n hk hz
    cases h
    rw [hk] at this
    simp only [Z0,hz] at this
    cases d <;> simp_all [yn]
  · cases h
theorem y0.notIface [BT] {t:Nat} {i:TI} {d:TypeDesc} {info:TypeInfo} {z:Value} (hi:y0 P t i d info z) (h:zjZ i=false) : ∀ms,d ≠ .interface ms:=by
  intro ms e
  subst e
  have hk:=hi.kind
  unfold zjZ at h
  cases hkk:i.k with
  | sc =>
    rw [hkk] at hk h
    simp only [Z0] at hk
    cases hz:i.zero with
    | nil=>rw [hz] at hk;simp [yn] at hk
    | cons x r =>
      rw [hz] at hk h
      cases x <;> cases r <;> simp_all [yn]
  | ptr e=>rw [hkk] at hk;exact absurd hk.1 (by simp)
  | slice e=>rw [hkk] at hk;exact absurd hk.1 (by simp)
  | array n e=>rw [hkk] at hk;simp [Z0] at hk
  | struct fs=>rw [hkk] at hk;obtain ⟨_,h1,_⟩:=hk;cases h1
  | map k e=>rw [hkk] at hk;exact absurd hk.1 (by simp)
theorem zny {env:zQ} {a:Act} (h:Zj C env a.tmps) (x:Option Operand):zbx C (x.map (opd env)) (x.map a.eval):=by
  cases x with
  | none=>trivial
  | some x=>exact zN h x
theorem ZJ {α:Type} (a:Array α):a.toList.toArray=a:=by simp
theorem zDS {α:Type} {c:Bool} {x:Option α} {r:α} (h:cond c none x=some r):c=false∧x=some r:=by
  cases c <;> simp_all
theorem zgr [BT] (hT:zJ P T) (hh:zY C) {s:St} (hs:C.H=s.H) {a:Act} (he:Zj C s.env a.tmps) {o:Oper} {K:AV→Ans} {A:Ans} {res:AV×List Obj}
    (h:z8 T o s K=some A) (hA:A=some res) : ∃r v,K r=some res∧(∀W,zf1 C (yr T s o) W→(execOp a.eval o).run P W = .ok (.value v) W)∧VRel C r v:=by
  subst hA
  unfold z8 at h
  have wrapV : ∀{S:Sem Value} {r:AV},(∃u,K r=some res∧(∀W,zf1 C (yr T s o) W→S.run P W = .ok u W)∧VRel C r u)→execOp a.eval o=(do pure (.value (← S))) →
      ∃r v,K r=some res∧(∀W,zf1 C (yr T s o) W→(execOp a.eval o).run P W = .ok (.value v) W)∧VRel C r v:=by
    intro S r ⟨u,h1,h2,h3⟩ he
    exact ⟨r,u,h1,fun W hW=>by rw [he];simp [h2 W hW],h3⟩
  cases ho:o.op <;> rw [ho] at h <;> simp only at h <;> first | (cases h;done) | skip
  case move x =>
    have h:=Option.some.inj h
    exact ⟨_,_,h,fun W _=>by simp [execOp,ho],zN he x⟩
  case assign x =>
    have h:=Option.some.inj h
    exact ⟨_,_,h,fun W _=>by simp [execOp,ho],zN he x⟩
  case pick c x y =>
    have h:=Option.some.inj h
    have hc:=zN (C:=C) he c
    cases hcv:opd s.env c <;> rw [hcv] at h hc <;> first | (cases h;done) | skip
    rename_i p
    rw [VRel] at hc
    cases p with
    | true=>exact ⟨_,_,h,fun W _=>by simp [execOp,ho,hc,Go.asBool],zN he x⟩
    | false=>exact ⟨_,_,h,fun W _=>by simp [execOp,ho,hc,Go.asBool],zN he y⟩
  case build t parts =>
    have h:=Option.some.inj h
    replace h:=zo h;obtain ⟨i,hti,h⟩:=h
    replace h:=zC h;obtain ⟨hok,h⟩:=h
    replace h:=zo h;obtain ⟨cs,hcs,h⟩:=h
    obtain ⟨d,info,z,hi⟩:=hT t i hti
    obtain ⟨hn,hv⟩:=zf2 (C:=C) he parts.toList
    obtain ⟨u,hu,hr⟩:=zmk (C:=C) hT hti hok (hi.run_zero) (by rw [hi.cells];exact zad _ hi.isz) (by rw [hi.cells];exact znK _ hi.isz)
      (parts':=parts.map fun (i,x)=>(i,a.eval x)) (by rw [Array.toList_map];exact hn) (by rw [Array.toList_map];exact hv) hcs
    exact wrapV ⟨u,h,fun W _=>hu W,hr⟩ (by simp [execOp,ho])
  case load t x =>
    have h:=Option.some.inj h
    obtain ⟨r,u,h1,h2,h3⟩:=zo5 hT hh hs (zN he x) h
    have hrd:yr T s o=some (opd s.env x).refs:=by unfold yr;rw [ho]
    exact wrapV ⟨u,h1,fun W hW=>h2 W (hW _ hrd),h3⟩ (by simp [execOp,ho])
  case nilCheck x =>
    have h:=Option.some.inj h
    have hx:=zN (C:=C) he x
    cases hv:opd s.env x <;> rw [hv] at h hx <;> first | (cases h;done) | skip
    all_goals
      refine ⟨_,a.eval x,h,?_,hx⟩
      have hp : ∃p,a.eval x = .pointer (some p):=by
        simp only [VRel] at hx
        first
          | (obtain ⟨b,_,e,_⟩:=hx;exact ⟨_,e⟩)
          | (obtain ⟨b,_,_,_,_,e⟩:=hx;exact ⟨_,e⟩)
          | (obtain ⟨b,_,_,_,_,_,e⟩:=hx;exact ⟨_,e⟩)
      obtain ⟨p,e⟩:=hp
      intro W _
      simp [execOp,ho,e]
  case binOp op t x y yt =>
    have h:=Option.some.inj h
    obtain ⟨r,z,h1,h2,h3⟩:=zA8 hT (zN he x) (zN he y) x y h
    exact wrapV ⟨z,h1,fun W _=>h2 W,h3⟩ (by simp [execOp,ho])
  case unOp op t x =>
    have h:=Option.some.inj h
    obtain ⟨r,z,h1,h2,h3⟩:=zIu (zN he x) h
    exact wrapV ⟨z,h1,fun W _=>h2 W,h3⟩ (by simp [execOp,ho])
  case convert src dst x =>
    have hx:=zN (C:=C) he x
    cases hv:opd s.env x <;> rw [hv] at h hx <;> first | (cases h;done) | skip
    rename_i k n
    have h:=Option.some.inj h
    unfold convert at h
    replace h:=zo h;obtain ⟨si,hsi,h⟩:=h
    replace h:=zo h;obtain ⟨di,hdi,h⟩:=h
    simp only at h
    replace h:=zo h;obtain ⟨k',hk',h⟩:=h
    rw [VRel] at hx
    obtain ⟨d1,i1,z1,h1⟩:=hT _ _ hsi
    obtain ⟨d2,i2,z2,h2⟩:=hT _ _ hdi
    obtain rfl:=Wv h2 hk'
    refine ⟨_,.int k' (k'.wrap n),h,?_,by rw [VRel]⟩
    intro W _
    simp [execOp,ho,hx,Go.convert,run_underlying h1.under,run_underlying h2.under,Conv.intToInt]
  case makeInterface t x =>
    have h:=Option.some.inj h
    replace h:=zo h;obtain ⟨i,hti,h⟩:=h
    replace h:=zC h;obtain ⟨hc,h⟩:=h
    simp only [Bool.and_eq_true,Bool.not_eq_true'] at hc
    obtain ⟨d,info,z,hi⟩:=hT _ _ hti
    refine ⟨_,.iface t (a.eval x),h,?_,by rw [VRel];exact ⟨_,rfl,zN he x⟩⟩
    have hd:=hi.notIface hc.2
    intro W _
    simp only [execOp,ho,Instr.makeInterface,Sem.run_bind,run_underlying hi.under,Result.andThen_ok]
    cases d <;> first | rfl | exact absurd rfl (hd _)
  case typeAssert x xt t ok =>
    replace h:=Option.some.inj h
    unfold zmO at h
    replace h:=zo h;obtain ⟨i,hti,h⟩:=h
    replace h:=QB h;obtain ⟨hif,h⟩:=h
    obtain ⟨d,info,z,hi⟩:=hT _ _ hti
    have hd:=hi.notIface hif
    have hx:=zN (C:=C) he x
    have hz : ∀z',zJF i=some z'→VRel C z' z:=by
      intro z' hz'
      unfold zJF at hz'
      have hz':=(zDS hz').2
      have hrel:VRels C i.zero z.cells.toList:=by rw [hi.cells];exact zad _ hi.isz
      cases hag:i.isAgg with
      | true =>
        rw [hag] at hz'
        cases hz'
        have hp:=hi.agg hag
        cases z <;> first | (cases hp;done) | skip
        rw [VRel]
        exact ⟨_,rfl,hrel⟩
      | false =>
        rw [hag] at hz'
        have hp:=hi.plain hag
        have hzc:z.cells = #[z]:=by cases z <;> first | rfl | (cases hp;done)
        rw [hzc] at hrel
        dsimp only at hz'
        unfold oneCell at hz'
        split at hz'
        · rename_i v hv
          cases hz'
          rw [hv] at hrel
          rw [VRels] at hrel
          obtain ⟨v',vs',e,h1,_⟩:=hrel
          have e':[z]=v'::vs':=e
          cases e'
          exact h1
        · cases hz'
    cases hv:opd s.env x <;> rw [hv] at h hx <;> first | (cases h;done) | skip
    case nili =>
      dsimp only at h
      cases ok with
      | false=>cases h
      | true =>
      rw [cond_true] at h
      replace h:=zo h;obtain ⟨z',hz',h⟩:=h
      rw [VRel] at hx
      refine ⟨_,.tuple #[z,.bool false],h,?_,by rw [VRel];exact ⟨_,rfl,by simp only [VRels];exact ⟨_,_,rfl,hz _ hz',_,_,rfl,by rw [VRel],rfl⟩⟩⟩
      intro W _
      simp only [execOp,ho,hx,Instr.typeAssert,Sem.run_bind,run_underlying hi.under,Result.andThen_ok]
      cases d <;> first | exact absurd rfl (hd _) | simp [hi.run_zero]
    case ifc t' y =>
      rw [VRel] at hx
      obtain ⟨u,hu,hy⟩:=hx
      dsimp only at h
      cases hb:Nat.beq t' t with
      | true =>
        rw [hb,cond_true] at h
        obtain rfl:=Nat.eq_of_beq_eq_true hb
        cases ok with
        | true =>
          refine ⟨_,.tuple #[u,.bool true],h,?_,by rw [VRel];exact ⟨_,rfl,by simp only [VRels];exact ⟨_,_,rfl,hy,_,_,rfl,by rw [VRel],rfl⟩⟩⟩
          intro W _
          simp only [execOp,ho,hu,Instr.typeAssert,Sem.run_bind,run_underlying hi.under,Result.andThen_ok]
          cases d <;> first | exact absurd rfl (hd _) | simp
        | false =>
          refine ⟨_,u,h,?_,hy⟩
          intro W _
          simp only [execOp,ho,hu,Instr.typeAssert,Sem.run_bind,run_underlying hi.under,Result.andThen_ok]
          cases d <;> first | exact absurd rfl (hd _) | simp
      | false =>
        have hne:t'≠t:=fun e=>by subst e;rw [Nat.beq_refl] at hb;cases hb
        rw [hb,cond_false] at h
        cases ok with
        | false=>cases h
        | true =>
        rw [cond_true] at h
        replace h:=zo h;obtain ⟨z',hz',h⟩:=h
        refine ⟨_,.tuple #[z,.bool false],h,?_,by rw [VRel];exact ⟨_,rfl,by simp only [VRels];exact ⟨_,_,rfl,hz _ hz',_,_,rfl,by rw [VRel],rfl⟩⟩⟩
        intro W _
        simp only [execOp,ho,hu,Instr.typeAssert,Sem.run_bind,run_underlying hi.under,Result.andThen_ok]
        cases d <;> first | exact absurd rfl (hd _) | simp [hne,hi.run_zero]
  case makeFunc f fs cs =>
    have h:=Option.some.inj h
    refine ⟨_,_,h,fun W _=>by simp [execOp,ho,Instr.makeFunc];rfl,?_⟩
    rw [VRel]
    exact ⟨_,_,rfl,by rw [Array.toList_map];exact W9 he _,by rw [Array.toList_map];exact W9 he _⟩
  case slice t x lo hi mx =>
    have h:=Option.some.inj h
    obtain ⟨r,u,h1,h2,h3⟩:=zEr hT hh hs (zN he x) (zny he lo) (zny he hi) (zny he mx) h
    exact wrapV ⟨u,h1,fun W _=>h2 W,h3⟩ (by simp [execOp,ho])
  case fieldAddr t x f =>
    have h:=Option.some.inj h
    obtain ⟨r,u,h1,h2,h3⟩:=zpX hT (zN he x) h
    exact wrapV ⟨u,h1,fun W _=>h2 W,h3⟩ (by simp [execOp,ho])
  case field t x f =>
    have h:=Option.some.inj h
    obtain ⟨r,u,h1,h2,h3⟩:=zDR hT (zN he x) h
    exact wrapV ⟨u,h1,fun W _=>h2 W,h3⟩ (by simp [execOp,ho])
  case indexAddr t x ix =>
    have h:=Option.some.inj h
    obtain ⟨r,u,h1,h2,h3⟩:=zof hT hs (zN he x) (zN he ix) h
    exact wrapV ⟨u,h1,fun W _=>h2 W,h3⟩ (by simp [execOp,ho])
  case index t x ix =>
    have h:=Option.some.inj h
    obtain ⟨r,u,h1,h2,h3⟩:=zDF hT (zN he x) (zN he ix) h
    exact wrapV ⟨u,h1,fun W _=>h2 W,h3⟩ (by simp [execOp,ho])
  case extract t i =>
    have h:=Option.some.inj h
    obtain ⟨r,u,h1,h2,h3⟩:=zwU (zN he t) h
    exact wrapV ⟨u,h1,fun W _=>h2 W,h3⟩ (by simp [execOp,ho])
  case call c =>
    cases hc:c.callee <;> rw [hc] at h <;> first | (cases h;done) | skip
    rename_i b
    have hargs:=W9 (C:=C) he c.args.toList
    cases b <;> simp only at h <;> first | (cases h;done) | skip
    case len =>
      have hcn : ∀{c:Bool} {x:Option Ans} {y:Ans},cond c Option.none x=Option.some y→x=Option.some y:=fun {c x y} h=>by
        cases c with
        | true=>cases h
        | false=>exact h
      replace h:=hcn h
      have h:=Option.some.inj h
      split at h
      · rename_i x t ts hx ht
        have ht0:c.argTypes[0]? = some t:=by rw [← Array.getElem?_toList,ht];rfl
        have ha0:(c.args.map a.eval)[0]? = some (a.eval x):=by rw [← Array.getElem?_toList,Array.toList_map,hx];rfl
        obtain ⟨r,u,h1,h2,h3⟩:=zDU hT hs (zN he x) h hh c.argTypes ht0 o.type (c.args.map a.eval) ha0
        exact ⟨r,u,h1,fun W _=>by simp [execOp,ho,resolve,hc,invoke,builtin,h2],h3⟩
      · cases h
    case max =>
      have h:=Option.some.inj h
      split at h
      · rename_i x r hx
        replace h:=zo h;obtain ⟨q,hq,h⟩:=h
        rw [hx] at hargs
        obtain ⟨z,hz,hr⟩:=zdy (g:=Builtin.max2) (fun x y u v r h hx hy=>zIH h hx hy) hq (zN he x) (W9 he r)
        have hl:(c.args.map a.eval).toList=a.eval x::r.map a.eval:=by rw [Array.toList_map,hx];rfl
        exact ⟨q,z,h,fun W _=>by simp only [execOp,ho,resolve,hc,invoke,builtin,Sem.run_bind,Sem.run_pure,Result.andThen_ok,Builtin.max_,hl];rw [hz];rfl,hr⟩
      · cases h
    case min =>
      have h:=Option.some.inj h
      split at h
      · rename_i x r hx
        replace h:=zo h;obtain ⟨q,hq,h⟩:=h
        rw [hx] at hargs
        obtain ⟨z,hz,hr⟩:=zdy (g:=Builtin.min2) (fun x y u v r h hx hy=>zJ0 h hx hy) hq (zN he x) (W9 he r)
        have hl:(c.args.map a.eval).toList=a.eval x::r.map a.eval:=by rw [Array.toList_map,hx];rfl
        exact ⟨q,z,h,fun W _=>by simp only [execOp,ho,resolve,hc,invoke,builtin,Sem.run_bind,Sem.run_pure,Result.andThen_ok,Builtin.min_,hl];rw [hz];rfl,hr⟩
      · cases h
end Go.AE
namespace Go.AE
variable {P:Program} {T:Tab}
theorem ZC : ∀(H:List Obj) (i:Nat),zn H i=(H[i]?).getD .dead
  | [],i=>by simp [zn]
  | o::r,0=>rfl
  | o::r,i+1=>by rw [zn,ZC r i];simp
theorem Z2 {H:List Obj} {i:Nat} (h:zt H i):i<H.length:=by
  unfold zt at h
  rw [ZC] at h
  rcases Nat.lt_or_ge i H.length with h' | h'
  · exact h'
  · rw [List.getElem?_eq_none h'] at h;exact absurd rfl h
theorem JX {H:List Obj} {o:Obj} {i:Nat} (h:i<H.length):zn (H++[o]) i=zn H i:=by
  rw [ZC,ZC,List.getElem?_append_left h]
theorem Yl {H:List Obj} {o:Obj}:zn (H++[o]) H.length=o:=by
  rw [ZC];simp
theorem zuA {H:List Obj} {o:Obj} {i:Nat} (h:H.length<i):zn (H++[o]) i = .dead:=by
  rw [ZC,List.getElem?_eq_none (by simp;omega)];rfl
theorem zc5 {H:List Obj} {i:Nat} (h:H.length≤i):zn H i = .dead:=by
  rw [ZC,List.getElem?_eq_none h];rfl
theorem J5 : ∀(H:List Obj) (i:Nat) (o:Obj),Za H i o=H.set i o
  | [],_,_=>rfl
  | _::_,0,_=>rfl
  | x::r,i+1,o=>by rw [Za,J5 r i o];rfl
theorem yh {H:List Obj} {i:Nat} {o:Obj} (h:i<H.length):zn (Za H i o) i=o:=by
  rw [ZC,J5];simp [h]
theorem ZQ {H:List Obj} {i j:Nat} {o:Obj} (h:i≠j):zn (Za H i o) j=zn H j:=by
  rw [ZC,ZC,J5];simp [h]
theorem zl4 (H:List Obj) (i:Nat) (o:Obj):(Za H i o).length=H.length:=by rw [J5];simp
theorem zn0 (g:AV→AV) (H:List Obj):zS g H=H.map (Obj.mapR g):=by
  induction H with
  | nil=>rfl
  | cons o r ih=>rw [zS,ih];rfl
theorem Ys (g:AV→AV) (H:List Obj) (i:Nat):zn (zS g H) i=(zn H i).mapR g:=by
  rw [ZC,ZC,zn0,List.getElem?_map]
  cases H[i]? <;> rfl
theorem yD (g:AV→AV) (H:List Obj):(zS g H).length=H.length:=by rw [zn0];simp
theorem zMA {H:List Obj} {n i:Nat} (h:i<n):zn (H.take n) i=zn H i:=by
  rw [ZC,ZC,List.getElem?_take_of_lt h]
theorem zg9 (g:AV→AV) (env:zQ) (t:Nat):Zd (Z1 g env) t=(Zd env t).mapR g:=by
  induction env with
  | nil=>rw [Z1,zaf,AV.mapR]
  | cons p r ih =>
    obtain ⟨d,v⟩:=p
    rw [Z1,Zm,Zm,ih]
    split <;> rfl
theorem zL2 {env:zQ} {t i:Nat} (h:i ∈ (Zd env t).refs):i ∈ yJ env:=by
  induction env with
  | nil=>rw [zaf,AV.refs] at h;cases h
  | cons p r ih =>
    obtain ⟨d,v⟩:=p
    rw [Zm] at h
    rw [yJ]
    split at h
    · exact List.mem_append.2 (.inl h)
    · exact List.mem_append.2 (.inr (ih h))
section
variable {C C':Cx} {g:AV→AV} {p:Nat→Prop}
theorem Zj.mapR (hl : ∀a v,a.isRef=true→(∀i ∈ a.refs,p i)→VRel C a v→VRel C' (g a) v) (hR : ∀b,C.R b→C'.R b∧C'.w.heap[b]? = C.w.heap[b]?)
    {env:zQ} {tmps:Array Value} (h:Zj C env tmps) (hp : ∀i ∈ yJ env,p i):Zj C' (Z1 g env) tmps:=by
  intro t
  rw [zg9]
  exact VRel.mapR hl hR _ _ (fun i hi=>hp i (zL2 hi)) (h t)
theorem Zz.mapR (hl : ∀a v,a.isRef=true→(∀i ∈ a.refs,p i)→VRel C a v→VRel C' (g a) v) (hR : ∀b,C.R b→C'.R b∧C'.w.heap[b]? = C.w.heap[b]?) :
    ∀{stk:List zQ} {vs:List (Array Value)},Zz C stk vs→(∀i ∈ y8 stk,p i)→Zz C' (Yq g stk) vs
  | [],_,h,_=>by rw [Zz] at h;rw [Yq,Zz];exact h
  | e::r,_,h,hp=>by
    rw [Zz] at h
    rw [Yq,Zz]
    rw [y8] at hp
    obtain ⟨v,vs',rfl,he,hr⟩:=h
    exact ⟨v,vs',rfl,Zj.mapR hl hR he fun i hi=>hp i (List.mem_append.2 (.inl hi)),Zz.mapR hl hR hr fun i hi=>hp i (List.mem_append.2 (.inr hi))⟩
end
theorem zbd : ∀env:zQ,Z1 (fun x=>x) env=env
  | []=>rfl
  | (d,v)::r=>by rw [Z1,mapR_id,zbd r]
theorem zhp : ∀stk:List zQ,Yq (fun x=>x) stk=stk
  | []=>rfl
  | e::r=>by rw [Yq,zbd,zhp r]
section
variable {C C':Cx}
theorem Zj.mono (hl : ∀a v,a.isRef=true→VRel C a v→VRel C' a v) (hR : ∀b,C.R b→C'.R b∧C'.w.heap[b]? = C.w.heap[b]?)
    {env:zQ} {tmps:Array Value} (h:Zj C env tmps):Zj C' env tmps:=by
  have:=Zj.mapR (p:=fun _=>True) (g:=fun x=>x) (fun a v h1 _ h2=>hl a v h1 h2) hR h (fun _ _=>trivial)
  rwa [zbd] at this
theorem Zz.mono (hl : ∀a v,a.isRef=true→VRel C a v→VRel C' a v) (hR : ∀b,C.R b→C'.R b∧C'.w.heap[b]? = C.w.heap[b]?)
    {stk:List zQ} {vs:List (Array Value)} (h:Zz C stk vs):Zz C' stk vs:=by
  have:=Zz.mapR (p:=fun _=>True) (g:=fun x=>x) (fun a v h1 _ h2=>hl a v h1 h2) hR h (fun _ _=>trivial)
  rwa [zhp] at this
theorem ya.mapR [BT] {g:AV→AV} {p:Nat→Prop} (hl : ∀a v,a.isRef=true→(∀i ∈ a.refs,p i)→VRel C a v→VRel C' (g a) v) (hR : ∀b,C.R b→C'.R b∧C'.w.heap[b]? = C.w.heap[b]?)
    {o:Obj} {r:Option Nat} (h:ya C o r) (hb : ∀b,r=some b→o ≠ .dead→C'.w.heap[b]? = C.w.heap[b]?) (hp : ∀i ∈ o.refs,p i):ya C' (o.mapR g) r:=by
  cases o with
  | dead=>trivial
  | cells cs =>
    obtain ⟨b,c,e,fr,rfl,hw,hfr,hv,h1⟩:=h
    exact ⟨b,c,e,fr,rfl,by rw [hb b rfl (by simp)];exact hw,hfr,VRels.mapR hl hR _ _ hp hv,h1⟩
  | arr t l =>
    rcases h with h | ⟨b,c,e,fr,rfl,hw,hfr,hl',hel⟩
    · exact .inl h
    · refine .inr ⟨b,c,e,fr,rfl,by rw [hb b rfl (by simp)];exact hw,hfr,hl',fun k x hk => ?_,hel.2⟩
      replace hel:=hel.1
      obtain ⟨us,hd,hu⟩:=hel k x hk
      exact ⟨us,zE.mono hR hd,hu⟩
  | bcells cs =>
    obtain ⟨b,c,v0,rfl,hw,⟨vs,hc,hv⟩,h1,h2⟩:=h
    exact ⟨b,c,v0,rfl,by rw [hb b rfl (by simp)];exact hw,⟨vs,hc,VRels.mapR hl hR _ _ hp hv⟩,h1,h2⟩
  | btold s =>
    obtain ⟨b,v0,v,rfl,hw,h1,h2,h3⟩:=h
    refine ⟨b,v0,v,rfl,by rw [hb b rfl (by simp)];exact hw,h1,h2,?_⟩
    rcases h3 with h3 | ⟨g,cap,cur,fr,g1,g2,g3,g4,g5⟩
    · exact .inl h3
    · exact .inr ⟨g,cap,cur,fr,g1,g2,(hR g g3).1,(hR g g3).2.trans g4,g5⟩
  | mp k t l =>
    obtain ⟨b,es,ck,rfl,hw,hm⟩:=h
    exact ⟨b,es,ck,rfl,by rw [hb b rfl (by simp)];exact hw,hm⟩
theorem Obj.mapR_id (o:Obj):o.mapR (fun x=>x)=o:=by
  cases o <;> simp [Obj.mapR,W8]
theorem ya.mono [BT] (hl : ∀a v,a.isRef=true→VRel C a v→VRel C' a v) (hR : ∀b,C.R b→C'.R b∧C'.w.heap[b]? = C.w.heap[b]?)
    {o:Obj} {r:Option Nat} (h:ya C o r) (hb : ∀b,r=some b→o ≠ .dead→C'.w.heap[b]? = C.w.heap[b]?):ya C' o r:=by
  have:=ya.mapR (p:=fun _=>True) (g:=fun x=>x) (fun a v h1 _ h2=>hl a v h1 h2) hR h hb (fun _ _=>trivial)
  rwa [Obj.mapR_id] at this
end
theorem zY.blk [BT] {C:Cx} (hh:zY C) {i b:Nat} (hl:zt C.H i) (hb:C.ρ i=some b) : ∃x,C.w.heap[b]? = some x:=by
  have:=hh.obj i
  unfold zt at hl
  cases hg:zn C.H i with
  | dead=>exact absurd hg hl
  | cells cs =>
    rw [hg] at this
    obtain ⟨b',c,e,fr,hb',hw,_⟩:=this
    obtain rfl:b=b':=Option.some.inj (hb.symm.trans hb')
    exact ⟨_,hw⟩
  | btold s =>
    rw [hg] at this
    obtain ⟨b',v0,v,hb',hw,_⟩:=this
    obtain rfl:b=b':=Option.some.inj (hb.symm.trans hb')
    exact ⟨_,hw⟩
  | bcells cs =>
    rw [hg] at this
    obtain ⟨b',c,v0,hb',hw,_⟩:=this
    obtain rfl:b=b':=Option.some.inj (hb.symm.trans hb')
    exact ⟨_,hw⟩
  | arr t l =>
    rw [hg] at this
    rcases this with ⟨h,_⟩ | ⟨b',c,e,fr,hb',hw,_⟩
    · rw [hb] at h;cases h
    · obtain rfl:b=b':=Option.some.inj (hb.symm.trans hb')
      exact ⟨_,hw⟩
  | mp k t l =>
    rw [hg] at this
    obtain ⟨b',es,ck,hb',hw,_⟩:=this
    obtain rfl:b=b':=Option.some.inj (hb.symm.trans hb')
    exact ⟨_,hw⟩
theorem zY.blk_lt [BT] {C:Cx} (hh:zY C) {i b:Nat} (hl:zt C.H i) (hb:C.ρ i=some b):b<C.w.heap.size:=by
  obtain ⟨_,hw⟩:=hh.blk hl hb
  exact (Array.getElem?_eq_some_iff.1 hw).1
structure World.Pushed (w w':World) (o:Option (_root_.Go.Obj)):Prop where
  os:w'.os=w.os
  tape:w'.tape=w.tape
  output:w'.output=w.output
  heap:w'.heap=match o with | some o=>w.heap.push o | none=>w.heap
theorem World.Pushed.old {w w':World} {o:Option (_root_.Go.Obj)} (h:World.Pushed w w' o) {b:Nat} (hb:b<w.heap.size):w'.heap[b]? = w.heap[b]? := by
  rw [h.heap]
  cases o with
  | none=>rfl
  | some o=>simp only;rw [Array.getElem?_push,if_neg (by omega)]
theorem World.Pushed.size {w w':World} {o:Option (_root_.Go.Obj)} (h:World.Pushed w w' o):w.heap.size≤w'.heap.size:=by
  rw [h.heap]
  cases o <;> simp
theorem World.Pushed.new {w w':World} {o:_root_.Go.Obj} (h:World.Pushed w w' (some o)):w'.heap[w.heap.size]? = some o:=by
  rw [h.heap];simp
def Cx.push (C:Cx) (o:Obj) (r:Option Nat) (w':World):Cx:=⟨C.R,fun i=>if i=C.H.length then r else C.ρ i,C.H++[o],w'⟩
section
variable {C:Cx} {o:Obj} {r:Option Nat} {w':World} {bo:Option (_root_.Go.Obj)}
theorem ziO [BT] (hh:zY C) (hw:World.Pushed C.w w' bo) : ∀b,C.R b→(C.push o r w').R b∧(C.push o r w').w.heap[b]? = C.w.heap[b]? :=
  fun b hb=>⟨hb,hw.old (hh.rlt b hb)⟩
theorem zbR [BT] (hh:zY C) (hw:World.Pushed C.w w' bo) : ∀a v,a.isRef=true→VRel C a v→VRel (C.push o r w') a v:=by
  intro a v ha h
  have hg : ∀i,zt C.H i→zn (C.H++[o]) i=zn C.H i∧(C.push o r w').ρ i=C.ρ i:=by
    intro i hl
    have:=Z2 hl
    exact ⟨JX this,by simp [Cx.push];omega⟩
  have hbk : ∀i b c,zt C.H i→C.ρ i=some b→Yx C.w b=some c→Yx (C.push o r w').w b=some c:=by
    intro i b c hl hb hc
    rw [← hc]
    exact Y9 (hw.old (hh.blk_lt hl hb))
  have lv : ∀i x,zn C.H i=x→x ≠ .dead→zt C.H i:=fun i x e hx=>by unfold zt;rw [e];exact hx
  cases a <;> first | (cases ha;done) | skip
  case ptr i off =>
    rw [VRel] at h ⊢
    obtain ⟨b,hb,rfl,hl⟩:=h
    obtain ⟨h1,h2⟩:=hg i hl
    exact ⟨b,h2.trans hb,rfl,by unfold zt at hl ⊢;show zn (C.H++[o]) i≠_;rw [h1];exact hl⟩
  case eptr i n off =>
    rw [VRel] at h ⊢
    obtain ⟨b,t,l,hb,hgi,rfl⟩:=h
    obtain ⟨h1,h2⟩:=hg i (lv i _ hgi (by simp))
    exact ⟨b,t,l,h2.trans hb,h1.trans hgi,rfl⟩
  case own i =>
    rw [VRel] at h ⊢
    obtain ⟨t,l,hgi,h⟩:=h
    have hl:=lv i _ hgi (by simp)
    obtain ⟨h1,h2⟩:=hg i hl
    refine ⟨t,l,h1.trans hgi,?_⟩
    rcases h with ⟨hn,h⟩ | ⟨b,c,cap,hb,hc,h⟩
    · exact .inl ⟨h2.trans hn,h⟩
    · exact .inr ⟨b,c,cap,h2.trans hb,hbk i b c hl hb hc,h⟩
  case sub i off len e =>
    rw [VRel] at h ⊢
    obtain ⟨A,cap,rfl,hlc,h⟩:=h
    refine ⟨A,cap,rfl,hlc,?_⟩
    rcases h with h | h | ⟨b,hb,hA,c,hc,hcs,hm⟩
    · exact .inl h
    · exact .inr (.inl h)
    · have hl:zt C.H i:=by
        unfold zt
        intro hd
        rw [hd] at hm
        exact hm
      obtain ⟨h1,h2⟩:=hg i hl
      refine .inr (.inr ⟨b,h2.trans hb,hA,c,hbk i b c hl hb hc,hcs,?_⟩)
      show match zn (C.H++[o]) i with | .arr t l=>_ | .cells cs=>_ | _=>_
      rw [h1]
      exact hm
  case map i =>
    rw [VRel] at h ⊢
    obtain ⟨b,hb,rfl,hl⟩:=h
    obtain ⟨h1,h2⟩:=hg i hl
    exact ⟨b,h2.trans hb,rfl,by unfold zt at hl ⊢;show zn (C.H++[o]) i≠_;rw [h1];exact hl⟩
theorem Jy [BT] {F:Fr} {s:St} {tmps:Array Value} {stk:List (Array Value)} (hS:zw F C s tmps stk) (hw:World.Pushed C.w w' bo)
    (hr:r=none∨r=some C.w.heap.size) (hb:bo=none→r=none) (ho:ya (C.push o r w') o r) :
    zw F (C.push o r w') { s with H:=s.H++[o] } tmps stk:=by
  have hh:=hS.heap
  have hl:=zbR (o:=o) (r:=r) hh hw
  have hR:=ziO (o:=o) (r:=r) hh hw
  have hρ : ∀i,i<C.H.length→(C.push o r w').ρ i=C.ρ i:=fun i hi=>by simp [Cx.push];omega
  have hρe:(C.push o r w').ρ C.H.length=r:=by simp [Cx.push]
  have hlive : ∀i,zt (C.H++[o]) i→(i<C.H.length∧zt C.H i)∨i=C.H.length:=by
    intro i hi
    have:=Z2 hi
    simp at this
    rcases Nat.lt_or_ge i C.H.length with h | h
    · left;refine ⟨h,?_⟩;unfold zt at hi ⊢;rwa [JX h] at hi
    · right;omega
  have newlt : ∀b,r=some b→b=C.w.heap.size∧b<w'.heap.size:=by
    intro b hb'
    rcases hr with h | h
    · rw [h] at hb';cases hb'
    · rw [h] at hb'
      cases hb'
      cases bo with
      | none=>rw [hb rfl] at h;cases h
      | some x=>exact ⟨rfl,by rw [hw.heap];simp⟩
  refine ⟨?_,⟨?_,?_,?_,?_⟩,hS.env.mono hl hR,hS.stk.mono hl hR,⟨?_,?_,?_,?_,?_,?_,?_,?_⟩⟩
  · show C.H++[o]=s.H++[o];rw [hS.H]
  · intro i
    show ya _ (zn (C.H++[o]) i) _
    rcases Nat.lt_trichotomy i C.H.length with h | h | h
    · rw [JX h,hρ i h]
      by_cases hd:zn C.H i = .dead
      · rw [hd];trivial
      · exact (hh.obj i).mono hl hR fun b hb' _=>hw.old (hh.blk_lt hd hb')
    · subst h;rw [Yl,hρe];exact ho
    · rw [zuA h];trivial
  · intro i j b hi hj hib hjb
    have hi':=hlive i hi
    have hj':=hlive j hj
    rcases hi' with ⟨h1,h2⟩ | rfl
    · rw [hρ i h1] at hib
      rcases hj' with ⟨h3,h4⟩ | rfl
      · rw [hρ j h3] at hjb
        exact hh.inj i j b h2 h4 hib hjb
      · rw [hρe] at hjb
        have:=hh.blk_lt h2 hib
        have:=(newlt b hjb).1
        omega
    · rw [hρe] at hib
      rcases hj' with ⟨h3,h4⟩ | rfl
      · rw [hρ j h3] at hjb
        have:=hh.blk_lt h4 hjb
        have:=(newlt b hib).1
        omega
      · rfl
  · intro i b hi hib hRb
    rcases hlive i hi with ⟨h1,h2⟩ | rfl
    · rw [hρ i h1] at hib
      exact hh.ro i b h2 hib hRb
    · rw [hρe] at hib
      have:=hh.rlt b hRb
      have:=(newlt b hib).1
      omega
  · intro b hb'
    exact Nat.lt_of_lt_of_le (hh.rlt b hb') hw.size
  · exact hw.os.trans hS.frame.os
  · exact hw.tape.trans hS.frame.tape
  · exact hw.output.trans hS.frame.output
  · exact Nat.le_trans hS.frame.size hw.size
  · intro b hb' hno
    exact (hw.old (Nat.lt_of_lt_of_le hb' hS.frame.size)).trans (hS.frame.keep b hb' hno)
  · exact hS.frame.r0
  · exact hS.frame.rN
  · intro i b hi hib
    rcases hlive i hi with ⟨h1,h2⟩ | rfl
    · rw [hρ i h1] at hib
      exact hS.frame.own i b h2 hib
    · rw [hρe] at hib
      right
      rw [(newlt b hib).1]
      exact hS.frame.size
end
def ZV (C C':Cx):Prop := ∀b,b<C.w.heap.size→C'.w.heap[b]? = C.w.heap[b]? ∧ b<C'.w.heap.size ∧ ∀i,zt C'.H i→C'.ρ i=some b→zt C.H i∧C.ρ i=some b
theorem ZV.refl (C:Cx):ZV C C:=fun b hb=>⟨rfl,hb,fun i hl hi=>⟨hl,hi⟩⟩
theorem ZV.trans {A B C:Cx} (h:ZV A B) (k:ZV B C):ZV A C:=fun b hb=>by
  obtain ⟨h1,h2,h3⟩:=h b hb
  obtain ⟨k1,k2,k3⟩:=k b h2
  exact ⟨k1.trans h1,k2,fun i hl hi=>h3 i (k3 i hl hi).1 (k3 i hl hi).2⟩
theorem ZV.of_less {C C':Cx} (hw:C'.w=C.w) (hρ:C'.ρ=C.ρ) (hl : ∀i,zt C'.H i→zt C.H i):ZV C C':=fun b hb=>⟨by rw [hw],by rw [hw];exact hb,fun i h hi=>⟨hl i h,by rw [← hρ];exact hi⟩⟩
def Zb (C C':Cx):Option (List Nat)→Prop
  | none=>True
  | some sel => ∀b,b<C.w.heap.size→(∀i ∈ sel,zt C.H i→C.ρ i≠some b)→C'.w.heap[b]? = C.w.heap[b]? ∧ b<C'.w.heap.size ∧ ∀i,zt C'.H i→C'.ρ i=some b→zt C.H i∧C.ρ i=some b
theorem Zb.after {A B C:Cx} (h:ZV A B) {f:Option (List Nat)} (k:Zb B C f):Zb A C f:=by
  cases f with
  | none=>trivial
  | some sel =>
    intro b hb hno
    obtain ⟨h1,h2,h3⟩:=h b hb
    obtain ⟨k1,k2,k3⟩:=k b h2 (fun i hi hl e=>hno i hi (h3 i hl e).1 (h3 i hl e).2)
    exact ⟨k1.trans h1,k2,fun i hl hi=>h3 i (k3 i hl hi).1 (k3 i hl hi).2⟩
theorem Zb.of0 {A B:Cx} (h:ZV A B):Zb A B (some []):=fun b hb _=>h b hb
end Go.AE
namespace Go.AE
variable {P:Program} {T:Tab}
structure World.Turned (w w':World) (b:Nat) (c':Array Value):Prop where
  os:w'.os=w.os
  tape:w'.tape=w.tape
  output:w'.output=w.output
  size:w'.heap.size=w.heap.size
  other : ∀k,k≠b→w'.heap[k]? = w.heap[k]?
  blk : ∀c e fr,w.heap[b]? = some (.cells c e fr)→w'.heap[b]? = some (.cells c' e fr)∧c'.size=c.size
theorem QT {w:World} {b o:Nat} {c:Array Value} {e:TypeId} {fr:Nat×Nat} (h:w.heap[b]? = some (.cells c e fr)) (v:Value) :
    (w.setCell ⟨b,o,none⟩ v).heap[b]? = some (.cells (c.setIfInBounds o v) e fr):=by
  simp [World.setCell,Array.getElem?_modify,h]
theorem zaJ {w:World} {b o k:Nat} (hk:k≠b) (v:Value):(w.setCell ⟨b,o,none⟩ v).heap[k]? = w.heap[k]? := by
  simp only [World.setCell,Array.getElem?_modify]
  rw [if_neg (by omega)]
theorem yT (b:Nat) : ∀(vs:List Value) (o:Nat) (w:World) (c:Array Value) (e:TypeId) (fr:Nat×Nat),w.heap[b]? = some (.cells c e fr)→o+vs.length≤c.size →
    ∃c',(w.setCells b o vs).heap[b]? = some (.cells c' e fr)∧c'.toList=c.toList.take o++vs++c.toList.drop (o+vs.length)
  | [],o,w,c,e,fr,h,ho=>⟨c,h,by simp⟩
  | v::r,o,w,c,e,fr,h,ho=>by
    simp only [List.length_cons] at ho
    obtain ⟨c',h1,h2⟩:=yT b r (o+1) (w.setCell ⟨b,o,none⟩ v) _ e fr (QT h v) (by simp;omega)
    refine ⟨c',h1,?_⟩
    rw [h2]
    have hlt:o<c.toList.length:=by simp;omega
    simp only [Array.toList_setIfInBounds]
    rw [List.take_set,List.drop_set_of_lt (by omega),List.take_succ_eq_append_getElem hlt,List.set_append_right _ _ (by simp;omega)]
    have hm:o - (List.take o c.toList).length=0:=by simp;omega
    rw [hm,show o+1+r.length=o+(r.length+1) by omega]
    simp
theorem YG (b:Nat) : ∀(vs:List Value) (o:Nat) (w:World),(w.setCells b o vs).os=w.os∧(w.setCells b o vs).tape=w.tape∧(w.setCells b o vs).output=w.output∧(w.setCells b o vs).heap.size=w.heap.size ∧
    ∀k,k≠b→(w.setCells b o vs).heap[k]? = w.heap[k]?
  | [],_,w=>⟨rfl,rfl,rfl,rfl,fun _ _=>rfl⟩
  | v::r,o,w=>by
    obtain ⟨h1,h2,h3,h4,h5⟩:=YG b r (o+1) (w.setCell ⟨b,o,none⟩ v)
    exact ⟨h1,h2,h3,h4.trans (by simp [World.setCell]),fun k hk=>(h5 k hk).trans (zaJ hk v)⟩
inductive ZK:Obj→Obj→Prop
  | cells (cs cs':List AV):cs'.length=cs.length→ZK (.cells cs) (.cells cs')
  | arr (t:Ty) (l l':List t.T):l'.length=l.length→ZK (.arr t l) (.arr t l')
  | bcells (cs cs':List AV):ZK (.bcells cs) (.bcells cs')
  | mp (k:IntKind) (t:Ty) (l l':List (Int×t.T)):ZK (.mp k t l) (.mp k t l')
theorem ZK.live {o o':Obj} (h:ZK o o'):o ≠ .dead∧o' ≠ .dead:=by cases h <;> simp
section
variable {C:Cx} {n b:Nat} {o o':Obj} {w':World} {c':Array Value}
theorem zo0 (hw:World.Turned C.w w' b c') {k:Nat} {c:Array Value} (h:Yx C.w k=some c) : ∃d,Yx w' k=some d∧d.size=c.size:=by
  by_cases hk:k=b
  · subst hk
    unfold Yx at h
    split at h
    · rename_i c0 e fr he
      cases h
      obtain ⟨h1,h2⟩:=hw.blk _ _ _ he
      exact ⟨c',blkOf_cells h1,h2⟩
    · cases h
  · exact ⟨c,(Y9 (hw.other k hk)).trans h,rfl⟩
theorem zks (hg:zn C.H n=o) (hs:ZK o o') (hw:World.Turned C.w w' b c') (R':Nat→Prop) :
    ∀a v,a.isRef=true→VRel C a v→VRel ⟨R',C.ρ,Za C.H n o',w'⟩ a v:=by
  intro a v ha h
  have hn:n<C.H.length:=Z2 (by unfold zt;rw [hg];exact hs.live.1)
  have hgi : ∀i,i≠n→zn (Za C.H n o') i=zn C.H i:=fun i hi=>ZQ (Ne.symm hi)
  have hgn:zn (Za C.H n o') n=o':=yh hn
  have lv : ∀i,zt C.H i→zt (Za C.H n o') i:=by
    intro i hi
    unfold zt at hi ⊢
    by_cases e:i=n
    · subst e;rw [hgn];exact hs.live.2
    · rw [hgi i e];exact hi
  cases a <;> first | (cases ha;done) | skip
  case ptr i off =>
    rw [VRel] at h ⊢
    obtain ⟨b,hb,rfl,hl⟩:=h
    exact ⟨b,hb,rfl,lv i hl⟩
  case eptr i m off =>
    rw [VRel] at h ⊢
    obtain ⟨b,t,l,hb,hgx,rfl⟩:=h
    by_cases e:i=n
    · subst e
      rw [hg] at hgx
      subst hgx
      cases hs with
      | arr _ _ l' hlen=>exact ⟨b,t,l',hb,hgn,rfl⟩
    · exact ⟨b,t,l,hb,(hgi i e).trans hgx,rfl⟩
  case own i =>
    rw [VRel] at h ⊢
    obtain ⟨t,l,hgx,h⟩:=h
    have key : ∃l',zn (Za C.H n o') i = .arr t l'∧l'.length=l.length:=by
      by_cases e:i=n
      · subst e
        rw [hg] at hgx
        subst hgx
        cases hs with
        | arr _ _ l' hlen=>exact ⟨l',hgn,hlen⟩
      · exact ⟨l,(hgi i e).trans hgx,rfl⟩
    obtain ⟨l',h1,h2⟩:=key
    refine ⟨t,l',h1,?_⟩
    rcases h with ⟨hr,rfl,rfl⟩ | ⟨b,c,cap,hb,hc,hcap,hcs,rfl⟩
    · exact .inl ⟨hr,List.eq_nil_of_length_eq_zero (by simpa using h2),rfl⟩
    · obtain ⟨d,hd,hds⟩:=zo0 hw hc
      exact .inr ⟨b,d,cap,hb,hd,by omega,by omega,by rw [h2]⟩
  case sub i off len e =>
    rw [VRel] at h ⊢
    obtain ⟨A,cap,rfl,hlc,h⟩:=h
    refine ⟨A,cap,rfl,hlc,?_⟩
    rcases h with h | h | ⟨b,hb,hA,c,hc,hcs,hm⟩
    · exact .inl h
    · exact .inr (.inl h)
    · obtain ⟨d,hd,hds⟩:=zo0 hw hc
      refine .inr (.inr ⟨b,hb,hA,d,hd,by omega,?_⟩)
      by_cases e':i=n
      · subst e'
        rw [hg] at hm
        show match zn (Za C.H i o') i with | .arr t l=>_ | .cells cs=>_ | _=>_
        rw [hgn]
        cases hs with
        | arr t l l' hlen=>exact ⟨hm.1,by have:=hm.2;omega⟩
        | cells cs cs' hlen=>simp only at hm ⊢;omega
        | mp=>exact hm.elim
        | bcells=>exact hm.elim
      · show match zn (Za C.H n o') i with | .arr t l=>_ | .cells cs=>_ | _=>_
        rw [hgi i e']
        exact hm
  case map i =>
    rw [VRel] at h ⊢
    obtain ⟨b,hb,rfl,hl⟩:=h
    exact ⟨b,hb,rfl,lv i hl⟩
theorem J8 [BT] {F:Fr} {s:St} {tmps:Array Value} {stk:List (Array Value)} (hS:zw F C s tmps stk) (hl:zt C.H n) (hb:C.ρ n=some b) (hw:World.Turned C.w w' b c') :
    ∀k,C.R k→C.R k∧w'.heap[k]? = C.w.heap[k]? :=
  fun k hk=>⟨hk,hw.other k fun e=>hS.heap.ro n b hl hb (e ▸ hk)⟩
theorem qD [BT] {F:Fr} {s:St} {tmps:Array Value} {stk:List (Array Value)} (hS:zw F C s tmps stk) (hg:zn C.H n=o) (hb:C.ρ n=some b) (hs:ZK o o') (hw:World.Turned C.w w' b c')
    (ho:ya ⟨C.R,C.ρ,Za C.H n o',w'⟩ o' (some b)):zw F ⟨C.R,C.ρ,Za C.H n o',w'⟩ { s with H:=Za s.H n o' } tmps stk:=by
  have hh:=hS.heap
  have hln:zt C.H n:=by unfold zt;rw [hg];exact hs.live.1
  have hn:n<C.H.length:=Z2 hln
  have hl:=zks hg hs hw C.R
  have hR:=J8 hS hln hb hw
  have lv : ∀i,zt (Za C.H n o') i→zt C.H i:=by
    intro i hi
    unfold zt at hi ⊢
    by_cases e:i=n
    · subst e;rw [hg];exact hs.live.1
    · rw [ZQ (Ne.symm e)] at hi;exact hi
  refine ⟨by show Za C.H n o'=Za s.H n o';rw [hS.H],⟨?_,?_,?_,?_⟩,hS.env.mono hl hR,hS.stk.mono hl hR,⟨hw.os.trans hS.frame.os,hw.tape.trans hS.frame.tape,hw.output.trans hS.frame.output,?_,?_,hS.frame.r0,hS.frame.rN,?_⟩⟩
  · intro i
    show ya _ (zn (Za C.H n o') i) _
    by_cases e:i=n
    · subst e
      rw [yh hn]
      show ya _ o' (C.ρ i)
      rw [hb]
      exact ho
    · rw [ZQ (Ne.symm e)]
      by_cases hd:zn C.H i = .dead
      · rw [hd];trivial
      · exact (hh.obj i).mono hl hR fun k hk _=>hw.other k fun ek=>e (hh.inj i n b hd hln (ek ▸ hk) hb)
  · intro i j k hi hj hik hjk
    exact hh.inj i j k (lv i hi) (lv j hj) hik hjk
  · intro i k hi hik
    exact hh.ro i k (lv i hi) hik
  · intro k hk
    show k<w'.heap.size
    rw [hw.size]
    exact hh.rlt k hk
  · show _≤w'.heap.size
    rw [hw.size]
    exact hS.frame.size
  · intro k hk hno
    refine (hw.other k fun e => ?_).trans (hS.frame.keep k hk hno)
    subst e
    rcases hS.frame.own n k hln hb with h | h
    · exact hno h
    · omega
  · intro i k hi hik
    exact hS.frame.own i k (lv i hi) hik
end
theorem zC1 (n:Nat) (K:Nat→Ans) : ∀l,zyn n K l=K n
  | []=>rfl
  | a::r=>by
    rw [zyn]
    cases h:Nat.beq n a with
    | true=>rw [cond_true,yq h]
    | false=>rw [cond_false,zC1 n K r]
theorem Jn (n:Nat) (K:Nat→Ans):lit n K=K n:=zC1 n K zVd
mutual
theorem yf : ∀(v:AV) (K:AV→Ans),ZZ v K=K v
  | .unk,_=>rfl
  | .bool _,_=>rfl
  | .int _ _,_=>rfl
  | .str _,_=>rfl
  | .nilp,_=>rfl
  | .ptr _ _,_=>by rw [ZZ,Jn]
  | .eptr _ _ _,_=>by rw [ZZ,Jn]
  | .rptr _ _ _,_=>rfl
  | .gh _,_=>rfl
  | .nils,_=>rfl
  | .own _,_=>by rw [ZZ,Jn]
  | .sub _ _ _ _,_=>by rw [ZZ,Jn]
  | .ro _ _,_=>rfl
  | .nilm,_=>rfl
  | .map _,_=>by rw [ZZ,Jn]
  | .nilf,_=>rfl
  | .nili,_=>rfl
  | .fn f a b,K=>by rw [ZZ,Yr a,Yr b]
  | .ifc t v,K=>by rw [ZZ,yf v]
  | .agg cs,K=>by rw [ZZ,Yr cs]
  | .tup vs,K=>by rw [ZZ,Yr vs]
theorem Yr : ∀(l:List AV) (K:List AV→Ans),Yj l K=K l
  | [],_=>rfl
  | v::r,K=>by rw [Yj,yf v,Yr r]
end
theorem zOv (o:Obj) (K:Obj→Ans):zpc o K=K o:=by
  cases o with
  | cells cs=>rw [zpc,Yr]
  | bcells cs=>rw [zpc,Yr]
  | _=>rfl
theorem jv : ∀(l:List Obj) (K:List Obj→Ans),zaC l K=K l
  | [],_=>rfl
  | o::r,K=>by rw [zaC,zOv,jv r]
theorem zgL : ∀(l:zQ) (K:zQ→Ans),zhE l K=K l
  | [],_=>rfl
  | (d,v)::r,K=>by rw [zhE,yf,zgL r]
theorem zvy : ∀(l:List zQ) (K:List zQ→Ans),zn6 l K=K l
  | [],_=>rfl
  | e::r,K=>by rw [zn6,zgL,zvy r]
theorem ZS (s:St) (K:St→Ans):yg s K=K s:=by
  obtain ⟨env,stk,H,blk⟩:=s
  rw [yg]
  cases blk <;> rw [zLc,zgL,zvy,jv]
theorem YS (s:St) (o:Obj) (K:Nat→St→Ans):qv s o K=K s.H.length { s with H:=s.H++[o] }:=by
  obtain ⟨env,stk,H,blk⟩:=s
  rw [qv,Jn,jv]
theorem YV (s:St) (i:Nat) (o:Obj) (K:St→Ans):Wf s i o K=K { s with H:=Za s.H i o }:=by
  obtain ⟨env,stk,H,blk⟩:=s
  rw [Wf,jv]
theorem zfz {w:World} {b:Nat} {c:Array Value} {e:TypeId} {fr:Nat×Nat} (h:w.heap[b]? = some (.cells c e fr)) (hf:qe fr c.size) {o:Nat} (ho:o<c.size):w.frozen? ⟨b,o,none⟩=false:=by
  simp only [World.frozen?,h]
  have:=hf o ho
  simp
  intro h1
  have : ¬o<fr.2:=fun h2=>this ⟨h1,h2⟩
  omega
theorem zeb [BT] {C:Cx} {t:Nat} {i:TI} {d:TypeDesc} {info:TypeInfo} {z:Value} (hi:y0 P t i d info z) {b o:Nat} {c:Array Value} {e:TypeId} {fr:Nat×Nat} (hw:C.w.heap[b]? = some (.cells c e fr)) (hf:qe fr c.size)
    {u:Value} (hsz:u.cells.size=i.size) (h1 : ∀x ∈ u.cells.toList,x.oneCell'=true) (ho:o+u.cells.size≤c.size) :
    (Instr.storeAt t (.pointer (some ⟨b,o,none⟩)) u).run P C.w = .ok () (C.w.setCells b o u.cells.toList):=by
  have hst:=run_storeCells_cells (P:=P) b o u.cells.toList 0 C.w (fun j hj=>by
      rw [cell_blk (blkOf_cells hw)]
      simp only [Array.length_toList] at hj
      rw [Array.getElem?_eq_getElem (by omega)];rfl)
    (fun j hj=>zfz hw hf (by simp only [Array.length_toList] at hj;omega)) h1
  rw [Nat.add_zero] at hst
  simp [Instr.storeAt,Instr.sureAddr,storeVar,hi.run_sizeOf,hsz,hst]
theorem zab {C:Cx} {n b:Nat} {o o':Obj} {w':World} {c':Array Value} (hg:zn C.H n=o) (hb:C.ρ n=some b) (hs:ZK o o') (hw:World.Turned C.w w' b c'):Zb C ⟨C.R,C.ρ,Za C.H n o',w'⟩ (some [n]):=by
  have hln:zt C.H n:=by unfold zt;rw [hg];exact hs.live.1
  intro k hk hno
  have hkb:k≠b:=fun e=>hno n (List.mem_singleton.2 rfl) hln (e ▸ hb)
  refine ⟨hw.other k hkb,by show k<w'.heap.size;rw [hw.size];exact hk,fun i hl hi=>⟨?_,hi⟩⟩
  by_cases e:i=n
  · rw [e];exact hln
  · unfold zt at hl ⊢
    intro hd
    exact hl ((ZQ (Ne.symm e)).trans hd)
def zJc:AV→Option (List Nat)
  | .ptr n _=>some [n]
  | .eptr n _ _=>some [n]
  | _=>none
theorem zDJ [BT] (hT:zJ P T) {F:Fr} {C:Cx} {s:St} {tmps:Array Value} {stk:List (Array Value)} (hS:zw F C s tmps stk) {t:Nat} {p v:AV} {pv u:Value} (hp:VRel C p pv) (hv:VRel C v u) {K:St→Ans} {res:AV×List Obj}
    (h:store T s t p v K=some res) : ∃s' C' w',K s'=some res∧(Instr.storeAt t pv u).run P C.w = .ok () w'∧C'.w=w'∧zw F C' s' tmps stk∧s'.env=s.env∧s'.stk=s.stk∧s'.blk=s.blk∧Zb C C' (zJc p):=by
  unfold store at h
  replace h:=zo h;obtain ⟨i,hti,h⟩:=h
  obtain ⟨d,info,z,hi⟩:=hT t i hti
  simp only at h
  replace h:=zC h;obtain ⟨hc,h⟩:=h
  simp only [Bool.and_eq_true] at hc
  have hsz:=yq hc.1
  obtain ⟨hcv,hco⟩:=zdw hv hc.2
  have hul:u.cells.size=i.size:=by have:=hcv.length;simp only [Array.length_toList] at this;omega
  have hH:=hS.H
  have hh:=hS.heap
  cases p with
  | ptr n off =>
    simp only at h
    rw [VRel] at hp
    obtain ⟨b,hb,rfl,_⟩:=hp
    rw [← hH] at h
    split at h
    · rename_i cs hg
      replace h:=zo h;obtain ⟨cs',hcs',h⟩:=h
      rw [YV] at h
      obtain ⟨b',c,e,fr,hb',hw,hfr,hvs,hone⟩:=qy hh hg
      obtain rfl:b=b':=Option.some.inj (hb.symm.trans hb')
      obtain ⟨p1,p2,p3⟩:=qh hcs' hvs hcv
      simp only [Array.length_toList] at p1 p2
      obtain ⟨c',hc1,hc2⟩:=yT b u.cells.toList off C.w c e fr hw (by simpa using p2)
      obtain ⟨r1,r2,r3,r4,r5⟩:=YG b u.cells.toList off C.w
      have hcsz:c'.size=c.size:=by
        rw [← Array.length_toList,hc2];simp;omega
      have htn:World.Turned C.w (C.w.setCells b off u.cells.toList) b c':=⟨r1,r2,r3,r4,r5,fun c0 e0 fr0 h0=>by
        rw [hw] at h0;cases h0;exact ⟨hc1,hcsz⟩⟩
      have hsh:ZK (.cells cs) (.cells cs') := .cells cs cs' p3
      have hln:zt C.H n:=by unfold zt;rw [hg];simp
      refine ⟨_,_,_,h,zeb hi hw hfr hul hco p2,rfl,qD hS hg hb hsh htn ?_,rfl,rfl,rfl,zab hg hb hsh htn⟩
      refine ⟨b,c',e,fr,rfl,hc1,by rw [hcsz];exact hfr,?_,?_⟩
      · rw [hc2]
        simp only [Array.length_toList]
        exact VRels.mono (zks hg hsh htn C.R) (J8 hS hln hb htn) p1
      · intro x hx
        rw [hc2] at hx
        simp only [List.mem_append] at hx
        rcases hx with (hx | hx) | hx
        · exact hone x (List.mem_of_mem_take hx)
        · exact hco x hx
        · exact hone x (List.mem_of_mem_drop hx)
    · rename_i cs hg
      obtain ⟨h1off,h⟩:=zC h
      have h1off:=Nat.le_of_ble_eq_true h1off
      obtain ⟨o1,rfl⟩ : ∃o1,off=o1+1:=⟨off - 1,by omega⟩
      rw [show Nat.sub (o1+1) 1=o1 from rfl] at h
      replace h:=zo h;obtain ⟨cs',hcs',h⟩:=h
      rw [YV] at h
      obtain ⟨b',c,v0,hb',hw,⟨vs,hcv0,hvs⟩,hone,hv0⟩:=zbr hh hg
      obtain rfl:b=b':=Option.some.inj (hb.symm.trans hb')
      obtain ⟨p1,p2,p3⟩:=qh hcs' hvs hcv
      have hcs0:c.size=vs.length+1:=by rw [← Array.length_toList,hcv0];rfl
      have p2':(o1+1)+u.cells.size≤c.size:=by simp only [Array.length_toList] at p2;omega
      obtain ⟨c',hc1,hc2⟩:=yT b u.cells.toList (o1+1) C.w c BT.bld (0,0) hw (by simpa using p2')
      obtain ⟨r1,r2,r3,r4,r5⟩:=YG b u.cells.toList (o1+1) C.w
      have hcsz:c'.size=c.size:=by
        rw [← Array.length_toList,hc2];simp;omega
      have htn:World.Turned C.w (C.w.setCells b (o1+1) u.cells.toList) b c':=⟨r1,r2,r3,r4,r5,fun c0 e0 fr0 h0=>by
        rw [hw] at h0;cases h0;exact ⟨hc1,hcsz⟩⟩
      have hsh:ZK (.bcells cs) (.bcells cs') := .bcells cs cs'
      have hln:zt C.H n:=by unfold zt;rw [hg];simp
      refine ⟨_,_,_,h,zeb hi hw (fun x _ hx=>by omega) hul hco p2',rfl,qD hS hg hb hsh htn ?_,rfl,rfl,rfl,zab hg hb hsh htn⟩
      refine ⟨b,c',v0,rfl,hc1,⟨_,?_,VRels.mono (zks hg hsh htn C.R) (J8 hS hln hb htn) p1⟩,?_,hv0⟩
      · rw [hc2,hcv0]
        simp only [List.take_succ_cons,List.cons_append,List.append_assoc]
        congr 3
        rw [show o1+1+u.cells.toList.length=(o1+u.cells.toList.length)+1 by omega,List.drop_succ_cons]
      · intro x hx
        rw [hc2] at hx
        simp only [List.mem_append] at hx
        rcases hx with (hx | hx) | hx
        · exact hone x (List.mem_of_mem_take hx)
        · exact hco x hx
        · exact hone x (List.mem_of_mem_drop hx)
    · cases h
  | eptr n idx off =>
    simp only at h
    rw [VRel] at hp
    obtain ⟨b,ty,l,hb,hg,rfl⟩:=hp
    rw [← hH,hg] at h
    simp only at h
    replace h:=zo h;obtain ⟨x,hx,h⟩:=h
    replace h:=zo h;obtain ⟨cs',hcs',h⟩:=h
    replace h:=zo h;obtain ⟨x',hx',h⟩:=h
    rw [YV] at h
    rcases zcV hh hg with ⟨hn,_⟩ | ⟨b',c,e,fr,hb',hw,hfr,hl,hel,hby⟩
    · rw [hn] at hb;cases hb
    · obtain rfl:b=b':=Option.some.inj (hb.symm.trans hb')
      obtain ⟨us,hd,hu⟩:=hel idx x hx
      obtain ⟨p1,p2,p3⟩:=qh hcs' hd.cells hcv
      have hdl:=hd.length
      have hidx:idx<l.length:=(List.getElem?_eq_some_iff.1 hx).1
      have hin:idx*ty.size+ty.size≤c.size:=by
        have:(idx+1)*ty.size≤l.length*ty.size:=Nat.mul_le_mul_right _ hidx
        rw [Nat.add_mul,Nat.one_mul] at this
        omega
      simp only [Array.length_toList] at p1 p2
      obtain ⟨c',hc1,hc2⟩:=yT b u.cells.toList (idx*ty.size+off) C.w c e fr hw (by simp;omega)
      obtain ⟨r1,r2,r3,r4,r5⟩:=YG b u.cells.toList (idx*ty.size+off) C.w
      have hcsz:c'.size=c.size:=by
        rw [← Array.length_toList,hc2];simp;omega
      have htn:World.Turned C.w (C.w.setCells b (idx*ty.size+off) u.cells.toList) b c':=⟨r1,r2,r3,r4,r5,fun c0 e0 fr0 h0=>by
        rw [hw] at h0;cases h0;exact ⟨hc1,hcsz⟩⟩
      have hsh:ZK (.arr ty l) (.arr ty (l.set idx x')) := .arr ty l _ (by simp)
      have hln:zt C.H n:=by unfold zt;rw [hg];simp
      have hRR:=J8 hS hln hb htn
      refine ⟨_,_,_,h,zeb hi hw hfr hul hco (by omega),rfl,qD hS hg hb hsh htn ?_,rfl,rfl,rfl,zab hg hb hsh htn⟩
      refine .inr ⟨b,c',e,fr,rfl,hc1,by rw [hcsz];exact hfr,by rw [hcsz];simpa using hl,?_,hby⟩
      -- the elements
      have hcell : ∀q,c'[q]? = if q<idx*ty.size+off then c[q]? else if q<idx*ty.size+off+u.cells.size then u.cells[q - (idx*ty.size+off)]? else c[q]? := by
        intro q
        rw [← Array.getElem?_toList,hc2]
        split
        · rename_i hq
          rw [List.append_assoc,List.getElem?_append_left (by simp;omega),List.getElem?_take_of_lt hq,Array.getElem?_toList]
        · rename_i hq
          split
          · rename_i hq2
            rw [List.append_assoc,List.getElem?_append_right (by simp;omega),List.getElem?_append_left (by simp;omega)]
            simp only [List.length_take,Array.length_toList]
            rw [Nat.min_eq_left (by omega),Array.getElem?_toList]
          · rename_i hq2
            rw [List.getElem?_append_right (by simp;omega),List.getElem?_drop,Array.getElem?_toList]
            congr 1
            simp
            omega
      intro k y hk
      by_cases e:k=idx
      · subst e
        have hy:y=x':=by
          rw [List.getElem?_set_self hidx] at hk
          exact (Option.some.inj hk).symm
        subst hy
        have hdr:=zbh hx' p1
        refine ⟨_,zE.mono (fun k hk=>⟨hk,(hRR k hk).2⟩) hdr,fun j x hj => ?_⟩
        have hjl:=(List.getElem?_eq_some_iff.1 hj).1
        simp at hjl
        rw [hcell]
        rw [List.append_assoc] at hj
        by_cases hj1:j<off
        · rw [if_pos (by omega)]
          rw [List.getElem?_append_left (by simp;omega),List.getElem?_take_of_lt hj1] at hj
          exact hu j x hj
        · rw [if_neg (by omega)]
          rw [List.getElem?_append_right (by simp;omega)] at hj
          simp only [List.length_take] at hj
          rw [Nat.min_eq_left (by omega)] at hj
          by_cases hj2:j<off+u.cells.size
          · rw [if_pos (by omega)]
            rw [List.getElem?_append_left (by simp;omega),Array.getElem?_toList] at hj
            rw [← hj]
            congr 1
            omega
          · rw [if_neg (by omega)]
            rw [List.getElem?_append_right (by simp;omega),List.getElem?_drop] at hj
            refine hu j x ?_
            rw [← hj]
            congr 1
            simp
            omega
      · rw [List.getElem?_set_ne (Ne.symm e)] at hk
        obtain ⟨us',hd',hu'⟩:=hel k y hk
        refine ⟨us',zE.mono (fun k hk=>⟨hk,(hRR k hk).2⟩) hd',fun j x hj => ?_⟩
        have hjl:=(List.getElem?_eq_some_iff.1 hj).1
        rw [hd'.length] at hjl
        rw [hcell]
        rcases Nat.lt_or_gt_of_ne e with hlt | hgt
        · have:(k+1)*ty.size≤idx*ty.size:=Nat.mul_le_mul_right _ hlt
          rw [Nat.add_mul,Nat.one_mul] at this
          rw [if_pos (by omega)]
          exact hu' j x hj
        · have:(idx+1)*ty.size≤k*ty.size:=Nat.mul_le_mul_right _ hgt
          rw [Nat.add_mul,Nat.one_mul] at this
          rw [if_neg (by omega),if_neg (by omega)]
          exact hu' j x hj
  | _=>cases h
end Go.AE
namespace Go.AE
variable {P:Program} {T:Tab}
theorem zcH (g:AV→AV) : ∀l,(AV.mapRs g l).length=l.length
  | []=>rfl
  | a::r=>by rw [AV.mapRs,List.length_cons,zcH g r,List.length_cons]
def AV.idOf:AV→Nat
  | .ptr i _=>i
  | .eptr i _ _=>i
  | .own i=>i
  | .sub i _ _ _=>i
  | .map i=>i
  | _=>0
theorem wS {C C':Cx} {a:AV} {v:Value} (ha:a.isRef=true) (h:VRel C a v) (hρ:C'.ρ a.idOf=C.ρ a.idOf)
    (hg:match zn C.H a.idOf with
      | .dead=>True
      | .arr t l=>zn C'.H a.idOf = .arr t l
      | .cells cs => ∃cs',zn C'.H a.idOf = .cells cs'∧cs'.length=cs.length
      | .bcells _ => ∃cs',zn C'.H a.idOf = .bcells cs' | .btold _ => ∃cs',zn C'.H a.idOf = .btold cs' | .mp k w l=>zn C'.H a.idOf = .mp k w l)
    (hb : ∀b,zt C.H a.idOf→C.ρ a.idOf=some b→C'.w.heap[b]? = C.w.heap[b]?):VRel C' a v:=by
  have lv:zt C.H a.idOf→zt C'.H a.idOf:=by
    intro hl
    unfold zt at hl ⊢
    generalize zn C.H a.idOf=g at hg hl
    cases g with
    | dead=>exact absurd rfl hl
    | arr t l=>rw [hg];simp
    | cells cs=>obtain ⟨cs',h1,_⟩:=hg;rw [h1];simp
    | bcells cs=>obtain ⟨cs',h1⟩:=hg;rw [h1];simp
    | btold cs=>obtain ⟨cs',h1⟩:=hg;rw [h1];simp
    | mp k w l=>rw [hg];simp
  cases a <;> first | (cases ha;done) | skip
  case ptr i off =>
    simp only [AV.idOf] at *
    rw [VRel] at h ⊢
    obtain ⟨b,hb',rfl,hl⟩:=h
    exact ⟨b,hρ.trans hb',rfl,lv hl⟩
  case eptr i n off =>
    simp only [AV.idOf] at *
    rw [VRel] at h ⊢
    obtain ⟨b,t,l,hb',hgi,rfl⟩:=h
    rw [hgi] at hg
    exact ⟨b,t,l,hρ.trans hb',hg,rfl⟩
  case own i =>
    simp only [AV.idOf] at *
    rw [VRel] at h ⊢
    obtain ⟨t,l,hgi,h⟩:=h
    have hl:zt C.H i:=by unfold zt;rw [hgi];simp
    rw [hgi] at hg
    refine ⟨t,l,hg,?_⟩
    rcases h with ⟨hn,h⟩ | ⟨b,c,cap,hb',hc,h⟩
    · exact .inl ⟨hρ.trans hn,h⟩
    · exact .inr ⟨b,c,cap,hρ.trans hb',(Y9 (hb b hl hb')).trans hc,h⟩
  case sub i off len e =>
    simp only [AV.idOf] at *
    rw [VRel] at h ⊢
    obtain ⟨A,cap,rfl,hlc,h⟩:=h
    refine ⟨A,cap,rfl,hlc,?_⟩
    rcases h with h | h | ⟨b,hb',hA,c,hc,hcs,hm⟩
    · exact .inl h
    · exact .inr (.inl h)
    · have hl:zt C.H i:=by
        unfold zt
        intro hd
        rw [hd] at hm
        exact hm
      refine .inr (.inr ⟨b,hρ.trans hb',hA,c,(Y9 (hb b hl hb')).trans hc,hcs,?_⟩)
      generalize zn C.H i=g at hg hm
      cases g with
      | dead=>exact hm.elim
      | arr t l=>rw [hg];exact hm
      | cells cs=>obtain ⟨cs',h1,h2⟩:=hg;rw [h1];simp only at hm ⊢;omega
      | bcells cs=>exact hm.elim
      | btold cs=>exact hm.elim
      | mp k w l=>exact hm.elim
  case map i =>
    simp only [AV.idOf] at *
    rw [VRel] at h ⊢
    obtain ⟨b,hb',rfl,hl⟩:=h
    exact ⟨b,hρ.trans hb',rfl,lv hl⟩
theorem zfV (g:AV→AV) (o:Obj):match o with
      | .dead=>True
      | .arr t l=>o.mapR g = .arr t l
      | .cells cs => ∃cs',o.mapR g = .cells cs'∧cs'.length=cs.length
      | .bcells _ => ∃cs',o.mapR g = .bcells cs' | .btold _ => ∃cs',o.mapR g = .btold cs' | .mp k w l=>o.mapR g = .mp k w l:=by
  cases o with
  | dead=>trivial
  | arr t l=>rfl
  | cells cs=>exact ⟨_,rfl,zcH g cs⟩
  | bcells cs=>exact ⟨_,rfl⟩
  | btold cs=>exact ⟨_,rfl⟩
  | mp k w l=>rfl
theorem zKi {i:Nat} {a:AV} (ha:a.isRef=true) (h:a.idOf=i):Zq i a = .unk:=by
  cases a <;> first | (cases ha;done) | skip
  all_goals (simp only [AV.idOf] at h;subst h;simp [Zq,Nat.beq_refl])
theorem zeE {i j:Nat} (h:i≠j):Nat.beq i j=false:=by
  cases hb:Nat.beq i j
  · rfl
  · exact absurd (yq hb) h
theorem zD2 {i:Nat} {a:AV} (ha:a.isRef=true) (h:a.idOf≠i):Zq i a=a:=by
  have hb:Nat.beq i a.idOf=false:=zeE (Ne.symm h)
  cases a <;> first | (cases ha;done) | skip
  all_goals (simp only [AV.idOf] at hb;rw [Zq,hb];rfl)
theorem zw4 {i:Nat} {t:Ty} {l:List t.T} {a:AV} (ha:a.isRef=true) (h:a.idOf≠i):Zg i t l a=a:=by
  have hb:Nat.beq i a.idOf=false:=zeE (Ne.symm h)
  cases a <;> first | (cases ha;done) | skip
  all_goals (simp only [AV.idOf] at hb;rw [Zg,hb];rfl)
def Cx.regrow (C:Cx) (i:Nat) (o:Obj) (r:Option Nat) (w':World):Cx:=⟨C.R,fun j=>if j=i then r else C.ρ j,Za (zS (Zq i) C.H) i o,w'⟩
theorem zcO [BT] {F:Fr} {C:Cx} {s:St} {tmps:Array Value} {stk:List (Array Value)} (hS:zw F C s tmps stk) {i:Nat} {t:Ty} {l:List t.T} (hg:zn C.H i = .arr t l) {o:Obj} {r:Option Nat} {w':World}
    (hos:w'.os=C.w.os) (htape:w'.tape=C.w.tape) (hout:w'.output=C.w.output) (hsz:C.w.heap.size≤w'.heap.size)
    (hother : ∀k,k<C.w.heap.size→C.ρ i≠some k→w'.heap[k]? = C.w.heap[k]?)
    (hr : ∀b,r=some b→C.ρ i=some b∨C.w.heap.size≤b)
    (ho:ya (C.regrow i o r w') o r):zw F (C.regrow i o r w') { s.mapR (Zq i) with H:=Za (zS (Zq i) s.H) i o } tmps stk:=by
  have hh:=hS.heap
  have hli:zt C.H i:=by unfold zt;rw [hg];simp
  have hi:=Z2 hli
  have hi':i<(zS (Zq i) C.H).length:=by rw [yD];exact hi
  have hgj : ∀j,j≠i→zn (Za (zS (Zq i) C.H) i o) j=(zn C.H j).mapR (Zq i):=fun j hj=>by
    rw [ZQ (Ne.symm hj),Ys]
  have hblk : ∀j b,j≠i→zt C.H j→C.ρ j=some b→w'.heap[b]? = C.w.heap[b]? := fun j b hj hl hb =>
    hother b (hh.blk_lt hl hb) fun e=>hj (hh.inj j i b hl hli hb e)
  have hR : ∀b,C.R b→(C.regrow i o r w').R b∧(C.regrow i o r w').w.heap[b]? = C.w.heap[b]? := fun b hb =>
    ⟨hb,hother b (hh.rlt b hb) fun e=>hh.ro i b hli e hb⟩
  have hρ : ∀j,j≠i→(C.regrow i o r w').ρ j=C.ρ j:=fun j hj=>by simp [Cx.regrow,hj]
  have hl : ∀a v,a.isRef=true→(∀i ∈ a.refs,True)→VRel C a v→VRel (C.regrow i o r w') (Zq i a) v:=by
    intro a v ha _ h
    by_cases e:a.idOf=i
    · rw [zKi ha e,VRel];trivial
    · rw [zD2 ha e]
      refine wS ha h (hρ _ e) ?_ fun b hlv hb=>hblk _ b e hlv hb
      show match zn C.H a.idOf with | .dead=>True | .arr t l=>zn (Za (zS (Zq i) C.H) i o) a.idOf = .arr t l | .cells cs => ∃cs',zn (Za (zS (Zq i) C.H) i o) a.idOf = .cells cs'∧cs'.length=cs.length | .bcells _ => ∃cs',zn (Za (zS (Zq i) C.H) i o) a.idOf = .bcells cs' | .btold _ => ∃cs',zn (Za (zS (Zq i) C.H) i o) a.idOf = .btold cs' | .mp k w l=>zn (Za (zS (Zq i) C.H) i o) a.idOf = .mp k w l
      rw [hgj _ e]
      exact zfV _ _
  have hlive : ∀j,j≠i→zt (Za (zS (Zq i) C.H) i o) j→zt C.H j:=by
    intro j hj h
    unfold zt at h
    rw [hgj j hj] at h
    unfold zt
    intro e
    rw [e] at h
    exact h rfl
  have hown : ∀j b,zt (Za (zS (Zq i) C.H) i o) j→(C.regrow i o r w').ρ j=some b→j=i∧r=some b∨j≠i∧zt C.H j∧C.ρ j=some b:=by
    intro j b hj hb
    by_cases e:j=i
    · subst e
      exact .inl ⟨rfl,by simpa [Cx.regrow] using hb⟩
    · rw [hρ j e] at hb
      exact .inr ⟨e,hlive j e hj,hb⟩
  refine ⟨?_,⟨?_,?_,?_,?_⟩,Zj.mapR hl hR hS.env (fun _ _=>trivial),Zz.mapR hl hR hS.stk (fun _ _=>trivial),⟨hos.trans hS.frame.os,htape.trans hS.frame.tape,hout.trans hS.frame.output,Nat.le_trans hS.frame.size hsz,?_,hS.frame.r0,hS.frame.rN,?_⟩⟩
  · show Za (zS (Zq i) C.H) i o=Za (zS (Zq i) s.H) i o
    rw [hS.H]
  · intro j
    show ya _ (zn (Za (zS (Zq i) C.H) i o) j) _
    by_cases e:j=i
    · subst e
      rw [yh hi']
      have:(C.regrow j o r w').ρ j=r:=by simp [Cx.regrow]
      rw [this]
      exact ho
    · rw [hgj j e,hρ j e]
      by_cases hd:zn C.H j = .dead
      · rw [hd];trivial
      · exact ya.mapR (p:=fun _=>True) hl hR (hh.obj j) (fun b hb _=>hblk j b e hd hb) (fun _ _=>trivial)
  · intro j k b hj hk hjb hkb
    rcases hown j b hj hjb with ⟨rfl,h1⟩ | ⟨e1,l1,h1⟩
    · rcases hown k b hk hkb with ⟨rfl,_⟩ | ⟨e2,l2,h2⟩
      · rfl
      · rcases hr b h1 with h3 | h3
        · exact hh.inj j k b hli l2 h3 h2
        · have:=hh.blk_lt l2 h2;omega
    · rcases hown k b hk hkb with ⟨rfl,h2⟩ | ⟨e2,l2,h2⟩
      · rcases hr b h2 with h3 | h3
        · exact hh.inj j k b l1 hli h1 h3
        · have:=hh.blk_lt l1 h1;omega
      · exact hh.inj j k b l1 l2 h1 h2
  · intro j b hj hb hRb
    rcases hown j b hj hb with ⟨rfl,h1⟩ | ⟨e1,l1,h1⟩
    · rcases hr b h1 with h3 | h3
      · exact hh.ro j b hli h3 hRb
      · have:=hh.rlt b hRb;omega
    · exact hh.ro j b l1 h1 hRb
  · intro b hb
    exact Nat.lt_of_lt_of_le (hh.rlt b hb) hsz
  · intro b hb hno
    refine (hother b (Nat.lt_of_lt_of_le hb hS.frame.size) fun e => ?_).trans (hS.frame.keep b hb hno)
    rcases hS.frame.own i b hli e with h | h
    · exact hno h
    · omega
  · intro j b hj hb
    rcases hown j b hj hb with ⟨rfl,h1⟩ | ⟨e1,l1,h1⟩
    · rcases hr b h1 with h3 | h3
      · exact hS.frame.own j b hli h3
      · exact .inr (Nat.le_trans hS.frame.size h3)
    · exact hS.frame.own j b l1 h1
theorem zdU {C:Cx} {i:Nat} {t:Ty} {l:List t.T} (hg:zn C.H i = .arr t l) {o:Obj} {r:Option Nat} {w':World} (hsz:C.w.heap.size≤w'.heap.size)
    (hother : ∀k,k<C.w.heap.size→C.ρ i≠some k→w'.heap[k]? = C.w.heap[k]?)
    (hr : ∀b,r=some b→C.ρ i=some b∨C.w.heap.size≤b):Zb C (C.regrow i o r w') (some [i]):=by
  have hli:zt C.H i:=by unfold zt;rw [hg];simp
  intro b hb hno
  have hne:=hno i (List.mem_singleton.2 rfl) hli
  refine ⟨hother b hb hne,Nat.lt_of_lt_of_le hb hsz,fun j hl hj => ?_⟩
  have hj:(if j=i then r else C.ρ j)=some b:=hj
  by_cases e:j=i
  · rw [if_pos e] at hj
    rcases hr b hj with h | h
    · exact absurd h hne
    · omega
  · rw [if_neg e] at hj
    refine ⟨?_,hj⟩
    unfold zt at hl ⊢
    intro hd
    apply hl
    show zn (Za (zS (Zq i) C.H) i o) j = .dead
    rw [ZQ (Ne.symm e),Ys,hd]
    rfl
def Cx.freeze (C:Cx) (i:Nat) (t:Ty) (l:List t.T):Cx:=⟨fun b=>C.R b∨C.ρ i=some b,C.ρ,Za (zS (Zg i t l) C.H) i .dead,C.w⟩
theorem zq2 [BT] {C:Cx} (hh:zY C) {i:Nat} {t:Ty} {l:List t.T} (hg:zn C.H i = .arr t l) {R':Nat→Prop} (hR' : ∀b,C.R b∨C.ρ i=some b→R' b) {b:Nat} (hb:C.ρ i=some b) :
    ∀k x,l[k]? = some x → ∃us,zE R' C.w t x us ∧ ∀j u,us[j]? = some u→C.w.cell? ⟨b,k*t.size+j,none⟩=some u:=by
  intro k x hk
  rcases J3 hh hg with ⟨hn,_⟩ | ⟨b',c,e,fr,hb',hw,hfr,hl,hel⟩
  · rw [hn] at hb;cases hb
  · obtain rfl:b=b':=Option.some.inj (hb.symm.trans hb')
    obtain ⟨us,hd,hu⟩:=hel k x hk
    exact ⟨us,zE.mono (fun k hk=>⟨hR' k (.inl hk),rfl⟩) hd,fun j u hj=>by rw [cell_blk (blkOf_cells hw)];exact hu j u hj⟩
theorem zfX [BT] {C:Cx} (hh:zY C) {i:Nat} {t:Ty} {l:List t.T} (hg:zn C.H i = .arr t l) {C':Cx} (hw:C'.w=C.w) (hR' : ∀b,C.R b∨C.ρ i=some b→C'.R b)
    {a:AV} {v:Value} (ha:a.isRef=true) (e:a.idOf=i) (h:VRel C a v):VRel C' (Zg i t l a) v:=by
  cases a <;> first | (cases ha;done) | skip
  all_goals simp only [AV.idOf] at e;subst e
  case ptr=>rw [Zg,Nat.beq_refl,cond_true,VRel];trivial
  case eptr=>rw [Zg,Nat.beq_refl,cond_true,VRel];trivial
  case map=>rw [Zg,Nat.beq_refl,cond_true,VRel];trivial
  case own j =>
    rw [Zg,Nat.beq_refl,cond_true,VRel,zE]
    rw [VRel] at h
    obtain ⟨t',l',hg',h⟩:=h
    rw [hg] at hg'
    cases hg'
    rcases h with ⟨_,rfl,rfl⟩ | ⟨b,c,cap,hb,hc,hcap,hcs,rfl⟩
    · exact ⟨none,0,rfl,Nat.le_refl _,.inl rfl⟩
    · refine ⟨_,cap,rfl,hcap,.inr ⟨b,0,rfl,hR' b (.inr hb),fun k x hk => ?_⟩⟩
      obtain ⟨us,hd,hu⟩:=zq2 hh hg hR' hb k x hk
      exact ⟨us,by rw [hw];exact hd,fun j u hj=>by rw [hw,Nat.zero_add];exact hu j u hj⟩
  case sub j off len es =>
    rw [Zg,Nat.beq_refl,cond_true,VRel,zE]
    rw [VRel] at h
    obtain ⟨A,cap,rfl,hlc,h⟩:=h
    have hnil:len=0→(l.drop off).take len=[]:=fun e=>by rw [e];simp
    rcases h with ⟨h0,_⟩ | ⟨h0,_⟩ | ⟨b,hb,rfl,c,hc,hcs,hm⟩
    · exact ⟨A,cap,by rw [hnil h0,h0];rfl,by rw [hnil h0];simp,.inl (hnil h0)⟩
    · exact ⟨A,cap,by rw [hnil h0,h0];rfl,by rw [hnil h0];simp,.inl (hnil h0)⟩
    · rw [hg] at hm
      obtain ⟨rfl,hle⟩:=hm
      have hlen:((l.drop off).take len).length=len:=by simp;omega
      refine ⟨_,cap,by rw [hlen],by rw [hlen];exact hlc,.inr ⟨b,off*t.size,rfl,hR' b (.inr hb),fun k x hk => ?_⟩⟩
      rw [List.getElem?_take] at hk
      split at hk
      · rw [List.getElem?_drop] at hk
        obtain ⟨us,hd,hu⟩:=zq2 hh hg hR' hb _ x hk
        refine ⟨us,by rw [hw];exact hd,fun j u hj => ?_⟩
        rw [hw,← hu j u hj,Nat.add_mul]
        congr 2
        omega
      · cases hk
theorem zBW [BT] {F:Fr} {C:Cx} {s:St} {tmps:Array Value} {stk:List (Array Value)} (hS:zw F C s tmps stk) {i:Nat} {t:Ty} {l:List t.T} (hg:zn C.H i = .arr t l) :
    zw F (C.freeze i t l) { s.mapR (Zg i t l) with H:=Za (zS (Zg i t l) s.H) i .dead } tmps stk ∧
    (∀b,C.R b→(C.freeze i t l).R b∧(C.freeze i t l).w.heap[b]? = C.w.heap[b]?) ∧
    (∀a v,a.isRef=true→(∀i ∈ a.refs,True)→VRel C a v→VRel (C.freeze i t l) (Zg i t l a) v):=by
  have hh:=hS.heap
  have hli:zt C.H i:=by unfold zt;rw [hg];simp
  have hi:=Z2 hli
  have hi':i<(zS (Zg i t l) C.H).length:=by rw [yD];exact hi
  have hgj : ∀j,j≠i→zn (Za (zS (Zg i t l) C.H) i .dead) j=(zn C.H j).mapR (Zg i t l):=fun j hj=>by
    rw [ZQ (Ne.symm hj),Ys]
  have hR : ∀b,C.R b→(C.freeze i t l).R b∧(C.freeze i t l).w.heap[b]? = C.w.heap[b]? := fun b hb=>⟨.inl hb,rfl⟩
  have hl : ∀a v,a.isRef=true→(∀i ∈ a.refs,True)→VRel C a v→VRel (C.freeze i t l) (Zg i t l a) v:=by
    intro a v ha _ h
    by_cases e:a.idOf=i
    · exact zfX (C':=C.freeze i t l) hh hg rfl (fun b hb=>hb) ha e h
    · rw [zw4 ha e]
      refine wS ha h rfl ?_ fun b hlv hb=>rfl
      show match zn C.H a.idOf with | .dead=>True | .arr t' l'=>zn (Za (zS (Zg i t l) C.H) i .dead) a.idOf = .arr t' l' | .cells cs => ∃cs',zn (Za (zS (Zg i t l) C.H) i .dead) a.idOf = .cells cs'∧cs'.length=cs.length | .bcells _ => ∃cs',zn (Za (zS (Zg i t l) C.H) i .dead) a.idOf = .bcells cs' | .btold _ => ∃cs',zn (Za (zS (Zg i t l) C.H) i .dead) a.idOf = .btold cs' | .mp k w l'=>zn (Za (zS (Zg i t l) C.H) i .dead) a.idOf = .mp k w l'
      rw [hgj _ e]
      exact zfV _ _
  have hlive : ∀j,zt (Za (zS (Zg i t l) C.H) i .dead) j→j≠i∧zt C.H j:=by
    intro j h
    have hji:j≠i:=by
      intro e
      subst e
      unfold zt at h
      rw [yh hi'] at h
      exact h rfl
    refine ⟨hji,?_⟩
    unfold zt at h
    rw [hgj j hji] at h
    unfold zt
    intro e
    rw [e] at h
    exact h rfl
  refine ⟨⟨?_,⟨?_,?_,?_,?_⟩,Zj.mapR hl hR hS.env (fun _ _=>trivial),Zz.mapR hl hR hS.stk (fun _ _=>trivial),⟨hS.frame.os,hS.frame.tape,hS.frame.output,hS.frame.size,hS.frame.keep,?_,?_,?_⟩⟩,hR,hl⟩
  · show Za (zS (Zg i t l) C.H) i .dead=Za (zS (Zg i t l) s.H) i .dead
    rw [hS.H]
  · intro j
    show ya _ (zn (Za (zS (Zg i t l) C.H) i .dead) j) (C.ρ j)
    by_cases e:j=i
    · subst e
      rw [yh hi']
      trivial
    · rw [hgj j e]
      exact ya.mapR (p:=fun _=>True) hl hR (hh.obj j) (fun b hb _=>rfl) (fun _ _=>trivial)
  · intro j k b hj hk hjb hkb
    exact hh.inj j k b (hlive j hj).2 (hlive k hk).2 hjb hkb
  · intro j b hj hb hRb
    rcases hRb with h | h
    · exact hh.ro j b (hlive j hj).2 hb h
    · exact (hlive j hj).1 (hh.inj j i b (hlive j hj).2 hli hb h)
  · intro b hb
    rcases hb with h | h
    · exact hh.rlt b h
    · exact hh.blk_lt hli h
  · intro b hb;exact .inl (hS.frame.r0 b hb)
  · intro b hb
    rcases hb with h | h
    · exact hS.frame.rN b h
    · rcases hS.frame.own i b hli h with h' | h'
      · exact .inr (.inl h')
      · exact .inr (.inr h')
  · intro j b hj hb
    exact hS.frame.own j b (hlive j hj).2 hb
end Go.AE
namespace Go.AE
theorem zbE {l:List Nat} {n:Nat} (h:YA l n=false):n ∉ l:=by
  induction l with
  | nil=>simp
  | cons a r ih =>
    rw [YA] at h
    cases hb:Nat.beq a n with
    | true=>rw [hb] at h;cases h
    | false =>
      rw [hb] at h
      intro hm
      cases hm with
      | head=>rw [Nat.beq_refl] at hb;cases hb
      | tail _ hm=>exact ih h hm
theorem zNT {H:List Obj} {o:Obj} (ho:o ∈ H) {i:Nat} (hi:i ∈ o.refs):i ∈ zjF H:=by
  induction H with
  | nil=>cases ho
  | cons x r ih =>
    rw [zjF]
    cases ho with
    | head=>exact List.mem_append.2 (.inl hi)
    | tail _ hm=>exact List.mem_append.2 (.inr (ih hm))
theorem zRW {H:List Obj} {i:Nat} (h:zn H i ≠ .dead):zn H i ∈ H:=by
  have hi:=Z2 h
  rw [ZC,List.getElem?_eq_getElem hi]
  exact List.getElem_mem hi
theorem zcn {a:AV} (ha:a.isRef=true):a.refs=[a.idOf]:=by
  cases a <;> first | (cases ha;done) | rfl
theorem zLs [BT] {C:Cx} (hh:zY C) {m:Nat} (hlen:C.H.length=m+1) (hno:m ∉ zjF (C.H.take m)) :
    zY { C with H:=C.H.take m }∧(∀F,zF F C→zF F { C with H:=C.H.take m }) ∧
    (∀a v,a.isRef=true→(∀i ∈ a.refs,i≠m)→VRel C a v→VRel { C with H:=C.H.take m } a v):=by
  have hg : ∀i,i<m→zn (C.H.take m) i=zn C.H i:=fun i hi=>zMA hi
  have hd : ∀i,m≤i→zn (C.H.take m) i = .dead:=fun i hi=>zc5 (by simp;omega)
  have hl : ∀a v,a.isRef=true→(∀i ∈ a.refs,i≠m)→VRel C a v→VRel { C with H:=C.H.take m } a v:=by
    intro a v ha hne h
    have hne':a.idOf≠m:=hne a.idOf (by rw [zcn ha];simp)
    refine wS ha h rfl ?_ (fun _ _ _=>rfl)
    show match zn C.H a.idOf with | .dead=>True | .arr t l=>zn (C.H.take m) a.idOf = .arr t l | .cells cs => ∃cs',zn (C.H.take m) a.idOf = .cells cs'∧cs'.length=cs.length | .bcells _ => ∃cs',zn (C.H.take m) a.idOf = .bcells cs' | .btold _ => ∃cs',zn (C.H.take m) a.idOf = .btold cs' | .mp k w l=>zn (C.H.take m) a.idOf = .mp k w l
    by_cases hlv:zn C.H a.idOf = .dead
    · rw [hlv];trivial
    · have:=Z2 hlv
      have hlt:a.idOf<m:=by omega
      rw [hg _ hlt]
      cases hx:zn C.H a.idOf with
      | dead=>trivial
      | arr t l=>simp
      | cells cs=>exact ⟨cs,rfl,rfl⟩
      | bcells cs=>exact ⟨cs,rfl⟩
      | btold cs=>exact ⟨cs,rfl⟩
      | mp=>simp
  have hR : ∀b,C.R b→C.R b∧C.w.heap[b]? = C.w.heap[b]? := fun b hb=>⟨hb,rfl⟩
  have lv : ∀i,zt (C.H.take m) i→i<m∧zt C.H i:=by
    intro i hi
    have hlt:i<m:=by
      rcases Nat.lt_or_ge i m with h | h
      · exact h
      · exact absurd (hd i h) hi
    refine ⟨hlt,?_⟩
    unfold zt at hi ⊢
    rwa [hg i hlt] at hi
  refine ⟨⟨?_,?_,?_,hh.rlt⟩,?_,hl⟩
  · intro i
    show ya _ (zn (C.H.take m) i) (C.ρ i)
    by_cases hi:i<m
    · rw [hg i hi]
      by_cases hx:zn C.H i = .dead
      · rw [hx];trivial
      · have:=ya.mapR (C':={ C with H:=C.H.take m }) (p:=fun j=>j≠m) (g:=fun x=>x) hl hR (hh.obj i) (fun _ _ _=>rfl) (fun j hj e=>by
          subst e
          refine hno (zNT (o:=zn C.H i) ?_ hj)
          rw [← hg i hi]
          exact zRW (by rw [hg i hi];exact hx))
        rwa [Obj.mapR_id] at this
    · rw [hd i (by omega)];trivial
  · intro i j b hi hj
    exact hh.inj i j b (lv i hi).2 (lv j hj).2
  · intro i b hi
    exact hh.ro i b (lv i hi).2
  · intro F hF
    exact ⟨hF.os,hF.tape,hF.output,hF.size,hF.keep,hF.r0,hF.rN,fun i b hi=>hF.own i b (lv i hi).2⟩
theorem zBK [BT] (roots:List Nat) : ∀(n:Nat) (C:Cx),zY C →
    zY { C with H:=JN roots n C.H }∧(∀F,zF F C→zF F { C with H:=JN roots n C.H }) ∧
    (∀a v,a.isRef=true→(∀i ∈ a.refs,i ∈ roots)→VRel C a v→VRel { C with H:=JN roots n C.H } a v)
  | 0,C,hh=>by
    rw [JN]
    exact ⟨hh,fun F hF=>hF,fun a v _ _ h=>h⟩
  | n+1,C,hh=>by
    rw [JN]
    split
    · exact ⟨hh,fun F hF=>hF,fun a v _ _ h=>h⟩
    · rename_i m hlen
      cases hb:YA (roots++zjF (C.H.take m)) m with
      | true=>exact ⟨hh,fun F hF=>hF,fun a v _ _ h=>h⟩
      | false =>
        rw [cond_false]
        have hm:=zbE hb
        rw [List.mem_append,not_or] at hm
        obtain ⟨h1,h2,h3⟩:=zLs hh hlen hm.2
        obtain ⟨g1,g2,g3⟩:=zBK roots n { C with H:=C.H.take m } h1
        exact ⟨g1,fun F hF=>g2 F (h2 F hF),fun a v ha hi h=>g3 a v ha hi (h3 a v ha (fun i hii e=>hm.1 (e ▸ hi i hii)) h)⟩
theorem zHU (env:zQ) (keep:List Nat) (t:Nat):Zd (Yy env keep) t=if t ∈ keep then Zd env t else .unk:=by
  induction keep with
  | nil=>rw [Yy,zaf,if_neg (by simp)]
  | cons d r ih =>
    rw [Yy,Zm,ih]
    by_cases e:d=t
    · subst e;simp
    · rw [if_neg e]
      by_cases h:t ∈ r
      · rw [if_pos h,if_pos (List.mem_cons_of_mem _ h)]
      · rw [if_neg h,if_neg]
        intro hm
        cases hm with
        | head=>exact e rfl
        | tail _ hm=>exact h hm
theorem Zj.keep {C:Cx} {env:zQ} {tmps:Array Value} (h:Zj C env tmps) (keep:List Nat):Zj C (Yy env keep) tmps:=by
  intro t
  rw [zHU]
  split
  · exact h t
  · rw [VRel];trivial
theorem YU [BT] {F:Fr} {C:Cx} {s:St} {tmps:Array Value} {stk:List (Array Value)} (hS:zw F C s tmps stk) (keep:List Nat) :
    ∃C',C'.w=C.w∧zw F C' (s.head keep) tmps stk:=by
  obtain ⟨h1,h2,h3⟩:=zBK (yJ (Yy s.env keep)++y8 s.stk) s.H.length C hS.heap
  have hR : ∀b,C.R b→C.R b∧C.w.heap[b]? = C.w.heap[b]? := fun b hb=>⟨hb,rfl⟩
  refine ⟨{ C with H:=JN (yJ (Yy s.env keep)++y8 s.stk) s.H.length C.H },rfl,⟨?_,h1,?_,?_,h2 F hS.frame⟩⟩
  · show JN _ _ C.H=JN _ _ s.H
    rw [hS.H]
  · have:=Zj.mapR (g:=fun x=>x) (p:=fun i=>i ∈ yJ (Yy s.env keep)++y8 s.stk) h3 hR (hS.env.keep keep) (fun i hi=>List.mem_append.2 (.inl hi))
    rwa [zbd] at this
  · have:=Zz.mapR (g:=fun x=>x) (p:=fun i=>i ∈ yJ (Yy s.env keep)++y8 s.stk) h3 hR hS.stk (fun i hi=>List.mem_append.2 (.inr hi))
    rwa [zhp] at this
end Go.AE
