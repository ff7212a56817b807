/- What the functions that DumpPutsCardSaid reaches compute: part 2. -/
import Derived.Test.YthfoooplgceaoaaGreatDoorOwnDumpPutsCardSaid1
set_option linter.unusedVariables false
set_option linter.unusedSimpArgs false
namespace Go.Proofs.R9
open Go Go.AE
set_option maxRecDepth 100000
--@ region_Pad
noncomputable def z1S:Env:=[(75,.pure qz)]
theorem z3Y:zf Tryz.prog z1S:=zf.cons zb5 (zf.nil)
noncomputable def z9R:Code:=Tryz.f94.body.getD .skip
noncomputable def zYs:Ann := .none
theorem zZQ:zq Tryz.prog 15 z9R zYs:=(zb _ _ _)
abbrev zeH:=(List UInt8)
abbrev zJP:=(List UInt8)
def zw1 {β:Type}:zeH→(zJP→Option β)→Option β:=fun a0 exit=>(bif decide (Int.tmod (↑(List.length a0):Int) (64:Int)>(0:Int)) then (za (Ya ([(0:UInt8)],IntKind.wrap .i64 ((64:Int) - Int.tmod (↑(List.length a0):Int) (64:Int)))) fun r=>(bif Nat.ble (List.length a0+List.length r) (9223372036854775807:Nat) then (exit (a0++r)) else none)) else (exit (a0)))
def zhc (a:zeH):Option zJP:=zw1 a some
theorem zYN (a:zeH) (k:zJP→Ans):zw1 a k=za (zhc a) k:=by
  obtain z:=a
  simp only [zhc,zw1,zj,zh,zl,zc,zi,zm,zg]
def zBR:zeH→List AV:=fun a0=>[.str a0]
def zLN (l:List AV):Option {a:zeH // l=zBR a}:=match l with
  | [.str a0]=>some ⟨(a0),rfl⟩
  | _=>none
def zRG (l:List AV):Option zeH:=pk (zLN l)
theorem zXe (l:List AV) (a:zeH) (h:zRG l=some a):l=zBR a:=zt (o:=zLN l) h
def zzZ:zeH→zJP→AV:=fun a0=>fun r_y => .str r_y
theorem zXI : ∀(a:zeH) (y:zJP),(zzZ a y).closed1=true:=by
  rintro z y <;> first | rfl | exact Empty.elim y
theorem z7w (a:zeH):fnE Tryz.tab z1S zd 0 70 94 Tryz.f94.ntmps Tryz.f94.results.toList zYs z9R (zBR a) [] (fun v _=>some (v,[]))=zw1 a (fun y=>some (zzZ a y,[])):=by kernel_rfl
def Zb4 (a:zeH) (K:AV→Ans):Ans:=za (zhc a) fun y=>K (zzZ a y)
def z4b:List AV→(AV→Ans)→Ans:=fun l K=>za (zRG l) fun a=>Zb4 a K
theorem zPe:zM Tryz.prog 94 z4b:=zL (hint:=zd) (d:=0) (n:=70) mixed tabOk z3Y Tryz.func94 (zC (by kernel_rfl)) (by decide +kernel) zZQ zXe z7w zYN zXI
--@ super_Put
noncomputable def zgs:Env:=[(52,.pure Fq4),(34,.pure zUO),(57,.pure zjN),(94,.pure z4b)]
theorem zKr:zf Tryz.prog zgs:=zf.cons zhd (zf.cons zB5 (zf.cons zbo (zf.cons zPe (zf.nil))))
noncomputable def z6o:Code:=Tryz.f53.body.getD .skip
noncomputable def zgP:Code:=zF [1,1,1,1,0,1,0,0] z6o
noncomputable def ziI:Ann := .at 0 [1,5,31,32,33] (.loop .none)
theorem zGa:zq Tryz.prog 51 (.loop zgP) ziI:=Zp (zb _ _ _)
abbrev Q8:=(Int)×(Int)×(Int)×(Int)×(Int)×(Int)×(Int)×(Int)×(List Int)
abbrev znh:=(List UInt8)
abbrev wN:=(List UInt8)×(Int)
def zp5:Q8→wN→St:=fun (t32,o0_0,o0_1,o0_2,o0_3,o0_4,o0_5,o0_6,o1) (t5,t33)=>{ env:=[(1,.ptr 0 0),(5,.str t5),(31,.own 1),(32,.int .i64 t32),(33,.int .i64 t33)],stk:=[[]],H:=[.cells [.int .i64 o0_0,.int .i64 o0_1,.int .i64 o0_2,.int .i64 o0_3,.int .i64 o0_4,.int .i64 o0_5,.int .i64 o0_6],.arr (.int .i64) o1],blk:=217088 }
def zvo (s:St):Option {x:Q8×wN // s=zp5 x.1 x.2}:=match s with
  | { env:=[(1,.ptr 0 0),(5,.str t5),(31,.own 1),(32,.int .i64 t32),(33,.int .i64 t33)],stk:=[[]],H:=[.cells [.int .i64 o0_0,.int .i64 o0_1,.int .i64 o0_2,.int .i64 o0_3,.int .i64 o0_4,.int .i64 o0_5,.int .i64 o0_6],.arr (.int .i64) o1],blk:=217088 }=>some ⟨((t32,o0_0,o0_1,o0_2,o0_3,o0_4,o0_5,o0_6,o1),(t5,t33)),rfl⟩
  | _=>none
def zj6 (s:St):Option (Q8×wN):=pk (zvo s)
theorem zHN (s:St) (x:Q8×wN) (h:zj6 s=some x):s=zp5 x.1 x.2:=zt (o:=zvo s) h
def zlV:Q8→(Ex→St→Ans)→znh→Ans:=fun (t32,o0_0,o0_1,o0_2,o0_3,o0_4,o0_5,o0_6,o1) K=>fun t5_y=>K (Ex.exit 0) { env:=[(1,.ptr 0 0),(5,.str t5_y)],stk:=[[]],H:=[.cells [.int .i64 o0_0,.int .i64 o0_1,.int .i64 o0_2,.int .i64 o0_3,.int .i64 o0_4,.int .i64 o0_5,.int .i64 o0_6]],blk:=217088 }
def J8 {β:Type}:Q8→wN→(wN→Option β)→(znh→Option β)→Option β:=fun (t32,o0_0,o0_1,o0_2,o0_3,o0_4,o0_5,o0_6,o1) (t5,t33) next exit=>(bif decide (t33<t32) then (bif inR t33 (List.length o1) then (za (o1[Int.toNat t33]?) fun x=>(za (Zz (t5,x,(1:Int))) fun r=>(next (r,IntKind.wrap .i64 (t33+(1:Int)))))) else none) else (exit (t5)))
def ZQ (i:Q8) (v:wN):Option (wN ⊕ znh):=J8 i v (fun v=>some (.inl v)) (fun y=>some (.inr y))
theorem zx0 (i:Q8) (v:wN) (next:wN→Ans) (exit:znh→Ans):J8 i v next exit=za (ZQ i v) (Sum.elim next exit):=by
  obtain ⟨t32,o0_0,o0_1,o0_2,o0_3,o0_4,o0_5,o0_6,o1⟩:=i
  obtain ⟨t5,t33⟩:=v
  simp only [ZQ,J8,zj,zh,zl,zc,zi,zm,zg,Sum.elim_inl,Sum.elim_inr]
theorem zFD (n:Nat) (i:Q8) (v:wN) (K:Ex→St→Ans):zx Tryz.tab zgs zd (zy Tryz.tab zgs zd 0 64) (n+1) 51 ziI (.loop zgP) (zD 0 (exk [1,5] [2,3] [(0,[1,5])]) K) (zp5 i v)=J8 i v (fun v'=>zx Tryz.tab zgs zd (zy Tryz.tab zgs zd 0 64) n 51 ziI (.loop zgP) (zD 0 (exk [1,5] [2,3] [(0,[1,5])]) K) (zp5 i v')) (fun y=>zlV i K y):=by kernel_rfl
theorem zNS:zw Tryz.prog 51 (.loop zgP) (Zr zj6 ZQ zlV):=Zj mixed tabOk zKr 0 (exk [1,5] [2,3] [(0,[1,5])]) zGa zHN zFD zx0
noncomputable def zPn:(Ex→St→Ans)→St→Ans:=(Zr zj6 ZQ zlV)
theorem zTJ:zw Tryz.prog 51 (.loop zgP) zPn:=zNS
noncomputable def z2T:Ann:=(.seq .none (.seq .none (.seq .none (.seq .none (.seq (.seq .none (.block (.cut 0 [1,5,31,32,33] zPn))) .none)))))
theorem z1U:zq Tryz.prog 51 z6o z2T:=⟨(zb _ _ _),⟨(zb _ _ _),⟨(zb _ _ _),⟨(zb _ _ _),⟨⟨(zb _ _ _),zTJ⟩,(zb _ _ _)⟩⟩⟩⟩⟩
abbrev zeE:=(Int)×(Int)×(Int)×(Int)×(Int)×(Int)×(Int)
abbrev zKU:=(List UInt8)×(Int)
def zt8 {β:Type}:zeE→(zKU→Option β)→Option β:=fun (a0_0,a0_1,a0_2,a0_3,a0_4,a0_5,a0_6) exit=>(za (zd5 (a0_0,a0_1,a0_2,a0_3,a0_4,a0_5,a0_6)) fun r=>(bif r != (0:Int) then (exit ([],r)) else (za (Zz ([(83:UInt8)],a0_0,(1:Int))) fun r_2=>(za (Zz (r_2,a0_1,(1:Int))) fun r_3=>(za (Zz (r_3,a0_2,(4:Int))) fun r_4=>(za (zP (ZQ ((↑(List.length [a0_3,a0_4,a0_5]):Int),a0_0,a0_1,a0_2,a0_3,a0_4,a0_5,a0_6,[a0_3,a0_4,a0_5])) zZ (r_4,(0:Int))) fun t5=>(za (Zz (t5,a0_6,(2:Int))) fun r_5=>(za (zbX (r_5)) fun r_6=>(bif Nat.ble (List.length r_5+List.length r_6) (9223372036854775807:Nat) then (za (zhc (r_5++r_6)) fun r_7=>(exit (r_7,(0:Int)))) else none)))))))))
def ze1 (a:zeE):Option zKU:=zt8 a some
theorem z3e (a:zeE) (k:zKU→Ans):zt8 a k=za (ze1 a) k:=by
  obtain ⟨a0_0,a0_1,a0_2,a0_3,a0_4,a0_5,a0_6⟩:=a
  simp only [ze1,zt8,zj,zh,zl,zc,zi,zm,zg]
def zyF:zeE→List AV:=fun (a0_0,a0_1,a0_2,a0_3,a0_4,a0_5,a0_6)=>[.agg [.int .i64 a0_0,.int .i64 a0_1,.int .i64 a0_2,.int .i64 a0_3,.int .i64 a0_4,.int .i64 a0_5,.int .i64 a0_6]]
def zK5 (l:List AV):Option {a:zeE // l=zyF a}:=match l with
  | [.agg [.int .i64 a0_0,.int .i64 a0_1,.int .i64 a0_2,.int .i64 a0_3,.int .i64 a0_4,.int .i64 a0_5,.int .i64 a0_6]]=>some ⟨(a0_0,a0_1,a0_2,a0_3,a0_4,a0_5,a0_6),rfl⟩
  | _=>none
def zRY (l:List AV):Option zeE:=pk (zK5 l)
theorem zUJ (l:List AV) (a:zeE) (h:zRY l=some a):l=zyF a:=zt (o:=zK5 l) h
def zyb:zeE→zKU→AV:=fun (a0_0,a0_1,a0_2,a0_3,a0_4,a0_5,a0_6)=>unP fun r_0_y r_1_y => .tup [.str r_0_y,.int .i64 r_1_y]
theorem zVl : ∀(a:zeE) (y:zKU),(zyb a y).closed1=true:=by
  rintro ⟨a0_0,a0_1,a0_2,a0_3,a0_4,a0_5,a0_6⟩ y <;> first | rfl | exact Empty.elim y
theorem z4y (a:zeE):fnE Tryz.tab zgs zd 0 70 53 Tryz.f53.ntmps Tryz.f53.results.toList z2T z6o (zyF a) [] (fun v _=>some (v,[]))=zt8 a (fun y=>some (zyb a y,[])):=by kernel_rfl
def ZbY (a:zeE) (K:AV→Ans):Ans:=za (ze1 a) fun y=>K (zyb a y)
def zT1:List AV→(AV→Ans)→Ans:=fun l K=>za (zRY l) fun a=>ZbY a K
theorem zCj:zM Tryz.prog 53 zT1:=zL (hint:=zd) (d:=0) (n:=70) mixed tabOk zKr Tryz.func53 (zC (by kernel_rfl)) (by decide +kernel) z1U zUJ z4y z3e zVl
--@ super_Get
noncomputable def zsB:Env:=[(49,.func zx3),(50,.func zqZ),(51,.func zr1),(52,.pure Fq4),(53,.pure zT1)]
theorem zHO:zf Tryz.prog zsB:=zf.cons zgI (zf.cons zdm (zf.cons zdl (zf.cons zhd (zf.cons zCj (zf.nil)))))
noncomputable def z5b:Code:=Tryz.f20.body.getD .skip
noncomputable def zoh:Code:=zF [1,1,1,1,1,1,1,1,0,1,0] z5b
noncomputable def zu3:Ann := .none
theorem zFJ:zq Tryz.prog 63 zoh zu3:=(zb _ _ _)
abbrev QA:=(List UInt8)×(List UInt8)×(Int)×(Int)×(Int)×(Int)×(Int)×(Int)×(Int)×(Int)
abbrev znp:=(Bool)
def zAN:QA→St:=fun (t0,t7,t8,o1_0,o1_1,o1_2,o1_3,o1_4,o1_5,o1_6)=>{ env:=[(0,.str t0),(2,.ptr 0 0),(4,.ptr 1 0),(7,.str t7),(8,.int .i64 t8)],stk:=[[]],H:=[.cells [.int .i64 (0),.int .i64 (0),.int .i64 (0),.int .i64 (0),.int .i64 (0),.int .i64 (0),.int .i64 (0)],.cells [.int .i64 o1_0,.int .i64 o1_1,.int .i64 o1_2,.int .i64 o1_3,.int .i64 o1_4,.int .i64 o1_5,.int .i64 o1_6]],blk:=81920 }
def zvQ (s:St):Option {x:QA // s=zAN x}:=match s with
  | { env:=[(0,.str t0),(2,.ptr 0 0),(4,.ptr 1 0),(7,.str t7),(8,.int .i64 t8)],stk:=[[]],H:=[.cells [.int .i64 r3,.int .i64 r4,.int .i64 r5,.int .i64 r6,.int .i64 r7,.int .i64 r8,.int .i64 r9],.cells [.int .i64 o1_0,.int .i64 o1_1,.int .i64 o1_2,.int .i64 o1_3,.int .i64 o1_4,.int .i64 o1_5,.int .i64 o1_6]],blk:=81920 }=>if h3:r3=0 then if h4:r4=0 then if h5:r5=0 then if h6:r6=0 then if h7:r7=0 then if h8:r8=0 then if h9:r9=0 then some ⟨(t0,t7,t8,o1_0,o1_1,o1_2,o1_3,o1_4,o1_5,o1_6),by subst h3 h4 h5 h6 h7 h8 h9;rfl⟩ else none else none else none else none else none else none else none
  | _=>none
def zkd (s:St):Option QA:=pk (zvQ s)
theorem zJ3 (s:St) (x:QA) (h:zkd s=some x):s=zAN x:=zt (o:=zvQ s) h
def zmv:QA→(Ex→St→Ans)→znp→Ans:=fun (t0,t7,t8,o1_0,o1_1,o1_2,o1_3,o1_4,o1_5,o1_6) K=>fun t60_y=>K (Ex.norm) { env:=[(2,.ptr 0 0),(4,.ptr 1 0),(60,.bool t60_y)],stk:=[[]],H:=[.cells [.int .i64 (0),.int .i64 (0),.int .i64 (0),.int .i64 (0),.int .i64 (0),.int .i64 (0),.int .i64 (0)],.cells [.int .i64 o1_0,.int .i64 o1_1,.int .i64 o1_2,.int .i64 o1_3,.int .i64 o1_4,.int .i64 o1_5,.int .i64 o1_6]],blk:=81920 }
def zbl {β:Type}:QA→(znp→Option β)→Option β:=fun (t0,t7,t8,o1_0,o1_1,o1_2,o1_3,o1_4,o1_5,o1_6) exit=>(bif t8 != (0:Int) then (exit (true)) else (exit (!t7 == t0)))
def wg (i:QA):Option znp:=zbl i some
theorem zzK (i:QA) (k:znp→Ans):zbl i k=za (wg i) k:=by
  obtain ⟨t0,t7,t8,o1_0,o1_1,o1_2,o1_3,o1_4,o1_5,o1_6⟩:=i
  simp only [wg,zbl,zj,zh,zl,zc,zi,zm,zg]
theorem zE8 (i:QA) (K:Ex→St→Ans):zx Tryz.tab zsB zd (zy Tryz.tab zsB zd 0 64) 70 63 zu3 zoh (zD 0 (exk [2,4,60] [2,3] []) K) (zAN i)=zbl i (zmv i K):=by kernel_rfl
theorem zO5:zw Tryz.prog 63 zoh (zH zkd wg zmv):=zE mixed tabOk zHO 0 (exk [2,4,60] [2,3] []) zFJ zJ3 zE8 zzK
noncomputable def zRw:(Ex→St→Ans)→St→Ans:=(zH zkd wg zmv)
theorem zU9:zw Tryz.prog 63 zoh zRw:=zO5
noncomputable def z0r:Ann:=(.seq .none (.seq .none (.seq .none (.seq .none (.seq .none (.seq .none (.seq .none (.seq .none (.seq (.seq .none (.seq (.cut 0 [0,2,4,7,8] zRw) .none)) .none)))))))))
theorem z0u:zq Tryz.prog 63 z5b z0r:=⟨(zb _ _ _),⟨(zb _ _ _),⟨(zb _ _ _),⟨(zb _ _ _),⟨(zb _ _ _),⟨(zb _ _ _),⟨(zb _ _ _),⟨(zb _ _ _),⟨⟨(zb _ _ _),⟨zU9,(zb _ _ _)⟩⟩,(zb _ _ _)⟩⟩⟩⟩⟩⟩⟩⟩⟩
abbrev zdB:=(List UInt8)
abbrev zIu:=(Int)×(Int)×(Int)×(Int)×(Int)×(Int)×(Int)×(Int)
def zvx {β:Type}:zdB→(zIu→Option β)→Option β:=fun a0 exit=>(bif (↑(List.length a0):Int) != (64:Int) then (exit ((0:Int),(0:Int),(0:Int),(0:Int),(0:Int),(0:Int),(0:Int),(12:Int))) else (za (Ws (a0)) fun _=>(za (yK ((1:Int),a0,(0:Int))) (unP fun r=>unP fun o0_0 o0_1=>(bif !r == [(83:UInt8)] then (exit ((0:Int),(0:Int),(0:Int),(0:Int),(0:Int),(0:Int),(0:Int),(4:Int))) else (za (Z5 ((1:Int),o0_0,o0_1)) (unP fun r_2=>unP fun o0_0_2 o0_1_2=>(za (Z5 ((1:Int),o0_0_2,o0_1_2)) (unP fun r_3=>unP fun o0_0_3 o0_1_3=>(za (Z5 ((4:Int),o0_0_3,o0_1_3)) (unP fun r_4=>unP fun o0_0_4 o0_1_4=>(za (Z5 ((1:Int),o0_0_4,o0_1_4)) (unP fun r_5=>unP fun o0_0_5 o0_1_5=>(za (Z5 ((1:Int),o0_0_5,o0_1_5)) (unP fun r_6=>unP fun o0_0_6 o0_1_6=>(za (Z5 ((1:Int),o0_0_6,o0_1_6)) (unP fun r_7=>unP fun o0_0_7 o0_1_7=>(za (Z5 ((2:Int),o0_0_7,o0_1_7)) (unP fun r_8=>unP fun o0_0_8 o0_1_8=>(bif inR (12:Int) (List.length a0+(1:Nat)) then (za (zbX (List.take (12:Nat) a0)) fun r_9=>(za (yK ((↑(List.length r_9):Int),o0_0_8,o0_1_8)) (unP fun r_10=>unP fun o0_0_9 o0_1_9=>(bif !r_10 == r_9 then (exit ((0:Int),(0:Int),(0:Int),(0:Int),(0:Int),(0:Int),(0:Int),(5:Int))) else (za (ze1 (r_2,r_3,r_4,r_5,r_6,r_7,r_8)) (unP fun r_0 r_1=>(za (wg (a0,r_0,r_1,r_2,r_3,r_4,r_5,r_6,r_7,r_8)) fun t60=>(bif t60 then (exit ((0:Int),(0:Int),(0:Int),(0:Int),(0:Int),(0:Int),(0:Int),(4:Int))) else (exit (r_2,r_3,r_4,r_5,r_6,r_7,r_8,(0:Int))))))))))) else none))))))))))))))))))))
def zge (a:zdB):Option zIu:=zvx a some
theorem zX3 (a:zdB) (k:zIu→Ans):zvx a k=za (zge a) k:=by
  obtain z:=a
  simp only [zge,zvx,zj,zh,zl,zc,zi,zm,zg]
def zzB:zdB→List AV:=fun a0=>[.str a0]
def zKM (l:List AV):Option {a:zdB // l=zzB a}:=match l with
  | [.str a0]=>some ⟨(a0),rfl⟩
  | _=>none
def zSl (l:List AV):Option zdB:=pk (zKM l)
theorem zWb (l:List AV) (a:zdB) (h:zSl l=some a):l=zzB a:=zt (o:=zKM l) h
def zB0:zdB→zIu→AV:=fun a0=>unP fun r_0_0_y=>unP fun r_0_1_y=>unP fun r_0_2_y=>unP fun r_0_3_y=>unP fun r_0_4_y=>unP fun r_0_5_y=>unP fun r_0_6_y r_1_y => .tup [.agg [.int .i64 r_0_0_y,.int .i64 r_0_1_y,.int .i64 r_0_2_y,.int .i64 r_0_3_y,.int .i64 r_0_4_y,.int .i64 r_0_5_y,.int .i64 r_0_6_y],.int .i64 r_1_y]
theorem zUK : ∀(a:zdB) (y:zIu),(zB0 a y).closed1=true:=by
  rintro z y <;> first | rfl | exact Empty.elim y
theorem z5d (a:zdB):fnE Tryz.tab zsB zd 0 70 20 Tryz.f20.ntmps Tryz.f20.results.toList z0r z5b (zzB a) [] (fun v _=>some (v,[]))=zvx a (fun y=>some (zB0 a y,[])):=by kernel_rfl
def ZcF (a:zdB) (K:AV→Ans):Ans:=za (zge a) fun y=>K (zB0 a y)
def z4R:List AV→(AV→Ans)→Ans:=fun l K=>za (zSl l) fun a=>ZcF a K
theorem zPS:zM Tryz.prog 20 z4R:=zL (hint:=zd) (d:=0) (n:=70) mixed tabOk zHO Tryz.func20 (zC (by kernel_rfl)) (by decide +kernel) z0u zWb z5d zX3 zUK
--@ state_version
noncomputable def z2f:Env:=[(50,.func zqZ),(51,.func zr1)]
theorem z6u:zf Tryz.prog z2f:=zf.cons zdm (zf.cons zdl (zf.nil))
noncomputable def z92:Code:=Tryz.f95.body.getD .skip
noncomputable def z1x:Ann := .none
theorem zX6:zq Tryz.prog 11 z92 z1x:=(zb _ _ _)
abbrev zfI:=(List UInt8)×(Int)
abbrev zXb:=(Int)×(Int)×(List UInt8)×(List UInt8)×(Int)
def zwS {β:Type}:zfI→(zXb→Option β)→Option β:=fun (o0_0,o0_1) exit=>(za (Z5 ((7:Int),o0_0,o0_1)) (unP fun r=>unP fun o0_0_2 o0_1_2=>(za (Z5 ((7:Int),o0_0_2,o0_1_2)) (unP fun r_2=>unP fun o0_0_3 o0_1_3=>(za (yK ((128:Int),o0_0_3,o0_1_3)) (unP fun r_3=>unP fun o0_0_4 o0_1_4=>(exit (r,r_2,r_3,o0_0_4,o0_1_4))))))))
def zcp (a:zfI):Option zXb:=zwS a some
theorem z0e (a:zfI) (k:zXb→Ans):zwS a k=za (zcp a) k:=by
  obtain ⟨o0_0,o0_1⟩:=a
  simp only [zcp,zwS,zj,zh,zl,zc,zi,zm,zg]
def znQ:zfI→List AV×List AE.Obj:=fun (o0_0,o0_1)=>([.ptr 0 0],[.cells [.str o0_0,.int .i64 o0_1]])
def zI9 (l:List AV) (H:List AE.Obj):Option {a:zfI // (l,H)=znQ a}:=match l,H with
  | [.ptr 0 0],[.cells [.str o0_0,.int .i64 o0_1]]=>some ⟨(o0_0,o0_1),rfl⟩
  | _,_=>none
def zRJ (l:List AV) (H:List AE.Obj):Option zfI:=pk (zI9 l H)
theorem zTO (l:List AV) (H:List AE.Obj) (a:zfI) (h:zRJ l H=some a):(l,H)=znQ a:=zt (o:=zI9 l H) h
def z0N:zfI→(AV→List AE.Obj→Ans)→zXb→Ans:=fun (o0_0,o0_1) K=>unP fun r_0_y=>unP fun r_1_y=>unP fun r_2_y=>unP fun o0_0_y o0_1_y=>K (.agg [.int .i64 r_0_y,.int .i64 r_1_y,.str r_2_y]) [.cells [.str o0_0_y,.int .i64 o0_1_y]]
theorem z7b (a:zfI) (K:AV→List AE.Obj→Ans):fnE Tryz.tab z2f zd 0 70 95 Tryz.f95.ntmps Tryz.f95.results.toList z1x z92 (znQ a).1 (znQ a).2 K=zwS a (z0N a K):=by kernel_rfl
def ZcD (a:zfI) (K:AV→List AE.Obj→Ans):Ans:=za (zcp a) fun y=>z0N a K y
def z68:List AV→List AE.Obj→(AV→List AE.Obj→Ans)→Ans:=fun l H K=>za (zRJ l H) fun a=>ZcD a K
theorem zRI:zO Tryz.prog 95 z68:=ZK (hint:=zd) (d:=0) (n:=70) mixed tabOk z6u Tryz.func95 (zC (by kernel_rfl)) (by decide +kernel) zX6 zTO z7b z0e
--@ state_of
noncomputable def z3d:Env:=[]
theorem z66:zf Tryz.prog z3d:=zf.nil
noncomputable def Zbd:Code:=Tryz.f70.body.getD .skip
noncomputable def z26:Ann := .none
theorem zYG:zq Tryz.prog 15 Zbd z26:=(zb _ _ _)
abbrev zfy:=(Int)×(Int)×(Int)×(List UInt8)×(Int)×(Int)×(List UInt8)×(Int)×(Int)×(List UInt8)
abbrev zWg:=(Unit) ⊕ (Unit) ⊕ (Unit)
def zoL {β:Type}:zfy→(zWg→Option β)→Option β:=fun (a0_0,a0_1,a0_2,a0_3,a0_4,a0_5,a0_6,a0_7,a0_8,a0_9) exit=>(bif a0_0 == (0:Int) then (exit (Sum.inl ())) else (bif a0_0 == (1:Int) then (exit (Sum.inr (Sum.inl ()))) else (exit (Sum.inr (Sum.inr ())))))
def zdC (a:zfy):Option zWg:=zoL a some
theorem z1w (a:zfy) (k:zWg→Ans):zoL a k=za (zdC a) k:=by
  obtain ⟨a0_0,a0_1,a0_2,a0_3,a0_4,a0_5,a0_6,a0_7,a0_8,a0_9⟩:=a
  simp only [zdC,zoL,zj,zh,zl,zc,zi,zm,zg]
def zoP:zfy→List AV×List AE.Obj:=fun (a0_0,a0_1,a0_2,a0_3,a0_4,a0_5,a0_6,a0_7,a0_8,a0_9)=>([.agg [.int .i64 a0_0,.int .i64 a0_1,.int .i64 a0_2,.str a0_3,.int .i64 a0_4,.int .i64 a0_5,.str a0_6,.int .i64 a0_7,.int .i64 a0_8,.str a0_9]],[])
def zJB (l:List AV) (H:List AE.Obj):Option {a:zfy // (l,H)=zoP a}:=match l,H with
  | [.agg [.int .i64 a0_0,.int .i64 a0_1,.int .i64 a0_2,.str a0_3,.int .i64 a0_4,.int .i64 a0_5,.str a0_6,.int .i64 a0_7,.int .i64 a0_8,.str a0_9]],[]=>some ⟨(a0_0,a0_1,a0_2,a0_3,a0_4,a0_5,a0_6,a0_7,a0_8,a0_9),rfl⟩
  | _,_=>none
def zRs (l:List AV) (H:List AE.Obj):Option zfy:=pk (zJB l H)
theorem zWQ (l:List AV) (H:List AE.Obj) (a:zfy) (h:zRs l H=some a):(l,H)=zoP a:=zt (o:=zJB l H) h
def zYy:zfy→(AV→List AE.Obj→Ans)→zWg→Ans:=fun (a0_0,a0_1,a0_2,a0_3,a0_4,a0_5,a0_6,a0_7,a0_8,a0_9) K=>(Sum.elim (fun _=>K (.ifc 162 (.agg [.int .i64 a0_0,.int .i64 a0_1,.int .i64 a0_2,.str a0_3,.int .i64 a0_4,.int .i64 a0_5,.str a0_6,.int .i64 a0_7,.int .i64 a0_8,.str a0_9])) []) ((Sum.elim (fun _=>K (.ifc 163 (.agg [.int .i64 a0_0,.int .i64 a0_1,.int .i64 a0_2,.str a0_3,.int .i64 a0_4,.int .i64 a0_5,.str a0_6,.int .i64 a0_7,.int .i64 a0_8,.str a0_9])) []) (fun _=>K (.nili) []))))
theorem z6Q (a:zfy) (K:AV→List AE.Obj→Ans):fnE Tryz.tab z3d zd 0 70 70 Tryz.f70.ntmps Tryz.f70.results.toList z26 Zbd (zoP a).1 (zoP a).2 K=zoL a (zYy a K):=by kernel_rfl
def ZcO (a:zfy) (K:AV→List AE.Obj→Ans):Ans:=za (zdC a) fun y=>zYy a K y
def zXx:List AV→List AE.Obj→(AV→List AE.Obj→Ans)→Ans:=fun l H K=>za (zRs l H) fun a=>ZcO a K
theorem zAI:zO Tryz.prog 70 zXx:=ZK (hint:=zd) (d:=0) (n:=70) mixed tabOk z66 Tryz.func70 (zC (by kernel_rfl)) (by decide +kernel) zYG zWQ z6Q z1w
--@ vector_within
noncomputable def ztk:Env:=[]
theorem zIO:zf Tryz.prog ztk:=zf.nil
noncomputable def z3V:Code:=Tryz.f246.body.getD .skip
noncomputable def zpw:Code:=zF [1,0] z3V
noncomputable def zwv:Ann := .none
theorem zEV:zq Tryz.prog 12 zpw zwv:=(zb _ _ _)
abbrev jW:=(Int)×(Int)
abbrev znC:=(Bool)
def zxP:jW→St:=fun (t0,t1)=>{ env:=[(0,.int .i64 t0),(1,.int .i64 t1)],stk:=[[]],H:=[],blk:=1007616 }
def zsS (s:St):Option {x:jW // s=zxP x}:=match s with
  | { env:=[(0,.int .i64 t0),(1,.int .i64 t1)],stk:=[[]],H:=[],blk:=1007616 }=>some ⟨(t0,t1),rfl⟩
  | _=>none
def zlS (s:St):Option jW:=pk (zsS s)
theorem zLe (s:St) (x:jW) (h:zlS s=some x):s=zxP x:=zt (o:=zsS s) h
def zls:jW→(Ex→St→Ans)→znC→Ans:=fun (t0,t1) K=>fun t4_y=>K (Ex.norm) { env:=[(4,.bool t4_y)],stk:=[[]],H:=[],blk:=1007616 }
def zak {β:Type}:jW→(znC→Option β)→Option β:=fun (t0,t1) exit=>(bif decide (t0≥(0:Int)) then (exit (decide (t0≤t1))) else (exit (false)))
def WX (i:jW):Option znC:=zak i some
theorem zyW (i:jW) (k:znC→Ans):zak i k=za (WX i) k:=by
  obtain ⟨t0,t1⟩:=i
  simp only [WX,zak,zj,zh,zl,zc,zi,zm,zg]
theorem zFr (i:jW) (K:Ex→St→Ans):zx Tryz.tab ztk zd (zy Tryz.tab ztk zd 0 64) 70 12 zwv zpw (zD 0 (exk [4] [4] []) K) (zxP i)=zak i (zls i K):=by kernel_rfl
theorem zNl:zw Tryz.prog 12 zpw (zH zlS WX zls):=zE mixed tabOk zIO 0 (exk [4] [4] []) zEV zLe zFr zyW
noncomputable def zRS:(Ex→St→Ans)→St→Ans:=(zH zlS WX zls)
theorem zTi:zw Tryz.prog 12 zpw zRS:=zNl
noncomputable def z2a:Ann:=(.seq .none (.seq (.cut 0 [0,1] zRS) .none))
theorem zZV:zq Tryz.prog 12 z3V z2a:=⟨(zb _ _ _),⟨zTi,(zb _ _ _)⟩⟩
abbrev zeD:=(Int)×(Int)
abbrev zJk:=(Bool)
def zwN {β:Type}:zeD→(zJk→Option β)→Option β:=fun (a0,a1) exit=>(za (WX (a0,a1)) fun t4=>(exit (t4)))
def zeX (a:zeD):Option zJk:=zwN a some
theorem zZX (a:zeD) (k:zJk→Ans):zwN a k=za (zeX a) k:=by
  obtain ⟨a0,a1⟩:=a
  simp only [zeX,zwN,zj,zh,zl,zc,zi,zm,zg]
def zyL:zeD→List AV:=fun (a0,a1)=>[.int .i64 a0,.int .i64 a1]
def zI1 (l:List AV):Option {a:zeD // l=zyL a}:=match l with
  | [.int .i64 a0,.int .i64 a1]=>some ⟨(a0,a1),rfl⟩
  | _=>none
def zRT (l:List AV):Option zeD:=pk (zI1 l)
theorem zTj (l:List AV) (a:zeD) (h:zRT l=some a):l=zyL a:=zt (o:=zI1 l) h
def zzn:zeD→zJk→AV:=fun (a0,a1)=>fun r_y => .bool r_y
theorem zWB : ∀(a:zeD) (y:zJk),(zzn a y).closed1=true:=by
  rintro ⟨a0,a1⟩ y <;> first | rfl | exact Empty.elim y
theorem z7e (a:zeD):fnE Tryz.tab ztk zd 0 70 246 Tryz.f246.ntmps Tryz.f246.results.toList z2a z3V (zyL a) [] (fun v _=>some (v,[]))=zwN a (fun y=>some (zzn a y,[])):=by kernel_rfl
def ZcE (a:zeD) (K:AV→Ans):Ans:=za (zeX a) fun y=>K (zzn a y)
def z4E:List AV→(AV→Ans)→Ans:=fun l K=>za (zRT l) fun a=>ZcE a K
theorem zSC:zM Tryz.prog 246 z4E:=zL (hint:=zd) (d:=0) (n:=70) mixed tabOk zIO Tryz.func246 (zC (by kernel_rfl)) (by decide +kernel) zZV zTj z7e zZX zWB
--@ vector_Right
noncomputable def zuh:Env:=[(246,.pure z4E)]
theorem zMg:zf Tryz.prog zuh:=zf.cons zSC (zf.nil)
noncomputable def z6Y:Code:=Tryz.f224.body.getD .skip
noncomputable def zos:Code:=zF [1,0] z6Y
noncomputable def zto:Ann := .none
theorem zDN:zq Tryz.prog 11 zos zto:=(zb _ _ _)
abbrev jf:=(Int)×(Int)
abbrev zog:=(Bool)
def zBh:jf→St:=fun (o0_0,o0_1)=>{ env:=[(1,.ptr 0 0)],stk:=[[]],H:=[.cells [.int .i64 o0_0,.int .i64 o0_1]],blk:=917504 }
def zuv (s:St):Option {x:jf // s=zBh x}:=match s with
  | { env:=[(1,.ptr 0 0)],stk:=[[]],H:=[.cells [.int .i64 o0_0,.int .i64 o0_1]],blk:=917504 }=>some ⟨(o0_0,o0_1),rfl⟩
  | _=>none
def zjV (s:St):Option jf:=pk (zuv s)
theorem zLR (s:St) (x:jf) (h:zjV s=some x):s=zBh x:=zt (o:=zuv s) h
def zlb:jf→(Ex→St→Ans)→zog→Ans:=fun (o0_0,o0_1) K=>fun t2_y=>K (Ex.norm) { env:=[(2,.bool t2_y)],stk:=[[]],H:=[],blk:=917504 }
def J1 {β:Type}:jf→(zog→Option β)→Option β:=fun (o0_0,o0_1) exit=>(za (zeX (o0_0,(1125899906842624:Int))) fun r=>(bif r then (za (zeX (o0_1,(1125899906842624:Int))) fun r_2=>(exit (r_2))) else (exit (false))))
def W6 (i:jf):Option zog:=J1 i some
theorem zyG (i:jf) (k:zog→Ans):J1 i k=za (W6 i) k:=by
  obtain ⟨o0_0,o0_1⟩:=i
  simp only [W6,J1,zj,zh,zl,zc,zi,zm,zg]
theorem zDu (i:jf) (K:Ex→St→Ans):zx Tryz.tab zuh zd (zy Tryz.tab zuh zd 0 64) 70 11 zto zos (zD 0 (exk [2] [2] []) K) (zBh i)=J1 i (zlb i K):=by kernel_rfl
theorem zOF:zw Tryz.prog 11 zos (zH zjV W6 zlb):=zE mixed tabOk zMg 0 (exk [2] [2] []) zDN zLR zDu zyG
noncomputable def zSa:(Ex→St→Ans)→St→Ans:=(zH zjV W6 zlb)
theorem zVv:zw Tryz.prog 11 zos zSa:=zOF
noncomputable def zZ5:Ann:=(.seq .none (.seq (.cut 0 [1] zSa) .none))
theorem z3i:zq Tryz.prog 11 z6Y zZ5:=⟨(zb _ _ _),⟨zVv,(zb _ _ _)⟩⟩
abbrev zev:=(Int)×(Int)
abbrev zKo:=(Bool)
def zud {β:Type}:zev→(zKo→Option β)→Option β:=fun (a0_0,a0_1) exit=>(za (W6 (a0_0,a0_1)) fun t2=>(exit (t2)))
def zcy (a:zev):Option zKo:=zud a some
theorem z1f (a:zev) (k:zKo→Ans):zud a k=za (zcy a) k:=by
  obtain ⟨a0_0,a0_1⟩:=a
  simp only [zcy,zud,zj,zh,zl,zc,zi,zm,zg]
def zxJ:zev→List AV:=fun (a0_0,a0_1)=>[.agg [.int .i64 a0_0,.int .i64 a0_1]]
def zLS (l:List AV):Option {a:zev // l=zxJ a}:=match l with
  | [.agg [.int .i64 a0_0,.int .i64 a0_1]]=>some ⟨(a0_0,a0_1),rfl⟩
  | _=>none
def zR1 (l:List AV):Option zev:=pk (zLS l)
theorem zWG (l:List AV) (a:zev) (h:zR1 l=some a):l=zxJ a:=zt (o:=zLS l) h
def zyn:zev→zKo→AV:=fun (a0_0,a0_1)=>fun r_y => .bool r_y
theorem zTZ : ∀(a:zev) (y:zKo),(zyn a y).closed1=true:=by
  rintro ⟨a0_0,a0_1⟩ y <;> first | rfl | exact Empty.elim y
theorem z4q (a:zev):fnE Tryz.tab zuh zd 0 70 224 Tryz.f224.ntmps Tryz.f224.results.toList zZ5 z6Y (zxJ a) [] (fun v _=>some (v,[]))=zud a (fun y=>some (zyn a y,[])):=by kernel_rfl
def Zcb (a:zev) (K:AV→Ans):Ans:=za (zcy a) fun y=>K (zyn a y)
def zTs:List AV→(AV→Ans)→Ans:=fun l K=>za (zR1 l) fun a=>Zcb a K
theorem zA7:zM Tryz.prog 224 zTs:=zL (hint:=zd) (d:=0) (n:=70) mixed tabOk zMg Tryz.func224 (zC (by kernel_rfl)) (by decide +kernel) z3i zWG z4q z1f zTZ
--@ state_single_check
noncomputable def zhg:Env:=[(224,.pure zTs)]
theorem zrE:zf Tryz.prog zhg:=zf.cons zA7 (zf.nil)
noncomputable def zXr:Code:=Tryz.f311.body.getD .skip
noncomputable def zoj:Code:=zF [1,1,0,0,1,1,1,1,0] zXr
noncomputable def zuk:Ann := .none
theorem zEv:zq Tryz.prog 29 zoj zuk:=(zb _ _ _)
abbrev QE:=(Int)×(Int)×(Int)×(List UInt8)×(Int)×(Int)×(List UInt8)×(Int)×(Int)×(List UInt8)
abbrev zoU:=(Bool)
def zAA:QE→St:=fun (o0_0,o0_1,o0_2,o0_3,o0_4,o0_5,o0_6,o0_7,o0_8,o0_9)=>{ env:=[(1,.ptr 0 0),(3,.ptr 1 0)],stk:=[[]],H:=[.cells [.int .i64 o0_0,.int .i64 o0_1,.int .i64 o0_2,.str o0_3,.int .i64 o0_4,.int .i64 o0_5,.str o0_6,.int .i64 o0_7,.int .i64 o0_8,.str o0_9],.cells [.int .i64 (0),.int .i64 (0),.str ([])]],blk:=1273856 }
def ztA (s:St):Option {x:QE // s=zAA x}:=match s with
  | { env:=[(1,.ptr 0 0),(3,.ptr 1 0)],stk:=[[]],H:=[.cells [.int .i64 o0_0,.int .i64 o0_1,.int .i64 o0_2,.str o0_3,.int .i64 o0_4,.int .i64 o0_5,.str o0_6,.int .i64 o0_7,.int .i64 o0_8,.str o0_9],.cells [.int .i64 r10,.int .i64 r11,.str r12]],blk:=1273856 }=>if h10:r10=0 then if h11:r11=0 then if h12:r12=[] then some ⟨(o0_0,o0_1,o0_2,o0_3,o0_4,o0_5,o0_6,o0_7,o0_8,o0_9),by subst h10 h11 h12;rfl⟩ else none else none else none
  | _=>none
def zlM (s:St):Option QE:=pk (ztA s)
theorem zJw (s:St) (x:QE) (h:zlM s=some x):s=zAA x:=zt (o:=ztA s) h
def zlE:QE→(Ex→St→Ans)→zoU→Ans:=fun (o0_0,o0_1,o0_2,o0_3,o0_4,o0_5,o0_6,o0_7,o0_8,o0_9) K=>fun t16_y=>K (Ex.norm) { env:=[(16,.bool t16_y)],stk:=[[]],H:=[],blk:=1273856 }
def zag {β:Type}:QE→(zoU→Option β)→Option β:=fun (o0_0,o0_1,o0_2,o0_3,o0_4,o0_5,o0_6,o0_7,o0_8,o0_9) exit=>(bif !(o0_4 == (0:Int)&&(o0_5 == (0:Int)&&true)&&(o0_6 == []&&true)) then (exit (true)) else (exit (!(o0_7 == (0:Int)&&(o0_8 == (0:Int)&&true)&&(o0_9 == []&&true)))))
def qt (i:QE):Option zoU:=zag i some
theorem zBD (i:QE) (k:zoU→Ans):zag i k=za (qt i) k:=by
  obtain ⟨o0_0,o0_1,o0_2,o0_3,o0_4,o0_5,o0_6,o0_7,o0_8,o0_9⟩:=i
  simp only [qt,zag,zj,zh,zl,zc,zi,zm,zg]
theorem zEn (i:QE) (K:Ex→St→Ans):zx Tryz.tab zhg zd (zy Tryz.tab zhg zd 0 64) 70 29 zuk zoj (zD 0 (exk [16] [2] []) K) (zAA i)=zag i (zlE i K):=by kernel_rfl
theorem zOD:zw Tryz.prog 29 zoj (zH zlM qt zlE):=zE mixed tabOk zrE 0 (exk [16] [2] []) zEv zJw zEn zBD
noncomputable def zRF:(Ex→St→Ans)→St→Ans:=(zH zlM qt zlE)
theorem zTF:zw Tryz.prog 29 zoj zRF:=zOD
noncomputable def znf:Code:=zF [1,1,0] zXr
noncomputable def zvM:Ann:=(.block (.seq .none (.cond .none (.seq .none (.cond .none (.seq (.cut 0 [1,3] zRF) .none))))))
theorem zGh:zq Tryz.prog 29 znf zvM:=⟨(zb _ _ _),⟨(zb _ _ _),⟨(zb _ _ _),⟨(zb _ _ _),⟨zTF,(zb _ _ _)⟩⟩⟩⟩⟩
abbrev jq:=(Int)×(Int)×(Int)×(List UInt8)×(Int)×(Int)×(List UInt8)×(Int)×(Int)×(List UInt8)
abbrev zne:=((Int)) ⊕ (Unit)
def zy3:jq→St:=fun (o0_0,o0_1,o0_2,o0_3,o0_4,o0_5,o0_6,o0_7,o0_8,o0_9)=>{ env:=[(1,.ptr 0 0),(3,.ptr 1 0)],stk:=[[]],H:=[.cells [.int .i64 o0_0,.int .i64 o0_1,.int .i64 o0_2,.str o0_3,.int .i64 o0_4,.int .i64 o0_5,.str o0_6,.int .i64 o0_7,.int .i64 o0_8,.str o0_9],.cells [.int .i64 (0),.int .i64 (0),.str ([])]],blk:=1273856 }
def zuw (s:St):Option {x:jq // s=zy3 x}:=match s with
  | { env:=[(1,.ptr 0 0),(3,.ptr 1 0)],stk:=[[]],H:=[.cells [.int .i64 o0_0,.int .i64 o0_1,.int .i64 o0_2,.str o0_3,.int .i64 o0_4,.int .i64 o0_5,.str o0_6,.int .i64 o0_7,.int .i64 o0_8,.str o0_9],.cells [.int .i64 r10,.int .i64 r11,.str r12]],blk:=1273856 }=>if h10:r10=0 then if h11:r11=0 then if h12:r12=[] then some ⟨(o0_0,o0_1,o0_2,o0_3,o0_4,o0_5,o0_6,o0_7,o0_8,o0_9),by subst h10 h11 h12;rfl⟩ else none else none else none
  | _=>none
def zkx (s:St):Option jq:=pk (zuw s)
theorem zID (s:St) (x:jq) (h:zkx s=some x):s=zy3 x:=zt (o:=zuw s) h
def zjU:jq→(Ex→St→Ans)→zne→Ans:=fun (o0_0,o0_1,o0_2,o0_3,o0_4,o0_5,o0_6,o0_7,o0_8,o0_9) K=>(Sum.elim (fun t2_y=>K (Ex.ret) { env:=[(2,.int .i64 t2_y)],stk:=[[]],H:=[],blk:=1273856 }) (fun _=>K (Ex.norm) { env:=[],stk:=[[]],H:=[],blk:=1273856 }))
def JM {β:Type}:jq→(zne→Option β)→Option β:=fun (o0_0,o0_1,o0_2,o0_3,o0_4,o0_5,o0_6,o0_7,o0_8,o0_9) exit=>(za (zcy (o0_1,o0_2)) fun r=>(bif !r then (exit (Sum.inl ((3:Int)))) else (bif (↑(List.length o0_3):Int) != (128:Int) then (exit (Sum.inl ((12:Int)))) else (za (qt (o0_0,o0_1,o0_2,o0_3,o0_4,o0_5,o0_6,o0_7,o0_8,o0_9)) fun t16=>(bif t16 then (exit (Sum.inl ((4:Int)))) else (exit (Sum.inr ())))))))
def qs (i:jq):Option zne:=JM i some
theorem zAY (i:jq) (k:zne→Ans):JM i k=za (qs i) k:=by
  obtain ⟨o0_0,o0_1,o0_2,o0_3,o0_4,o0_5,o0_6,o0_7,o0_8,o0_9⟩:=i
  simp only [qs,JM,zj,zh,zl,zc,zi,zm,zg]
theorem zEo (i:jq) (K:Ex→St→Ans):zx Tryz.tab zhg zd (zy Tryz.tab zhg zd 0 64) 70 29 zvM znf (zD 0 (exk [] [2] []) K) (zy3 i)=JM i (zjU i K):=by kernel_rfl
theorem zOs:zw Tryz.prog 29 znf (zH zkx qs zjU):=zE mixed tabOk zrE 0 (exk [] [2] []) zGh zID zEo zAY
noncomputable def zQt:(Ex→St→Ans)→St→Ans:=(zH zkx qs zjU)
theorem zS2:zw Tryz.prog 29 znf zQt:=zOs
noncomputable def z19:Ann:=(.seq .none (.seq .none (.seq (.cut 0 [1,3] zQt) .none)))
theorem z0S:zq Tryz.prog 29 zXr z19:=⟨(zb _ _ _),⟨(zb _ _ _),⟨zS2,(zb _ _ _)⟩⟩⟩
abbrev zdH:=(Int)×(Int)×(Int)×(List UInt8)×(Int)×(Int)×(List UInt8)×(Int)×(Int)×(List UInt8)
abbrev zMX:=(Int)
def zur {β:Type}:zdH→(zMX→Option β)→Option β:=fun (a0_0,a0_1,a0_2,a0_3,a0_4,a0_5,a0_6,a0_7,a0_8,a0_9) exit=>(za (qs (a0_0,a0_1,a0_2,a0_3,a0_4,a0_5,a0_6,a0_7,a0_8,a0_9)) (Sum.elim (fun t2=>(exit (t2))) (fun _=>(exit ((0:Int))))))
def zkr (a:zdH):Option zMX:=zur a some
theorem z0o (a:zdH) (k:zMX→Ans):zur a k=za (zkr a) k:=by
  obtain ⟨a0_0,a0_1,a0_2,a0_3,a0_4,a0_5,a0_6,a0_7,a0_8,a0_9⟩:=a
  simp only [zkr,zur,zj,zh,zl,zc,zi,zm,zg]
def zBs:zdH→List AV:=fun (a0_0,a0_1,a0_2,a0_3,a0_4,a0_5,a0_6,a0_7,a0_8,a0_9)=>[.agg [.int .i64 a0_0,.int .i64 a0_1,.int .i64 a0_2,.str a0_3,.int .i64 a0_4,.int .i64 a0_5,.str a0_6,.int .i64 a0_7,.int .i64 a0_8,.str a0_9]]
def zLq (l:List AV):Option {a:zdH // l=zBs a}:=match l with
  | [.agg [.int .i64 a0_0,.int .i64 a0_1,.int .i64 a0_2,.str a0_3,.int .i64 a0_4,.int .i64 a0_5,.str a0_6,.int .i64 a0_7,.int .i64 a0_8,.str a0_9]]=>some ⟨(a0_0,a0_1,a0_2,a0_3,a0_4,a0_5,a0_6,a0_7,a0_8,a0_9),rfl⟩
  | _=>none
def zSb (l:List AV):Option zdH:=pk (zLq l)
theorem zXg (l:List AV) (a:zdH) (h:zSb l=some a):l=zBs a:=zt (o:=zLq l) h
def zzj:zdH→zMX→AV:=fun (a0_0,a0_1,a0_2,a0_3,a0_4,a0_5,a0_6,a0_7,a0_8,a0_9)=>fun r_y => .int .i64 r_y
theorem zX1 : ∀(a:zdH) (y:zMX),(zzj a y).closed1=true:=by
  rintro ⟨a0_0,a0_1,a0_2,a0_3,a0_4,a0_5,a0_6,a0_7,a0_8,a0_9⟩ y <;> first | rfl | exact Empty.elim y
theorem z6r (a:zdH):fnE Tryz.tab zhg zd 0 70 311 Tryz.f311.ntmps Tryz.f311.results.toList z19 zXr (zBs a) [] (fun v _=>some (v,[]))=zur a (fun y=>some (zzj a y,[])):=by kernel_rfl
def Zcm (a:zdH) (K:AV→Ans):Ans:=za (zkr a) fun y=>K (zzj a y)
def z36:List AV→(AV→Ans)→Ans:=fun l K=>za (zSb l) fun a=>Zcm a K
theorem zQ6:zM Tryz.prog 311 z36:=zL (hint:=zd) (d:=0) (n:=70) mixed tabOk zrE Tryz.func311 (zC (by kernel_rfl)) (by decide +kernel) z0S zXg z6r z0o zX1
--@ vector_Covers
noncomputable def zs3:Env:=[]
theorem zJd:zf Tryz.prog zs3:=zf.nil
noncomputable def z6B:Code:=Tryz.f263.body.getD .skip
noncomputable def znS:Code:=zF [1,0] z6B
noncomputable def zuL:Ann := .none
theorem zGL:zq Tryz.prog 17 znS zuL:=(zb _ _ _)
abbrev jm:=(Int)×(Int)×(Int)×(Int)
abbrev zqo:=(Bool)
def zCz:jm→St:=fun (o0_0,o0_1,o1_0,o1_1)=>{ env:=[(2,.ptr 0 0),(3,.ptr 1 0)],stk:=[[]],H:=[.cells [.int .i64 o0_0,.int .i64 o0_1],.cells [.int .i64 o1_0,.int .i64 o1_1]],blk:=1077248 }
def zwZ (s:St):Option {x:jm // s=zCz x}:=match s with
  | { env:=[(2,.ptr 0 0),(3,.ptr 1 0)],stk:=[[]],H:=[.cells [.int .i64 o0_0,.int .i64 o0_1],.cells [.int .i64 o1_0,.int .i64 o1_1]],blk:=1077248 }=>some ⟨(o0_0,o0_1,o1_0,o1_1),rfl⟩
  | _=>none
def zlW (s:St):Option jm:=pk (zwZ s)
theorem zHg (s:St) (x:jm) (h:zlW s=some x):s=zCz x:=zt (o:=zwZ s) h
def zlJ:jm→(Ex→St→Ans)→zqo→Ans:=fun (o0_0,o0_1,o1_0,o1_1) K=>fun t4_y=>K (Ex.norm) { env:=[(4,.bool t4_y)],stk:=[[]],H:=[],blk:=1077248 }
def za6 {β:Type}:jm→(zqo→Option β)→Option β:=fun (o0_0,o0_1,o1_0,o1_1) exit=>(bif decide (o0_0≥o1_0) then (exit (decide (o0_1≥o1_1))) else (exit (false)))
def WY (i:jm):Option zqo:=za6 i some
theorem zAE (i:jm) (k:zqo→Ans):za6 i k=za (WY i) k:=by
  obtain ⟨o0_0,o0_1,o1_0,o1_1⟩:=i
  simp only [WY,za6,zj,zh,zl,zc,zi,zm,zg]
theorem zEE (i:jm) (K:Ex→St→Ans):zx Tryz.tab zs3 zd (zy Tryz.tab zs3 zd 0 64) 70 17 zuL znS (zD 0 (exk [4] [4] []) K) (zCz i)=za6 i (zlJ i K):=by kernel_rfl
theorem zN2:zw Tryz.prog 17 znS (zH zlW WY zlJ):=zE mixed tabOk zJd 0 (exk [4] [4] []) zGL zHg zEE zAE
noncomputable def zSu:(Ex→St→Ans)→St→Ans:=(zH zlW WY zlJ)
theorem zWd:zw Tryz.prog 17 znS zSu:=zN2
noncomputable def zZw:Ann:=(.seq .none (.seq (.cut 0 [2,3] zSu) .none))
theorem z3M:zq Tryz.prog 17 z6B zZw:=⟨(zb _ _ _),⟨zWd,(zb _ _ _)⟩⟩
abbrev zdx:=(Int)×(Int)×(Int)×(Int)
abbrev zHn:=(Bool)
def zt1 {β:Type}:zdx→(zHn→Option β)→Option β:=fun (a0_0,a0_1,a1_0,a1_1) exit=>(za (WY (a0_0,a0_1,a1_0,a1_1)) fun t4=>(exit (t4)))
def zel (a:zdx):Option zHn:=zt1 a some
theorem zZt (a:zdx) (k:zHn→Ans):zt1 a k=za (zel a) k:=by
  obtain ⟨a0_0,a0_1,a1_0,a1_1⟩:=a
  simp only [zel,zt1,zj,zh,zl,zc,zi,zm,zg]
def zyN:zdx→List AV:=fun (a0_0,a0_1,a1_0,a1_1)=>[.agg [.int .i64 a0_0,.int .i64 a0_1],.agg [.int .i64 a1_0,.int .i64 a1_1]]
def zL9 (l:List AV):Option {a:zdx // l=zyN a}:=match l with
  | [.agg [.int .i64 a0_0,.int .i64 a0_1],.agg [.int .i64 a1_0,.int .i64 a1_1]]=>some ⟨(a0_0,a0_1,a1_0,a1_1),rfl⟩
  | _=>none
def zRv (l:List AV):Option zdx:=pk (zL9 l)
theorem zVi (l:List AV) (a:zdx) (h:zRv l=some a):l=zyN a:=zt (o:=zL9 l) h
def zCD:zdx→zHn→AV:=fun (a0_0,a0_1,a1_0,a1_1)=>fun r_y => .bool r_y
theorem zXf : ∀(a:zdx) (y:zHn),(zCD a y).closed1=true:=by
  rintro ⟨a0_0,a0_1,a1_0,a1_1⟩ y <;> first | rfl | exact Empty.elim y
theorem z35 (a:zdx):fnE Tryz.tab zs3 zd 0 70 263 Tryz.f263.ntmps Tryz.f263.results.toList zZw z6B (zyN a) [] (fun v _=>some (v,[]))=zt1 a (fun y=>some (zCD a y,[])):=by kernel_rfl
def ZbK (a:zdx) (K:AV→Ans):Ans:=za (zel a) fun y=>K (zCD a y)
def z4U:List AV→(AV→Ans)→Ans:=fun l K=>za (zRv l) fun a=>ZbK a K
theorem zQL:zM Tryz.prog 263 z4U:=zL (hint:=zd) (d:=0) (n:=70) mixed tabOk zJd Tryz.func263 (zC (by kernel_rfl)) (by decide +kernel) z3M zVi z35 zZt zXf
--@ vector_Compare
noncomputable def zg1:Env:=[(263,.pure z4U)]
theorem zq5:zf Tryz.prog zg1:=zf.cons zQL (zf.nil)
noncomputable def zTo:Code:=Tryz.f251.body.getD .skip
noncomputable def znV:Code:=zF [1,1,0,0,0] zTo
noncomputable def zue:Ann := .none
theorem zFE:zq Tryz.prog 22 znV zue:=(zb _ _ _)
abbrev QP:=(Bool)×(Bool)
abbrev zox:=(Bool)
def zAm:QP→St:=fun (t5,t6)=>{ env:=[(5,.bool t5),(6,.bool t6)],stk:=[[]],H:=[],blk:=1028096 }
def zvI (s:St):Option {x:QP // s=zAm x}:=match s with
  | { env:=[(5,.bool t5),(6,.bool t6)],stk:=[[]],H:=[],blk:=1028096 }=>some ⟨(t5,t6),rfl⟩
  | _=>none
def zks (s:St):Option QP:=pk (zvI s)
theorem zLv (s:St) (x:QP) (h:zks s=some x):s=zAm x:=zt (o:=zvI s) h
def zlw:QP→(Ex→St→Ans)→zox→Ans:=fun (t5,t6) K=>fun t13_y=>K (Ex.norm) { env:=[(5,.bool t5),(6,.bool t6),(13,.bool t13_y)],stk:=[[]],H:=[],blk:=1028096 }
def zab {β:Type}:QP→(zox→Option β)→Option β:=fun (t5,t6) exit=>(bif t5 then (exit (t6)) else (exit (false)))
def WS (i:QP):Option zox:=zab i some
theorem zxr (i:QP) (k:zox→Ans):zab i k=za (WS i) k:=by
  obtain ⟨t5,t6⟩:=i
  simp only [WS,zab,zj,zh,zl,zc,zi,zm,zg]
theorem zE7 (i:QP) (K:Ex→St→Ans):zx Tryz.tab zg1 zd (zy Tryz.tab zg1 zd 0 64) 70 22 zue znV (zD 0 (exk [5,6,13] [4] []) K) (zAm i)=zab i (zlw i K):=by kernel_rfl
theorem zNy:zw Tryz.prog 22 znV (zH zks WS zlw):=zE mixed tabOk zq5 0 (exk [5,6,13] [4] []) zFE zLv zE7 zxr
noncomputable def zQQ:(Ex→St→Ans)→St→Ans:=(zH zks WS zlw)
theorem zSV:zw Tryz.prog 22 znV zQQ:=zNy
noncomputable def znu:Code:=zF [1,1,0] zTo
noncomputable def zth:Ann:=(.block (.seq (.cut 0 [5,6] zQQ) .none))
theorem zFy:zq Tryz.prog 22 znu zth:=⟨zSV,(zb _ _ _)⟩
abbrev jv:=(Bool)×(Bool)
abbrev zo9:=((Int)) ⊕ (Unit)
def zA4:jv→St:=fun (t5,t6)=>{ env:=[(5,.bool t5),(6,.bool t6)],stk:=[[]],H:=[],blk:=1028096 }
def zvR (s:St):Option {x:jv // s=zA4 x}:=match s with
  | { env:=[(5,.bool t5),(6,.bool t6)],stk:=[[]],H:=[],blk:=1028096 }=>some ⟨(t5,t6),rfl⟩
  | _=>none
def zmb (s:St):Option jv:=pk (zvR s)
theorem zIi (s:St) (x:jv) (h:zmb s=some x):s=zA4 x:=zt (o:=zvR s) h
def zkC:jv→(Ex→St→Ans)→zo9→Ans:=fun (t5,t6) K=>(Sum.elim (fun t4_y=>K (Ex.ret) { env:=[(4,.int .i64 t4_y)],stk:=[[]],H:=[],blk:=1028096 }) (fun _=>K (Ex.norm) { env:=[],stk:=[[]],H:=[],blk:=1028096 }))
def zaM {β:Type}:jv→(zo9→Option β)→Option β:=fun (t5,t6) exit=>(za (WS (t5,t6)) fun t13=>(bif t13 then (exit (Sum.inl ((0:Int)))) else (bif t5 then (exit (Sum.inl ((1:Int)))) else (bif t6 then (exit (Sum.inl ((2:Int)))) else (exit (Sum.inr ()))))))
def WR (i:jv):Option zo9:=zaM i some
theorem zyB (i:jv) (k:zo9→Ans):zaM i k=za (WR i) k:=by
  obtain ⟨t5,t6⟩:=i
  simp only [WR,zaM,zj,zh,zl,zc,zi,zm,zg]
theorem zFb (i:jv) (K:Ex→St→Ans):zx Tryz.tab zg1 zd (zy Tryz.tab zg1 zd 0 64) 70 22 zth znu (zD 0 (exk [] [4] []) K) (zA4 i)=zaM i (zkC i K):=by kernel_rfl
theorem zNN:zw Tryz.prog 22 znu (zH zmb WR zkC):=zE mixed tabOk zq5 0 (exk [] [4] []) zFy zIi zFb zyB
noncomputable def zQk:(Ex→St→Ans)→St→Ans:=(zH zmb WR zkC)
theorem zXL:zw Tryz.prog 22 znu zQk:=zNN
noncomputable def z0c:Ann:=(.seq .none (.seq .none (.seq (.cut 0 [5,6] zQk) .none)))
theorem z3m:zq Tryz.prog 22 zTo z0c:=⟨(zb _ _ _),⟨(zb _ _ _),⟨zXL,(zb _ _ _)⟩⟩⟩
abbrev zdN:=(Int)×(Int)×(Int)×(Int)
abbrev zKG:=(Int)
def zt7 {β:Type}:zdN→(zKG→Option β)→Option β:=fun (a0_0,a0_1,a1_0,a1_1) exit=>(za (zel (a0_0,a0_1,a1_0,a1_1)) fun r=>(za (zel (a1_0,a1_1,a0_0,a0_1)) fun r_2=>(za (WR (r,r_2)) (Sum.elim (fun t4=>(exit (t4))) (fun _=>(exit ((3:Int))))))))
def zf5 (a:zdN):Option zKG:=zt7 a some
theorem zZ7 (a:zdN) (k:zKG→Ans):zt7 a k=za (zf5 a) k:=by
  obtain ⟨a0_0,a0_1,a1_0,a1_1⟩:=a
  simp only [zf5,zt7,zj,zh,zl,zc,zi,zm,zg]
def zyX:zdN→List AV:=fun (a0_0,a0_1,a1_0,a1_1)=>[.agg [.int .i64 a0_0,.int .i64 a0_1],.agg [.int .i64 a1_0,.int .i64 a1_1]]
def zLL (l:List AV):Option {a:zdN // l=zyX a}:=match l with
  | [.agg [.int .i64 a0_0,.int .i64 a0_1],.agg [.int .i64 a1_0,.int .i64 a1_1]]=>some ⟨(a0_0,a0_1,a1_0,a1_1),rfl⟩
  | _=>none
def zSi (l:List AV):Option zdN:=pk (zLL l)
theorem zXk (l:List AV) (a:zdN) (h:zSi l=some a):l=zyX a:=zt (o:=zLL l) h
def zAl:zdN→zKG→AV:=fun (a0_0,a0_1,a1_0,a1_1)=>fun r_y => .int .i64 r_y
theorem zUg : ∀(a:zdN) (y:zKG),(zAl a y).closed1=true:=by
  rintro ⟨a0_0,a0_1,a1_0,a1_1⟩ y <;> first | rfl | exact Empty.elim y
theorem z6J (a:zdN):fnE Tryz.tab zg1 zd 0 70 251 Tryz.f251.ntmps Tryz.f251.results.toList z0c zTo (zyX a) [] (fun v _=>some (v,[]))=zt7 a (fun y=>some (zAl a y,[])):=by kernel_rfl
def ZbO (a:zdN) (K:AV→Ans):Ans:=za (zf5 a) fun y=>K (zAl a y)
def z5z:List AV→(AV→Ans)→Ans:=fun l K=>za (zSi l) fun a=>ZbO a K
theorem zRc:zM Tryz.prog 251 z5z:=zL (hint:=zd) (d:=0) (n:=70) mixed tabOk zq5 Tryz.func251 (zC (by kernel_rfl)) (by decide +kernel) z3m zXk z6J zZ7 zUg
--@ slot_Check
noncomputable def Wt:Env:=[(224,.pure zTs),(251,.pure z5z)]
theorem zbA:zf Tryz.prog Wt:=zf.cons zA7 (zf.cons zRc (zf.nil))
noncomputable def zrv:Code:=Tryz.f233.body.getD .skip
noncomputable def zny:Code:=zF [1,0,0,1,1,1,1,0,1] zrv
noncomputable def zw4:Ann := .none
theorem zED:zq Tryz.prog 51 zny zw4:=(zb _ _ _)
abbrev Qx:=(Bool)×(Int)×(Int)×(Int)×(List UInt8)×(Int)×(Int)×(List UInt8)
abbrev zng:=(Bool)
def zz6:Qx→St:=fun (t33,o0_0,o0_1,o0_2,o0_3,o0_4,o0_5,o0_6)=>{ env:=[(1,.ptr 0 0),(33,.bool t33)],stk:=[[]],H:=[.cells [.int .i64 o0_0,.int .i64 o0_1,.int .i64 o0_2,.str o0_3,.int .i64 o0_4,.int .i64 o0_5,.str o0_6]],blk:=954368 }
def zwp (s:St):Option {x:Qx // s=zz6 x}:=match s with
  | { env:=[(1,.ptr 0 0),(33,.bool t33)],stk:=[[]],H:=[.cells [.int .i64 o0_0,.int .i64 o0_1,.int .i64 o0_2,.str o0_3,.int .i64 o0_4,.int .i64 o0_5,.str o0_6]],blk:=954368 }=>some ⟨(t33,o0_0,o0_1,o0_2,o0_3,o0_4,o0_5,o0_6),rfl⟩
  | _=>none
def zmE (s:St):Option Qx:=pk (zwp s)
theorem zL7 (s:St) (x:Qx) (h:zmE s=some x):s=zz6 x:=zt (o:=zwp s) h
def zlX:Qx→(Ex→St→Ans)→zng→Ans:=fun (t33,o0_0,o0_1,o0_2,o0_3,o0_4,o0_5,o0_6) K=>fun t33_y=>K (Ex.norm) { env:=[(33,.bool t33_y)],stk:=[[]],H:=[],blk:=954368 }
def zbi {β:Type}:Qx→(zng→Option β)→Option β:=fun (t33,o0_0,o0_1,o0_2,o0_3,o0_4,o0_5,o0_6) exit=>(bif t33 then (exit (t33)) else (exit (decide (o0_1<o0_4))))
def qh (i:Qx):Option zng:=zbi i some
theorem zAO (i:Qx) (k:zng→Ans):zbi i k=za (qh i) k:=by
  obtain ⟨t33,o0_0,o0_1,o0_2,o0_3,o0_4,o0_5,o0_6⟩:=i
  simp only [qh,zbi,zj,zh,zl,zc,zi,zm,zg]
theorem zFQ (i:Qx) (K:Ex→St→Ans):zx Tryz.tab Wt zd (zy Tryz.tab Wt zd 0 64) 70 51 zw4 zny (zD 0 (exk [33] [2] []) K) (zz6 i)=zbi i (zlX i K):=by kernel_rfl
theorem zNk:zw Tryz.prog 51 zny (zH zmE qh zlX):=zE mixed tabOk zbA 0 (exk [33] [2] []) zED zL7 zFQ zAO
noncomputable def zPf:(Ex→St→Ans)→St→Ans:=(zH zmE qh zlX)
theorem zXF:zw Tryz.prog 51 zny zPf:=zNk
noncomputable def zql:Code:=zF [1,0,0,1,1,0,1] zrv
noncomputable def zvV:Ann := .none
theorem zFi:zq Tryz.prog 51 zql zvV:=(zb _ _ _)
abbrev jK:=(Bool)×(Int)×(Int)×(Int)×(List UInt8)×(Int)×(Int)×(List UInt8)
abbrev zoA:=(Bool)
def zA5:jK→St:=fun (t22,o0_0,o0_1,o0_2,o0_3,o0_4,o0_5,o0_6)=>{ env:=[(1,.ptr 0 0),(22,.bool t22)],stk:=[[]],H:=[.cells [.int .i64 o0_0,.int .i64 o0_1,.int .i64 o0_2,.str o0_3,.int .i64 o0_4,.int .i64 o0_5,.str o0_6]],blk:=954368 }
def zt4 (s:St):Option {x:jK // s=zA5 x}:=match s with
  | { env:=[(1,.ptr 0 0),(22,.bool t22)],stk:=[[]],H:=[.cells [.int .i64 o0_0,.int .i64 o0_1,.int .i64 o0_2,.str o0_3,.int .i64 o0_4,.int .i64 o0_5,.str o0_6]],blk:=954368 }=>some ⟨(t22,o0_0,o0_1,o0_2,o0_3,o0_4,o0_5,o0_6),rfl⟩
  | _=>none
def zmD (s:St):Option jK:=pk (zt4 s)
theorem zJn (s:St) (x:jK) (h:zmD s=some x):s=zA5 x:=zt (o:=zt4 s) h
def zlO:jK→(Ex→St→Ans)→zoA→Ans:=fun (t22,o0_0,o0_1,o0_2,o0_3,o0_4,o0_5,o0_6) K=>fun t22_y=>K (Ex.norm) { env:=[(1,.ptr 0 0),(22,.bool t22_y)],stk:=[[]],H:=[.cells [.int .i64 o0_0,.int .i64 o0_1,.int .i64 o0_2,.str o0_3,.int .i64 o0_4,.int .i64 o0_5,.str o0_6]],blk:=954368 }
def JR {β:Type}:jK→(zoA→Option β)→Option β:=fun (t22,o0_0,o0_1,o0_2,o0_3,o0_4,o0_5,o0_6) exit=>(bif t22 then (exit (t22)) else (exit ((↑(List.length o0_6):Int) != (128:Int))))
def WQ (i:jK):Option zoA:=JR i some
theorem zyA (i:jK) (k:zoA→Ans):JR i k=za (WQ i) k:=by
  obtain ⟨t22,o0_0,o0_1,o0_2,o0_3,o0_4,o0_5,o0_6⟩:=i
  simp only [WQ,JR,zj,zh,zl,zc,zi,zm,zg]
theorem zEe (i:jK) (K:Ex→St→Ans):zx Tryz.tab Wt zd (zy Tryz.tab Wt zd 0 64) 70 51 zvV zql (zD 0 (exk [1,22] [2] []) K) (zA5 i)=JR i (zlO i K):=by kernel_rfl
theorem zN4:zw Tryz.prog 51 zql (zH zmD WQ zlO):=zE mixed tabOk zbA 0 (exk [1,22] [2] []) zFi zJn zEe zyA
noncomputable def zRX:(Ex→St→Ans)→St→Ans:=(zH zmD WQ zlO)
theorem zVj:zw Tryz.prog 51 zql zRX:=zN4
noncomputable def zm1:Code:=zF [1,0,0,0,1] zrv
noncomputable def zug:Ann := .none
theorem zFG:zq Tryz.prog 51 zm1 zug:=(zb _ _ _)
abbrev jd:=(Bool)×(Int)×(Int)×(Int)×(List UInt8)×(Int)×(Int)×(List UInt8)
abbrev zpn:=(Bool)
def zyo:jd→St:=fun (t3,o0_0,o0_1,o0_2,o0_3,o0_4,o0_5,o0_6)=>{ env:=[(1,.ptr 0 0),(3,.bool t3)],stk:=[[]],H:=[.cells [.int .i64 o0_0,.int .i64 o0_1,.int .i64 o0_2,.str o0_3,.int .i64 o0_4,.int .i64 o0_5,.str o0_6]],blk:=954368 }
def ztM (s:St):Option {x:jd // s=zyo x}:=match s with
  | { env:=[(1,.ptr 0 0),(3,.bool t3)],stk:=[[]],H:=[.cells [.int .i64 o0_0,.int .i64 o0_1,.int .i64 o0_2,.str o0_3,.int .i64 o0_4,.int .i64 o0_5,.str o0_6]],blk:=954368 }=>some ⟨(t3,o0_0,o0_1,o0_2,o0_3,o0_4,o0_5,o0_6),rfl⟩
  | _=>none
def zl8 (s:St):Option jd:=pk (ztM s)
theorem zHp (s:St) (x:jd) (h:zl8 s=some x):s=zyo x:=zt (o:=ztM s) h
def zlC:jd→(Ex→St→Ans)→zpn→Ans:=fun (t3,o0_0,o0_1,o0_2,o0_3,o0_4,o0_5,o0_6) K=>fun t3_y=>K (Ex.norm) { env:=[(1,.ptr 0 0),(3,.bool t3_y)],stk:=[[]],H:=[.cells [.int .i64 o0_0,.int .i64 o0_1,.int .i64 o0_2,.str o0_3,.int .i64 o0_4,.int .i64 o0_5,.str o0_6]],blk:=954368 }
def za2 {β:Type}:jd→(zpn→Option β)→Option β:=fun (t3,o0_0,o0_1,o0_2,o0_3,o0_4,o0_5,o0_6) exit=>(bif t3 then (exit (t3)) else (za (zcy (o0_1,o0_2)) fun r=>(bif !r then (exit (!r)) else (za (zcy (o0_4,o0_5)) fun r_2=>(exit (!r_2))))))
def WT (i:jd):Option zpn:=za2 i some
theorem zAK (i:jd) (k:zpn→Ans):za2 i k=za (WT i) k:=by
  obtain ⟨t3,o0_0,o0_1,o0_2,o0_3,o0_4,o0_5,o0_6⟩:=i
  simp only [WT,za2,zj,zh,zl,zc,zi,zm,zg]
theorem zEZ (i:jd) (K:Ex→St→Ans):zx Tryz.tab Wt zd (zy Tryz.tab Wt zd 0 64) 70 51 zug zm1 (zD 0 (exk [1,3] [2] []) K) (zyo i)=za2 i (zlC i K):=by kernel_rfl
theorem zOA:zw Tryz.prog 51 zm1 (zH zl8 WT zlC):=zE mixed tabOk zbA 0 (exk [1,3] [2] []) zFG zHp zEZ zAK
noncomputable def zQn:(Ex→St→Ans)→St→Ans:=(zH zl8 WT zlC)
theorem zVA:zw Tryz.prog 51 zm1 zQn:=zOA
noncomputable def zqj:Code:=zF [1,0,0,0,0] zrv
noncomputable def zub:Ann := .none
theorem zEh:zq Tryz.prog 51 zqj zub:=(zb _ _ _)
abbrev Qc:=(Int)×(Int)×(Int)×(List UInt8)×(Int)×(Int)×(List UInt8)
abbrev znt:=(Bool)
def zz5:Qc→St:=fun (o0_0,o0_1,o0_2,o0_3,o0_4,o0_5,o0_6)=>{ env:=[(1,.ptr 0 0)],stk:=[[]],H:=[.cells [.int .i64 o0_0,.int .i64 o0_1,.int .i64 o0_2,.str o0_3,.int .i64 o0_4,.int .i64 o0_5,.str o0_6]],blk:=954368 }
def zsZ (s:St):Option {x:Qc // s=zz5 x}:=match s with
  | { env:=[(1,.ptr 0 0)],stk:=[[]],H:=[.cells [.int .i64 o0_0,.int .i64 o0_1,.int .i64 o0_2,.str o0_3,.int .i64 o0_4,.int .i64 o0_5,.str o0_6]],blk:=954368 }=>some ⟨(o0_0,o0_1,o0_2,o0_3,o0_4,o0_5,o0_6),rfl⟩
  | _=>none
def zkH (s:St):Option Qc:=pk (zsZ s)
theorem zHD (s:St) (x:Qc) (h:zkH s=some x):s=zz5 x:=zt (o:=zsZ s) h
def zjT:Qc→(Ex→St→Ans)→znt→Ans:=fun (o0_0,o0_1,o0_2,o0_3,o0_4,o0_5,o0_6) K=>fun t3_y=>K (Ex.norm) { env:=[(1,.ptr 0 0),(3,.bool t3_y)],stk:=[[]],H:=[.cells [.int .i64 o0_0,.int .i64 o0_1,.int .i64 o0_2,.str o0_3,.int .i64 o0_4,.int .i64 o0_5,.str o0_6]],blk:=954368 }
def zat {β:Type}:Qc→(znt→Option β)→Option β:=fun (o0_0,o0_1,o0_2,o0_3,o0_4,o0_5,o0_6) exit=>(bif decide (o0_0<(0:Int)) then (exit (true)) else (exit (decide (o0_0≥(24:Int)))))
def WA (i:Qc):Option znt:=zat i some
theorem zA8 (i:Qc) (k:znt→Ans):zat i k=za (WA i) k:=by
  obtain ⟨o0_0,o0_1,o0_2,o0_3,o0_4,o0_5,o0_6⟩:=i
  simp only [WA,zat,zj,zh,zl,zc,zi,zm,zg]
theorem zD8 (i:Qc) (K:Ex→St→Ans):zx Tryz.tab Wt zd (zy Tryz.tab Wt zd 0 64) 70 51 zub zqj (zD 0 (exk [1,3] [2] []) K) (zz5 i)=zat i (zjT i K):=by kernel_rfl
theorem zNQ:zw Tryz.prog 51 zqj (zH zkH WA zjT):=zE mixed tabOk zbA 0 (exk [1,3] [2] []) zEh zHD zD8 zA8
noncomputable def zPL:(Ex→St→Ans)→St→Ans:=(zH zkH WA zjT)
theorem zTM:zw Tryz.prog 51 zqj zPL:=zNQ
noncomputable def zn1:Code:=zF [1,0] zrv
noncomputable def zsG:Ann:=(.block (.seq (.seq (.cut 0 [1] zPL) (.cut 0 [1,3] zQn)) (.cond .none (.seq (.seq .none (.cut 0 [1,22] zRX)) (.cond .none (.seq (.seq .none (.cut 0 [1,33] zPf)) .none))))))
theorem zGD:zq Tryz.prog 51 zn1 zsG:=⟨⟨zTM,zVA⟩,⟨(zb _ _ _),⟨⟨(zb _ _ _),zVj⟩,⟨(zb _ _ _),⟨⟨(zb _ _ _),zXF⟩,(zb _ _ _)⟩⟩⟩⟩⟩
abbrev QT:=(Int)×(Int)×(Int)×(List UInt8)×(Int)×(Int)×(List UInt8)
abbrev zoD:=((Int)) ⊕ (Unit)
def zx4:QT→St:=fun (o0_0,o0_1,o0_2,o0_3,o0_4,o0_5,o0_6)=>{ env:=[(1,.ptr 0 0)],stk:=[[]],H:=[.cells [.int .i64 o0_0,.int .i64 o0_1,.int .i64 o0_2,.str o0_3,.int .i64 o0_4,.int .i64 o0_5,.str o0_6]],blk:=954368 }
def zvB (s:St):Option {x:QT // s=zx4 x}:=match s with
  | { env:=[(1,.ptr 0 0)],stk:=[[]],H:=[.cells [.int .i64 o0_0,.int .i64 o0_1,.int .i64 o0_2,.str o0_3,.int .i64 o0_4,.int .i64 o0_5,.str o0_6]],blk:=954368 }=>some ⟨(o0_0,o0_1,o0_2,o0_3,o0_4,o0_5,o0_6),rfl⟩
  | _=>none
def zmP (s:St):Option QT:=pk (zvB s)
theorem zKY (s:St) (x:QT) (h:zmP s=some x):s=zx4 x:=zt (o:=zvB s) h
def zjo:QT→(Ex→St→Ans)→zoD→Ans:=fun (o0_0,o0_1,o0_2,o0_3,o0_4,o0_5,o0_6) K=>(Sum.elim (fun t2_y=>K (Ex.ret) { env:=[(2,.int .i64 t2_y)],stk:=[[]],H:=[],blk:=954368 }) (fun _=>K (Ex.norm) { env:=[],stk:=[[]],H:=[],blk:=954368 }))
def zaf {β:Type}:QT→(zoD→Option β)→Option β:=fun (o0_0,o0_1,o0_2,o0_3,o0_4,o0_5,o0_6) exit=>(za (WA (o0_0,o0_1,o0_2,o0_3,o0_4,o0_5,o0_6)) fun t3=>(za (WT (t3,o0_0,o0_1,o0_2,o0_3,o0_4,o0_5,o0_6)) fun t3_2=>(bif t3_2 then (exit (Sum.inl ((3:Int)))) else (za (WQ ((↑(List.length o0_3):Int) != (128:Int),o0_0,o0_1,o0_2,o0_3,o0_4,o0_5,o0_6)) fun t22=>(bif t22 then (exit (Sum.inl ((12:Int)))) else (za (zf5 (o0_1,o0_2,o0_4,o0_5)) fun r=>(za (qh (r != (3:Int),o0_0,o0_1,o0_2,o0_3,o0_4,o0_5,o0_6)) fun t33=>(bif t33 then (exit (Sum.inl ((10:Int)))) else (exit (Sum.inr ()))))))))))
def WN (i:QT):Option zoD:=zaf i some
theorem zzL (i:QT) (k:zoD→Ans):zaf i k=za (WN i) k:=by
  obtain ⟨o0_0,o0_1,o0_2,o0_3,o0_4,o0_5,o0_6⟩:=i
  simp only [WN,zaf,zj,zh,zl,zc,zi,zm,zg]
theorem zEz (i:QT) (K:Ex→St→Ans):zx Tryz.tab Wt zd (zy Tryz.tab Wt zd 0 64) 70 51 zsG zn1 (zD 0 (exk [] [2] []) K) (zx4 i)=zaf i (zjo i K):=by kernel_rfl
theorem zOI:zw Tryz.prog 51 zn1 (zH zmP WN zjo):=zE mixed tabOk zbA 0 (exk [] [2] []) zGD zKY zEz zzL
noncomputable def zPK:(Ex→St→Ans)→St→Ans:=(zH zmP WN zjo)
theorem zTc:zw Tryz.prog 51 zn1 zPK:=zOI
noncomputable def zYg:Ann:=(.seq .none (.seq (.cut 0 [1] zPK) .none))
theorem zX9:zq Tryz.prog 51 zrv zYg:=⟨(zb _ _ _),⟨zTc,(zb _ _ _)⟩⟩
abbrev zd6:=(Int)×(Int)×(Int)×(List UInt8)×(Int)×(Int)×(List UInt8)
abbrev zIc:=(Int)
def zsH {β:Type}:zd6→(zIc→Option β)→Option β:=fun (a0_0,a0_1,a0_2,a0_3,a0_4,a0_5,a0_6) exit=>(za (WN (a0_0,a0_1,a0_2,a0_3,a0_4,a0_5,a0_6)) (Sum.elim (fun t2=>(exit (t2))) (fun _=>(exit ((0:Int))))))
def zgY (a:zd6):Option zIc:=zsH a some
theorem z2y (a:zd6) (k:zIc→Ans):zsH a k=za (zgY a) k:=by
  obtain ⟨a0_0,a0_1,a0_2,a0_3,a0_4,a0_5,a0_6⟩:=a
  simp only [zgY,zsH,zj,zh,zl,zc,zi,zm,zg]
def zyJ:zd6→List AV:=fun (a0_0,a0_1,a0_2,a0_3,a0_4,a0_5,a0_6)=>[.agg [.int .i64 a0_0,.int .i64 a0_1,.int .i64 a0_2,.str a0_3,.int .i64 a0_4,.int .i64 a0_5,.str a0_6]]
def zMP (l:List AV):Option {a:zd6 // l=zyJ a}:=match l with
  | [.agg [.int .i64 a0_0,.int .i64 a0_1,.int .i64 a0_2,.str a0_3,.int .i64 a0_4,.int .i64 a0_5,.str a0_6]]=>some ⟨(a0_0,a0_1,a0_2,a0_3,a0_4,a0_5,a0_6),rfl⟩
  | _=>none
def zQH (l:List AV):Option zd6:=pk (zMP l)
theorem zXh (l:List AV) (a:zd6) (h:zQH l=some a):l=zyJ a:=zt (o:=zMP l) h
def zyx:zd6→zIc→AV:=fun (a0_0,a0_1,a0_2,a0_3,a0_4,a0_5,a0_6)=>fun r_y => .int .i64 r_y
theorem zSH : ∀(a:zd6) (y:zIc),(zyx a y).closed1=true:=by
  rintro ⟨a0_0,a0_1,a0_2,a0_3,a0_4,a0_5,a0_6⟩ y <;> first | rfl | exact Empty.elim y
theorem z4T (a:zd6):fnE Tryz.tab Wt zd 0 70 233 Tryz.f233.ntmps Tryz.f233.results.toList zYg zrv (zyJ a) [] (fun v _=>some (v,[]))=zsH a (fun y=>some (zyx a y,[])):=by kernel_rfl
def ZbP (a:zd6) (K:AV→Ans):Ans:=za (zgY a) fun y=>K (zyx a y)
def z3S:List AV→(AV→Ans)→Ans:=fun l K=>za (zQH l) fun a=>ZbP a K
theorem zRo:zM Tryz.prog 233 z3S:=zL (hint:=zd) (d:=0) (n:=70) mixed tabOk zbA Tryz.func233 (zC (by kernel_rfl)) (by decide +kernel) zX9 zXh z4T z2y zSH
--@ state_double_check
noncomputable def zxd:Env:=[(233,.pure z3S)]
theorem zJ2:zf Tryz.prog zxd:=zf.cons zRo (zf.nil)
noncomputable def z64:Code:=Tryz.f312.body.getD .skip
noncomputable def zqp:Code:=zF [1,1,0,0] z64
noncomputable def zsd:Ann := .none
theorem zDz:zq Tryz.prog 36 zqp zsd:=(zb _ _ _)
abbrev Qw:=(Int)×(Int)×(Int)×(List UInt8)×(Int)×(Int)×(List UInt8)×(Int)×(Int)×(List UInt8)
abbrev zpU:=(Bool)
def zyY:Qw→St:=fun (o0_0,o0_1,o0_2,o0_3,o0_4,o0_5,o0_6,o0_7,o0_8,o0_9)=>{ env:=[(1,.ptr 0 0)],stk:=[[]],H:=[.cells [.int .i64 o0_0,.int .i64 o0_1,.int .i64 o0_2,.str o0_3,.int .i64 o0_4,.int .i64 o0_5,.str o0_6,.int .i64 o0_7,.int .i64 o0_8,.str o0_9]],blk:=1277952 }
def zwi (s:St):Option {x:Qw // s=zyY x}:=match s with
  | { env:=[(1,.ptr 0 0)],stk:=[[]],H:=[.cells [.int .i64 o0_0,.int .i64 o0_1,.int .i64 o0_2,.str o0_3,.int .i64 o0_4,.int .i64 o0_5,.str o0_6,.int .i64 o0_7,.int .i64 o0_8,.str o0_9]],blk:=1277952 }=>some ⟨(o0_0,o0_1,o0_2,o0_3,o0_4,o0_5,o0_6,o0_7,o0_8,o0_9),rfl⟩
  | _=>none
def zmQ (s:St):Option Qw:=pk (zwi s)
theorem zIZ (s:St) (x:Qw) (h:zmQ s=some x):s=zyY x:=zt (o:=zwi s) h
def zli:Qw→(Ex→St→Ans)→zpU→Ans:=fun (o0_0,o0_1,o0_2,o0_3,o0_4,o0_5,o0_6,o0_7,o0_8,o0_9) K=>fun t35_y=>K (Ex.norm) { env:=[(35,.bool t35_y)],stk:=[[]],H:=[],blk:=1277952 }
def zaI {β:Type}:Qw→(zpU→Option β)→Option β:=fun (o0_0,o0_1,o0_2,o0_3,o0_4,o0_5,o0_6,o0_7,o0_8,o0_9) exit=>(bif !(o0_1 == o0_4&&(o0_2 == o0_8&&true)) then (exit (true)) else (exit (!o0_3 == [])))
def WL (i:Qw):Option zpU:=zaI i some
theorem zxE (i:Qw) (k:zpU→Ans):zaI i k=za (WL i) k:=by
  obtain ⟨o0_0,o0_1,o0_2,o0_3,o0_4,o0_5,o0_6,o0_7,o0_8,o0_9⟩:=i
  simp only [WL,zaI,zj,zh,zl,zc,zi,zm,zg]
theorem zFF (i:Qw) (K:Ex→St→Ans):zx Tryz.tab zxd zd (zy Tryz.tab zxd zd 0 64) 70 36 zsd zqp (zD 0 (exk [35] [2] []) K) (zyY i)=zaI i (zli i K):=by kernel_rfl
theorem zOz:zw Tryz.prog 36 zqp (zH zmQ WL zli):=zE mixed tabOk zJ2 0 (exk [35] [2] []) zDz zIZ zFF zxE
noncomputable def zRQ:(Ex→St→Ans)→St→Ans:=(zH zmQ WL zli)
theorem zUu:zw Tryz.prog 36 zqp zRQ:=zOz
noncomputable def z1k:Ann:=(.seq .none (.seq .none (.seq (.seq (.cut 0 [1] zRQ) .none) .none)))
theorem z3l:zq Tryz.prog 36 z64 z1k:=⟨(zb _ _ _),⟨(zb _ _ _),⟨⟨zUu,(zb _ _ _)⟩,(zb _ _ _)⟩⟩⟩
abbrev zeR:=(Int)×(Int)×(Int)×(List UInt8)×(Int)×(Int)×(List UInt8)×(Int)×(Int)×(List UInt8)
abbrev zIo:=(Int)
def zs6 {β:Type}:zeR→(zIo→Option β)→Option β:=fun (a0_0,a0_1,a0_2,a0_3,a0_4,a0_5,a0_6,a0_7,a0_8,a0_9) exit=>(za (zgY ((0:Int),a0_4,a0_5,a0_6,a0_7,a0_8,a0_9)) fun r=>(bif r != (0:Int) then (exit (r)) else (za (WL (a0_0,a0_1,a0_2,a0_3,a0_4,a0_5,a0_6,a0_7,a0_8,a0_9)) fun t35=>(bif t35 then (exit ((4:Int))) else (exit ((0:Int)))))))
def zkn (a:zeR):Option zIo:=zs6 a some
theorem z0J (a:zeR) (k:zIo→Ans):zs6 a k=za (zkn a) k:=by
  obtain ⟨a0_0,a0_1,a0_2,a0_3,a0_4,a0_5,a0_6,a0_7,a0_8,a0_9⟩:=a
  simp only [zkn,zs6,zj,zh,zl,zc,zi,zm,zg]
def zxT:zeR→List AV:=fun (a0_0,a0_1,a0_2,a0_3,a0_4,a0_5,a0_6,a0_7,a0_8,a0_9)=>[.agg [.int .i64 a0_0,.int .i64 a0_1,.int .i64 a0_2,.str a0_3,.int .i64 a0_4,.int .i64 a0_5,.str a0_6,.int .i64 a0_7,.int .i64 a0_8,.str a0_9]]
def zJJ (l:List AV):Option {a:zeR // l=zxT a}:=match l with
  | [.agg [.int .i64 a0_0,.int .i64 a0_1,.int .i64 a0_2,.str a0_3,.int .i64 a0_4,.int .i64 a0_5,.str a0_6,.int .i64 a0_7,.int .i64 a0_8,.str a0_9]]=>some ⟨(a0_0,a0_1,a0_2,a0_3,a0_4,a0_5,a0_6,a0_7,a0_8,a0_9),rfl⟩
  | _=>none
def zPI (l:List AV):Option zeR:=pk (zJJ l)
theorem zT7 (l:List AV) (a:zeR) (h:zPI l=some a):l=zxT a:=zt (o:=zJJ l) h
def zxA:zeR→zIo→AV:=fun (a0_0,a0_1,a0_2,a0_3,a0_4,a0_5,a0_6,a0_7,a0_8,a0_9)=>fun r_y => .int .i64 r_y
theorem zWj : ∀(a:zeR) (y:zIo),(zxA a y).closed1=true:=by
  rintro ⟨a0_0,a0_1,a0_2,a0_3,a0_4,a0_5,a0_6,a0_7,a0_8,a0_9⟩ y <;> first | rfl | exact Empty.elim y
theorem z4v (a:zeR):fnE Tryz.tab zxd zd 0 70 312 Tryz.f312.ntmps Tryz.f312.results.toList z1k z64 (zxT a) [] (fun v _=>some (v,[]))=zs6 a (fun y=>some (zxA a y,[])):=by kernel_rfl
def ZcN (a:zeR) (K:AV→Ans):Ans:=za (zkn a) fun y=>K (zxA a y)
def z4G:List AV→(AV→Ans)→Ans:=fun l K=>za (zPI l) fun a=>ZcN a K
theorem zPs:zM Tryz.prog 312 z4G:=zL (hint:=zd) (d:=0) (n:=70) mixed tabOk zJ2 Tryz.func312 (zC (by kernel_rfl)) (by decide +kernel) z3l zT7 z4v z0J zWj
--@ state_Check
noncomputable def z24:Env:=[(70,.func zXx),(311,.pure z36),(312,.pure z4G)]
theorem z5u:zf Tryz.prog z24:=zf.cons zAI (zf.cons zQ6 (zf.cons zPs (zf.nil)))
noncomputable def ZaK:Code:=Tryz.f35.body.getD .skip
noncomputable def zYC:Ann := .none
theorem zYh:zq Tryz.prog 10 ZaK zYC:=(zb _ _ _)
abbrev zdM:=(Int)×(Int)×(Int)×(List UInt8)×(Int)×(Int)×(List UInt8)×(Int)×(Int)×(List UInt8)
abbrev zMv:=(Int)
def ztS {β:Type}:zdM→(zMv→Option β)→Option β:=fun (a0_0,a0_1,a0_2,a0_3,a0_4,a0_5,a0_6,a0_7,a0_8,a0_9) exit=>(za (zdC (a0_0,a0_1,a0_2,a0_3,a0_4,a0_5,a0_6,a0_7,a0_8,a0_9)) (Sum.elim (fun _=>(za (zkr (a0_0,a0_1,a0_2,a0_3,a0_4,a0_5,a0_6,a0_7,a0_8,a0_9)) fun r=>(exit (r)))) ((Sum.elim (fun _=>(za (zkn (a0_0,a0_1,a0_2,a0_3,a0_4,a0_5,a0_6,a0_7,a0_8,a0_9)) fun r=>(exit (r)))) (fun _=>(exit ((7:Int))))))))
def zaP (a:zdM):Option zMv:=ztS a some
theorem z0Z (a:zdM) (k:zMv→Ans):ztS a k=za (zaP a) k:=by
  obtain ⟨a0_0,a0_1,a0_2,a0_3,a0_4,a0_5,a0_6,a0_7,a0_8,a0_9⟩:=a
  simp only [zaP,ztS,zj,zh,zl,zc,zi,zm,zg]
def zzt:zdM→List AV:=fun (a0_0,a0_1,a0_2,a0_3,a0_4,a0_5,a0_6,a0_7,a0_8,a0_9)=>[.agg [.int .i64 a0_0,.int .i64 a0_1,.int .i64 a0_2,.str a0_3,.int .i64 a0_4,.int .i64 a0_5,.str a0_6,.int .i64 a0_7,.int .i64 a0_8,.str a0_9]]
def zMT (l:List AV):Option {a:zdM // l=zzt a}:=match l with
  | [.agg [.int .i64 a0_0,.int .i64 a0_1,.int .i64 a0_2,.str a0_3,.int .i64 a0_4,.int .i64 a0_5,.str a0_6,.int .i64 a0_7,.int .i64 a0_8,.str a0_9]]=>some ⟨(a0_0,a0_1,a0_2,a0_3,a0_4,a0_5,a0_6,a0_7,a0_8,a0_9),rfl⟩
  | _=>none
def zP5 (l:List AV):Option zdM:=pk (zMT l)
theorem zUW (l:List AV) (a:zdM) (h:zP5 l=some a):l=zzt a:=zt (o:=zMT l) h
def zBV:zdM→zMv→AV:=fun (a0_0,a0_1,a0_2,a0_3,a0_4,a0_5,a0_6,a0_7,a0_8,a0_9)=>fun r_y => .int .i64 r_y
theorem zS0 : ∀(a:zdM) (y:zMv),(zBV a y).closed1=true:=by
  rintro ⟨a0_0,a0_1,a0_2,a0_3,a0_4,a0_5,a0_6,a0_7,a0_8,a0_9⟩ y <;> first | rfl | exact Empty.elim y
theorem z7D (a:zdM):fnE Tryz.tab z24 zd 0 70 35 Tryz.f35.ntmps Tryz.f35.results.toList zYC ZaK (zzt a) [] (fun v _=>some (v,[]))=ztS a (fun y=>some (zBV a y,[])):=by kernel_rfl
def Zb0 (a:zdM) (K:AV→Ans):Ans:=za (zaP a) fun y=>K (zBV a y)
def zMn:List AV→(AV→Ans)→Ans:=fun l K=>za (zP5 l) fun a=>Zb0 a K
theorem zpW:zM Tryz.prog 35 zMn:=zL (hint:=zd) (d:=0) (n:=70) mixed tabOk z5u Tryz.func35 (zC (by kernel_rfl)) (by decide +kernel) zYh zUW z7D z0Z zS0
--@ state_Get
noncomputable def zf4:Env:=[(49,.func zx3),(51,.func zr1),(96,.func zT3),(95,.func z68),(35,.pure zMn)]
theorem zrZ:zf Tryz.prog zf4:=zf.cons zgI (zf.cons zdl (zf.cons zBw (zf.cons zRI (zf.cons zpW (zf.nil)))))
noncomputable def zUa:Code:=Tryz.f54.body.getD .skip
noncomputable def zpr:Code:=zF [1,1,1,1,1,0,1] zUa
noncomputable def zwb:Ann := .none
theorem zDA:zq Tryz.prog 55 zpr zwb:=(zb _ _ _)
abbrev Qr:=(Int)×(Bool)×(Int)×(Int)×(Int)×(List UInt8)×(Int)×(Int)×(List UInt8)×(Int)×(Int)×(List UInt8)
abbrev zpo:=(Int)
def zzc:Qr→St:=fun (t7,t47,o1_0,o1_1,o1_2,o1_3,o1_4,o1_5,o1_6,o1_7,o1_8,o1_9)=>{ env:=[(2,.ptr 0 0),(5,.ptr 1 0),(7,.int .i64 t7),(47,.bool t47)],stk:=[[]],H:=[.cells [.int .i64 (0),.int .i64 (0),.int .i64 (0),.str ([]),.int .i64 (0),.int .i64 (0),.str ([]),.int .i64 (0),.int .i64 (0),.str ([])],.cells [.int .i64 o1_0,.int .i64 o1_1,.int .i64 o1_2,.str o1_3,.int .i64 o1_4,.int .i64 o1_5,.str o1_6,.int .i64 o1_7,.int .i64 o1_8,.str o1_9]],blk:=221184 }
def zuX (s:St):Option {x:Qr // s=zzc x}:=match s with
  | { env:=[(2,.ptr 0 0),(5,.ptr 1 0),(7,.int .i64 t7),(47,.bool t47)],stk:=[[]],H:=[.cells [.int .i64 r2,.int .i64 r3,.int .i64 r4,.str r5,.int .i64 r6,.int .i64 r7,.str r8,.int .i64 r9,.int .i64 r10,.str r11],.cells [.int .i64 o1_0,.int .i64 o1_1,.int .i64 o1_2,.str o1_3,.int .i64 o1_4,.int .i64 o1_5,.str o1_6,.int .i64 o1_7,.int .i64 o1_8,.str o1_9]],blk:=221184 }=>if h2:r2=0 then if h3:r3=0 then if h4:r4=0 then if h5:r5=[] then if h6:r6=0 then if h7:r7=0 then if h8:r8=[] then if h9:r9=0 then if h10:r10=0 then if h11:r11=[] then some ⟨(t7,t47,o1_0,o1_1,o1_2,o1_3,o1_4,o1_5,o1_6,o1_7,o1_8,o1_9),by subst h2 h3 h4 h5 h6 h7 h8 h9 h10 h11;rfl⟩ else none else none else none else none else none else none else none else none else none else none
  | _=>none
def zlh (s:St):Option Qr:=pk (zuX s)
theorem zKu (s:St) (x:Qr) (h:zlh s=some x):s=zzc x:=zt (o:=zuX s) h
def zlc:Qr→(Ex→St→Ans)→zpo→Ans:=fun (t7,t47,o1_0,o1_1,o1_2,o1_3,o1_4,o1_5,o1_6,o1_7,o1_8,o1_9) K=>fun t7_y=>K (Ex.norm) { env:=[(2,.ptr 0 0),(5,.ptr 1 0),(7,.int .i64 t7_y)],stk:=[[]],H:=[.cells [.int .i64 (0),.int .i64 (0),.int .i64 (0),.str ([]),.int .i64 (0),.int .i64 (0),.str ([]),.int .i64 (0),.int .i64 (0),.str ([])],.cells [.int .i64 o1_0,.int .i64 o1_1,.int .i64 o1_2,.str o1_3,.int .i64 o1_4,.int .i64 o1_5,.str o1_6,.int .i64 o1_7,.int .i64 o1_8,.str o1_9]],blk:=221184 }
def J9 {β:Type}:Qr→(zpo→Option β)→Option β:=fun (t7,t47,o1_0,o1_1,o1_2,o1_3,o1_4,o1_5,o1_6,o1_7,o1_8,o1_9) exit=>(bif t47 then (za (zaP (o1_0,o1_1,o1_2,o1_3,o1_4,o1_5,o1_6,o1_7,o1_8,o1_9)) fun r=>(exit (r))) else (exit (t7)))
def W3 (i:Qr):Option zpo:=J9 i some
theorem zzd (i:Qr) (k:zpo→Ans):J9 i k=za (W3 i) k:=by
  obtain ⟨t7,t47,o1_0,o1_1,o1_2,o1_3,o1_4,o1_5,o1_6,o1_7,o1_8,o1_9⟩:=i
  simp only [W3,J9,zj,zh,zl,zc,zi,zm,zg]
theorem zFV (i:Qr) (K:Ex→St→Ans):zx Tryz.tab zf4 zd (zy Tryz.tab zf4 zd 0 64) 70 55 zwb zpr (zD 0 (exk [2,5,7] [2,3] []) K) (zzc i)=J9 i (zlc i K):=by kernel_rfl
theorem zOE:zw Tryz.prog 55 zpr (zH zlh W3 zlc):=zE mixed tabOk zrZ 0 (exk [2,5,7] [2,3] []) zDA zKu zFV zzd
noncomputable def zPP:(Ex→St→Ans)→St→Ans:=(zH zlh W3 zlc)
theorem zSN:zw Tryz.prog 55 zpr zPP:=zOE
noncomputable def zod:Code:=zF [1,1,1,0,1] zUa
noncomputable def zsq:Ann := .none
theorem zD7:zq Tryz.prog 55 zod zsq:=(zb _ _ _)
abbrev jz:=(Int)×(List UInt8)×(Int)×(Int)
abbrev zpE:=((List UInt8)×(Int)×(Int)×(Int)×(List UInt8)×(Int)×(Int)×(List UInt8)×(Int)×(Int)×(List UInt8)) ⊕ (Unit)
def zCL:jz→St:=fun (t14,o1_0,o1_1,o2_0)=>{ env:=[(2,.ptr 0 0),(4,.ptr 1 0),(5,.ptr 2 0),(14,.int .i64 t14)],stk:=[[]],H:=[.cells [.int .i64 (0),.int .i64 (0),.int .i64 (0),.str ([]),.int .i64 (0),.int .i64 (0),.str ([]),.int .i64 (0),.int .i64 (0),.str ([])],.cells [.str o1_0,.int .i64 o1_1],.cells [.int .i64 o2_0,.int .i64 (0),.int .i64 (0),.str ([]),.int .i64 (0),.int .i64 (0),.str ([]),.int .i64 (0),.int .i64 (0),.str ([])]],blk:=221184 }
def ztL (s:St):Option {x:jz // s=zCL x}:=match s with
  | { env:=[(2,.ptr 0 0),(4,.ptr 1 0),(5,.ptr 2 0),(14,.int .i64 t14)],stk:=[[]],H:=[.cells [.int .i64 r1,.int .i64 r2,.int .i64 r3,.str r4,.int .i64 r5,.int .i64 r6,.str r7,.int .i64 r8,.int .i64 r9,.str r10],.cells [.str o1_0,.int .i64 o1_1],.cells [.int .i64 o2_0,.int .i64 r14,.int .i64 r15,.str r16,.int .i64 r17,.int .i64 r18,.str r19,.int .i64 r20,.int .i64 r21,.str r22]],blk:=221184 }=>if h1:r1=0 then if h2:r2=0 then if h3:r3=0 then if h4:r4=[] then if h5:r5=0 then if h6:r6=0 then if h7:r7=[] then if h8:r8=0 then if h9:r9=0 then if h10:r10=[] then if h14:r14=0 then if h15:r15=0 then if h16:r16=[] then if h17:r17=0 then if h18:r18=0 then if h19:r19=[] then if h20:r20=0 then if h21:r21=0 then if h22:r22=[] then some ⟨(t14,o1_0,o1_1,o2_0),by subst h1 h2 h3 h4 h5 h6 h7 h8 h9 h10 h14 h15 h16 h17 h18 h19 h20 h21 h22;rfl⟩ else none else none else none else none else none else none else none else none else none else none else none else none else none else none else none else none else none else none else none
  | _=>none
def zl1 (s:St):Option jz:=pk (ztL s)
theorem zI3 (s:St) (x:jz) (h:zl1 s=some x):s=zCL x:=zt (o:=ztL s) h
def zlP:jz→(Ex→St→Ans)→zpE→Ans:=fun (t14,o1_0,o1_1,o2_0) K=>(Sum.elim (unP fun o1_0_y=>unP fun o1_1_y=>unP fun o2_1_y=>unP fun o2_2_y=>unP fun o2_3_y=>unP fun o2_4_y=>unP fun o2_5_y=>unP fun o2_6_y=>unP fun o2_7_y=>unP fun o2_8_y o2_9_y=>K (Ex.norm) { env:=[(2,.ptr 0 0),(4,.ptr 1 0),(5,.ptr 2 0)],stk:=[[]],H:=[.cells [.int .i64 (0),.int .i64 (0),.int .i64 (0),.str ([]),.int .i64 (0),.int .i64 (0),.str ([]),.int .i64 (0),.int .i64 (0),.str ([])],.cells [.str o1_0_y,.int .i64 o1_1_y],.cells [.int .i64 o2_0,.int .i64 o2_1_y,.int .i64 o2_2_y,.str o2_3_y,.int .i64 o2_4_y,.int .i64 o2_5_y,.str o2_6_y,.int .i64 o2_7_y,.int .i64 o2_8_y,.str o2_9_y]],blk:=221184 }) (fun _=>K (Ex.ret) { env:=[(2,.ptr 0 0),(3,.int .i64 (7))],stk:=[[]],H:=[.cells [.int .i64 (0),.int .i64 (0),.int .i64 (0),.str ([]),.int .i64 (0),.int .i64 (0),.str ([]),.int .i64 (0),.int .i64 (0),.str ([])]],blk:=221184 }))
def zaF {β:Type}:jz→(zpE→Option β)→Option β:=fun (t14,o1_0,o1_1,o2_0) exit=>(bif t14 == (0:Int) then (za (zcp (o1_0,o1_1)) (unP fun r_0=>unP fun r_1=>unP fun r_2=>unP fun o0_0 o0_1=>(exit (Sum.inl (o0_0,o0_1,r_0,r_1,r_2,(0:Int),(0:Int),[],(0:Int),(0:Int),[]))))) else (bif t14 == (1:Int) then (za (zcp (o1_0,o1_1)) (unP fun r_0=>unP fun r_1=>unP fun r_2=>unP fun o0_0 o0_1=>(za (zcp (o0_0,o0_1)) (unP fun r_0_2=>unP fun r_1_2=>unP fun r_2_2=>unP fun o0_0_2 o0_1_2=>(exit (Sum.inl (o0_0_2,o0_1_2,r_0,r_1_2,[],r_0,r_1,r_2,r_0_2,r_1_2,r_2_2))))))) else (exit (Sum.inr ()))))
def WB (i:jz):Option zpE:=zaF i some
theorem zBA (i:jz) (k:zpE→Ans):zaF i k=za (WB i) k:=by
  obtain ⟨t14,o1_0,o1_1,o2_0⟩:=i
  simp only [WB,zaF,zj,zh,zl,zc,zi,zm,zg]
theorem zGj (i:jz) (K:Ex→St→Ans):zx Tryz.tab zf4 zd (zy Tryz.tab zf4 zd 0 64) 70 55 zsq zod (zD 0 (exk [2,4,5] [2,3] []) K) (zCL i)=zaF i (zlP i K):=by kernel_rfl
theorem zOV:zw Tryz.prog 55 zod (zH zl1 WB zlP):=zE mixed tabOk zrZ 0 (exk [2,4,5] [2,3] []) zD7 zI3 zGj zBA
noncomputable def zQo:(Ex→St→Ans)→St→Ans:=(zH zl1 WB zlP)
theorem zWa:zw Tryz.prog 55 zod zQo:=zOV
noncomputable def zZa:Ann:=(.seq .none (.seq .none (.seq .none (.seq (.seq .none (.cut 0 [2,4,5,14] zQo)) (.seq .none (.seq (.seq .none (.cut 0 [2,5,7,47] zPP)) .none))))))
theorem z2E:zq Tryz.prog 55 zUa zZa:=⟨(zb _ _ _),⟨(zb _ _ _),⟨(zb _ _ _),⟨⟨(zb _ _ _),zWa⟩,⟨(zb _ _ _),⟨⟨(zb _ _ _),zSN⟩,(zb _ _ _)⟩⟩⟩⟩⟩⟩
abbrev zer:=(List UInt8)
abbrev zJ7:=(Int)×(Int)×(Int)×(List UInt8)×(Int)×(Int)×(List UInt8)×(Int)×(Int)×(List UInt8)×(Int)
def zsI {β:Type}:zer→(zJ7→Option β)→Option β:=fun a0 exit=>(za (Ws (a0)) fun _=>(za (Z5 ((1:Int),a0,(0:Int))) (unP fun r=>unP fun o0_0 o0_1=>(za (WB (r,o0_0,o0_1,r)) (Sum.elim (unP fun o1_0=>unP fun o1_1=>unP fun o2_1=>unP fun o2_2=>unP fun o2_3=>unP fun o2_4=>unP fun o2_5=>unP fun o2_6=>unP fun o2_7=>unP fun o2_8 o2_9=>(za (zdy (o1_0,o1_1)) fun r_2=>(za (W3 (r_2,r_2 == (0:Int),r,o2_1,o2_2,o2_3,o2_4,o2_5,o2_6,o2_7,o2_8,o2_9)) fun t7=>(bif t7 != (0:Int) then (exit ((0:Int),(0:Int),(0:Int),[],(0:Int),(0:Int),[],(0:Int),(0:Int),[],t7)) else (exit (r,o2_1,o2_2,o2_3,o2_4,o2_5,o2_6,o2_7,o2_8,o2_9,(0:Int))))))) (fun _=>(exit ((0:Int),(0:Int),(0:Int),[],(0:Int),(0:Int),[],(0:Int),(0:Int),[],(7:Int)))))))))
def zgl (a:zer):Option zJ7:=zsI a some
theorem zYp (a:zer) (k:zJ7→Ans):zsI a k=za (zgl a) k:=by
  obtain z:=a
  simp only [zgl,zsI,zj,zh,zl,zc,zi,zm,zg]
def zBF:zer→List AV:=fun a0=>[.str a0]
def zIC (l:List AV):Option {a:zer // l=zBF a}:=match l with
  | [.str a0]=>some ⟨(a0),rfl⟩
  | _=>none
def zRr (l:List AV):Option zer:=pk (zIC l)
theorem zVR (l:List AV) (a:zer) (h:zRr l=some a):l=zBF a:=zt (o:=zIC l) h
def zAs:zer→zJ7→AV:=fun a0=>unP fun r_0_0_y=>unP fun r_0_1_y=>unP fun r_0_2_y=>unP fun r_0_3_y=>unP fun r_0_4_y=>unP fun r_0_5_y=>unP fun r_0_6_y=>unP fun r_0_7_y=>unP fun r_0_8_y=>unP fun r_0_9_y r_1_y => .tup [.agg [.int .i64 r_0_0_y,.int .i64 r_0_1_y,.int .i64 r_0_2_y,.str r_0_3_y,.int .i64 r_0_4_y,.int .i64 r_0_5_y,.str r_0_6_y,.int .i64 r_0_7_y,.int .i64 r_0_8_y,.str r_0_9_y],.int .i64 r_1_y]
theorem zTW : ∀(a:zer) (y:zJ7),(zAs a y).closed1=true:=by
  rintro z y <;> first | rfl | exact Empty.elim y
theorem z4u (a:zer):fnE Tryz.tab zf4 zd 0 70 54 Tryz.f54.ntmps Tryz.f54.results.toList zZa zUa (zBF a) [] (fun v _=>some (v,[]))=zsI a (fun y=>some (zAs a y,[])):=by kernel_rfl
def ZcC (a:zer) (K:AV→Ans):Ans:=za (zgl a) fun y=>K (zAs a y)
def z59:List AV→(AV→Ans)→Ans:=fun l K=>za (zRr l) fun a=>ZcC a K
theorem zQX:zM Tryz.prog 54 z59:=zL (hint:=zd) (d:=0) (n:=70) mixed tabOk zrZ Tryz.func54 (zC (by kernel_rfl)) (by decide +kernel) z2E zVR z4u zYp zTW
--@ state_single_side
noncomputable def zZ6:Env:=[]
theorem z6P:zf Tryz.prog zZ6:=zf.nil
noncomputable def z95:Code:=Tryz.f181.body.getD .skip
noncomputable def z29:Ann := .none
theorem z3j:zq Tryz.prog 12 z95 z29:=(zb _ _ _)
abbrev zew:=(Int)×(Int)×(Int)×(List UInt8)×(Int)×(Int)×(List UInt8)×(Int)×(Int)×(List UInt8)×(Int)
abbrev zLi:=Unit
def zvs {β:Type}:zew→(zLi→Option β)→Option β:=fun (a0_0,a0_1,a0_2,a0_3,a0_4,a0_5,a0_6,a0_7,a0_8,a0_9,a1) exit=>(exit ())
def zl2 (a:zew):Option zLi:=zvs a some
theorem z1y (a:zew) (k:zLi→Ans):zvs a k=za (zl2 a) k:=by
  obtain ⟨a0_0,a0_1,a0_2,a0_3,a0_4,a0_5,a0_6,a0_7,a0_8,a0_9,a1⟩:=a
  simp only [zl2,zvs,zj,zh,zl,zc,zi,zm,zg]
def zxM:zew→List AV:=fun (a0_0,a0_1,a0_2,a0_3,a0_4,a0_5,a0_6,a0_7,a0_8,a0_9,a1)=>[.agg [.int .i64 a0_0,.int .i64 a0_1,.int .i64 a0_2,.str a0_3,.int .i64 a0_4,.int .i64 a0_5,.str a0_6,.int .i64 a0_7,.int .i64 a0_8,.str a0_9],.int .i64 a1]
def zHc (l:List AV):Option {a:zew // l=zxM a}:=match l with
  | [.agg [.int .i64 a0_0,.int .i64 a0_1,.int .i64 a0_2,.str a0_3,.int .i64 a0_4,.int .i64 a0_5,.str a0_6,.int .i64 a0_7,.int .i64 a0_8,.str a0_9],.int .i64 a1]=>some ⟨(a0_0,a0_1,a0_2,a0_3,a0_4,a0_5,a0_6,a0_7,a0_8,a0_9,a1),rfl⟩
  | _=>none
def zRp (l:List AV):Option zew:=pk (zHc l)
theorem zTU (l:List AV) (a:zew) (h:zRp l=some a):l=zxM a:=zt (o:=zHc l) h
def zCo:zew→zLi→AV:=fun (a0_0,a0_1,a0_2,a0_3,a0_4,a0_5,a0_6,a0_7,a0_8,a0_9,a1)=>fun _ => .agg [.int .i64 a0_1,.int .i64 a0_2,.str a0_3]
theorem zV5 : ∀(a:zew) (y:zLi),(zCo a y).closed1=true:=by
  rintro ⟨a0_0,a0_1,a0_2,a0_3,a0_4,a0_5,a0_6,a0_7,a0_8,a0_9,a1⟩ y <;> first | rfl | exact Empty.elim y
theorem z39 (a:zew):fnE Tryz.tab zZ6 zd 0 70 181 Tryz.f181.ntmps Tryz.f181.results.toList z29 z95 (zxM a) [] (fun v _=>some (v,[]))=zvs a (fun y=>some (zCo a y,[])):=by kernel_rfl
def Zcv (a:zew) (K:AV→Ans):Ans:=za (zl2 a) fun y=>K (zCo a y)
def z6f:List AV→(AV→Ans)→Ans:=fun l K=>za (zRp l) fun a=>Zcv a K
theorem zP2:zM Tryz.prog 181 z6f:=zL (hint:=zd) (d:=0) (n:=70) mixed tabOk z6P Tryz.func181 (zC (by kernel_rfl)) (by decide +kernel) z3j zTU z39 z1y zV5
--@ state_double_side
noncomputable def zZS:Env:=[]
theorem z6p:zf Tryz.prog zZS:=zf.nil
noncomputable def Zac:Code:=Tryz.f182.body.getD .skip
noncomputable def zYK:Ann := .none
theorem zZG:zq Tryz.prog 13 Zac zYK:=(zb _ _ _)
abbrev zed:=(Int)×(Int)×(Int)×(List UInt8)×(Int)×(Int)×(List UInt8)×(Int)×(Int)×(List UInt8)×(Int)
abbrev zL6:=(Int)×(Int)×(List UInt8)
def zGZ {β:Type}:zed→(zL6→Option β)→Option β:=fun (a0_0,a0_1,a0_2,a0_3,a0_4,a0_5,a0_6,a0_7,a0_8,a0_9,a1) exit=>(bif a1 == (0:Int) then (exit (a0_4,a0_5,a0_6)) else (exit (a0_7,a0_8,a0_9)))
def zjz (a:zed):Option zL6:=zGZ a some
theorem z0v (a:zed) (k:zL6→Ans):zGZ a k=za (zjz a) k:=by
  obtain ⟨a0_0,a0_1,a0_2,a0_3,a0_4,a0_5,a0_6,a0_7,a0_8,a0_9,a1⟩:=a
  simp only [zjz,zGZ,zj,zh,zl,zc,zi,zm,zg]
def zAw:zed→List AV:=fun (a0_0,a0_1,a0_2,a0_3,a0_4,a0_5,a0_6,a0_7,a0_8,a0_9,a1)=>[.agg [.int .i64 a0_0,.int .i64 a0_1,.int .i64 a0_2,.str a0_3,.int .i64 a0_4,.int .i64 a0_5,.str a0_6,.int .i64 a0_7,.int .i64 a0_8,.str a0_9],.int .i64 a1]
def zHf (l:List AV):Option {a:zed // l=zAw a}:=match l with
  | [.agg [.int .i64 a0_0,.int .i64 a0_1,.int .i64 a0_2,.str a0_3,.int .i64 a0_4,.int .i64 a0_5,.str a0_6,.int .i64 a0_7,.int .i64 a0_8,.str a0_9],.int .i64 a1]=>some ⟨(a0_0,a0_1,a0_2,a0_3,a0_4,a0_5,a0_6,a0_7,a0_8,a0_9,a1),rfl⟩
  | _=>none
def zRq (l:List AV):Option zed:=pk (zHf l)
theorem zSP (l:List AV) (a:zed) (h:zRq l=some a):l=zAw a:=zt (o:=zHf l) h
def zyz:zed→zL6→AV:=fun (a0_0,a0_1,a0_2,a0_3,a0_4,a0_5,a0_6,a0_7,a0_8,a0_9,a1)=>unP fun r_0_y=>unP fun r_1_y r_2_y => .agg [.int .i64 r_0_y,.int .i64 r_1_y,.str r_2_y]
theorem zXt : ∀(a:zed) (y:zL6),(zyz a y).closed1=true:=by
  rintro ⟨a0_0,a0_1,a0_2,a0_3,a0_4,a0_5,a0_6,a0_7,a0_8,a0_9,a1⟩ y <;> first | rfl | exact Empty.elim y
theorem z7x (a:zed):fnE Tryz.tab zZS zd 0 70 182 Tryz.f182.ntmps Tryz.f182.results.toList zYK Zac (zAw a) [] (fun v _=>some (v,[]))=zGZ a (fun y=>some (zyz a y,[])):=by kernel_rfl
def ZbI (a:zed) (K:AV→Ans):Ans:=za (zjz a) fun y=>K (zyz a y)
def z6E:List AV→(AV→Ans)→Ans:=fun l K=>za (zRq l) fun a=>ZbI a K
theorem zRb:zM Tryz.prog 182 z6E:=zL (hint:=zd) (d:=0) (n:=70) mixed tabOk z6p Tryz.func182 (zC (by kernel_rfl)) (by decide +kernel) zZG zSP z7x z0v zXt
--@ state_Side
noncomputable def z00:Env:=[(70,.func zXx),(181,.pure z6f),(182,.pure z6E)]
theorem z5o:zf Tryz.prog z00:=zf.cons zAI (zf.cons zP2 (zf.cons zRb (zf.nil)))
noncomputable def ZaR:Code:=Tryz.f143.body.getD .skip
noncomputable def z14:Ann := .none
theorem zZY:zq Tryz.prog 25 ZaR z14:=(zb _ _ _)
abbrev zeI:=(Int)×(Int)×(Int)×(List UInt8)×(Int)×(Int)×(List UInt8)×(Int)×(Int)×(List UInt8)×(Int)
abbrev zHk:=(Int)×(Int)×(List UInt8)
def zuV {β:Type}:zeI→(zHk→Option β)→Option β:=fun (a0_0,a0_1,a0_2,a0_3,a0_4,a0_5,a0_6,a0_7,a0_8,a0_9,a1) exit=>(za (zdC (a0_0,a0_1,a0_2,a0_3,a0_4,a0_5,a0_6,a0_7,a0_8,a0_9)) (Sum.elim (fun _=>(za (zl2 (a0_0,a0_1,a0_2,a0_3,a0_4,a0_5,a0_6,a0_7,a0_8,a0_9,a1)) fun _=>(exit (a0_1,a0_2,a0_3)))) ((Sum.elim (fun _=>(za (zjz (a0_0,a0_1,a0_2,a0_3,a0_4,a0_5,a0_6,a0_7,a0_8,a0_9,a1)) (unP fun r_0=>unP fun r_1 r_2=>(exit (r_0,r_1,r_2))))) (fun _=>(za (zjz (a0_0,a0_1,a0_2,a0_3,a0_4,a0_5,a0_6,a0_7,a0_8,a0_9,a1)) (unP fun r_0=>unP fun r_1 r_2=>(exit (r_0,r_1,r_2)))))))))
def zkR (a:zeI):Option zHk:=zuV a some
theorem zZM (a:zeI) (k:zHk→Ans):zuV a k=za (zkR a) k:=by
  obtain ⟨a0_0,a0_1,a0_2,a0_3,a0_4,a0_5,a0_6,a0_7,a0_8,a0_9,a1⟩:=a
  simp only [zkR,zuV,zj,zh,zl,zc,zi,zm,zg]
def zA2:zeI→List AV:=fun (a0_0,a0_1,a0_2,a0_3,a0_4,a0_5,a0_6,a0_7,a0_8,a0_9,a1)=>[.agg [.int .i64 a0_0,.int .i64 a0_1,.int .i64 a0_2,.str a0_3,.int .i64 a0_4,.int .i64 a0_5,.str a0_6,.int .i64 a0_7,.int .i64 a0_8,.str a0_9],.int .i64 a1]
def zJS (l:List AV):Option {a:zeI // l=zA2 a}:=match l with
  | [.agg [.int .i64 a0_0,.int .i64 a0_1,.int .i64 a0_2,.str a0_3,.int .i64 a0_4,.int .i64 a0_5,.str a0_6,.int .i64 a0_7,.int .i64 a0_8,.str a0_9],.int .i64 a1]=>some ⟨(a0_0,a0_1,a0_2,a0_3,a0_4,a0_5,a0_6,a0_7,a0_8,a0_9,a1),rfl⟩
  | _=>none
def zQf (l:List AV):Option zeI:=pk (zJS l)
theorem zX0 (l:List AV) (a:zeI) (h:zQf l=some a):l=zA2 a:=zt (o:=zJS l) h
def zAh:zeI→zHk→AV:=fun (a0_0,a0_1,a0_2,a0_3,a0_4,a0_5,a0_6,a0_7,a0_8,a0_9,a1)=>unP fun r_0_y=>unP fun r_1_y r_2_y => .agg [.int .i64 r_0_y,.int .i64 r_1_y,.str r_2_y]
theorem zTQ : ∀(a:zeI) (y:zHk),(zAh a y).closed1=true:=by
  rintro ⟨a0_0,a0_1,a0_2,a0_3,a0_4,a0_5,a0_6,a0_7,a0_8,a0_9,a1⟩ y <;> first | rfl | exact Empty.elim y
theorem z7q (a:zeI):fnE Tryz.tab z00 zd 0 70 143 Tryz.f143.ntmps Tryz.f143.results.toList z14 ZaR (zA2 a) [] (fun v _=>some (v,[]))=zuV a (fun y=>some (zAh a y,[])):=by kernel_rfl
def Zcu (a:zeI) (K:AV→Ans):Ans:=za (zkR a) fun y=>K (zAh a y)
def z4L:List AV→(AV→Ans)→Ans:=fun l K=>za (zQf l) fun a=>Zcu a K
theorem zPW:zM Tryz.prog 143 z4L:=zL (hint:=zd) (d:=0) (n:=70) mixed tabOk z5o Tryz.func143 (zC (by kernel_rfl)) (by decide +kernel) zZY zX0 z7q zZM zTQ
--@ vector_Put
noncomputable def zZN:Env:=[(57,.pure zjN)]
theorem z5v:zf Tryz.prog zZN:=zf.cons zbo (zf.nil)
noncomputable def Zae:Code:=Tryz.f180.body.getD .skip
noncomputable def z2J:Ann := .none
theorem zZJ:zq Tryz.prog 12 Zae z2J:=(zb _ _ _)
abbrev zef:=(List UInt8)×(Int)×(Int)
abbrev zI6:=(List UInt8)
def zsf {β:Type}:zef→(zI6→Option β)→Option β:=fun (a0,a1_0,a1_1) exit=>(za (Zz (a0,a1_0,(7:Int))) fun r=>(za (Zz (r,a1_1,(7:Int))) fun r_2=>(exit (r_2))))
def zgF (a:zef):Option zI6:=zsf a some
theorem z3r (a:zef) (k:zI6→Ans):zsf a k=za (zgF a) k:=by
  obtain ⟨a0,a1_0,a1_1⟩:=a
  simp only [zgF,zsf,zj,zh,zl,zc,zi,zm,zg]
def zBe:zef→List AV:=fun (a0,a1_0,a1_1)=>[.str a0,.agg [.int .i64 a1_0,.int .i64 a1_1]]
def zKK (l:List AV):Option {a:zef // l=zBe a}:=match l with
  | [.str a0,.agg [.int .i64 a1_0,.int .i64 a1_1]]=>some ⟨(a0,a1_0,a1_1),rfl⟩
  | _=>none
def zRR (l:List AV):Option zef:=pk (zKK l)
theorem zTw (l:List AV) (a:zef) (h:zRR l=some a):l=zBe a:=zt (o:=zKK l) h
def zAC:zef→zI6→AV:=fun (a0,a1_0,a1_1)=>fun r_y => .str r_y
theorem zSR : ∀(a:zef) (y:zI6),(zAC a y).closed1=true:=by
  rintro ⟨a0,a1_0,a1_1⟩ y <;> first | rfl | exact Empty.elim y
theorem z6L (a:zef):fnE Tryz.tab zZN zd 0 70 180 Tryz.f180.ntmps Tryz.f180.results.toList z2J Zae (zBe a) [] (fun v _=>some (v,[]))=zsf a (fun y=>some (zAC a y,[])):=by kernel_rfl
def ZbV (a:zef) (K:AV→Ans):Ans:=za (zgF a) fun y=>K (zAC a y)
def z6O:List AV→(AV→Ans)→Ans:=fun l K=>za (zRR l) fun a=>ZbV a K
theorem zRM:zM Tryz.prog 180 z6O:=zL (hint:=zd) (d:=0) (n:=70) mixed tabOk z5v Tryz.func180 (zC (by kernel_rfl)) (by decide +kernel) zZJ zTw z6L z3r zSR
--@ state_put
noncomputable def zYr:Env:=[(180,.pure z6O)]
theorem z6N:zf Tryz.prog zYr:=zf.cons zRM (zf.nil)
noncomputable def ZaB:Code:=Tryz.f142.body.getD .skip
noncomputable def z3G:Ann := .none
theorem z3b:zq Tryz.prog 12 ZaB z3G:=(zb _ _ _)
abbrev zdR:=(List UInt8)×(Int)×(Int)×(List UInt8)
abbrev zJQ:=(List UInt8)
def zwq {β:Type}:zdR→(zJQ→Option β)→Option β:=fun (a0,a1_0,a1_1,a1_2) exit=>(za (zgF (a0,a1_0,a1_1)) fun r=>(bif Nat.ble (List.length r+List.length a1_2) (9223372036854775807:Nat) then (exit (r++a1_2)) else none))
def zb9 (a:zdR):Option zJQ:=zwq a some
theorem zZo (a:zdR) (k:zJQ→Ans):zwq a k=za (zb9 a) k:=by
  obtain ⟨a0,a1_0,a1_1,a1_2⟩:=a
  simp only [zb9,zwq,zj,zh,zl,zc,zi,zm,zg]
def zCs:zdR→List AV:=fun (a0,a1_0,a1_1,a1_2)=>[.str a0,.agg [.int .i64 a1_0,.int .i64 a1_1,.str a1_2]]
def zLw (l:List AV):Option {a:zdR // l=zCs a}:=match l with
  | [.str a0,.agg [.int .i64 a1_0,.int .i64 a1_1,.str a1_2]]=>some ⟨(a0,a1_0,a1_1,a1_2),rfl⟩
  | _=>none
def zRA (l:List AV):Option zdR:=pk (zLw l)
theorem zU8 (l:List AV) (a:zdR) (h:zRA l=some a):l=zCs a:=zt (o:=zLw l) h
def zBg:zdR→zJQ→AV:=fun (a0,a1_0,a1_1,a1_2)=>fun r_y => .str r_y
theorem zUU : ∀(a:zdR) (y:zJQ),(zBg a y).closed1=true:=by
  rintro ⟨a0,a1_0,a1_1,a1_2⟩ y <;> first | rfl | exact Empty.elim y
theorem z5w (a:zdR):fnE Tryz.tab zYr zd 0 70 142 Tryz.f142.ntmps Tryz.f142.results.toList z3G ZaB (zCs a) [] (fun v _=>some (v,[]))=zwq a (fun y=>some (zBg a y,[])):=by kernel_rfl
def ZbZ (a:zdR) (K:AV→Ans):Ans:=za (zb9 a) fun y=>K (zBg a y)
def z6S:List AV→(AV→Ans)→Ans:=fun l K=>za (zRA l) fun a=>ZbZ a K
theorem zQA:zM Tryz.prog 142 z6S:=zL (hint:=zd) (d:=0) (n:=70) mixed tabOk z6N Tryz.func142 (zC (by kernel_rfl)) (by decide +kernel) z3b zU8 z5w zZo zUU
--@ state_Put
noncomputable def z0b:Env:=[(57,.pure zjN),(35,.pure zMn),(143,.pure z4L),(142,.pure z6S)]
theorem z6X:zf Tryz.prog z0b:=zf.cons zbo (zf.cons zpW (zf.cons zPW (zf.cons zQA (zf.nil))))
noncomputable def Zbr:Code:=Tryz.f97.body.getD .skip
noncomputable def z1j:Ann := .none
theorem z3g:zq Tryz.prog 28 Zbr z1j:=(zb _ _ _)
abbrev zdt:=(Int)×(Int)×(Int)×(List UInt8)×(Int)×(Int)×(List UInt8)×(Int)×(Int)×(List UInt8)
abbrev zI8:=(List UInt8)×(Int)
def zwn {β:Type}:zdt→(zI8→Option β)→Option β:=fun (a0_0,a0_1,a0_2,a0_3,a0_4,a0_5,a0_6,a0_7,a0_8,a0_9) exit=>(za (zaP (a0_0,a0_1,a0_2,a0_3,a0_4,a0_5,a0_6,a0_7,a0_8,a0_9)) fun r=>(bif r != (0:Int) then (exit ([],r)) else (za (Zz ([],a0_0,(1:Int))) fun r_2=>(bif a0_0 == (0:Int) then (za (zkR (a0_0,a0_1,a0_2,a0_3,a0_4,a0_5,a0_6,a0_7,a0_8,a0_9,(0:Int))) (unP fun r_0=>unP fun r_1 r_2_2=>(za (zb9 (r_2,r_0,r_1,r_2_2)) fun r_3=>(exit (r_3,(0:Int)))))) else (za (zb9 (r_2,a0_4,a0_5,a0_6)) fun r_3=>(za (zb9 (r_3,a0_7,a0_8,a0_9)) fun r_4=>(exit (r_4,(0:Int)))))))))
def zhq (a:zdt):Option zI8:=zwn a some
theorem z0f (a:zdt) (k:zI8→Ans):zwn a k=za (zhq a) k:=by
  obtain ⟨a0_0,a0_1,a0_2,a0_3,a0_4,a0_5,a0_6,a0_7,a0_8,a0_9⟩:=a
  simp only [zhq,zwn,zj,zh,zl,zc,zi,zm,zg]
def zAy:zdt→List AV:=fun (a0_0,a0_1,a0_2,a0_3,a0_4,a0_5,a0_6,a0_7,a0_8,a0_9)=>[.agg [.int .i64 a0_0,.int .i64 a0_1,.int .i64 a0_2,.str a0_3,.int .i64 a0_4,.int .i64 a0_5,.str a0_6,.int .i64 a0_7,.int .i64 a0_8,.str a0_9]]
def zMI (l:List AV):Option {a:zdt // l=zAy a}:=match l with
  | [.agg [.int .i64 a0_0,.int .i64 a0_1,.int .i64 a0_2,.str a0_3,.int .i64 a0_4,.int .i64 a0_5,.str a0_6,.int .i64 a0_7,.int .i64 a0_8,.str a0_9]]=>some ⟨(a0_0,a0_1,a0_2,a0_3,a0_4,a0_5,a0_6,a0_7,a0_8,a0_9),rfl⟩
  | _=>none
def zSx (l:List AV):Option zdt:=pk (zMI l)
theorem zW8 (l:List AV) (a:zdt) (h:zSx l=some a):l=zAy a:=zt (o:=zMI l) h
def zzf:zdt→zI8→AV:=fun (a0_0,a0_1,a0_2,a0_3,a0_4,a0_5,a0_6,a0_7,a0_8,a0_9)=>unP fun r_0_y r_1_y => .tup [.str r_0_y,.int .i64 r_1_y]
theorem zVd : ∀(a:zdt) (y:zI8),(zzf a y).closed1=true:=by
  rintro ⟨a0_0,a0_1,a0_2,a0_3,a0_4,a0_5,a0_6,a0_7,a0_8,a0_9⟩ y <;> first | rfl | exact Empty.elim y
theorem z4f (a:zdt):fnE Tryz.tab z0b zd 0 70 97 Tryz.f97.ntmps Tryz.f97.results.toList z1j Zbr (zAy a) [] (fun v _=>some (v,[]))=zwn a (fun y=>some (zzf a y,[])):=by kernel_rfl
def Zb2 (a:zdt) (K:AV→Ans):Ans:=za (zhq a) fun y=>K (zzf a y)
def z4p:List AV→(AV→Ans)→Ans:=fun l K=>za (zSx l) fun a=>Zb2 a K
theorem zRK:zM Tryz.prog 97 z4p:=zL (hint:=zd) (d:=0) (n:=70) mixed tabOk z6X Tryz.func97 (zC (by kernel_rfl)) (by decide +kernel) z3g zW8 z4f z0f zVd
--@ dump_extent
noncomputable def ztH:Env:=[(57,.pure zjN),(97,.pure z4p)]
theorem zM9:zf Tryz.prog ztH:=zf.cons zbo (zf.cons zRK (zf.nil))
noncomputable def z5a:Code:=Tryz.f56.body.getD .skip
noncomputable def zpR:Code:=zF [1,1,1,1,0,1] z5a
noncomputable def zu4:Ann := .none
theorem zGf:zq Tryz.prog 26 zpR zu4:=(zb _ _ _)
abbrev jI:=(Int)×(List UInt8)×(Bool)
abbrev znx:=(Int)
def zzu:jI→St:=fun (t0,t8,t19)=>{ env:=[(0,.int .i64 t0),(8,.str t8),(10,.int .i64 (0)),(19,.bool t19)],stk:=[[]],H:=[],blk:=229376 }
def zs2 (s:St):Option {x:jI // s=zzu x}:=match s with
  | { env:=[(0,.int .i64 t0),(8,.str t8),(10,.int .i64 r2),(19,.bool t19)],stk:=[[]],H:=[],blk:=229376 }=>if h2:r2=0 then some ⟨(t0,t8,t19),by subst h2;rfl⟩ else none
  | _=>none
def zk1 (s:St):Option jI:=pk (zs2 s)
theorem zLO (s:St) (x:jI) (h:zk1 s=some x):s=zzu x:=zt (o:=zs2 s) h
def zkh:jI→(Ex→St→Ans)→znx→Ans:=fun (t0,t8,t19) K=>fun t10_y=>K (Ex.norm) { env:=[(0,.int .i64 t0),(8,.str t8),(10,.int .i64 t10_y)],stk:=[[]],H:=[],blk:=229376 }
def za0 {β:Type}:jI→(znx→Option β)→Option β:=fun (t0,t8,t19) exit=>(bif t19 then (exit ((1:Int))) else (exit ((0:Int))))
def wa (i:jI):Option znx:=za0 i some
theorem zAd (i:jI) (k:znx→Ans):za0 i k=za (wa i) k:=by
  obtain ⟨t0,t8,t19⟩:=i
  simp only [wa,za0,zj,zh,zl,zc,zi,zm,zg]
theorem zEC (i:jI) (K:Ex→St→Ans):zx Tryz.tab ztH zd (zy Tryz.tab ztH zd 0 64) 70 26 zu4 zpR (zD 0 (exk [0,8,10] [6,7] []) K) (zzu i)=za0 i (zkh i K):=by kernel_rfl
theorem zNZ:zw Tryz.prog 26 zpR (zH zk1 wa zkh):=zE mixed tabOk zM9 0 (exk [0,8,10] [6,7] []) zGf zLO zEC zAd
noncomputable def zRy:(Ex→St→Ans)→St→Ans:=(zH zk1 wa zkh)
theorem zVo:zw Tryz.prog 26 zpR zRy:=zNZ
noncomputable def z1A:Ann:=(.seq .none (.seq .none (.seq .none (.seq .none (.seq (.seq .none (.cut 0 [0,8,10,19] zRy)) .none)))))
theorem z0t:zq Tryz.prog 26 z5a z1A:=⟨(zb _ _ _),⟨(zb _ _ _),⟨(zb _ _ _),⟨(zb _ _ _),⟨⟨(zb _ _ _),zVo⟩,(zb _ _ _)⟩⟩⟩⟩⟩
abbrev zeC:=(Int)×(Int)×(Int)×(Int)×(List UInt8)×(Int)×(Int)×(List UInt8)×(Int)×(Int)×(List UInt8)×(Bool)
abbrev zMO:=(List UInt8)×(Int)
def zsm {β:Type}:zeC→(zMO→Option β)→Option β:=fun (a0,a1_0,a1_1,a1_2,a1_3,a1_4,a1_5,a1_6,a1_7,a1_8,a1_9,a2) exit=>(za (zhq (a1_0,a1_1,a1_2,a1_3,a1_4,a1_5,a1_6,a1_7,a1_8,a1_9)) (unP fun r_0 r_1=>(bif r_1 != (0:Int) then (exit ([],r_1)) else (za (wa (a0,r_0,a2)) fun t10=>(za (Zz ([],a0,(1:Int))) fun r=>(za (Zz (r,t10,(1:Int))) fun r_2=>(bif Nat.ble (List.length r_2+List.length r_0) (9223372036854775807:Nat) then (exit (r_2++r_0,(0:Int))) else none)))))))
def zb0 (a:zeC):Option zMO:=zsm a some
theorem z15 (a:zeC) (k:zMO→Ans):zsm a k=za (zb0 a) k:=by
  obtain ⟨a0,a1_0,a1_1,a1_2,a1_3,a1_4,a1_5,a1_6,a1_7,a1_8,a1_9,a2⟩:=a
  simp only [zb0,zsm,zj,zh,zl,zc,zi,zm,zg]
def zxu:zeC→List AV:=fun (a0,a1_0,a1_1,a1_2,a1_3,a1_4,a1_5,a1_6,a1_7,a1_8,a1_9,a2)=>[.int .i64 a0,.agg [.int .i64 a1_0,.int .i64 a1_1,.int .i64 a1_2,.str a1_3,.int .i64 a1_4,.int .i64 a1_5,.str a1_6,.int .i64 a1_7,.int .i64 a1_8,.str a1_9],.bool a2]
def zIw (l:List AV):Option {a:zeC // l=zxu a}:=match l with
  | [.int .i64 a0,.agg [.int .i64 a1_0,.int .i64 a1_1,.int .i64 a1_2,.str a1_3,.int .i64 a1_4,.int .i64 a1_5,.str a1_6,.int .i64 a1_7,.int .i64 a1_8,.str a1_9],.bool a2]=>some ⟨(a0,a1_0,a1_1,a1_2,a1_3,a1_4,a1_5,a1_6,a1_7,a1_8,a1_9,a2),rfl⟩
  | _=>none
def zQ3 (l:List AV):Option zeC:=pk (zIw l)
theorem zVp (l:List AV) (a:zeC) (h:zQ3 l=some a):l=zxu a:=zt (o:=zIw l) h
def zxF:zeC→zMO→AV:=fun (a0,a1_0,a1_1,a1_2,a1_3,a1_4,a1_5,a1_6,a1_7,a1_8,a1_9,a2)=>unP fun r_0_y r_1_y => .tup [.str r_0_y,.int .i64 r_1_y]
theorem zUC : ∀(a:zeC) (y:zMO),(zxF a y).closed1=true:=by
  rintro ⟨a0,a1_0,a1_1,a1_2,a1_3,a1_4,a1_5,a1_6,a1_7,a1_8,a1_9,a2⟩ y <;> first | rfl | exact Empty.elim y
theorem z7y (a:zeC):fnE Tryz.tab ztH zd 0 70 56 Tryz.f56.ntmps Tryz.f56.results.toList z1A z5a (zxu a) [] (fun v _=>some (v,[]))=zsm a (fun y=>some (zxF a y,[])):=by kernel_rfl
def Zb3 (a:zeC) (K:AV→Ans):Ans:=za (zb0 a) fun y=>K (zxF a y)
def zTl:List AV→(AV→Ans)→Ans:=fun l K=>za (zQ3 l) fun a=>Zb3 a K
theorem zyy:zM Tryz.prog 56 zTl:=zL (hint:=zd) (d:=0) (n:=70) mixed tabOk zM9 Tryz.func56 (zC (by kernel_rfl)) (by decide +kernel) z0t zVp z7y z15 zUC
end Go.Proofs.R9
