/- What the functions that DumpGetsCardSaid reaches compute: part 2. -/
import Derived.Test.YthfoooplgceaoaaGreatDoorOwnDumpGetsCardSaid1
set_option linter.unusedVariables false
set_option linter.unusedSimpArgs false
namespace Go.Proofs.R9
open Go Go.AE
set_option maxRecDepth 100000
--@ region_Pad
noncomputable def z1S:Env:=[(75,.pure qF)]
theorem z9w:zf Tryz.prog z1S:=zf.cons zcY (zf.nil)
noncomputable def Zcf:Code:=Tryz.f94.body.getD .skip
noncomputable def z4y:Ann := .none
theorem z1I:zq Tryz.prog 15 Zcf z4y:=(zb _ _ _)
abbrev zeK:=(List UInt8)
abbrev zM0:=(List UInt8)
def zu8 {β:Type}:zeK→(zM0→Option β)→Option β:=fun a0 exit=>(bif decide (Int.tmod (↑(List.length a0):Int) (64:Int)>(0:Int)) then (za (y3 ([(0:UInt8)],IntKind.wrap .i64 ((64:Int) - Int.tmod (↑(List.length a0):Int) (64:Int)))) fun r=>(bif Nat.ble (List.length a0+List.length r) (9223372036854775807:Nat) then (exit (a0++r)) else none)) else (exit (a0)))
def zgw (a:zeK):Option zM0:=zu8 a some
theorem z44 (a:zeK) (k:zM0→Ans):zu8 a k=za (zgw a) k:=by
  obtain z:=a
  simp only [zgw,zu8,zi,zh,zl,zc,zj,zm,zg]
def zCY:zeK→List AV:=fun a0=>[.str a0]
def zK8 (l:List AV):Option {a:zeK // l=zCY a}:=match l with
  | [.str a0]=>some ⟨(a0),rfl⟩
  | _=>none
def zSy (l:List AV):Option zeK:=pk (zK8 l)
theorem zWN (l:List AV) (a:zeK) (h:zSy l=some a):l=zCY a:=zt (o:=zK8 l) h
def zBt:zeK→zM0→AV:=fun a0=>fun r_y => .str r_y
theorem zWv : ∀(a:zeK) (y:zM0),(zBt a y).closed1=true:=by
  rintro z y <;> first | rfl | exact Empty.elim y
theorem z8w (a:zeK):fnE Tryz.tab z1S zd 0 70 94 Tryz.f94.ntmps Tryz.f94.results.toList z4y Zcf (zCY a) [] (fun v _=>some (v,[]))=zu8 a (fun y=>some (zBt a y,[])):=by kernel_rfl
def Zfe (a:zeK) (K:AV→Ans):Ans:=za (zgw a) fun y=>K (zBt a y)
def z7J:List AV→(AV→Ans)→Ans:=fun l K=>za (zSy l) fun a=>Zfe a K
theorem zSO:zM Tryz.prog 94 z7J:=zL (hint:=zd) (d:=0) (n:=70) mixed tabOk z9w Tryz.func94 (zE (by kernel_rfl)) (by decide +kernel) z1I zWN z8w z44 zWv
--@ super_Put
noncomputable def zgy:Env:=[(52,.pure Fq4),(34,.pure zU2),(57,.pure zmY),(94,.pure z7J)]
theorem zKV:zf Tryz.prog zgy:=zf.cons zgB (zf.cons zBA (zf.cons zbR (zf.cons zSO (zf.nil))))
noncomputable def z8o:Code:=Tryz.f53.body.getD .skip
noncomputable def zg4:Code:=zF [1,1,1,1,0,1,0,0] z8o
noncomputable def ziX:Ann := .at 0 [1,5,31,32,33] (.loop .none)
theorem zFW:zq Tryz.prog 51 (.loop zg4) ziX:=Zi (zb _ _ _)
abbrev QE:=(Int)×(Int)×(Int)×(Int)×(Int)×(Int)×(Int)×(Int)×(List Int)
abbrev zoD:=(List UInt8)
abbrev w8:=(List UInt8)×(Int)
def zqn:QE→w8→St:=fun (t32,o0_0,o0_1,o0_2,o0_3,o0_4,o0_5,o0_6,o1) (t5,t33)=>{ env:=[(1,.ptr 0 0),(5,.str t5),(31,.own 1),(32,.int .i64 t32),(33,.int .i64 t33)],stk:=[[]],H:=[.cells [.int .i64 o0_0,.int .i64 o0_1,.int .i64 o0_2,.int .i64 o0_3,.int .i64 o0_4,.int .i64 o0_5,.int .i64 o0_6],.arr (.int .i64) o1],blk:=217088 }
def zug (s:St):Option {x:QE×w8 // s=zqn x.1 x.2}:=match s with
  | { env:=[(1,.ptr 0 0),(5,.str t5),(31,.own 1),(32,.int .i64 t32),(33,.int .i64 t33)],stk:=[[]],H:=[.cells [.int .i64 o0_0,.int .i64 o0_1,.int .i64 o0_2,.int .i64 o0_3,.int .i64 o0_4,.int .i64 o0_5,.int .i64 o0_6],.arr (.int .i64) o1],blk:=217088 }=>some ⟨((t32,o0_0,o0_1,o0_2,o0_3,o0_4,o0_5,o0_6,o1),(t5,t33)),rfl⟩
  | _=>none
def zl3 (s:St):Option (QE×w8):=pk (zug s)
theorem zK4 (s:St) (x:QE×w8) (h:zl3 s=some x):s=zqn x.1 x.2:=zt (o:=zug s) h
def zlf:QE→(Ex→St→Ans)→zoD→Ans:=fun (t32,o0_0,o0_1,o0_2,o0_3,o0_4,o0_5,o0_6,o1) K=>fun t5_y=>K (Ex.exit 0) { env:=[(1,.ptr 0 0),(5,.str t5_y)],stk:=[[]],H:=[.cells [.int .i64 o0_0,.int .i64 o0_1,.int .i64 o0_2,.int .i64 o0_3,.int .i64 o0_4,.int .i64 o0_5,.int .i64 o0_6]],blk:=217088 }
def zbM {β:Type}:QE→w8→(w8→Option β)→(zoD→Option β)→Option β:=fun (t32,o0_0,o0_1,o0_2,o0_3,o0_4,o0_5,o0_6,o1) (t5,t33) next exit=>(bif decide (t33<t32) then (bif inR t33 (List.length o1) then (za (o1[Int.toNat t33]?) fun x=>(za (Zw (t5,x,(1:Int))) fun r=>(next (r,IntKind.wrap .i64 (t33+(1:Int)))))) else none) else (exit (t5)))
def ZK (i:QE) (v:w8):Option (w8 ⊕ zoD):=zbM i v (fun v=>some (.inl v)) (fun y=>some (.inr y))
theorem zAV (i:QE) (v:w8) (next:w8→Ans) (exit:zoD→Ans):zbM i v next exit=za (ZK i v) (Sum.elim next exit):=by
  obtain ⟨t32,o0_0,o0_1,o0_2,o0_3,o0_4,o0_5,o0_6,o1⟩:=i
  obtain ⟨t5,t33⟩:=v
  simp only [ZK,zbM,zi,zh,zl,zc,zj,zm,zg,Sum.elim_inl,Sum.elim_inr]
theorem zFY (n:Nat) (i:QE) (v:w8) (K:Ex→St→Ans):zx Tryz.tab zgy zd (zy Tryz.tab zgy zd 0 64) (n+1) 51 ziX (.loop zg4) (zB 0 (exk [1,5] [2,3] [(0,[1,5])]) K) (zqn i v)=zbM i v (fun v'=>zx Tryz.tab zgy zd (zy Tryz.tab zgy zd 0 64) n 51 ziX (.loop zg4) (zB 0 (exk [1,5] [2,3] [(0,[1,5])]) K) (zqn i v')) (fun y=>zlf i K y):=by kernel_rfl
theorem zQi:zw Tryz.prog 51 (.loop zg4) (Zm zl3 ZK zlf):=Zf mixed tabOk zKV 0 (exk [1,5] [2,3] [(0,[1,5])]) zFW zK4 zFY zAV
noncomputable def zSq:(Ex→St→Ans)→St→Ans:=(Zm zl3 ZK zlf)
theorem zVv:zw Tryz.prog 51 (.loop zg4) zSq:=zQi
noncomputable def z11:Ann:=(.seq .none (.seq .none (.seq .none (.seq .none (.seq (.seq .none (.block (.cut 0 [1,5,31,32,33] zSq))) .none)))))
theorem z5l:zq Tryz.prog 51 z8o z11:=⟨(zb _ _ _),⟨(zb _ _ _),⟨(zb _ _ _),⟨(zb _ _ _),⟨⟨(zb _ _ _),zVv⟩,(zb _ _ _)⟩⟩⟩⟩⟩
abbrev zes:=(Int)×(Int)×(Int)×(Int)×(Int)×(Int)×(Int)
abbrev zK7:=(List UInt8)×(Int)
def zvU {β:Type}:zes→(zK7→Option β)→Option β:=fun (a0_0,a0_1,a0_2,a0_3,a0_4,a0_5,a0_6) exit=>(za (zep (a0_0,a0_1,a0_2,a0_3,a0_4,a0_5,a0_6)) fun r=>(bif r != (0:Int) then (exit ([],r)) else (za (Zw ([(83:UInt8)],a0_0,(1:Int))) fun r_2=>(za (Zw (r_2,a0_1,(1:Int))) fun r_3=>(za (Zw (r_3,a0_2,(4:Int))) fun r_4=>(za (zO (ZK ((↑(List.length [a0_3,a0_4,a0_5]):Int),a0_0,a0_1,a0_2,a0_3,a0_4,a0_5,a0_6,[a0_3,a0_4,a0_5])) zY (r_4,(0:Int))) fun t5=>(za (Zw (t5,a0_6,(2:Int))) fun r_5=>(za (zcj (r_5)) fun r_6=>(bif Nat.ble (List.length r_5+List.length r_6) (9223372036854775807:Nat) then (za (zgw (r_5++r_6)) fun r_7=>(exit (r_7,(0:Int)))) else none)))))))))
def zeT (a:zes):Option zK7:=zvU a some
theorem z39 (a:zes) (k:zK7→Ans):zvU a k=za (zeT a) k:=by
  obtain ⟨a0_0,a0_1,a0_2,a0_3,a0_4,a0_5,a0_6⟩:=a
  simp only [zeT,zvU,zi,zh,zl,zc,zj,zm,zg]
def zz2:zes→List AV:=fun (a0_0,a0_1,a0_2,a0_3,a0_4,a0_5,a0_6)=>[.agg [.int .i64 a0_0,.int .i64 a0_1,.int .i64 a0_2,.int .i64 a0_3,.int .i64 a0_4,.int .i64 a0_5,.int .i64 a0_6]]
def zNy (l:List AV):Option {a:zes // l=zz2 a}:=match l with
  | [.agg [.int .i64 a0_0,.int .i64 a0_1,.int .i64 a0_2,.int .i64 a0_3,.int .i64 a0_4,.int .i64 a0_5,.int .i64 a0_6]]=>some ⟨(a0_0,a0_1,a0_2,a0_3,a0_4,a0_5,a0_6),rfl⟩
  | _=>none
def zUI (l:List AV):Option zes:=pk (zNy l)
theorem zWE (l:List AV) (a:zes) (h:zUI l=some a):l=zz2 a:=zt (o:=zNy l) h
def zBl:zes→zK7→AV:=fun (a0_0,a0_1,a0_2,a0_3,a0_4,a0_5,a0_6)=>unP fun r_0_y r_1_y => .tup [.str r_0_y,.int .i64 r_1_y]
theorem zZa : ∀(a:zes) (y:zK7),(zBl a y).closed1=true:=by
  rintro ⟨a0_0,a0_1,a0_2,a0_3,a0_4,a0_5,a0_6⟩ y <;> first | rfl | exact Empty.elim y
theorem z8U (a:zes):fnE Tryz.tab zgy zd 0 70 53 Tryz.f53.ntmps Tryz.f53.results.toList z11 z8o (zz2 a) [] (fun v _=>some (v,[]))=zvU a (fun y=>some (zBl a y,[])):=by kernel_rfl
def Zex (a:zes) (K:AV→Ans):Ans:=za (zeT a) fun y=>K (zBl a y)
def zYi:List AV→(AV→Ans)→Ans:=fun l K=>za (zUI l) fun a=>Zex a K
theorem zDU:zM Tryz.prog 53 zYi:=zL (hint:=zd) (d:=0) (n:=70) mixed tabOk zKV Tryz.func53 (zE (by kernel_rfl)) (by decide +kernel) z5l zWE z8U z39 zZa
--@ super_Get
noncomputable def zxH:Env:=[(49,.func zBB),(50,.func zsx),(51,.func zsg),(52,.pure Fq4),(53,.pure zYi)]
theorem zJw:zf Tryz.prog zxH:=zf.cons zgK (zf.cons zdC (zf.cons zdB (zf.cons zgB (zf.cons zDU (zf.nil)))))
noncomputable def Zab:Code:=Tryz.f20.body.getD .skip
noncomputable def zor:Code:=zF [1,1,1,1,1,1,1,1,0,1,0] Zab
noncomputable def zyg:Ann := .none
theorem zGL:zq Tryz.prog 63 zor zyg:=(zb _ _ _)
abbrev QD:=(List UInt8)×(List UInt8)×(Int)×(Int)×(Int)×(Int)×(Int)×(Int)×(Int)×(Int)
abbrev zoG:=(Bool)
def zyW:QD→St:=fun (t0,t7,t8,o1_0,o1_1,o1_2,o1_3,o1_4,o1_5,o1_6)=>{ env:=[(0,.str t0),(2,.ptr 0 0),(4,.ptr 1 0),(7,.str t7),(8,.int .i64 t8)],stk:=[[]],H:=[.cells [.int .i64 (0),.int .i64 (0),.int .i64 (0),.int .i64 (0),.int .i64 (0),.int .i64 (0),.int .i64 (0)],.cells [.int .i64 o1_0,.int .i64 o1_1,.int .i64 o1_2,.int .i64 o1_3,.int .i64 o1_4,.int .i64 o1_5,.int .i64 o1_6]],blk:=81920 }
def zwB (s:St):Option {x:QD // s=zyW x}:=match s with
  | { env:=[(0,.str t0),(2,.ptr 0 0),(4,.ptr 1 0),(7,.str t7),(8,.int .i64 t8)],stk:=[[]],H:=[.cells [.int .i64 r3,.int .i64 r4,.int .i64 r5,.int .i64 r6,.int .i64 r7,.int .i64 r8,.int .i64 r9],.cells [.int .i64 o1_0,.int .i64 o1_1,.int .i64 o1_2,.int .i64 o1_3,.int .i64 o1_4,.int .i64 o1_5,.int .i64 o1_6]],blk:=81920 }=>if h3:r3=0 then if h4:r4=0 then if h5:r5=0 then if h6:r6=0 then if h7:r7=0 then if h8:r8=0 then if h9:r9=0 then some ⟨(t0,t7,t8,o1_0,o1_1,o1_2,o1_3,o1_4,o1_5,o1_6),by subst h3 h4 h5 h6 h7 h8 h9;rfl⟩ else none else none else none else none else none else none else none
  | _=>none
def zki (s:St):Option QD:=pk (zwB s)
theorem zMJ (s:St) (x:QD) (h:zki s=some x):s=zyW x:=zt (o:=zwB s) h
def zmm:QD→(Ex→St→Ans)→zoG→Ans:=fun (t0,t7,t8,o1_0,o1_1,o1_2,o1_3,o1_4,o1_5,o1_6) K=>fun t60_y=>K (Ex.norm) { env:=[(2,.ptr 0 0),(4,.ptr 1 0),(60,.bool t60_y)],stk:=[[]],H:=[.cells [.int .i64 (0),.int .i64 (0),.int .i64 (0),.int .i64 (0),.int .i64 (0),.int .i64 (0),.int .i64 (0)],.cells [.int .i64 o1_0,.int .i64 o1_1,.int .i64 o1_2,.int .i64 o1_3,.int .i64 o1_4,.int .i64 o1_5,.int .i64 o1_6]],blk:=81920 }
def zag {β:Type}:QD→(zoG→Option β)→Option β:=fun (t0,t7,t8,o1_0,o1_1,o1_2,o1_3,o1_4,o1_5,o1_6) exit=>(bif t8 != (0:Int) then (exit (true)) else (exit (!t7 == t0)))
def Y3 (i:QD):Option zoG:=zag i some
theorem zzR (i:QD) (k:zoG→Ans):zag i k=za (Y3 i) k:=by
  obtain ⟨t0,t7,t8,o1_0,o1_1,o1_2,o1_3,o1_4,o1_5,o1_6⟩:=i
  simp only [Y3,zag,zi,zh,zl,zc,zj,zm,zg]
theorem zHm (i:QD) (K:Ex→St→Ans):zx Tryz.tab zxH zd (zy Tryz.tab zxH zd 0 64) 70 63 zyg zor (zB 0 (exk [2,4,60] [2,3] []) K) (zyW i)=zag i (zmm i K):=by kernel_rfl
theorem zPB:zw Tryz.prog 63 zor (zG zki Y3 zmm):=zA mixed tabOk zJw 0 (exk [2,4,60] [2,3] []) zGL zMJ zHm zzR
noncomputable def zSv:(Ex→St→Ans)→St→Ans:=(zG zki Y3 zmm)
theorem zWi:zw Tryz.prog 63 zor zSv:=zPB
noncomputable def z2n:Ann:=(.seq .none (.seq .none (.seq .none (.seq .none (.seq .none (.seq .none (.seq .none (.seq .none (.seq (.seq .none (.seq (.cut 0 [0,2,4,7,8] zSv) .none)) .none)))))))))
theorem z1N:zq Tryz.prog 63 Zab z2n:=⟨(zb _ _ _),⟨(zb _ _ _),⟨(zb _ _ _),⟨(zb _ _ _),⟨(zb _ _ _),⟨(zb _ _ _),⟨(zb _ _ _),⟨(zb _ _ _),⟨⟨(zb _ _ _),⟨zWi,(zb _ _ _)⟩⟩,(zb _ _ _)⟩⟩⟩⟩⟩⟩⟩⟩⟩
abbrev zd3:=(List UInt8)
abbrev zJ3:=(Int)×(Int)×(Int)×(Int)×(Int)×(Int)×(Int)×(Int)
def zxN {β:Type}:zd3→(zJ3→Option β)→Option β:=fun a0 exit=>(bif (↑(List.length a0):Int) != (64:Int) then (exit ((0:Int),(0:Int),(0:Int),(0:Int),(0:Int),(0:Int),(0:Int),(12:Int))) else (za (Wq (a0)) fun _=>(za (yB ((1:Int),a0,(0:Int))) (unP fun r=>unP fun o0_0 o0_1=>(bif !r == [(83:UInt8)] then (exit ((0:Int),(0:Int),(0:Int),(0:Int),(0:Int),(0:Int),(0:Int),(4:Int))) else (za (ZZ ((1:Int),o0_0,o0_1)) (unP fun r_2=>unP fun o0_0_2 o0_1_2=>(za (ZZ ((1:Int),o0_0_2,o0_1_2)) (unP fun r_3=>unP fun o0_0_3 o0_1_3=>(za (ZZ ((4:Int),o0_0_3,o0_1_3)) (unP fun r_4=>unP fun o0_0_4 o0_1_4=>(za (ZZ ((1:Int),o0_0_4,o0_1_4)) (unP fun r_5=>unP fun o0_0_5 o0_1_5=>(za (ZZ ((1:Int),o0_0_5,o0_1_5)) (unP fun r_6=>unP fun o0_0_6 o0_1_6=>(za (ZZ ((1:Int),o0_0_6,o0_1_6)) (unP fun r_7=>unP fun o0_0_7 o0_1_7=>(za (ZZ ((2:Int),o0_0_7,o0_1_7)) (unP fun r_8=>unP fun o0_0_8 o0_1_8=>(bif inR (12:Int) (List.length a0+(1:Nat)) then (za (zcj (List.take (12:Nat) a0)) fun r_9=>(za (yB ((↑(List.length r_9):Int),o0_0_8,o0_1_8)) (unP fun r_10=>unP fun o0_0_9 o0_1_9=>(bif !r_10 == r_9 then (exit ((0:Int),(0:Int),(0:Int),(0:Int),(0:Int),(0:Int),(0:Int),(5:Int))) else (za (zeT (r_2,r_3,r_4,r_5,r_6,r_7,r_8)) (unP fun r_0 r_1=>(za (Y3 (a0,r_0,r_1,r_2,r_3,r_4,r_5,r_6,r_7,r_8)) fun t60=>(bif t60 then (exit ((0:Int),(0:Int),(0:Int),(0:Int),(0:Int),(0:Int),(0:Int),(4:Int))) else (exit (r_2,r_3,r_4,r_5,r_6,r_7,r_8,(0:Int))))))))))) else none))))))))))))))))))))
def zgt (a:zd3):Option zJ3:=zxN a some
theorem z0J (a:zd3) (k:zJ3→Ans):zxN a k=za (zgt a) k:=by
  obtain z:=a
  simp only [zgt,zxN,zi,zh,zl,zc,zj,zm,zg]
def zze:zd3→List AV:=fun a0=>[.str a0]
def zOo (l:List AV):Option {a:zd3 // l=zze a}:=match l with
  | [.str a0]=>some ⟨(a0),rfl⟩
  | _=>none
def zTz (l:List AV):Option zd3:=pk (zOo l)
theorem zYS (l:List AV) (a:zd3) (h:zTz l=some a):l=zze a:=zt (o:=zOo l) h
def zzc:zd3→zJ3→AV:=fun a0=>unP fun r_0_0_y=>unP fun r_0_1_y=>unP fun r_0_2_y=>unP fun r_0_3_y=>unP fun r_0_4_y=>unP fun r_0_5_y=>unP fun r_0_6_y r_1_y => .tup [.agg [.int .i64 r_0_0_y,.int .i64 r_0_1_y,.int .i64 r_0_2_y,.int .i64 r_0_3_y,.int .i64 r_0_4_y,.int .i64 r_0_5_y,.int .i64 r_0_6_y],.int .i64 r_1_y]
theorem z0b : ∀(a:zd3) (y:zJ3),(zzc a y).closed1=true:=by
  rintro z y <;> first | rfl | exact Empty.elim y
theorem z8Z (a:zd3):fnE Tryz.tab zxH zd 0 70 20 Tryz.f20.ntmps Tryz.f20.results.toList z2n Zab (zze a) [] (fun v _=>some (v,[]))=zxN a (fun y=>some (zzc a y,[])):=by kernel_rfl
def ZeF (a:zd3) (K:AV→Ans):Ans:=za (zgt a) fun y=>K (zzc a y)
def z9W:List AV→(AV→Ans)→Ans:=fun l K=>za (zTz l) fun a=>ZeF a K
theorem zUC:zM Tryz.prog 20 z9W:=zL (hint:=zd) (d:=0) (n:=70) mixed tabOk zJw Tryz.func20 (zE (by kernel_rfl)) (by decide +kernel) z1N zYS z8Z z0J z0b
--@ state_version
noncomputable def z5M:Env:=[(50,.func zsx),(51,.func zsg)]
theorem z8a:zf Tryz.prog z5M:=zf.cons zdC (zf.cons zdB (zf.nil))
noncomputable def ZdN:Code:=Tryz.f95.body.getD .skip
noncomputable def z2y:Ann := .none
theorem z2K:zq Tryz.prog 11 ZdN z2y:=(zb _ _ _)
abbrev zf7:=(List UInt8)×(Int)
abbrev zXn:=(Int)×(Int)×(List UInt8)×(List UInt8)×(Int)
def zu6 {β:Type}:zf7→(zXn→Option β)→Option β:=fun (o0_0,o0_1) exit=>(za (ZZ ((7:Int),o0_0,o0_1)) (unP fun r=>unP fun o0_0_2 o0_1_2=>(za (ZZ ((7:Int),o0_0_2,o0_1_2)) (unP fun r_2=>unP fun o0_0_3 o0_1_3=>(za (yB ((128:Int),o0_0_3,o0_1_3)) (unP fun r_3=>unP fun o0_0_4 o0_1_4=>(exit (r,r_2,r_3,o0_0_4,o0_1_4))))))))
def zcI (a:zf7):Option zXn:=zu6 a some
theorem z2S (a:zf7) (k:zXn→Ans):zu6 a k=za (zcI a) k:=by
  obtain ⟨o0_0,o0_1⟩:=a
  simp only [zcI,zu6,zi,zh,zl,zc,zj,zm,zg]
def znY:zf7→List AV×List AE.Obj:=fun (o0_0,o0_1)=>([.ptr 0 0],[.cells [.str o0_0,.int .i64 o0_1]])
def zKk (l:List AV) (H:List AE.Obj):Option {a:zf7 // (l,H)=znY a}:=match l,H with
  | [.ptr 0 0],[.cells [.str o0_0,.int .i64 o0_1]]=>some ⟨(o0_0,o0_1),rfl⟩
  | _,_=>none
def zUB (l:List AV) (H:List AE.Obj):Option zf7:=pk (zKk l H)
theorem zWr (l:List AV) (H:List AE.Obj) (a:zf7) (h:zUB l H=some a):(l,H)=znY a:=zt (o:=zKk l H) h
def z19:zf7→(AV→List AE.Obj→Ans)→zXn→Ans:=fun (o0_0,o0_1) K=>unP fun r_0_y=>unP fun r_1_y=>unP fun r_2_y=>unP fun o0_0_y o0_1_y=>K (.agg [.int .i64 r_0_y,.int .i64 r_1_y,.str r_2_y]) [.cells [.str o0_0_y,.int .i64 o0_1_y]]
theorem z7o (a:zf7) (K:AV→List AE.Obj→Ans):fnE Tryz.tab z5M zd 0 70 95 Tryz.f95.ntmps Tryz.f95.results.toList z2y ZdN (znY a).1 (znY a).2 K=zu6 a (z19 a K):=by kernel_rfl
def ZeJ (a:zf7) (K:AV→List AE.Obj→Ans):Ans:=za (zcI a) fun y=>z19 a K y
def z6J:List AV→List AE.Obj→(AV→List AE.Obj→Ans)→Ans:=fun l H K=>za (zUB l H) fun a=>ZeJ a K
theorem zRi:zQ Tryz.prog 95 z6J:=Zu (hint:=zd) (d:=0) (n:=70) mixed tabOk z8a Tryz.func95 (zE (by kernel_rfl)) (by decide +kernel) z2K zWr z7o z2S
--@ state_of
noncomputable def z3f:Env:=[]
theorem z8X:zf Tryz.prog z3f:=zf.nil
noncomputable def Zb6:Code:=Tryz.f70.body.getD .skip
noncomputable def z1B:Ann := .none
theorem z0D:zq Tryz.prog 15 Zb6 z1B:=(zb _ _ _)
abbrev zfU:=(Int)×(Int)×(Int)×(List UInt8)×(Int)×(Int)×(List UInt8)×(Int)×(Int)×(List UInt8)
abbrev zXc:=(Unit) ⊕ (Unit) ⊕ (Unit)
def zrb {β:Type}:zfU→(zXc→Option β)→Option β:=fun (a0_0,a0_1,a0_2,a0_3,a0_4,a0_5,a0_6,a0_7,a0_8,a0_9) exit=>(bif a0_0 == (0:Int) then (exit (Sum.inl ())) else (bif a0_0 == (1:Int) then (exit (Sum.inr (Sum.inl ()))) else (exit (Sum.inr (Sum.inr ())))))
def zev (a:zfU):Option zXc:=zrb a some
theorem z0A (a:zfU) (k:zXc→Ans):zrb a k=za (zev a) k:=by
  obtain ⟨a0_0,a0_1,a0_2,a0_3,a0_4,a0_5,a0_6,a0_7,a0_8,a0_9⟩:=a
  simp only [zev,zrb,zi,zh,zl,zc,zj,zm,zg]
def zod:zfU→List AV×List AE.Obj:=fun (a0_0,a0_1,a0_2,a0_3,a0_4,a0_5,a0_6,a0_7,a0_8,a0_9)=>([.agg [.int .i64 a0_0,.int .i64 a0_1,.int .i64 a0_2,.str a0_3,.int .i64 a0_4,.int .i64 a0_5,.str a0_6,.int .i64 a0_7,.int .i64 a0_8,.str a0_9]],[])
def zMM (l:List AV) (H:List AE.Obj):Option {a:zfU // (l,H)=zod a}:=match l,H with
  | [.agg [.int .i64 a0_0,.int .i64 a0_1,.int .i64 a0_2,.str a0_3,.int .i64 a0_4,.int .i64 a0_5,.str a0_6,.int .i64 a0_7,.int .i64 a0_8,.str a0_9]],[]=>some ⟨(a0_0,a0_1,a0_2,a0_3,a0_4,a0_5,a0_6,a0_7,a0_8,a0_9),rfl⟩
  | _,_=>none
def zTs (l:List AV) (H:List AE.Obj):Option zfU:=pk (zMM l H)
theorem zVS (l:List AV) (H:List AE.Obj) (a:zfU) (h:zTs l H=some a):(l,H)=zod a:=zt (o:=zMM l H) h
def z5t:zfU→(AV→List AE.Obj→Ans)→zXc→Ans:=fun (a0_0,a0_1,a0_2,a0_3,a0_4,a0_5,a0_6,a0_7,a0_8,a0_9) K=>(Sum.elim (fun _=>K (.ifc 162 (.agg [.int .i64 a0_0,.int .i64 a0_1,.int .i64 a0_2,.str a0_3,.int .i64 a0_4,.int .i64 a0_5,.str a0_6,.int .i64 a0_7,.int .i64 a0_8,.str a0_9])) []) ((Sum.elim (fun _=>K (.ifc 163 (.agg [.int .i64 a0_0,.int .i64 a0_1,.int .i64 a0_2,.str a0_3,.int .i64 a0_4,.int .i64 a0_5,.str a0_6,.int .i64 a0_7,.int .i64 a0_8,.str a0_9])) []) (fun _=>K (.nili) []))))
theorem z7X (a:zfU) (K:AV→List AE.Obj→Ans):fnE Tryz.tab z3f zd 0 70 70 Tryz.f70.ntmps Tryz.f70.results.toList z1B Zb6 (zod a).1 (zod a).2 K=zrb a (z5t a K):=by kernel_rfl
def ZeA (a:zfU) (K:AV→List AE.Obj→Ans):Ans:=za (zev a) fun y=>z5t a K y
def zXg:List AV→List AE.Obj→(AV→List AE.Obj→Ans)→Ans:=fun l H K=>za (zTs l H) fun a=>ZeA a K
theorem zzS:zQ Tryz.prog 70 zXg:=Zu (hint:=zd) (d:=0) (n:=70) mixed tabOk z8X Tryz.func70 (zE (by kernel_rfl)) (by decide +kernel) z0D zVS z7X z0A
--@ vector_within
noncomputable def zuX:Env:=[]
theorem zND:zf Tryz.prog zuX:=zf.nil
noncomputable def z9D:Code:=Tryz.f246.body.getD .skip
noncomputable def zqR:Code:=zF [1,0] z9D
noncomputable def zxx:Ann := .none
theorem zGl:zq Tryz.prog 12 zqR zxx:=(zb _ _ _)
abbrev Q4:=(Int)×(Int)
abbrev zpZ:=(Bool)
def zyV:Q4→St:=fun (t0,t1)=>{ env:=[(0,.int .i64 t0),(1,.int .i64 t1)],stk:=[[]],H:=[],blk:=1007616 }
def zt8 (s:St):Option {x:Q4 // s=zyV x}:=match s with
  | { env:=[(0,.int .i64 t0),(1,.int .i64 t1)],stk:=[[]],H:=[],blk:=1007616 }=>some ⟨(t0,t1),rfl⟩
  | _=>none
def zkP (s:St):Option Q4:=pk (zt8 s)
theorem zMu (s:St) (x:Q4) (h:zkP s=some x):s=zyV x:=zt (o:=zt8 s) h
def zlA:Q4→(Ex→St→Ans)→zpZ→Ans:=fun (t0,t1) K=>fun t4_y=>K (Ex.norm) { env:=[(4,.bool t4_y)],stk:=[[]],H:=[],blk:=1007616 }
def J9 {β:Type}:Q4→(zpZ→Option β)→Option β:=fun (t0,t1) exit=>(bif decide (t0≥(0:Int)) then (exit (decide (t0≤t1))) else (exit (false)))
def WC (i:Q4):Option zpZ:=J9 i some
theorem zBW (i:Q4) (k:zpZ→Ans):J9 i k=za (WC i) k:=by
  obtain ⟨t0,t1⟩:=i
  simp only [WC,J9,zi,zh,zl,zc,zj,zm,zg]
theorem zGu (i:Q4) (K:Ex→St→Ans):zx Tryz.tab zuX zd (zy Tryz.tab zuX zd 0 64) 70 12 zxx zqR (zB 0 (exk [4] [4] []) K) (zyV i)=J9 i (zlA i K):=by kernel_rfl
theorem zP3:zw Tryz.prog 12 zqR (zG zkP WC zlA):=zA mixed tabOk zND 0 (exk [4] [4] []) zGl zMu zGu zBW
noncomputable def zTW:(Ex→St→Ans)→St→Ans:=(zG zkP WC zlA)
theorem zWD:zw Tryz.prog 12 zqR zTW:=zP3
noncomputable def z4E:Ann:=(.seq .none (.seq (.cut 0 [0,1] zTW) .none))
theorem z2E:zq Tryz.prog 12 z9D z4E:=⟨(zb _ _ _),⟨zWD,(zb _ _ _)⟩⟩
abbrev zdY:=(Int)×(Int)
abbrev zI2:=(Bool)
def zx4 {β:Type}:zdY→(zI2→Option β)→Option β:=fun (a0,a1) exit=>(za (WC (a0,a1)) fun t4=>(exit (t4)))
def zd0 (a:zdY):Option zI2:=zx4 a some
theorem z5Y (a:zdY) (k:zI2→Ans):zx4 a k=za (zd0 a) k:=by
  obtain ⟨a0,a1⟩:=a
  simp only [zd0,zx4,zi,zh,zl,zc,zj,zm,zg]
def zB2:zdY→List AV:=fun (a0,a1)=>[.int .i64 a0,.int .i64 a1]
def zLE (l:List AV):Option {a:zdY // l=zB2 a}:=match l with
  | [.int .i64 a0,.int .i64 a1]=>some ⟨(a0,a1),rfl⟩
  | _=>none
def zUh (l:List AV):Option zdY:=pk (zLE l)
theorem zWn (l:List AV) (a:zdY) (h:zUh l=some a):l=zB2 a:=zt (o:=zLE l) h
def zDI:zdY→zI2→AV:=fun (a0,a1)=>fun r_y => .bool r_y
theorem zYH : ∀(a:zdY) (y:zI2),(zDI a y).closed1=true:=by
  rintro ⟨a0,a1⟩ y <;> first | rfl | exact Empty.elim y
theorem z9g (a:zdY):fnE Tryz.tab zuX zd 0 70 246 Tryz.f246.ntmps Tryz.f246.results.toList z4E z9D (zB2 a) [] (fun v _=>some (v,[]))=zx4 a (fun y=>some (zDI a y,[])):=by kernel_rfl
def Zef (a:zdY) (K:AV→Ans):Ans:=za (zd0 a) fun y=>K (zDI a y)
def z8H:List AV→(AV→Ans)→Ans:=fun l K=>za (zUh l) fun a=>Zef a K
theorem zRQ:zM Tryz.prog 246 z8H:=zL (hint:=zd) (d:=0) (n:=70) mixed tabOk zND Tryz.func246 (zE (by kernel_rfl)) (by decide +kernel) z2E zWn z9g z5Y zYH
--@ vector_Right
noncomputable def zyv:Env:=[(246,.pure z8H)]
theorem zOv:zf Tryz.prog zyv:=zf.cons zRQ (zf.nil)
noncomputable def z7G:Code:=Tryz.f224.body.getD .skip
noncomputable def zpr:Code:=zF [1,0] z7G
noncomputable def zu2:Ann := .none
theorem zIC:zq Tryz.prog 11 zpr zu2:=(zb _ _ _)
abbrev jh:=(Int)×(Int)
abbrev zoo:=(Bool)
def zCa:jh→St:=fun (o0_0,o0_1)=>{ env:=[(1,.ptr 0 0)],stk:=[[]],H:=[.cells [.int .i64 o0_0,.int .i64 o0_1]],blk:=917504 }
def zya (s:St):Option {x:jh // s=zCa x}:=match s with
  | { env:=[(1,.ptr 0 0)],stk:=[[]],H:=[.cells [.int .i64 o0_0,.int .i64 o0_1]],blk:=917504 }=>some ⟨(o0_0,o0_1),rfl⟩
  | _=>none
def zkJ (s:St):Option jh:=pk (zya s)
theorem zL5 (s:St) (x:jh) (h:zkJ s=some x):s=zCa x:=zt (o:=zya s) h
def znw:jh→(Ex→St→Ans)→zoo→Ans:=fun (o0_0,o0_1) K=>fun t2_y=>K (Ex.norm) { env:=[(2,.bool t2_y)],stk:=[[]],H:=[],blk:=917504 }
def za1 {β:Type}:jh→(zoo→Option β)→Option β:=fun (o0_0,o0_1) exit=>(za (zd0 (o0_0,(1125899906842624:Int))) fun r=>(bif r then (za (zd0 (o0_1,(1125899906842624:Int))) fun r_2=>(exit (r_2))) else (exit (false))))
def WN (i:jh):Option zoo:=za1 i some
theorem zCN (i:jh) (k:zoo→Ans):za1 i k=za (WN i) k:=by
  obtain ⟨o0_0,o0_1⟩:=i
  simp only [WN,za1,zi,zh,zl,zc,zj,zm,zg]
theorem zHb (i:jh) (K:Ex→St→Ans):zx Tryz.tab zyv zd (zy Tryz.tab zyv zd 0 64) 70 11 zu2 zpr (zB 0 (exk [2] [2] []) K) (zCa i)=za1 i (znw i K):=by kernel_rfl
theorem zRd:zw Tryz.prog 11 zpr (zG zkJ WN znw):=zA mixed tabOk zOv 0 (exk [2] [2] []) zIC zL5 zHb zCN
noncomputable def zSm:(Ex→St→Ans)→St→Ans:=(zG zkJ WN znw)
theorem zXT:zw Tryz.prog 11 zpr zSm:=zRd
noncomputable def z5y:Ann:=(.seq .none (.seq (.cut 0 [1] zSm) .none))
theorem z0t:zq Tryz.prog 11 z7G z5y:=⟨(zb _ _ _),⟨zXT,(zb _ _ _)⟩⟩
abbrev zeM:=(Int)×(Int)
abbrev zMj:=(Bool)
def zwE {β:Type}:zeM→(zMj→Option β)→Option β:=fun (a0_0,a0_1) exit=>(za (WN (a0_0,a0_1)) fun t2=>(exit (t2)))
def zcw (a:zeM):Option zMj:=zwE a some
theorem z4e (a:zeM) (k:zMj→Ans):zwE a k=za (zcw a) k:=by
  obtain ⟨a0_0,a0_1⟩:=a
  simp only [zcw,zwE,zi,zh,zl,zc,zj,zm,zg]
def zC9:zeM→List AV:=fun (a0_0,a0_1)=>[.agg [.int .i64 a0_0,.int .i64 a0_1]]
def zLW (l:List AV):Option {a:zeM // l=zC9 a}:=match l with
  | [.agg [.int .i64 a0_0,.int .i64 a0_1]]=>some ⟨(a0_0,a0_1),rfl⟩
  | _=>none
def zRK (l:List AV):Option zeM:=pk (zLW l)
theorem zYc (l:List AV) (a:zeM) (h:zRK l=some a):l=zC9 a:=zt (o:=zLW l) h
def zCH:zeM→zMj→AV:=fun (a0_0,a0_1)=>fun r_y => .bool r_y
theorem zXQ : ∀(a:zeM) (y:zMj),(zCH a y).closed1=true:=by
  rintro ⟨a0_0,a0_1⟩ y <;> first | rfl | exact Empty.elim y
theorem z9u (a:zeM):fnE Tryz.tab zyv zd 0 70 224 Tryz.f224.ntmps Tryz.f224.results.toList z5y z7G (zC9 a) [] (fun v _=>some (v,[]))=zwE a (fun y=>some (zCH a y,[])):=by kernel_rfl
def ZeG (a:zeM) (K:AV→Ans):Ans:=za (zcw a) fun y=>K (zCH a y)
def zW5:List AV→(AV→Ans)→Ans:=fun l K=>za (zRK l) fun a=>ZeG a K
theorem zBG:zM Tryz.prog 224 zW5:=zL (hint:=zd) (d:=0) (n:=70) mixed tabOk zOv Tryz.func224 (zE (by kernel_rfl)) (by decide +kernel) z0t zYc z9u z4e zXQ
--@ state_single_check
noncomputable def zhb:Env:=[(224,.pure zW5)]
theorem zr3:zf Tryz.prog zhb:=zf.cons zBG (zf.nil)
noncomputable def zWG:Code:=Tryz.f311.body.getD .skip
noncomputable def zoP:Code:=zF [1,1,0,0,1,1,1,1,0] zWG
noncomputable def zw9:Ann := .none
theorem zGp:zq Tryz.prog 29 zoP zw9:=(zb _ _ _)
abbrev jS:=(Int)×(Int)×(Int)×(List UInt8)×(Int)×(Int)×(List UInt8)×(Int)×(Int)×(List UInt8)
abbrev zpq:=(Bool)
def zBZ:jS→St:=fun (o0_0,o0_1,o0_2,o0_3,o0_4,o0_5,o0_6,o0_7,o0_8,o0_9)=>{ env:=[(1,.ptr 0 0),(3,.ptr 1 0)],stk:=[[]],H:=[.cells [.int .i64 o0_0,.int .i64 o0_1,.int .i64 o0_2,.str o0_3,.int .i64 o0_4,.int .i64 o0_5,.str o0_6,.int .i64 o0_7,.int .i64 o0_8,.str o0_9],.cells [.int .i64 (0),.int .i64 (0),.str ([])]],blk:=1273856 }
def zxq (s:St):Option {x:jS // s=zBZ x}:=match s with
  | { env:=[(1,.ptr 0 0),(3,.ptr 1 0)],stk:=[[]],H:=[.cells [.int .i64 o0_0,.int .i64 o0_1,.int .i64 o0_2,.str o0_3,.int .i64 o0_4,.int .i64 o0_5,.str o0_6,.int .i64 o0_7,.int .i64 o0_8,.str o0_9],.cells [.int .i64 r10,.int .i64 r11,.str r12]],blk:=1273856 }=>if h10:r10=0 then if h11:r11=0 then if h12:r12=[] then some ⟨(o0_0,o0_1,o0_2,o0_3,o0_4,o0_5,o0_6,o0_7,o0_8,o0_9),by subst h10 h11 h12;rfl⟩ else none else none else none
  | _=>none
def zlg (s:St):Option jS:=pk (zxq s)
theorem zLM (s:St) (x:jS) (h:zlg s=some x):s=zBZ x:=zt (o:=zxq s) h
def zlJ:jS→(Ex→St→Ans)→zpq→Ans:=fun (o0_0,o0_1,o0_2,o0_3,o0_4,o0_5,o0_6,o0_7,o0_8,o0_9) K=>fun t16_y=>K (Ex.norm) { env:=[(16,.bool t16_y)],stk:=[[]],H:=[],blk:=1273856 }
def zaN {β:Type}:jS→(zpq→Option β)→Option β:=fun (o0_0,o0_1,o0_2,o0_3,o0_4,o0_5,o0_6,o0_7,o0_8,o0_9) exit=>(bif !(o0_4 == (0:Int)&&(o0_5 == (0:Int)&&true)&&(o0_6 == []&&true)) then (exit (true)) else (exit (!(o0_7 == (0:Int)&&(o0_8 == (0:Int)&&true)&&(o0_9 == []&&true)))))
def WB (i:jS):Option zpq:=zaN i some
theorem zzk (i:jS) (k:zpq→Ans):zaN i k=za (WB i) k:=by
  obtain ⟨o0_0,o0_1,o0_2,o0_3,o0_4,o0_5,o0_6,o0_7,o0_8,o0_9⟩:=i
  simp only [WB,zaN,zi,zh,zl,zc,zj,zm,zg]
theorem zHi (i:jS) (K:Ex→St→Ans):zx Tryz.tab zhb zd (zy Tryz.tab zhb zd 0 64) 70 29 zw9 zoP (zB 0 (exk [16] [2] []) K) (zBZ i)=zaN i (zlJ i K):=by kernel_rfl
theorem zQY:zw Tryz.prog 29 zoP (zG zlg WB zlJ):=zA mixed tabOk zr3 0 (exk [16] [2] []) zGp zLM zHi zzk
noncomputable def zSe:(Ex→St→Ans)→St→Ans:=(zG zlg WB zlJ)
theorem zYE:zw Tryz.prog 29 zoP zSe:=zQY
noncomputable def zpM:Code:=zF [1,1,0] zWG
noncomputable def zxb:Ann:=(.block (.seq .none (.cond .none (.seq .none (.cond .none (.seq (.cut 0 [1,3] zSe) .none))))))
theorem zG3:zq Tryz.prog 29 zpM zxb:=⟨(zb _ _ _),⟨(zb _ _ _),⟨(zb _ _ _),⟨(zb _ _ _),⟨zYE,(zb _ _ _)⟩⟩⟩⟩⟩
abbrev j5:=(Int)×(Int)×(Int)×(List UInt8)×(Int)×(Int)×(List UInt8)×(Int)×(Int)×(List UInt8)
abbrev zqK:=((Int)) ⊕ (Unit)
def zyX:j5→St:=fun (o0_0,o0_1,o0_2,o0_3,o0_4,o0_5,o0_6,o0_7,o0_8,o0_9)=>{ env:=[(1,.ptr 0 0),(3,.ptr 1 0)],stk:=[[]],H:=[.cells [.int .i64 o0_0,.int .i64 o0_1,.int .i64 o0_2,.str o0_3,.int .i64 o0_4,.int .i64 o0_5,.str o0_6,.int .i64 o0_7,.int .i64 o0_8,.str o0_9],.cells [.int .i64 (0),.int .i64 (0),.str ([])]],blk:=1273856 }
def zwD (s:St):Option {x:j5 // s=zyX x}:=match s with
  | { env:=[(1,.ptr 0 0),(3,.ptr 1 0)],stk:=[[]],H:=[.cells [.int .i64 o0_0,.int .i64 o0_1,.int .i64 o0_2,.str o0_3,.int .i64 o0_4,.int .i64 o0_5,.str o0_6,.int .i64 o0_7,.int .i64 o0_8,.str o0_9],.cells [.int .i64 r10,.int .i64 r11,.str r12]],blk:=1273856 }=>if h10:r10=0 then if h11:r11=0 then if h12:r12=[] then some ⟨(o0_0,o0_1,o0_2,o0_3,o0_4,o0_5,o0_6,o0_7,o0_8,o0_9),by subst h10 h11 h12;rfl⟩ else none else none else none
  | _=>none
def zl0 (s:St):Option j5:=pk (zwD s)
theorem zLJ (s:St) (x:j5) (h:zl0 s=some x):s=zyX x:=zt (o:=zwD s) h
def zmI:j5→(Ex→St→Ans)→zqK→Ans:=fun (o0_0,o0_1,o0_2,o0_3,o0_4,o0_5,o0_6,o0_7,o0_8,o0_9) K=>(Sum.elim (fun t2_y=>K (Ex.ret) { env:=[(2,.int .i64 t2_y)],stk:=[[]],H:=[],blk:=1273856 }) (fun _=>K (Ex.norm) { env:=[],stk:=[[]],H:=[],blk:=1273856 }))
def zaP {β:Type}:j5→(zqK→Option β)→Option β:=fun (o0_0,o0_1,o0_2,o0_3,o0_4,o0_5,o0_6,o0_7,o0_8,o0_9) exit=>(za (zcw (o0_1,o0_2)) fun r=>(bif !r then (exit (Sum.inl ((3:Int)))) else (bif (↑(List.length o0_3):Int) != (128:Int) then (exit (Sum.inl ((12:Int)))) else (za (WB (o0_0,o0_1,o0_2,o0_3,o0_4,o0_5,o0_6,o0_7,o0_8,o0_9)) fun t16=>(bif t16 then (exit (Sum.inl ((4:Int)))) else (exit (Sum.inr ())))))))
def W6 (i:j5):Option zqK:=zaP i some
theorem zz1 (i:j5) (k:zqK→Ans):zaP i k=za (W6 i) k:=by
  obtain ⟨o0_0,o0_1,o0_2,o0_3,o0_4,o0_5,o0_6,o0_7,o0_8,o0_9⟩:=i
  simp only [W6,zaP,zi,zh,zl,zc,zj,zm,zg]
theorem zGY (i:j5) (K:Ex→St→Ans):zx Tryz.tab zhb zd (zy Tryz.tab zhb zd 0 64) 70 29 zxb zpM (zB 0 (exk [] [2] []) K) (zyX i)=zaP i (zmI i K):=by kernel_rfl
theorem zQJ:zw Tryz.prog 29 zpM (zG zl0 W6 zmI):=zA mixed tabOk zr3 0 (exk [] [2] []) zG3 zLJ zGY zz1
noncomputable def zTw:(Ex→St→Ans)→St→Ans:=(zG zl0 W6 zmI)
theorem zW1:zw Tryz.prog 29 zpM zTw:=zQJ
noncomputable def z0B:Ann:=(.seq .none (.seq .none (.seq (.cut 0 [1,3] zTw) .none)))
theorem z57:zq Tryz.prog 29 zWG z0B:=⟨(zb _ _ _),⟨(zb _ _ _),⟨zW1,(zb _ _ _)⟩⟩⟩
abbrev zdT:=(Int)×(Int)×(Int)×(List UInt8)×(Int)×(Int)×(List UInt8)×(Int)×(Int)×(List UInt8)
abbrev zNG:=(Int)
def zwL {β:Type}:zdT→(zNG→Option β)→Option β:=fun (a0_0,a0_1,a0_2,a0_3,a0_4,a0_5,a0_6,a0_7,a0_8,a0_9) exit=>(za (W6 (a0_0,a0_1,a0_2,a0_3,a0_4,a0_5,a0_6,a0_7,a0_8,a0_9)) (Sum.elim (fun t2=>(exit (t2))) (fun _=>(exit ((0:Int))))))
def zkk (a:zdT):Option zNG:=zwL a some
theorem z1f (a:zdT) (k:zNG→Ans):zwL a k=za (zkk a) k:=by
  obtain ⟨a0_0,a0_1,a0_2,a0_3,a0_4,a0_5,a0_6,a0_7,a0_8,a0_9⟩:=a
  simp only [zkk,zwL,zi,zh,zl,zc,zj,zm,zg]
def zBh:zdT→List AV:=fun (a0_0,a0_1,a0_2,a0_3,a0_4,a0_5,a0_6,a0_7,a0_8,a0_9)=>[.agg [.int .i64 a0_0,.int .i64 a0_1,.int .i64 a0_2,.str a0_3,.int .i64 a0_4,.int .i64 a0_5,.str a0_6,.int .i64 a0_7,.int .i64 a0_8,.str a0_9]]
def zI3 (l:List AV):Option {a:zdT // l=zBh a}:=match l with
  | [.agg [.int .i64 a0_0,.int .i64 a0_1,.int .i64 a0_2,.str a0_3,.int .i64 a0_4,.int .i64 a0_5,.str a0_6,.int .i64 a0_7,.int .i64 a0_8,.str a0_9]]=>some ⟨(a0_0,a0_1,a0_2,a0_3,a0_4,a0_5,a0_6,a0_7,a0_8,a0_9),rfl⟩
  | _=>none
def zSr (l:List AV):Option zdT:=pk (zI3 l)
theorem zXq (l:List AV) (a:zdT) (h:zSr l=some a):l=zBh a:=zt (o:=zI3 l) h
def zA4:zdT→zNG→AV:=fun (a0_0,a0_1,a0_2,a0_3,a0_4,a0_5,a0_6,a0_7,a0_8,a0_9)=>fun r_y => .int .i64 r_y
theorem zVl : ∀(a:zdT) (y:zNG),(zA4 a y).closed1=true:=by
  rintro ⟨a0_0,a0_1,a0_2,a0_3,a0_4,a0_5,a0_6,a0_7,a0_8,a0_9⟩ y <;> first | rfl | exact Empty.elim y
theorem z7z (a:zdT):fnE Tryz.tab zhb zd 0 70 311 Tryz.f311.ntmps Tryz.f311.results.toList z0B zWG (zBh a) [] (fun v _=>some (v,[]))=zwL a (fun y=>some (zA4 a y,[])):=by kernel_rfl
def ZeB (a:zdT) (K:AV→Ans):Ans:=za (zkk a) fun y=>K (zA4 a y)
def z7u:List AV→(AV→Ans)→Ans:=fun l K=>za (zSr l) fun a=>ZeB a K
theorem zSG:zM Tryz.prog 311 z7u:=zL (hint:=zd) (d:=0) (n:=70) mixed tabOk zr3 Tryz.func311 (zE (by kernel_rfl)) (by decide +kernel) z57 zXq z7z z1f zVl
--@ vector_Covers
noncomputable def zyi:Env:=[]
theorem zNz:zf Tryz.prog zyi:=zf.nil
noncomputable def z6t:Code:=Tryz.f263.body.getD .skip
noncomputable def zov:Code:=zF [1,0] z6t
noncomputable def ztW:Ann := .none
theorem zIa:zq Tryz.prog 17 zov ztW:=(zb _ _ _)
abbrev jd:=(Int)×(Int)×(Int)×(Int)
abbrev zoY:=(Bool)
def zy2:jd→St:=fun (o0_0,o0_1,o1_0,o1_1)=>{ env:=[(2,.ptr 0 0),(3,.ptr 1 0)],stk:=[[]],H:=[.cells [.int .i64 o0_0,.int .i64 o0_1],.cells [.int .i64 o1_0,.int .i64 o1_1]],blk:=1077248 }
def zxo (s:St):Option {x:jd // s=zy2 x}:=match s with
  | { env:=[(2,.ptr 0 0),(3,.ptr 1 0)],stk:=[[]],H:=[.cells [.int .i64 o0_0,.int .i64 o0_1],.cells [.int .i64 o1_0,.int .i64 o1_1]],blk:=1077248 }=>some ⟨(o0_0,o0_1,o1_0,o1_1),rfl⟩
  | _=>none
def zkF (s:St):Option jd:=pk (zxo s)
theorem zNF (s:St) (x:jd) (h:zkF s=some x):s=zy2 x:=zt (o:=zxo s) h
def zmd:jd→(Ex→St→Ans)→zoY→Ans:=fun (o0_0,o0_1,o1_0,o1_1) K=>fun t4_y=>K (Ex.norm) { env:=[(4,.bool t4_y)],stk:=[[]],H:=[],blk:=1077248 }
def zbo {β:Type}:jd→(zoY→Option β)→Option β:=fun (o0_0,o0_1,o1_0,o1_1) exit=>(bif decide (o0_0≥o1_0) then (exit (decide (o0_1≥o1_1))) else (exit (false)))
def WU (i:jd):Option zoY:=zbo i some
theorem zzf (i:jd) (k:zoY→Ans):zbo i k=za (WU i) k:=by
  obtain ⟨o0_0,o0_1,o1_0,o1_1⟩:=i
  simp only [WU,zbo,zi,zh,zl,zc,zj,zm,zg]
theorem zFc (i:jd) (K:Ex→St→Ans):zx Tryz.tab zyi zd (zy Tryz.tab zyi zd 0 64) 70 17 ztW zov (zB 0 (exk [4] [4] []) K) (zy2 i)=zbo i (zmd i K):=by kernel_rfl
theorem zQ4:zw Tryz.prog 17 zov (zG zkF WU zmd):=zA mixed tabOk zNz 0 (exk [4] [4] []) zIa zNF zFc zzf
noncomputable def zSP:(Ex→St→Ans)→St→Ans:=(zG zkF WU zmd)
theorem zZR:zw Tryz.prog 17 zov zSP:=zQ4
noncomputable def z6i:Ann:=(.seq .none (.seq (.cut 0 [2,3] zSP) .none))
theorem z1e:zq Tryz.prog 17 z6t z6i:=⟨(zb _ _ _),⟨zZR,(zb _ _ _)⟩⟩
abbrev zeI:=(Int)×(Int)×(Int)×(Int)
abbrev zN4:=(Bool)
def zup {β:Type}:zeI→(zN4→Option β)→Option β:=fun (a0_0,a0_1,a1_0,a1_1) exit=>(za (WU (a0_0,a0_1,a1_0,a1_1)) fun t4=>(exit (t4)))
def zex (a:zeI):Option zN4:=zup a some
theorem z4X (a:zeI) (k:zN4→Ans):zup a k=za (zex a) k:=by
  obtain ⟨a0_0,a0_1,a1_0,a1_1⟩:=a
  simp only [zex,zup,zi,zh,zl,zc,zj,zm,zg]
def zBT:zeI→List AV:=fun (a0_0,a0_1,a1_0,a1_1)=>[.agg [.int .i64 a0_0,.int .i64 a0_1],.agg [.int .i64 a1_0,.int .i64 a1_1]]
def zNR (l:List AV):Option {a:zeI // l=zBT a}:=match l with
  | [.agg [.int .i64 a0_0,.int .i64 a0_1],.agg [.int .i64 a1_0,.int .i64 a1_1]]=>some ⟨(a0_0,a0_1,a1_0,a1_1),rfl⟩
  | _=>none
def zSF (l:List AV):Option zeI:=pk (zNR l)
theorem zYF (l:List AV) (a:zeI) (h:zSF l=some a):l=zBT a:=zt (o:=zNR l) h
def zzo:zeI→zN4→AV:=fun (a0_0,a0_1,a1_0,a1_1)=>fun r_y => .bool r_y
theorem zXP : ∀(a:zeI) (y:zN4),(zzo a y).closed1=true:=by
  rintro ⟨a0_0,a0_1,a1_0,a1_1⟩ y <;> first | rfl | exact Empty.elim y
theorem z9c (a:zeI):fnE Tryz.tab zyi zd 0 70 263 Tryz.f263.ntmps Tryz.f263.results.toList z6i z6t (zBT a) [] (fun v _=>some (v,[]))=zup a (fun y=>some (zzo a y,[])):=by kernel_rfl
def ZeK (a:zeI) (K:AV→Ans):Ans:=za (zex a) fun y=>K (zzo a y)
def z6y:List AV→(AV→Ans)→Ans:=fun l K=>za (zSF l) fun a=>ZeK a K
theorem zRL:zM Tryz.prog 263 z6y:=zL (hint:=zd) (d:=0) (n:=70) mixed tabOk zNz Tryz.func263 (zE (by kernel_rfl)) (by decide +kernel) z1e zYF z9c z4X zXP
--@ vector_Compare
noncomputable def zgS:Env:=[(263,.pure z6y)]
theorem zs4:zf Tryz.prog zgS:=zf.cons zRL (zf.nil)
noncomputable def zXW:Code:=Tryz.f251.body.getD .skip
noncomputable def zp9:Code:=zF [1,1,0,0,0] zXW
noncomputable def zwV:Ann := .none
theorem zIj:zq Tryz.prog 22 zp9 zwV:=(zb _ _ _)
abbrev QK:=(Bool)×(Bool)
abbrev zqk:=(Bool)
def zzU:QK→St:=fun (t5,t6)=>{ env:=[(5,.bool t5),(6,.bool t6)],stk:=[[]],H:=[],blk:=1028096 }
def zvd (s:St):Option {x:QK // s=zzU x}:=match s with
  | { env:=[(5,.bool t5),(6,.bool t6)],stk:=[[]],H:=[],blk:=1028096 }=>some ⟨(t5,t6),rfl⟩
  | _=>none
def zjU (s:St):Option QK:=pk (zvd s)
theorem zJA (s:St) (x:QK) (h:zjU s=some x):s=zzU x:=zt (o:=zvd s) h
def zlo:QK→(Ex→St→Ans)→zqk→Ans:=fun (t5,t6) K=>fun t13_y=>K (Ex.norm) { env:=[(5,.bool t5),(6,.bool t6),(13,.bool t13_y)],stk:=[[]],H:=[],blk:=1028096 }
def zbz {β:Type}:QK→(zqk→Option β)→Option β:=fun (t5,t6) exit=>(bif t5 then (exit (t6)) else (exit (false)))
def WK (i:QK):Option zqk:=zbz i some
theorem zDf (i:QK) (k:zqk→Ans):zbz i k=za (WK i) k:=by
  obtain ⟨t5,t6⟩:=i
  simp only [WK,zbz,zi,zh,zl,zc,zj,zm,zg]
theorem zH2 (i:QK) (K:Ex→St→Ans):zx Tryz.tab zgS zd (zy Tryz.tab zgS zd 0 64) 70 22 zwV zp9 (zB 0 (exk [5,6,13] [4] []) K) (zzU i)=zbz i (zlo i K):=by kernel_rfl
theorem zPD:zw Tryz.prog 22 zp9 (zG zjU WK zlo):=zA mixed tabOk zs4 0 (exk [5,6,13] [4] []) zIj zJA zH2 zDf
noncomputable def zS6:(Ex→St→Ans)→St→Ans:=(zG zjU WK zlo)
theorem zZc:zw Tryz.prog 22 zp9 zS6:=zPD
noncomputable def zrn:Code:=zF [1,1,0] zXW
noncomputable def ztO:Ann:=(.block (.seq (.cut 0 [5,6] zS6) .none))
theorem zHe:zq Tryz.prog 22 zrn ztO:=⟨zZc,(zb _ _ _)⟩
abbrev jg:=(Bool)×(Bool)
abbrev zpu:=((Int)) ⊕ (Unit)
def zCt:jg→St:=fun (t5,t6)=>{ env:=[(5,.bool t5),(6,.bool t6)],stk:=[[]],H:=[],blk:=1028096 }
def zxn (s:St):Option {x:jg // s=zCt x}:=match s with
  | { env:=[(5,.bool t5),(6,.bool t6)],stk:=[[]],H:=[],blk:=1028096 }=>some ⟨(t5,t6),rfl⟩
  | _=>none
def zkH (s:St):Option jg:=pk (zxn s)
theorem zOs (s:St) (x:jg) (h:zkH s=some x):s=zCt x:=zt (o:=zxn s) h
def zjE:jg→(Ex→St→Ans)→zpu→Ans:=fun (t5,t6) K=>(Sum.elim (fun t4_y=>K (Ex.ret) { env:=[(4,.int .i64 t4_y)],stk:=[[]],H:=[],blk:=1028096 }) (fun _=>K (Ex.norm) { env:=[],stk:=[[]],H:=[],blk:=1028096 }))
def zbI {β:Type}:jg→(zpu→Option β)→Option β:=fun (t5,t6) exit=>(za (WK (t5,t6)) fun t13=>(bif t13 then (exit (Sum.inl ((0:Int)))) else (bif t5 then (exit (Sum.inl ((1:Int)))) else (bif t6 then (exit (Sum.inl ((2:Int)))) else (exit (Sum.inr ()))))))
def qv (i:jg):Option zpu:=zbI i some
theorem zD7 (i:jg) (k:zpu→Ans):zbI i k=za (qv i) k:=by
  obtain ⟨t5,t6⟩:=i
  simp only [qv,zbI,zi,zh,zl,zc,zj,zm,zg]
theorem zHr (i:jg) (K:Ex→St→Ans):zx Tryz.tab zgS zd (zy Tryz.tab zgS zd 0 64) 70 22 ztO zrn (zB 0 (exk [] [4] []) K) (zCt i)=zbI i (zjE i K):=by kernel_rfl
theorem zPn:zw Tryz.prog 22 zrn (zG zkH qv zjE):=zA mixed tabOk zs4 0 (exk [] [4] []) zHe zOs zHr zD7
noncomputable def zRh:(Ex→St→Ans)→St→Ans:=(zG zkH qv zjE)
theorem zZr:zw Tryz.prog 22 zrn zRh:=zPn
noncomputable def z4r:Ann:=(.seq .none (.seq .none (.seq (.cut 0 [5,6] zRh) .none)))
theorem z0T:zq Tryz.prog 22 zXW z4r:=⟨(zb _ _ _),⟨(zb _ _ _),⟨zZr,(zb _ _ _)⟩⟩⟩
abbrev zdN:=(Int)×(Int)×(Int)×(Int)
abbrev zKj:=(Int)
def zwg {β:Type}:zdN→(zKj→Option β)→Option β:=fun (a0_0,a0_1,a1_0,a1_1) exit=>(za (zex (a0_0,a0_1,a1_0,a1_1)) fun r=>(za (zex (a1_0,a1_1,a0_0,a0_1)) fun r_2=>(za (qv (r,r_2)) (Sum.elim (fun t4=>(exit (t4))) (fun _=>(exit ((3:Int))))))))
def zgN (a:zdN):Option zKj:=zwg a some
theorem z0x (a:zdN) (k:zKj→Ans):zwg a k=za (zgN a) k:=by
  obtain ⟨a0_0,a0_1,a1_0,a1_1⟩:=a
  simp only [zgN,zwg,zi,zh,zl,zc,zj,zm,zg]
def zAE:zdN→List AV:=fun (a0_0,a0_1,a1_0,a1_1)=>[.agg [.int .i64 a0_0,.int .i64 a0_1],.agg [.int .i64 a1_0,.int .i64 a1_1]]
def zOW (l:List AV):Option {a:zdN // l=zAE a}:=match l with
  | [.agg [.int .i64 a0_0,.int .i64 a0_1],.agg [.int .i64 a1_0,.int .i64 a1_1]]=>some ⟨(a0_0,a0_1,a1_0,a1_1),rfl⟩
  | _=>none
def zRg (l:List AV):Option zdN:=pk (zOW l)
theorem zYX (l:List AV) (a:zdN) (h:zRg l=some a):l=zAE a:=zt (o:=zOW l) h
def zzE:zdN→zKj→AV:=fun (a0_0,a0_1,a1_0,a1_1)=>fun r_y => .int .i64 r_y
theorem z0k : ∀(a:zdN) (y:zKj),(zzE a y).closed1=true:=by
  rintro ⟨a0_0,a0_1,a1_0,a1_1⟩ y <;> first | rfl | exact Empty.elim y
theorem z7V (a:zdN):fnE Tryz.tab zgS zd 0 70 251 Tryz.f251.ntmps Tryz.f251.results.toList z4r zXW (zAE a) [] (fun v _=>some (v,[]))=zwg a (fun y=>some (zzE a y,[])):=by kernel_rfl
def ZeY (a:zdN) (K:AV→Ans):Ans:=za (zgN a) fun y=>K (zzE a y)
def z6R:List AV→(AV→Ans)→Ans:=fun l K=>za (zRg l) fun a=>ZeY a K
theorem zUz:zM Tryz.prog 251 z6R:=zL (hint:=zd) (d:=0) (n:=70) mixed tabOk zs4 Tryz.func251 (zE (by kernel_rfl)) (by decide +kernel) z0T zYX z7V z0x z0k
--@ slot_Check
noncomputable def Wv:Env:=[(224,.pure zW5),(251,.pure z6R)]
theorem zbW:zf Tryz.prog Wv:=zf.cons zBG (zf.cons zUz (zf.nil))
noncomputable def zsG:Code:=Tryz.f233.body.getD .skip
noncomputable def zq6:Code:=zF [1,0,0,1,1,1,1,0,1] zsG
noncomputable def zyd:Ann := .none
theorem zGD:zq Tryz.prog 51 zq6 zyd:=(zb _ _ _)
abbrev jR:=(Bool)×(Int)×(Int)×(Int)×(List UInt8)×(Int)×(Int)×(List UInt8)
abbrev znX:=(Bool)
def zB3:jR→St:=fun (t33,o0_0,o0_1,o0_2,o0_3,o0_4,o0_5,o0_6)=>{ env:=[(1,.ptr 0 0),(33,.bool t33)],stk:=[[]],H:=[.cells [.int .i64 o0_0,.int .i64 o0_1,.int .i64 o0_2,.str o0_3,.int .i64 o0_4,.int .i64 o0_5,.str o0_6]],blk:=954368 }
def zuV (s:St):Option {x:jR // s=zB3 x}:=match s with
  | { env:=[(1,.ptr 0 0),(33,.bool t33)],stk:=[[]],H:=[.cells [.int .i64 o0_0,.int .i64 o0_1,.int .i64 o0_2,.str o0_3,.int .i64 o0_4,.int .i64 o0_5,.str o0_6]],blk:=954368 }=>some ⟨(t33,o0_0,o0_1,o0_2,o0_3,o0_4,o0_5,o0_6),rfl⟩
  | _=>none
def zmw (s:St):Option jR:=pk (zuV s)
theorem zKd (s:St) (x:jR) (h:zmw s=some x):s=zB3 x:=zt (o:=zuV s) h
def zm0:jR→(Ex→St→Ans)→znX→Ans:=fun (t33,o0_0,o0_1,o0_2,o0_3,o0_4,o0_5,o0_6) K=>fun t33_y=>K (Ex.norm) { env:=[(33,.bool t33_y)],stk:=[[]],H:=[],blk:=954368 }
def zat {β:Type}:jR→(znX→Option β)→Option β:=fun (t33,o0_0,o0_1,o0_2,o0_3,o0_4,o0_5,o0_6) exit=>(bif t33 then (exit (t33)) else (exit (decide (o0_1<o0_4))))
def qf (i:jR):Option znX:=zat i some
theorem zEi (i:jR) (k:znX→Ans):zat i k=za (qf i) k:=by
  obtain ⟨t33,o0_0,o0_1,o0_2,o0_3,o0_4,o0_5,o0_6⟩:=i
  simp only [qf,zat,zi,zh,zl,zc,zj,zm,zg]
theorem zIo (i:jR) (K:Ex→St→Ans):zx Tryz.tab Wv zd (zy Tryz.tab Wv zd 0 64) 70 51 zyd zq6 (zB 0 (exk [33] [2] []) K) (zB3 i)=zat i (zm0 i K):=by kernel_rfl
theorem zP1:zw Tryz.prog 51 zq6 (zG zmw qf zm0):=zA mixed tabOk zbW 0 (exk [33] [2] []) zGD zKd zIo zEi
noncomputable def zRR:(Ex→St→Ans)→St→Ans:=(zG zmw qf zm0)
theorem z0a:zw Tryz.prog 51 zq6 zRR:=zP1
noncomputable def zpa:Code:=zF [1,0,0,1,1,0,1] zsG
noncomputable def zxO:Ann := .none
theorem zGt:zq Tryz.prog 51 zpa zxO:=(zb _ _ _)
abbrev QQ:=(Bool)×(Int)×(Int)×(Int)×(List UInt8)×(Int)×(Int)×(List UInt8)
abbrev zqc:=(Bool)
def zAl:QQ→St:=fun (t22,o0_0,o0_1,o0_2,o0_3,o0_4,o0_5,o0_6)=>{ env:=[(1,.ptr 0 0),(22,.bool t22)],stk:=[[]],H:=[.cells [.int .i64 o0_0,.int .i64 o0_1,.int .i64 o0_2,.str o0_3,.int .i64 o0_4,.int .i64 o0_5,.str o0_6]],blk:=954368 }
def zyx (s:St):Option {x:QQ // s=zAl x}:=match s with
  | { env:=[(1,.ptr 0 0),(22,.bool t22)],stk:=[[]],H:=[.cells [.int .i64 o0_0,.int .i64 o0_1,.int .i64 o0_2,.str o0_3,.int .i64 o0_4,.int .i64 o0_5,.str o0_6]],blk:=954368 }=>some ⟨(t22,o0_0,o0_1,o0_2,o0_3,o0_4,o0_5,o0_6),rfl⟩
  | _=>none
def znu (s:St):Option QQ:=pk (zyx s)
theorem zOh (s:St) (x:QQ) (h:znu s=some x):s=zAl x:=zt (o:=zyx s) h
def zkz:QQ→(Ex→St→Ans)→zqc→Ans:=fun (t22,o0_0,o0_1,o0_2,o0_3,o0_4,o0_5,o0_6) K=>fun t22_y=>K (Ex.norm) { env:=[(1,.ptr 0 0),(22,.bool t22_y)],stk:=[[]],H:=[.cells [.int .i64 o0_0,.int .i64 o0_1,.int .i64 o0_2,.str o0_3,.int .i64 o0_4,.int .i64 o0_5,.str o0_6]],blk:=954368 }
def zbw {β:Type}:QQ→(zqc→Option β)→Option β:=fun (t22,o0_0,o0_1,o0_2,o0_3,o0_4,o0_5,o0_6) exit=>(bif t22 then (exit (t22)) else (exit ((↑(List.length o0_6):Int) != (128:Int))))
def qd (i:QQ):Option zqc:=zbw i some
theorem zzJ (i:QQ) (k:zqc→Ans):zbw i k=za (qd i) k:=by
  obtain ⟨t22,o0_0,o0_1,o0_2,o0_3,o0_4,o0_5,o0_6⟩:=i
  simp only [qd,zbw,zi,zh,zl,zc,zj,zm,zg]
theorem zHW (i:QQ) (K:Ex→St→Ans):zx Tryz.tab Wv zd (zy Tryz.tab Wv zd 0 64) 70 51 zxO zpa (zB 0 (exk [1,22] [2] []) K) (zAl i)=zbw i (zkz i K):=by kernel_rfl
theorem zPQ:zw Tryz.prog 51 zpa (zG znu qd zkz):=zA mixed tabOk zbW 0 (exk [1,22] [2] []) zGt zOh zHW zzJ
noncomputable def zUo:(Ex→St→Ans)→St→Ans:=(zG znu qd zkz)
theorem z0c:zw Tryz.prog 51 zpa zUo:=zPQ
noncomputable def zqO:Code:=zF [1,0,0,0,1] zsG
noncomputable def zuK:Ann := .none
theorem zFG:zq Tryz.prog 51 zqO zuK:=(zb _ _ _)
abbrev jr:=(Bool)×(Int)×(Int)×(Int)×(List UInt8)×(Int)×(Int)×(List UInt8)
abbrev zqJ:=(Bool)
def zEl:jr→St:=fun (t3,o0_0,o0_1,o0_2,o0_3,o0_4,o0_5,o0_6)=>{ env:=[(1,.ptr 0 0),(3,.bool t3)],stk:=[[]],H:=[.cells [.int .i64 o0_0,.int .i64 o0_1,.int .i64 o0_2,.str o0_3,.int .i64 o0_4,.int .i64 o0_5,.str o0_6]],blk:=954368 }
def zx1 (s:St):Option {x:jr // s=zEl x}:=match s with
  | { env:=[(1,.ptr 0 0),(3,.bool t3)],stk:=[[]],H:=[.cells [.int .i64 o0_0,.int .i64 o0_1,.int .i64 o0_2,.str o0_3,.int .i64 o0_4,.int .i64 o0_5,.str o0_6]],blk:=954368 }=>some ⟨(t3,o0_0,o0_1,o0_2,o0_3,o0_4,o0_5,o0_6),rfl⟩
  | _=>none
def zkf (s:St):Option jr:=pk (zx1 s)
theorem zMt (s:St) (x:jr) (h:zkf s=some x):s=zEl x:=zt (o:=zx1 s) h
def zkG:jr→(Ex→St→Ans)→zqJ→Ans:=fun (t3,o0_0,o0_1,o0_2,o0_3,o0_4,o0_5,o0_6) K=>fun t3_y=>K (Ex.norm) { env:=[(1,.ptr 0 0),(3,.bool t3_y)],stk:=[[]],H:=[.cells [.int .i64 o0_0,.int .i64 o0_1,.int .i64 o0_2,.str o0_3,.int .i64 o0_4,.int .i64 o0_5,.str o0_6]],blk:=954368 }
def zaf {β:Type}:jr→(zqJ→Option β)→Option β:=fun (t3,o0_0,o0_1,o0_2,o0_3,o0_4,o0_5,o0_6) exit=>(bif t3 then (exit (t3)) else (za (zcw (o0_1,o0_2)) fun r=>(bif !r then (exit (!r)) else (za (zcw (o0_4,o0_5)) fun r_2=>(exit (!r_2))))))
def WR (i:jr):Option zqJ:=zaf i some
theorem zAx (i:jr) (k:zqJ→Ans):zaf i k=za (WR i) k:=by
  obtain ⟨t3,o0_0,o0_1,o0_2,o0_3,o0_4,o0_5,o0_6⟩:=i
  simp only [WR,zaf,zi,zh,zl,zc,zj,zm,zg]
theorem zG2 (i:jr) (K:Ex→St→Ans):zx Tryz.tab Wv zd (zy Tryz.tab Wv zd 0 64) 70 51 zuK zqO (zB 0 (exk [1,3] [2] []) K) (zEl i)=zaf i (zkG i K):=by kernel_rfl
theorem zPp:zw Tryz.prog 51 zqO (zG zkf WR zkG):=zA mixed tabOk zbW 0 (exk [1,3] [2] []) zFG zMt zG2 zAx
noncomputable def zUF:(Ex→St→Ans)→St→Ans:=(zG zkf WR zkG)
theorem zWw:zw Tryz.prog 51 zqO zUF:=zPp
noncomputable def zp5:Code:=zF [1,0,0,0,0] zsG
noncomputable def zwm:Ann := .none
theorem zHH:zq Tryz.prog 51 zp5 zwm:=(zb _ _ _)
abbrev Qv:=(Int)×(Int)×(Int)×(List UInt8)×(Int)×(Int)×(List UInt8)
abbrev zom:=(Bool)
def zDq:Qv→St:=fun (o0_0,o0_1,o0_2,o0_3,o0_4,o0_5,o0_6)=>{ env:=[(1,.ptr 0 0)],stk:=[[]],H:=[.cells [.int .i64 o0_0,.int .i64 o0_1,.int .i64 o0_2,.str o0_3,.int .i64 o0_4,.int .i64 o0_5,.str o0_6]],blk:=954368 }
def zu4 (s:St):Option {x:Qv // s=zDq x}:=match s with
  | { env:=[(1,.ptr 0 0)],stk:=[[]],H:=[.cells [.int .i64 o0_0,.int .i64 o0_1,.int .i64 o0_2,.str o0_3,.int .i64 o0_4,.int .i64 o0_5,.str o0_6]],blk:=954368 }=>some ⟨(o0_0,o0_1,o0_2,o0_3,o0_4,o0_5,o0_6),rfl⟩
  | _=>none
def zjY (s:St):Option Qv:=pk (zu4 s)
theorem zJe (s:St) (x:Qv) (h:zjY s=some x):s=zDq x:=zt (o:=zu4 s) h
def zkw:Qv→(Ex→St→Ans)→zom→Ans:=fun (o0_0,o0_1,o0_2,o0_3,o0_4,o0_5,o0_6) K=>fun t3_y=>K (Ex.norm) { env:=[(1,.ptr 0 0),(3,.bool t3_y)],stk:=[[]],H:=[.cells [.int .i64 o0_0,.int .i64 o0_1,.int .i64 o0_2,.str o0_3,.int .i64 o0_4,.int .i64 o0_5,.str o0_6]],blk:=954368 }
def zaz {β:Type}:Qv→(zom→Option β)→Option β:=fun (o0_0,o0_1,o0_2,o0_3,o0_4,o0_5,o0_6) exit=>(bif decide (o0_0<(0:Int)) then (exit (true)) else (exit (decide (o0_0≥(24:Int)))))
def WD (i:Qv):Option zom:=zaz i some
theorem zCG (i:Qv) (k:zom→Ans):zaz i k=za (WD i) k:=by
  obtain ⟨o0_0,o0_1,o0_2,o0_3,o0_4,o0_5,o0_6⟩:=i
  simp only [WD,zaz,zi,zh,zl,zc,zj,zm,zg]
theorem zFz (i:Qv) (K:Ex→St→Ans):zx Tryz.tab Wv zd (zy Tryz.tab Wv zd 0 64) 70 51 zwm zp5 (zB 0 (exk [1,3] [2] []) K) (zDq i)=zaz i (zkw i K):=by kernel_rfl
theorem zPi:zw Tryz.prog 51 zp5 (zG zjY WD zkw):=zA mixed tabOk zbW 0 (exk [1,3] [2] []) zHH zJe zFz zCG
noncomputable def zUg:(Ex→St→Ans)→St→Ans:=(zG zjY WD zkw)
theorem zYd:zw Tryz.prog 51 zp5 zUg:=zPi
noncomputable def znK:Code:=zF [1,0] zsG
noncomputable def ztF:Ann:=(.block (.seq (.seq (.cut 0 [1] zUg) (.cut 0 [1,3] zUF)) (.cond .none (.seq (.seq .none (.cut 0 [1,22] zUo)) (.cond .none (.seq (.seq .none (.cut 0 [1,33] zRR)) .none))))))
theorem zHG:zq Tryz.prog 51 znK ztF:=⟨⟨zYd,zWw⟩,⟨(zb _ _ _),⟨⟨(zb _ _ _),z0c⟩,⟨(zb _ _ _),⟨⟨(zb _ _ _),z0a⟩,(zb _ _ _)⟩⟩⟩⟩⟩
abbrev QU:=(Int)×(Int)×(Int)×(List UInt8)×(Int)×(Int)×(List UInt8)
abbrev zn3:=((Int)) ⊕ (Unit)
def zDy:QU→St:=fun (o0_0,o0_1,o0_2,o0_3,o0_4,o0_5,o0_6)=>{ env:=[(1,.ptr 0 0)],stk:=[[]],H:=[.cells [.int .i64 o0_0,.int .i64 o0_1,.int .i64 o0_2,.str o0_3,.int .i64 o0_4,.int .i64 o0_5,.str o0_6]],blk:=954368 }
def ztG (s:St):Option {x:QU // s=zDy x}:=match s with
  | { env:=[(1,.ptr 0 0)],stk:=[[]],H:=[.cells [.int .i64 o0_0,.int .i64 o0_1,.int .i64 o0_2,.str o0_3,.int .i64 o0_4,.int .i64 o0_5,.str o0_6]],blk:=954368 }=>some ⟨(o0_0,o0_1,o0_2,o0_3,o0_4,o0_5,o0_6),rfl⟩
  | _=>none
def zl7 (s:St):Option QU:=pk (ztG s)
theorem zKu (s:St) (x:QU) (h:zl7 s=some x):s=zDy x:=zt (o:=ztG s) h
def zmj:QU→(Ex→St→Ans)→zn3→Ans:=fun (o0_0,o0_1,o0_2,o0_3,o0_4,o0_5,o0_6) K=>(Sum.elim (fun t2_y=>K (Ex.ret) { env:=[(2,.int .i64 t2_y)],stk:=[[]],H:=[],blk:=954368 }) (fun _=>K (Ex.norm) { env:=[],stk:=[[]],H:=[],blk:=954368 }))
def zaK {β:Type}:QU→(zn3→Option β)→Option β:=fun (o0_0,o0_1,o0_2,o0_3,o0_4,o0_5,o0_6) exit=>(za (WD (o0_0,o0_1,o0_2,o0_3,o0_4,o0_5,o0_6)) fun t3=>(za (WR (t3,o0_0,o0_1,o0_2,o0_3,o0_4,o0_5,o0_6)) fun t3_2=>(bif t3_2 then (exit (Sum.inl ((3:Int)))) else (za (qd ((↑(List.length o0_3):Int) != (128:Int),o0_0,o0_1,o0_2,o0_3,o0_4,o0_5,o0_6)) fun t22=>(bif t22 then (exit (Sum.inl ((12:Int)))) else (za (zgN (o0_1,o0_2,o0_4,o0_5)) fun r=>(za (qf (r != (3:Int),o0_0,o0_1,o0_2,o0_3,o0_4,o0_5,o0_6)) fun t33=>(bif t33 then (exit (Sum.inl ((10:Int)))) else (exit (Sum.inr ()))))))))))
def WZ (i:QU):Option zn3:=zaK i some
theorem zBp (i:QU) (k:zn3→Ans):zaK i k=za (WZ i) k:=by
  obtain ⟨o0_0,o0_1,o0_2,o0_3,o0_4,o0_5,o0_6⟩:=i
  simp only [WZ,zaK,zi,zh,zl,zc,zj,zm,zg]
theorem zE5 (i:QU) (K:Ex→St→Ans):zx Tryz.tab Wv zd (zy Tryz.tab Wv zd 0 64) 70 51 ztF znK (zB 0 (exk [] [2] []) K) (zDy i)=zaK i (zmj i K):=by kernel_rfl
theorem zPL:zw Tryz.prog 51 znK (zG zl7 WZ zmj):=zA mixed tabOk zbW 0 (exk [] [2] []) zHG zKu zE5 zBp
noncomputable def zSf:(Ex→St→Ans)→St→Ans:=(zG zl7 WZ zmj)
theorem zXh:zw Tryz.prog 51 znK zSf:=zPL
noncomputable def z1t:Ann:=(.seq .none (.seq (.cut 0 [1] zSf) .none))
theorem z5p:zq Tryz.prog 51 zsG z1t:=⟨(zb _ _ _),⟨zXh,(zb _ _ _)⟩⟩
abbrev zek:=(Int)×(Int)×(Int)×(List UInt8)×(Int)×(Int)×(List UInt8)
abbrev zKE:=(Int)
def ztn {β:Type}:zek→(zKE→Option β)→Option β:=fun (a0_0,a0_1,a0_2,a0_3,a0_4,a0_5,a0_6) exit=>(za (WZ (a0_0,a0_1,a0_2,a0_3,a0_4,a0_5,a0_6)) (Sum.elim (fun t2=>(exit (t2))) (fun _=>(exit ((0:Int))))))
def zg6 (a:zek):Option zKE:=ztn a some
theorem z3A (a:zek) (k:zKE→Ans):ztn a k=za (zg6 a) k:=by
  obtain ⟨a0_0,a0_1,a0_2,a0_3,a0_4,a0_5,a0_6⟩:=a
  simp only [zg6,ztn,zi,zh,zl,zc,zj,zm,zg]
def zCu:zek→List AV:=fun (a0_0,a0_1,a0_2,a0_3,a0_4,a0_5,a0_6)=>[.agg [.int .i64 a0_0,.int .i64 a0_1,.int .i64 a0_2,.str a0_3,.int .i64 a0_4,.int .i64 a0_5,.str a0_6]]
def zJ7 (l:List AV):Option {a:zek // l=zCu a}:=match l with
  | [.agg [.int .i64 a0_0,.int .i64 a0_1,.int .i64 a0_2,.str a0_3,.int .i64 a0_4,.int .i64 a0_5,.str a0_6]]=>some ⟨(a0_0,a0_1,a0_2,a0_3,a0_4,a0_5,a0_6),rfl⟩
  | _=>none
def zRY (l:List AV):Option zek:=pk (zJ7 l)
theorem zZf (l:List AV) (a:zek) (h:zRY l=some a):l=zCu a:=zt (o:=zJ7 l) h
def zD0:zek→zKE→AV:=fun (a0_0,a0_1,a0_2,a0_3,a0_4,a0_5,a0_6)=>fun r_y => .int .i64 r_y
theorem zXZ : ∀(a:zek) (y:zKE),(zD0 a y).closed1=true:=by
  rintro ⟨a0_0,a0_1,a0_2,a0_3,a0_4,a0_5,a0_6⟩ y <;> first | rfl | exact Empty.elim y
theorem z8G (a:zek):fnE Tryz.tab Wv zd 0 70 233 Tryz.f233.ntmps Tryz.f233.results.toList z1t zsG (zCu a) [] (fun v _=>some (v,[]))=ztn a (fun y=>some (zD0 a y,[])):=by kernel_rfl
def ZeE (a:zek) (K:AV→Ans):Ans:=za (zg6 a) fun y=>K (zD0 a y)
def z9O:List AV→(AV→Ans)→Ans:=fun l K=>za (zRY l) fun a=>ZeE a K
theorem zUA:zM Tryz.prog 233 z9O:=zL (hint:=zd) (d:=0) (n:=70) mixed tabOk zbW Tryz.func233 (zE (by kernel_rfl)) (by decide +kernel) z5p zZf z8G z3A zXZ
--@ state_double_check
noncomputable def zvo:Env:=[(233,.pure z9O)]
theorem zOR:zf Tryz.prog zvo:=zf.cons zUA (zf.nil)
noncomputable def z8J:Code:=Tryz.f312.body.getD .skip
noncomputable def zpI:Code:=zF [1,1,0,0] z8J
noncomputable def zuG:Ann := .none
theorem zFZ:zq Tryz.prog 36 zpI zuG:=(zb _ _ _)
abbrev jX:=(Int)×(Int)×(Int)×(List UInt8)×(Int)×(Int)×(List UInt8)×(Int)×(Int)×(List UInt8)
abbrev zof:=(Bool)
def zzN:jX→St:=fun (o0_0,o0_1,o0_2,o0_3,o0_4,o0_5,o0_6,o0_7,o0_8,o0_9)=>{ env:=[(1,.ptr 0 0)],stk:=[[]],H:=[.cells [.int .i64 o0_0,.int .i64 o0_1,.int .i64 o0_2,.str o0_3,.int .i64 o0_4,.int .i64 o0_5,.str o0_6,.int .i64 o0_7,.int .i64 o0_8,.str o0_9]],blk:=1277952 }
def zuQ (s:St):Option {x:jX // s=zzN x}:=match s with
  | { env:=[(1,.ptr 0 0)],stk:=[[]],H:=[.cells [.int .i64 o0_0,.int .i64 o0_1,.int .i64 o0_2,.str o0_3,.int .i64 o0_4,.int .i64 o0_5,.str o0_6,.int .i64 o0_7,.int .i64 o0_8,.str o0_9]],blk:=1277952 }=>some ⟨(o0_0,o0_1,o0_2,o0_3,o0_4,o0_5,o0_6,o0_7,o0_8,o0_9),rfl⟩
  | _=>none
def znr (s:St):Option jX:=pk (zuQ s)
theorem zOM (s:St) (x:jX) (h:znr s=some x):s=zzN x:=zt (o:=zuQ s) h
def zks:jX→(Ex→St→Ans)→zof→Ans:=fun (o0_0,o0_1,o0_2,o0_3,o0_4,o0_5,o0_6,o0_7,o0_8,o0_9) K=>fun t35_y=>K (Ex.norm) { env:=[(35,.bool t35_y)],stk:=[[]],H:=[],blk:=1277952 }
def zaH {β:Type}:jX→(zof→Option β)→Option β:=fun (o0_0,o0_1,o0_2,o0_3,o0_4,o0_5,o0_6,o0_7,o0_8,o0_9) exit=>(bif !(o0_1 == o0_4&&(o0_2 == o0_8&&true)) then (exit (true)) else (exit (!o0_3 == [])))
def WW (i:jX):Option zof:=zaH i some
theorem zAW (i:jX) (k:zof→Ans):zaH i k=za (WW i) k:=by
  obtain ⟨o0_0,o0_1,o0_2,o0_3,o0_4,o0_5,o0_6,o0_7,o0_8,o0_9⟩:=i
  simp only [WW,zaH,zi,zh,zl,zc,zj,zm,zg]
theorem zGQ (i:jX) (K:Ex→St→Ans):zx Tryz.tab zvo zd (zy Tryz.tab zvo zd 0 64) 70 36 zuG zpI (zB 0 (exk [35] [2] []) K) (zzN i)=zaH i (zks i K):=by kernel_rfl
theorem zPl:zw Tryz.prog 36 zpI (zG znr WW zks):=zA mixed tabOk zOR 0 (exk [35] [2] []) zFZ zOM zGQ zAW
noncomputable def zUa:(Ex→St→Ans)→St→Ans:=(zG znr WW zks)
theorem zU1:zw Tryz.prog 36 zpI zUa:=zPl
noncomputable def z2x:Ann:=(.seq .none (.seq .none (.seq (.seq (.cut 0 [1] zUa) .none) .none)))
theorem z5G:zq Tryz.prog 36 z8J z2x:=⟨(zb _ _ _),⟨(zb _ _ _),⟨⟨zU1,(zb _ _ _)⟩,(zb _ _ _)⟩⟩⟩
abbrev zd1:=(Int)×(Int)×(Int)×(List UInt8)×(Int)×(Int)×(List UInt8)×(Int)×(Int)×(List UInt8)
abbrev zJZ:=(Int)
def zt2 {β:Type}:zd1→(zJZ→Option β)→Option β:=fun (a0_0,a0_1,a0_2,a0_3,a0_4,a0_5,a0_6,a0_7,a0_8,a0_9) exit=>(za (zg6 ((0:Int),a0_4,a0_5,a0_6,a0_7,a0_8,a0_9)) fun r=>(bif r != (0:Int) then (exit (r)) else (za (WW (a0_0,a0_1,a0_2,a0_3,a0_4,a0_5,a0_6,a0_7,a0_8,a0_9)) fun t35=>(bif t35 then (exit ((4:Int))) else (exit ((0:Int)))))))
def zkS (a:zd1):Option zJZ:=zt2 a some
theorem z05 (a:zd1) (k:zJZ→Ans):zt2 a k=za (zkS a) k:=by
  obtain ⟨a0_0,a0_1,a0_2,a0_3,a0_4,a0_5,a0_6,a0_7,a0_8,a0_9⟩:=a
  simp only [zkS,zt2,zi,zh,zl,zc,zj,zm,zg]
def zAz:zd1→List AV:=fun (a0_0,a0_1,a0_2,a0_3,a0_4,a0_5,a0_6,a0_7,a0_8,a0_9)=>[.agg [.int .i64 a0_0,.int .i64 a0_1,.int .i64 a0_2,.str a0_3,.int .i64 a0_4,.int .i64 a0_5,.str a0_6,.int .i64 a0_7,.int .i64 a0_8,.str a0_9]]
def zKB (l:List AV):Option {a:zd1 // l=zAz a}:=match l with
  | [.agg [.int .i64 a0_0,.int .i64 a0_1,.int .i64 a0_2,.str a0_3,.int .i64 a0_4,.int .i64 a0_5,.str a0_6,.int .i64 a0_7,.int .i64 a0_8,.str a0_9]]=>some ⟨(a0_0,a0_1,a0_2,a0_3,a0_4,a0_5,a0_6,a0_7,a0_8,a0_9),rfl⟩
  | _=>none
def zUD (l:List AV):Option zd1:=pk (zKB l)
theorem zY0 (l:List AV) (a:zd1) (h:zUD l=some a):l=zAz a:=zt (o:=zKB l) h
def zzz:zd1→zJZ→AV:=fun (a0_0,a0_1,a0_2,a0_3,a0_4,a0_5,a0_6,a0_7,a0_8,a0_9)=>fun r_y => .int .i64 r_y
theorem zX4 : ∀(a:zd1) (y:zJZ),(zzz a y).closed1=true:=by
  rintro ⟨a0_0,a0_1,a0_2,a0_3,a0_4,a0_5,a0_6,a0_7,a0_8,a0_9⟩ y <;> first | rfl | exact Empty.elim y
theorem z9N (a:zd1):fnE Tryz.tab zvo zd 0 70 312 Tryz.f312.ntmps Tryz.f312.results.toList z2x z8J (zAz a) [] (fun v _=>some (v,[]))=zt2 a (fun y=>some (zzz a y,[])):=by kernel_rfl
def Zep (a:zd1) (K:AV→Ans):Ans:=za (zkS a) fun y=>K (zzz a y)
def z8W:List AV→(AV→Ans)→Ans:=fun l K=>za (zUD l) fun a=>Zep a K
theorem zSR:zM Tryz.prog 312 z8W:=zL (hint:=zd) (d:=0) (n:=70) mixed tabOk zOR Tryz.func312 (zE (by kernel_rfl)) (by decide +kernel) z5G zY0 z9N z05 zX4
--@ state_Check
noncomputable def z5R:Env:=[(70,.func zXg),(311,.pure z7u),(312,.pure z8W)]
theorem z9p:zf Tryz.prog z5R:=zf.cons zzS (zf.cons zSG (zf.cons zSR (zf.nil)))
noncomputable def Zdb:Code:=Tryz.f35.body.getD .skip
noncomputable def z0X:Ann := .none
theorem z59:zq Tryz.prog 10 Zdb z0X:=(zb _ _ _)
abbrev zdU:=(Int)×(Int)×(Int)×(List UInt8)×(Int)×(Int)×(List UInt8)×(Int)×(Int)×(List UInt8)
abbrev zOL:=(Int)
def zv2 {β:Type}:zdU→(zOL→Option β)→Option β:=fun (a0_0,a0_1,a0_2,a0_3,a0_4,a0_5,a0_6,a0_7,a0_8,a0_9) exit=>(za (zev (a0_0,a0_1,a0_2,a0_3,a0_4,a0_5,a0_6,a0_7,a0_8,a0_9)) (Sum.elim (fun _=>(za (zkk (a0_0,a0_1,a0_2,a0_3,a0_4,a0_5,a0_6,a0_7,a0_8,a0_9)) fun r=>(exit (r)))) ((Sum.elim (fun _=>(za (zkS (a0_0,a0_1,a0_2,a0_3,a0_4,a0_5,a0_6,a0_7,a0_8,a0_9)) fun r=>(exit (r)))) (fun _=>(exit ((7:Int))))))))
def zbF (a:zdU):Option zOL:=zv2 a some
theorem z3S (a:zdU) (k:zOL→Ans):zv2 a k=za (zbF a) k:=by
  obtain ⟨a0_0,a0_1,a0_2,a0_3,a0_4,a0_5,a0_6,a0_7,a0_8,a0_9⟩:=a
  simp only [zbF,zv2,zi,zh,zl,zc,zj,zm,zg]
def zDH:zdU→List AV:=fun (a0_0,a0_1,a0_2,a0_3,a0_4,a0_5,a0_6,a0_7,a0_8,a0_9)=>[.agg [.int .i64 a0_0,.int .i64 a0_1,.int .i64 a0_2,.str a0_3,.int .i64 a0_4,.int .i64 a0_5,.str a0_6,.int .i64 a0_7,.int .i64 a0_8,.str a0_9]]
def zNp (l:List AV):Option {a:zdU // l=zDH a}:=match l with
  | [.agg [.int .i64 a0_0,.int .i64 a0_1,.int .i64 a0_2,.str a0_3,.int .i64 a0_4,.int .i64 a0_5,.str a0_6,.int .i64 a0_7,.int .i64 a0_8,.str a0_9]]=>some ⟨(a0_0,a0_1,a0_2,a0_3,a0_4,a0_5,a0_6,a0_7,a0_8,a0_9),rfl⟩
  | _=>none
def zT4 (l:List AV):Option zdU:=pk (zNp l)
theorem zXS (l:List AV) (a:zdU) (h:zT4 l=some a):l=zDH a:=zt (o:=zNp l) h
def zDk:zdU→zOL→AV:=fun (a0_0,a0_1,a0_2,a0_3,a0_4,a0_5,a0_6,a0_7,a0_8,a0_9)=>fun r_y => .int .i64 r_y
theorem zXw : ∀(a:zdU) (y:zOL),(zDk a y).closed1=true:=by
  rintro ⟨a0_0,a0_1,a0_2,a0_3,a0_4,a0_5,a0_6,a0_7,a0_8,a0_9⟩ y <;> first | rfl | exact Empty.elim y
theorem z86 (a:zdU):fnE Tryz.tab z5R zd 0 70 35 Tryz.f35.ntmps Tryz.f35.results.toList z0X Zdb (zDH a) [] (fun v _=>some (v,[]))=zv2 a (fun y=>some (zDk a y,[])):=by kernel_rfl
def Zfn (a:zdU) (K:AV→Ans):Ans:=za (zbF a) fun y=>K (zDk a y)
def zNE:List AV→(AV→Ans)→Ans:=fun l K=>za (zT4 l) fun a=>Zfn a K
theorem zob:zM Tryz.prog 35 zNE:=zL (hint:=zd) (d:=0) (n:=70) mixed tabOk z9p Tryz.func35 (zE (by kernel_rfl)) (by decide +kernel) z59 zXS z86 z3S zXw
--@ state_Get
noncomputable def zhe:Env:=[(49,.func zBB),(51,.func zsg),(96,.func z0d),(95,.func z6J),(35,.pure zNE)]
theorem zs8:zf Tryz.prog zhe:=zf.cons zgK (zf.cons zdB (zf.cons zBS (zf.cons zRi (zf.cons zob (zf.nil)))))
noncomputable def zW4:Code:=Tryz.f54.body.getD .skip
noncomputable def zqB:Code:=zF [1,1,1,1,1,0,1] zW4
noncomputable def zxQ:Ann := .none
theorem zFi:zq Tryz.prog 55 zqB zxQ:=(zb _ _ _)
abbrev jL:=(Int)×(Bool)×(Int)×(Int)×(Int)×(List UInt8)×(Int)×(Int)×(List UInt8)×(Int)×(Int)×(List UInt8)
abbrev zoz:=(Int)
def zAj:jL→St:=fun (t7,t47,o1_0,o1_1,o1_2,o1_3,o1_4,o1_5,o1_6,o1_7,o1_8,o1_9)=>{ env:=[(2,.ptr 0 0),(5,.ptr 1 0),(7,.int .i64 t7),(47,.bool t47)],stk:=[[]],H:=[.cells [.int .i64 (0),.int .i64 (0),.int .i64 (0),.str ([]),.int .i64 (0),.int .i64 (0),.str ([]),.int .i64 (0),.int .i64 (0),.str ([])],.cells [.int .i64 o1_0,.int .i64 o1_1,.int .i64 o1_2,.str o1_3,.int .i64 o1_4,.int .i64 o1_5,.str o1_6,.int .i64 o1_7,.int .i64 o1_8,.str o1_9]],blk:=221184 }
def zur (s:St):Option {x:jL // s=zAj x}:=match s with
  | { env:=[(2,.ptr 0 0),(5,.ptr 1 0),(7,.int .i64 t7),(47,.bool t47)],stk:=[[]],H:=[.cells [.int .i64 r2,.int .i64 r3,.int .i64 r4,.str r5,.int .i64 r6,.int .i64 r7,.str r8,.int .i64 r9,.int .i64 r10,.str r11],.cells [.int .i64 o1_0,.int .i64 o1_1,.int .i64 o1_2,.str o1_3,.int .i64 o1_4,.int .i64 o1_5,.str o1_6,.int .i64 o1_7,.int .i64 o1_8,.str o1_9]],blk:=221184 }=>if h2:r2=0 then if h3:r3=0 then if h4:r4=0 then if h5:r5=[] then if h6:r6=0 then if h7:r7=0 then if h8:r8=[] then if h9:r9=0 then if h10:r10=0 then if h11:r11=[] then some ⟨(t7,t47,o1_0,o1_1,o1_2,o1_3,o1_4,o1_5,o1_6,o1_7,o1_8,o1_9),by subst h2 h3 h4 h5 h6 h7 h8 h9 h10 h11;rfl⟩ else none else none else none else none else none else none else none else none else none else none
  | _=>none
def zjX (s:St):Option jL:=pk (zur s)
theorem zJa (s:St) (x:jL) (h:zjX s=some x):s=zAj x:=zt (o:=zur s) h
def zj2:jL→(Ex→St→Ans)→zoz→Ans:=fun (t7,t47,o1_0,o1_1,o1_2,o1_3,o1_4,o1_5,o1_6,o1_7,o1_8,o1_9) K=>fun t7_y=>K (Ex.norm) { env:=[(2,.ptr 0 0),(5,.ptr 1 0),(7,.int .i64 t7_y)],stk:=[[]],H:=[.cells [.int .i64 (0),.int .i64 (0),.int .i64 (0),.str ([]),.int .i64 (0),.int .i64 (0),.str ([]),.int .i64 (0),.int .i64 (0),.str ([])],.cells [.int .i64 o1_0,.int .i64 o1_1,.int .i64 o1_2,.str o1_3,.int .i64 o1_4,.int .i64 o1_5,.str o1_6,.int .i64 o1_7,.int .i64 o1_8,.str o1_9]],blk:=221184 }
def zbB {β:Type}:jL→(zoz→Option β)→Option β:=fun (t7,t47,o1_0,o1_1,o1_2,o1_3,o1_4,o1_5,o1_6,o1_7,o1_8,o1_9) exit=>(bif t47 then (za (zbF (o1_0,o1_1,o1_2,o1_3,o1_4,o1_5,o1_6,o1_7,o1_8,o1_9)) fun r=>(exit (r))) else (exit (t7)))
def W7 (i:jL):Option zoz:=zbB i some
theorem zBN (i:jL) (k:zoz→Ans):zbB i k=za (W7 i) k:=by
  obtain ⟨t7,t47,o1_0,o1_1,o1_2,o1_3,o1_4,o1_5,o1_6,o1_7,o1_8,o1_9⟩:=i
  simp only [W7,zbB,zi,zh,zl,zc,zj,zm,zg]
theorem zFn (i:jL) (K:Ex→St→Ans):zx Tryz.tab zhe zd (zy Tryz.tab zhe zd 0 64) 70 55 zxQ zqB (zB 0 (exk [2,5,7] [2,3] []) K) (zAj i)=zbB i (zj2 i K):=by kernel_rfl
theorem zPN:zw Tryz.prog 55 zqB (zG zjX W7 zj2):=zA mixed tabOk zs8 0 (exk [2,5,7] [2,3] []) zFi zJa zFn zBN
noncomputable def zSx:(Ex→St→Ans)→St→Ans:=(zG zjX W7 zj2)
theorem zY1:zw Tryz.prog 55 zqB zSx:=zPN
noncomputable def zoZ:Code:=zF [1,1,1,0,1] zW4
noncomputable def ztS:Ann := .none
theorem zF8:zq Tryz.prog 55 zoZ ztS:=(zb _ _ _)
abbrev Q7:=(Int)×(List UInt8)×(Int)×(Int)
abbrev zqv:=((List UInt8)×(Int)×(Int)×(Int)×(List UInt8)×(Int)×(Int)×(List UInt8)×(Int)×(Int)×(List UInt8)) ⊕ (Unit)
def zB6:Q7→St:=fun (t14,o1_0,o1_1,o2_0)=>{ env:=[(2,.ptr 0 0),(4,.ptr 1 0),(5,.ptr 2 0),(14,.int .i64 t14)],stk:=[[]],H:=[.cells [.int .i64 (0),.int .i64 (0),.int .i64 (0),.str ([]),.int .i64 (0),.int .i64 (0),.str ([]),.int .i64 (0),.int .i64 (0),.str ([])],.cells [.str o1_0,.int .i64 o1_1],.cells [.int .i64 o2_0,.int .i64 (0),.int .i64 (0),.str ([]),.int .i64 (0),.int .i64 (0),.str ([]),.int .i64 (0),.int .i64 (0),.str ([])]],blk:=221184 }
def zxP (s:St):Option {x:Q7 // s=zB6 x}:=match s with
  | { env:=[(2,.ptr 0 0),(4,.ptr 1 0),(5,.ptr 2 0),(14,.int .i64 t14)],stk:=[[]],H:=[.cells [.int .i64 r1,.int .i64 r2,.int .i64 r3,.str r4,.int .i64 r5,.int .i64 r6,.str r7,.int .i64 r8,.int .i64 r9,.str r10],.cells [.str o1_0,.int .i64 o1_1],.cells [.int .i64 o2_0,.int .i64 r14,.int .i64 r15,.str r16,.int .i64 r17,.int .i64 r18,.str r19,.int .i64 r20,.int .i64 r21,.str r22]],blk:=221184 }=>if h1:r1=0 then if h2:r2=0 then if h3:r3=0 then if h4:r4=[] then if h5:r5=0 then if h6:r6=0 then if h7:r7=[] then if h8:r8=0 then if h9:r9=0 then if h10:r10=[] then if h14:r14=0 then if h15:r15=0 then if h16:r16=[] then if h17:r17=0 then if h18:r18=0 then if h19:r19=[] then if h20:r20=0 then if h21:r21=0 then if h22:r22=[] then some ⟨(t14,o1_0,o1_1,o2_0),by subst h1 h2 h3 h4 h5 h6 h7 h8 h9 h10 h14 h15 h16 h17 h18 h19 h20 h21 h22;rfl⟩ else none else none else none else none else none else none else none else none else none else none else none else none else none else none else none else none else none else none else none
  | _=>none
def zmg (s:St):Option Q7:=pk (zxP s)
theorem zJE (s:St) (x:Q7) (h:zmg s=some x):s=zB6 x:=zt (o:=zxP s) h
def zmH:Q7→(Ex→St→Ans)→zqv→Ans:=fun (t14,o1_0,o1_1,o2_0) K=>(Sum.elim (unP fun o1_0_y=>unP fun o1_1_y=>unP fun o2_1_y=>unP fun o2_2_y=>unP fun o2_3_y=>unP fun o2_4_y=>unP fun o2_5_y=>unP fun o2_6_y=>unP fun o2_7_y=>unP fun o2_8_y o2_9_y=>K (Ex.norm) { env:=[(2,.ptr 0 0),(4,.ptr 1 0),(5,.ptr 2 0)],stk:=[[]],H:=[.cells [.int .i64 (0),.int .i64 (0),.int .i64 (0),.str ([]),.int .i64 (0),.int .i64 (0),.str ([]),.int .i64 (0),.int .i64 (0),.str ([])],.cells [.str o1_0_y,.int .i64 o1_1_y],.cells [.int .i64 o2_0,.int .i64 o2_1_y,.int .i64 o2_2_y,.str o2_3_y,.int .i64 o2_4_y,.int .i64 o2_5_y,.str o2_6_y,.int .i64 o2_7_y,.int .i64 o2_8_y,.str o2_9_y]],blk:=221184 }) (fun _=>K (Ex.ret) { env:=[(2,.ptr 0 0),(3,.int .i64 (7))],stk:=[[]],H:=[.cells [.int .i64 (0),.int .i64 (0),.int .i64 (0),.str ([]),.int .i64 (0),.int .i64 (0),.str ([]),.int .i64 (0),.int .i64 (0),.str ([])]],blk:=221184 }))
def zak {β:Type}:Q7→(zqv→Option β)→Option β:=fun (t14,o1_0,o1_1,o2_0) exit=>(bif t14 == (0:Int) then (za (zcI (o1_0,o1_1)) (unP fun r_0=>unP fun r_1=>unP fun r_2=>unP fun o0_0 o0_1=>(exit (Sum.inl (o0_0,o0_1,r_0,r_1,r_2,(0:Int),(0:Int),[],(0:Int),(0:Int),[]))))) else (bif t14 == (1:Int) then (za (zcI (o1_0,o1_1)) (unP fun r_0=>unP fun r_1=>unP fun r_2=>unP fun o0_0 o0_1=>(za (zcI (o0_0,o0_1)) (unP fun r_0_2=>unP fun r_1_2=>unP fun r_2_2=>unP fun o0_0_2 o0_1_2=>(exit (Sum.inl (o0_0_2,o0_1_2,r_0,r_1_2,[],r_0,r_1,r_2,r_0_2,r_1_2,r_2_2))))))) else (exit (Sum.inr ()))))
def WE (i:Q7):Option zqv:=zak i some
theorem zzj (i:Q7) (k:zqv→Ans):zak i k=za (WE i) k:=by
  obtain ⟨t14,o1_0,o1_1,o2_0⟩:=i
  simp only [WE,zak,zi,zh,zl,zc,zj,zm,zg]
theorem zFa (i:Q7) (K:Ex→St→Ans):zx Tryz.tab zhe zd (zy Tryz.tab zhe zd 0 64) 70 55 ztS zoZ (zB 0 (exk [2,4,5] [2,3] []) K) (zB6 i)=zak i (zmH i K):=by kernel_rfl
theorem zQG:zw Tryz.prog 55 zoZ (zG zmg WE zmH):=zA mixed tabOk zs8 0 (exk [2,4,5] [2,3] []) zF8 zJE zFa zzj
noncomputable def zSo:(Ex→St→Ans)→St→Ans:=(zG zmg WE zmH)
theorem zU7:zw Tryz.prog 55 zoZ zSo:=zQG
noncomputable def z13:Ann:=(.seq .none (.seq .none (.seq .none (.seq (.seq .none (.cut 0 [2,4,5,14] zSo)) (.seq .none (.seq (.seq .none (.cut 0 [2,5,7,47] zSx)) .none))))))
theorem z1w:zq Tryz.prog 55 zW4 z13:=⟨(zb _ _ _),⟨(zb _ _ _),⟨(zb _ _ _),⟨⟨(zb _ _ _),zU7⟩,⟨(zb _ _ _),⟨⟨(zb _ _ _),zY1⟩,(zb _ _ _)⟩⟩⟩⟩⟩⟩
abbrev zdR:=(List UInt8)
abbrev zJz:=(Int)×(Int)×(Int)×(List UInt8)×(Int)×(Int)×(List UInt8)×(Int)×(Int)×(List UInt8)×(Int)
def zxr {β:Type}:zdR→(zJz→Option β)→Option β:=fun a0 exit=>(za (Wq (a0)) fun _=>(za (ZZ ((1:Int),a0,(0:Int))) (unP fun r=>unP fun o0_0 o0_1=>(za (WE (r,o0_0,o0_1,r)) (Sum.elim (unP fun o1_0=>unP fun o1_1=>unP fun o2_1=>unP fun o2_2=>unP fun o2_3=>unP fun o2_4=>unP fun o2_5=>unP fun o2_6=>unP fun o2_7=>unP fun o2_8 o2_9=>(za (zef (o1_0,o1_1)) fun r_2=>(za (W7 (r_2,r_2 == (0:Int),r,o2_1,o2_2,o2_3,o2_4,o2_5,o2_6,o2_7,o2_8,o2_9)) fun t7=>(bif t7 != (0:Int) then (exit ((0:Int),(0:Int),(0:Int),[],(0:Int),(0:Int),[],(0:Int),(0:Int),[],t7)) else (exit (r,o2_1,o2_2,o2_3,o2_4,o2_5,o2_6,o2_7,o2_8,o2_9,(0:Int))))))) (fun _=>(exit ((0:Int),(0:Int),(0:Int),[],(0:Int),(0:Int),[],(0:Int),(0:Int),[],(7:Int)))))))))
def zgs (a:zdR):Option zJz:=zxr a some
theorem z6n (a:zdR) (k:zJz→Ans):zxr a k=za (zgs a) k:=by
  obtain z:=a
  simp only [zgs,zxr,zi,zh,zl,zc,zj,zm,zg]
def zBs:zdR→List AV:=fun a0=>[.str a0]
def zJO (l:List AV):Option {a:zdR // l=zBs a}:=match l with
  | [.str a0]=>some ⟨(a0),rfl⟩
  | _=>none
def zTG (l:List AV):Option zdR:=pk (zJO l)
theorem zX0 (l:List AV) (a:zdR) (h:zTG l=some a):l=zBs a:=zt (o:=zJO l) h
def zzQ:zdR→zJz→AV:=fun a0=>unP fun r_0_0_y=>unP fun r_0_1_y=>unP fun r_0_2_y=>unP fun r_0_3_y=>unP fun r_0_4_y=>unP fun r_0_5_y=>unP fun r_0_6_y=>unP fun r_0_7_y=>unP fun r_0_8_y=>unP fun r_0_9_y r_1_y => .tup [.agg [.int .i64 r_0_0_y,.int .i64 r_0_1_y,.int .i64 r_0_2_y,.str r_0_3_y,.int .i64 r_0_4_y,.int .i64 r_0_5_y,.str r_0_6_y,.int .i64 r_0_7_y,.int .i64 r_0_8_y,.str r_0_9_y],.int .i64 r_1_y]
theorem zXi : ∀(a:zdR) (y:zJz),(zzQ a y).closed1=true:=by
  rintro z y <;> first | rfl | exact Empty.elim y
theorem z7t (a:zdR):fnE Tryz.tab zhe zd 0 70 54 Tryz.f54.ntmps Tryz.f54.results.toList z13 zW4 (zBs a) [] (fun v _=>some (v,[]))=zxr a (fun y=>some (zzQ a y,[])):=by kernel_rfl
def Zej (a:zdR) (K:AV→Ans):Ans:=za (zgs a) fun y=>K (zzQ a y)
def z8s:List AV→(AV→Ans)→Ans:=fun l K=>za (zTG l) fun a=>Zej a K
theorem zTq:zM Tryz.prog 54 z8s:=zL (hint:=zd) (d:=0) (n:=70) mixed tabOk zs8 Tryz.func54 (zE (by kernel_rfl)) (by decide +kernel) z1w zX0 z7t z6n zXi
--@ state_single_side
noncomputable def z1g:Env:=[]
theorem z8m:zf Tryz.prog z1g:=zf.nil
noncomputable def Zdn:Code:=Tryz.f181.body.getD .skip
noncomputable def z3n:Ann := .none
theorem z0Z:zq Tryz.prog 12 Zdn z3n:=(zb _ _ _)
abbrev zeN:=(Int)×(Int)×(Int)×(List UInt8)×(Int)×(Int)×(List UInt8)×(Int)×(Int)×(List UInt8)×(Int)
abbrev zKO:=Unit
def zw5 {β:Type}:zeN→(zKO→Option β)→Option β:=fun (a0_0,a0_1,a0_2,a0_3,a0_4,a0_5,a0_6,a0_7,a0_8,a0_9,a1) exit=>(exit ())
def zlS (a:zeN):Option zKO:=zw5 a some
theorem z4C (a:zeN) (k:zKO→Ans):zw5 a k=za (zlS a) k:=by
  obtain ⟨a0_0,a0_1,a0_2,a0_3,a0_4,a0_5,a0_6,a0_7,a0_8,a0_9,a1⟩:=a
  simp only [zlS,zw5,zi,zh,zl,zc,zj,zm,zg]
def zyS:zeN→List AV:=fun (a0_0,a0_1,a0_2,a0_3,a0_4,a0_5,a0_6,a0_7,a0_8,a0_9,a1)=>[.agg [.int .i64 a0_0,.int .i64 a0_1,.int .i64 a0_2,.str a0_3,.int .i64 a0_4,.int .i64 a0_5,.str a0_6,.int .i64 a0_7,.int .i64 a0_8,.str a0_9],.int .i64 a1]
def zLS (l:List AV):Option {a:zeN // l=zyS a}:=match l with
  | [.agg [.int .i64 a0_0,.int .i64 a0_1,.int .i64 a0_2,.str a0_3,.int .i64 a0_4,.int .i64 a0_5,.str a0_6,.int .i64 a0_7,.int .i64 a0_8,.str a0_9],.int .i64 a1]=>some ⟨(a0_0,a0_1,a0_2,a0_3,a0_4,a0_5,a0_6,a0_7,a0_8,a0_9,a1),rfl⟩
  | _=>none
def zUG (l:List AV):Option zeN:=pk (zLS l)
theorem zXN (l:List AV) (a:zeN) (h:zUG l=some a):l=zyS a:=zt (o:=zLS l) h
def zAr:zeN→zKO→AV:=fun (a0_0,a0_1,a0_2,a0_3,a0_4,a0_5,a0_6,a0_7,a0_8,a0_9,a1)=>fun _ => .agg [.int .i64 a0_1,.int .i64 a0_2,.str a0_3]
theorem zYT : ∀(a:zeN) (y:zKO),(zAr a y).closed1=true:=by
  rintro ⟨a0_0,a0_1,a0_2,a0_3,a0_4,a0_5,a0_6,a0_7,a0_8,a0_9,a1⟩ y <;> first | rfl | exact Empty.elim y
theorem z63 (a:zeN):fnE Tryz.tab z1g zd 0 70 181 Tryz.f181.ntmps Tryz.f181.results.toList z3n Zdn (zyS a) [] (fun v _=>some (v,[]))=zw5 a (fun y=>some (zAr a y,[])):=by kernel_rfl
def Zew (a:zeN) (K:AV→Ans):Ans:=za (zlS a) fun y=>K (zAr a y)
def z80:List AV→(AV→Ans)→Ans:=fun l K=>za (zUG l) fun a=>Zew a K
theorem zRy:zM Tryz.prog 181 z80:=zL (hint:=zd) (d:=0) (n:=70) mixed tabOk z8m Tryz.func181 (zE (by kernel_rfl)) (by decide +kernel) z0Z zXN z63 z4C zYT
--@ state_double_side
noncomputable def z5a:Env:=[]
theorem z7h:zf Tryz.prog z5a:=zf.nil
noncomputable def Zdm:Code:=Tryz.f182.body.getD .skip
noncomputable def z6g:Ann := .none
theorem z04:zq Tryz.prog 13 Zdm z6g:=(zb _ _ _)
abbrev zee:=(Int)×(Int)×(Int)×(List UInt8)×(Int)×(Int)×(List UInt8)×(Int)×(Int)×(List UInt8)×(Int)
abbrev zLi:=(Int)×(Int)×(List UInt8)
def zIW {β:Type}:zee→(zLi→Option β)→Option β:=fun (a0_0,a0_1,a0_2,a0_3,a0_4,a0_5,a0_6,a0_7,a0_8,a0_9,a1) exit=>(bif a1 == (0:Int) then (exit (a0_4,a0_5,a0_6)) else (exit (a0_7,a0_8,a0_9)))
def zkg (a:zee):Option zLi:=zIW a some
theorem z3E (a:zee) (k:zLi→Ans):zIW a k=za (zkg a) k:=by
  obtain ⟨a0_0,a0_1,a0_2,a0_3,a0_4,a0_5,a0_6,a0_7,a0_8,a0_9,a1⟩:=a
  simp only [zkg,zIW,zi,zh,zl,zc,zj,zm,zg]
def zEh:zee→List AV:=fun (a0_0,a0_1,a0_2,a0_3,a0_4,a0_5,a0_6,a0_7,a0_8,a0_9,a1)=>[.agg [.int .i64 a0_0,.int .i64 a0_1,.int .i64 a0_2,.str a0_3,.int .i64 a0_4,.int .i64 a0_5,.str a0_6,.int .i64 a0_7,.int .i64 a0_8,.str a0_9],.int .i64 a1]
def zJl (l:List AV):Option {a:zee // l=zEh a}:=match l with
  | [.agg [.int .i64 a0_0,.int .i64 a0_1,.int .i64 a0_2,.str a0_3,.int .i64 a0_4,.int .i64 a0_5,.str a0_6,.int .i64 a0_7,.int .i64 a0_8,.str a0_9],.int .i64 a1]=>some ⟨(a0_0,a0_1,a0_2,a0_3,a0_4,a0_5,a0_6,a0_7,a0_8,a0_9,a1),rfl⟩
  | _=>none
def zR7 (l:List AV):Option zee:=pk (zJl l)
theorem zXE (l:List AV) (a:zee) (h:zR7 l=some a):l=zEh a:=zt (o:=zJl l) h
def zDO:zee→zLi→AV:=fun (a0_0,a0_1,a0_2,a0_3,a0_4,a0_5,a0_6,a0_7,a0_8,a0_9,a1)=>unP fun r_0_y=>unP fun r_1_y r_2_y => .agg [.int .i64 r_0_y,.int .i64 r_1_y,.str r_2_y]
theorem zY4 : ∀(a:zee) (y:zLi),(zDO a y).closed1=true:=by
  rintro ⟨a0_0,a0_1,a0_2,a0_3,a0_4,a0_5,a0_6,a0_7,a0_8,a0_9,a1⟩ y <;> first | rfl | exact Empty.elim y
theorem z6Q (a:zee):fnE Tryz.tab z5a zd 0 70 182 Tryz.f182.ntmps Tryz.f182.results.toList z6g Zdm (zEh a) [] (fun v _=>some (v,[]))=zIW a (fun y=>some (zDO a y,[])):=by kernel_rfl
def Zfk (a:zee) (K:AV→Ans):Ans:=za (zkg a) fun y=>K (zDO a y)
def z7w:List AV→(AV→Ans)→Ans:=fun l K=>za (zR7 l) fun a=>Zfk a K
theorem zT1:zM Tryz.prog 182 z7w:=zL (hint:=zd) (d:=0) (n:=70) mixed tabOk z7h Tryz.func182 (zE (by kernel_rfl)) (by decide +kernel) z04 zXE z6Q z3E zY4
--@ state_Side
noncomputable def z2B:Env:=[(70,.func zXg),(181,.pure z80),(182,.pure z7w)]
theorem z8h:zf Tryz.prog z2B:=zf.cons zzS (zf.cons zRy (zf.cons zT1 (zf.nil)))
noncomputable def ZcG:Code:=Tryz.f143.body.getD .skip
noncomputable def z3q:Ann := .none
theorem z1H:zq Tryz.prog 25 ZcG z3q:=(zb _ _ _)
abbrev zeR:=(Int)×(Int)×(Int)×(List UInt8)×(Int)×(Int)×(List UInt8)×(Int)×(Int)×(List UInt8)×(Int)
abbrev zNV:=(Int)×(Int)×(List UInt8)
def zxy {β:Type}:zeR→(zNV→Option β)→Option β:=fun (a0_0,a0_1,a0_2,a0_3,a0_4,a0_5,a0_6,a0_7,a0_8,a0_9,a1) exit=>(za (zev (a0_0,a0_1,a0_2,a0_3,a0_4,a0_5,a0_6,a0_7,a0_8,a0_9)) (Sum.elim (fun _=>(za (zlS (a0_0,a0_1,a0_2,a0_3,a0_4,a0_5,a0_6,a0_7,a0_8,a0_9,a1)) fun _=>(exit (a0_1,a0_2,a0_3)))) ((Sum.elim (fun _=>(za (zkg (a0_0,a0_1,a0_2,a0_3,a0_4,a0_5,a0_6,a0_7,a0_8,a0_9,a1)) (unP fun r_0=>unP fun r_1 r_2=>(exit (r_0,r_1,r_2))))) (fun _=>(za (zkg (a0_0,a0_1,a0_2,a0_3,a0_4,a0_5,a0_6,a0_7,a0_8,a0_9,a1)) (unP fun r_0=>unP fun r_1 r_2=>(exit (r_0,r_1,r_2)))))))))
def zly (a:zeR):Option zNV:=zxy a some
theorem z0Y (a:zeR) (k:zNV→Ans):zxy a k=za (zly a) k:=by
  obtain ⟨a0_0,a0_1,a0_2,a0_3,a0_4,a0_5,a0_6,a0_7,a0_8,a0_9,a1⟩:=a
  simp only [zly,zxy,zi,zh,zl,zc,zj,zm,zg]
def zBy:zeR→List AV:=fun (a0_0,a0_1,a0_2,a0_3,a0_4,a0_5,a0_6,a0_7,a0_8,a0_9,a1)=>[.agg [.int .i64 a0_0,.int .i64 a0_1,.int .i64 a0_2,.str a0_3,.int .i64 a0_4,.int .i64 a0_5,.str a0_6,.int .i64 a0_7,.int .i64 a0_8,.str a0_9],.int .i64 a1]
def zMP (l:List AV):Option {a:zeR // l=zBy a}:=match l with
  | [.agg [.int .i64 a0_0,.int .i64 a0_1,.int .i64 a0_2,.str a0_3,.int .i64 a0_4,.int .i64 a0_5,.str a0_6,.int .i64 a0_7,.int .i64 a0_8,.str a0_9],.int .i64 a1]=>some ⟨(a0_0,a0_1,a0_2,a0_3,a0_4,a0_5,a0_6,a0_7,a0_8,a0_9,a1),rfl⟩
  | _=>none
def zTV (l:List AV):Option zeR:=pk (zMP l)
theorem zV2 (l:List AV) (a:zeR) (h:zTV l=some a):l=zBy a:=zt (o:=zMP l) h
def zzp:zeR→zNV→AV:=fun (a0_0,a0_1,a0_2,a0_3,a0_4,a0_5,a0_6,a0_7,a0_8,a0_9,a1)=>unP fun r_0_y=>unP fun r_1_y r_2_y => .agg [.int .i64 r_0_y,.int .i64 r_1_y,.str r_2_y]
theorem zZk : ∀(a:zeR) (y:zNV),(zzp a y).closed1=true:=by
  rintro ⟨a0_0,a0_1,a0_2,a0_3,a0_4,a0_5,a0_6,a0_7,a0_8,a0_9,a1⟩ y <;> first | rfl | exact Empty.elim y
theorem z9H (a:zeR):fnE Tryz.tab z2B zd 0 70 143 Tryz.f143.ntmps Tryz.f143.results.toList z3q ZcG (zBy a) [] (fun v _=>some (v,[]))=zxy a (fun y=>some (zzp a y,[])):=by kernel_rfl
def Zez (a:zeR) (K:AV→Ans):Ans:=za (zly a) fun y=>K (zzp a y)
def z9t:List AV→(AV→Ans)→Ans:=fun l K=>za (zTV l) fun a=>Zez a K
theorem zTv:zM Tryz.prog 143 z9t:=zL (hint:=zd) (d:=0) (n:=70) mixed tabOk z8h Tryz.func143 (zE (by kernel_rfl)) (by decide +kernel) z1H zV2 z9H z0Y zZk
--@ vector_Put
noncomputable def z4k:Env:=[(57,.pure zmY)]
theorem z8K:zf Tryz.prog z4k:=zf.cons zbR (zf.nil)
noncomputable def ZcB:Code:=Tryz.f180.body.getD .skip
noncomputable def z2L:Ann := .none
theorem z3K:zq Tryz.prog 12 ZcB z2L:=(zb _ _ _)
abbrev zd5:=(List UInt8)×(Int)×(Int)
abbrev zNo:=(List UInt8)
def ztg {β:Type}:zd5→(zNo→Option β)→Option β:=fun (a0,a1_0,a1_1) exit=>(za (Zw (a0,a1_0,(7:Int))) fun r=>(za (Zw (r,a1_1,(7:Int))) fun r_2=>(exit (r_2))))
def zhN (a:zd5):Option zNo:=ztg a some
theorem z3z (a:zd5) (k:zNo→Ans):ztg a k=za (zhN a) k:=by
  obtain ⟨a0,a1_0,a1_1⟩:=a
  simp only [zhN,ztg,zi,zh,zl,zc,zj,zm,zg]
def zDo:zd5→List AV:=fun (a0,a1_0,a1_1)=>[.str a0,.agg [.int .i64 a1_0,.int .i64 a1_1]]
def zM2 (l:List AV):Option {a:zd5 // l=zDo a}:=match l with
  | [.str a0,.agg [.int .i64 a1_0,.int .i64 a1_1]]=>some ⟨(a0,a1_0,a1_1),rfl⟩
  | _=>none
def zUt (l:List AV):Option zd5:=pk (zM2 l)
theorem zW9 (l:List AV) (a:zd5) (h:zUt l=some a):l=zDo a:=zt (o:=zM2 l) h
def zyD:zd5→zNo→AV:=fun (a0,a1_0,a1_1)=>fun r_y => .str r_y
theorem zV8 : ∀(a:zd5) (y:zNo),(zyD a y).closed1=true:=by
  rintro ⟨a0,a1_0,a1_1⟩ y <;> first | rfl | exact Empty.elim y
theorem z9r (a:zd5):fnE Tryz.tab z4k zd 0 70 180 Tryz.f180.ntmps Tryz.f180.results.toList z2L ZcB (zDo a) [] (fun v _=>some (v,[]))=ztg a (fun y=>some (zyD a y,[])):=by kernel_rfl
def Zee (a:zd5) (K:AV→Ans):Ans:=za (zhN a) fun y=>K (zyD a y)
def z94:List AV→(AV→Ans)→Ans:=fun l K=>za (zUt l) fun a=>Zee a K
theorem zSl:zM Tryz.prog 180 z94:=zL (hint:=zd) (d:=0) (n:=70) mixed tabOk z8K Tryz.func180 (zE (by kernel_rfl)) (by decide +kernel) z3K zW9 z9r z3z zV8
--@ state_put
noncomputable def z01:Env:=[(180,.pure z94)]
theorem z6F:zf Tryz.prog z01:=zf.cons zSl (zf.nil)
noncomputable def ZdS:Code:=Tryz.f142.body.getD .skip
noncomputable def z3U:Ann := .none
theorem z43:zq Tryz.prog 12 ZdS z3U:=(zb _ _ _)
abbrev ze3:=(List UInt8)×(Int)×(Int)×(List UInt8)
abbrev zNk:=(List UInt8)
def zxK {β:Type}:ze3→(zNk→Option β)→Option β:=fun (a0,a1_0,a1_1,a1_2) exit=>(za (zhN (a0,a1_0,a1_1)) fun r=>(bif Nat.ble (List.length r+List.length a1_2) (9223372036854775807:Nat) then (exit (r++a1_2)) else none))
def zc4 (a:ze3):Option zNk:=zxK a some
theorem z1j (a:ze3) (k:zNk→Ans):zxK a k=za (zc4 a) k:=by
  obtain ⟨a0,a1_0,a1_1,a1_2⟩:=a
  simp only [zc4,zxK,zi,zh,zl,zc,zj,zm,zg]
def zAd:ze3→List AV:=fun (a0,a1_0,a1_1,a1_2)=>[.str a0,.agg [.int .i64 a1_0,.int .i64 a1_1,.str a1_2]]
def zKw (l:List AV):Option {a:ze3 // l=zAd a}:=match l with
  | [.str a0,.agg [.int .i64 a1_0,.int .i64 a1_1,.str a1_2]]=>some ⟨(a0,a1_0,a1_1,a1_2),rfl⟩
  | _=>none
def zRJ (l:List AV):Option ze3:=pk (zKw l)
theorem zZ0 (l:List AV) (a:ze3) (h:zRJ l=some a):l=zAd a:=zt (o:=zKw l) h
def zCL:ze3→zNk→AV:=fun (a0,a1_0,a1_1,a1_2)=>fun r_y => .str r_y
theorem zU0 : ∀(a:ze3) (y:zNk),(zCL a y).closed1=true:=by
  rintro ⟨a0,a1_0,a1_1,a1_2⟩ y <;> first | rfl | exact Empty.elim y
theorem z7i (a:ze3):fnE Tryz.tab z01 zd 0 70 142 Tryz.f142.ntmps Tryz.f142.results.toList z3U ZdS (zAd a) [] (fun v _=>some (v,[]))=zxK a (fun y=>some (zCL a y,[])):=by kernel_rfl
def Zed (a:ze3) (K:AV→Ans):Ans:=za (zc4 a) fun y=>K (zCL a y)
def z6M:List AV→(AV→Ans)→Ans:=fun l K=>za (zRJ l) fun a=>Zed a K
theorem zS9:zM Tryz.prog 142 z6M:=zL (hint:=zd) (d:=0) (n:=70) mixed tabOk z6F Tryz.func142 (zE (by kernel_rfl)) (by decide +kernel) z43 zZ0 z7i z1j zU0
--@ state_Put
noncomputable def z6c:Env:=[(57,.pure zmY),(35,.pure zNE),(143,.pure z9t),(142,.pure z6M)]
theorem z7N:zf Tryz.prog z6c:=zf.cons zbR (zf.cons zob (zf.cons zTv (zf.cons zS9 (zf.nil))))
noncomputable def Zc6:Code:=Tryz.f97.body.getD .skip
noncomputable def z2I:Ann := .none
theorem z3V:zq Tryz.prog 28 Zc6 z2I:=(zb _ _ _)
abbrev zeZ:=(Int)×(Int)×(Int)×(List UInt8)×(Int)×(Int)×(List UInt8)×(Int)×(Int)×(List UInt8)
abbrev zI6:=(List UInt8)×(Int)
def zyy {β:Type}:zeZ→(zI6→Option β)→Option β:=fun (a0_0,a0_1,a0_2,a0_3,a0_4,a0_5,a0_6,a0_7,a0_8,a0_9) exit=>(za (zbF (a0_0,a0_1,a0_2,a0_3,a0_4,a0_5,a0_6,a0_7,a0_8,a0_9)) fun r=>(bif r != (0:Int) then (exit ([],r)) else (za (Zw ([],a0_0,(1:Int))) fun r_2=>(bif a0_0 == (0:Int) then (za (zly (a0_0,a0_1,a0_2,a0_3,a0_4,a0_5,a0_6,a0_7,a0_8,a0_9,(0:Int))) (unP fun r_0=>unP fun r_1 r_2_2=>(za (zc4 (r_2,r_0,r_1,r_2_2)) fun r_3=>(exit (r_3,(0:Int)))))) else (za (zc4 (r_2,a0_4,a0_5,a0_6)) fun r_3=>(za (zc4 (r_3,a0_7,a0_8,a0_9)) fun r_4=>(exit (r_4,(0:Int)))))))))
def zhf (a:zeZ):Option zI6:=zyy a some
theorem z4N (a:zeZ) (k:zI6→Ans):zyy a k=za (zhf a) k:=by
  obtain ⟨a0_0,a0_1,a0_2,a0_3,a0_4,a0_5,a0_6,a0_7,a0_8,a0_9⟩:=a
  simp only [zhf,zyy,zi,zh,zl,zc,zj,zm,zg]
def zCq:zeZ→List AV:=fun (a0_0,a0_1,a0_2,a0_3,a0_4,a0_5,a0_6,a0_7,a0_8,a0_9)=>[.agg [.int .i64 a0_0,.int .i64 a0_1,.int .i64 a0_2,.str a0_3,.int .i64 a0_4,.int .i64 a0_5,.str a0_6,.int .i64 a0_7,.int .i64 a0_8,.str a0_9]]
def zN3 (l:List AV):Option {a:zeZ // l=zCq a}:=match l with
  | [.agg [.int .i64 a0_0,.int .i64 a0_1,.int .i64 a0_2,.str a0_3,.int .i64 a0_4,.int .i64 a0_5,.str a0_6,.int .i64 a0_7,.int .i64 a0_8,.str a0_9]]=>some ⟨(a0_0,a0_1,a0_2,a0_3,a0_4,a0_5,a0_6,a0_7,a0_8,a0_9),rfl⟩
  | _=>none
def zUp (l:List AV):Option zeZ:=pk (zN3 l)
theorem zWF (l:List AV) (a:zeZ) (h:zUp l=some a):l=zCq a:=zt (o:=zN3 l) h
def zAD:zeZ→zI6→AV:=fun (a0_0,a0_1,a0_2,a0_3,a0_4,a0_5,a0_6,a0_7,a0_8,a0_9)=>unP fun r_0_y r_1_y => .tup [.str r_0_y,.int .i64 r_1_y]
theorem zUZ : ∀(a:zeZ) (y:zI6),(zAD a y).closed1=true:=by
  rintro ⟨a0_0,a0_1,a0_2,a0_3,a0_4,a0_5,a0_6,a0_7,a0_8,a0_9⟩ y <;> first | rfl | exact Empty.elim y
theorem z7m (a:zeZ):fnE Tryz.tab z6c zd 0 70 97 Tryz.f97.ntmps Tryz.f97.results.toList z2I Zc6 (zCq a) [] (fun v _=>some (v,[]))=zyy a (fun y=>some (zAD a y,[])):=by kernel_rfl
def Zfd (a:zeZ) (K:AV→Ans):Ans:=za (zhf a) fun y=>K (zAD a y)
def z8d:List AV→(AV→Ans)→Ans:=fun l K=>za (zUp l) fun a=>Zfd a K
theorem zRA:zM Tryz.prog 97 z8d:=zL (hint:=zd) (d:=0) (n:=70) mixed tabOk z7N Tryz.func97 (zE (by kernel_rfl)) (by decide +kernel) z3V zWF z7m z4N zUZ
--@ dump_extent
noncomputable def zvF:Env:=[(57,.pure zmY),(97,.pure z8d)]
theorem zLm:zf Tryz.prog zvF:=zf.cons zbR (zf.cons zRA (zf.nil))
noncomputable def z8F:Code:=Tryz.f56.body.getD .skip
noncomputable def zpO:Code:=zF [1,1,1,1,0,1] z8F
noncomputable def zvq:Ann := .none
theorem zHu:zq Tryz.prog 26 zpO zvq:=(zb _ _ _)
abbrev Q2:=(Int)×(List UInt8)×(Bool)
abbrev zoN:=(Int)
def zDL:Q2→St:=fun (t0,t8,t19)=>{ env:=[(0,.int .i64 t0),(8,.str t8),(10,.int .i64 (0)),(19,.bool t19)],stk:=[[]],H:=[],blk:=229376 }
def zxa (s:St):Option {x:Q2 // s=zDL x}:=match s with
  | { env:=[(0,.int .i64 t0),(8,.str t8),(10,.int .i64 r2),(19,.bool t19)],stk:=[[]],H:=[],blk:=229376 }=>if h2:r2=0 then some ⟨(t0,t8,t19),by subst h2;rfl⟩ else none
  | _=>none
def zjV (s:St):Option Q2:=pk (zxa s)
theorem zJW (s:St) (x:Q2) (h:zjV s=some x):s=zDL x:=zt (o:=zxa s) h
def zjN:Q2→(Ex→St→Ans)→zoN→Ans:=fun (t0,t8,t19) K=>fun t10_y=>K (Ex.norm) { env:=[(0,.int .i64 t0),(8,.str t8),(10,.int .i64 t10_y)],stk:=[[]],H:=[],blk:=229376 }
def zby {β:Type}:Q2→(zoN→Option β)→Option β:=fun (t0,t8,t19) exit=>(bif t19 then (exit ((1:Int))) else (exit ((0:Int))))
def wb (i:Q2):Option zoN:=zby i some
theorem zDg (i:Q2) (k:zoN→Ans):zby i k=za (wb i) k:=by
  obtain ⟨t0,t8,t19⟩:=i
  simp only [wb,zby,zi,zh,zl,zc,zj,zm,zg]
theorem zE7 (i:Q2) (K:Ex→St→Ans):zx Tryz.tab zvF zd (zy Tryz.tab zvF zd 0 64) 70 26 zvq zpO (zB 0 (exk [0,8,10] [6,7] []) K) (zDL i)=zby i (zjN i K):=by kernel_rfl
theorem zPo:zw Tryz.prog 26 zpO (zG zjV wb zjN):=zA mixed tabOk zLm 0 (exk [0,8,10] [6,7] []) zHu zJW zE7 zDg
noncomputable def zSC:(Ex→St→Ans)→St→Ans:=(zG zjV wb zjN)
theorem zWY:zw Tryz.prog 26 zpO zSC:=zPo
noncomputable def z3s:Ann:=(.seq .none (.seq .none (.seq .none (.seq .none (.seq (.seq .none (.cut 0 [0,8,10,19] zSC)) .none)))))
theorem z2l:zq Tryz.prog 26 z8F z3s:=⟨(zb _ _ _),⟨(zb _ _ _),⟨(zb _ _ _),⟨(zb _ _ _),⟨⟨(zb _ _ _),zWY⟩,(zb _ _ _)⟩⟩⟩⟩⟩
abbrev zdM:=(Int)×(Int)×(Int)×(Int)×(List UInt8)×(Int)×(Int)×(List UInt8)×(Int)×(Int)×(List UInt8)×(Bool)
abbrev zOl:=(List UInt8)×(Int)
def zvv {β:Type}:zdM→(zOl→Option β)→Option β:=fun (a0,a1_0,a1_1,a1_2,a1_3,a1_4,a1_5,a1_6,a1_7,a1_8,a1_9,a2) exit=>(za (zhf (a1_0,a1_1,a1_2,a1_3,a1_4,a1_5,a1_6,a1_7,a1_8,a1_9)) (unP fun r_0 r_1=>(bif r_1 != (0:Int) then (exit ([],r_1)) else (za (wb (a0,r_0,a2)) fun t10=>(za (Zw ([],a0,(1:Int))) fun r=>(za (Zw (r,t10,(1:Int))) fun r_2=>(bif Nat.ble (List.length r_2+List.length r_0) (9223372036854775807:Nat) then (exit (r_2++r_0,(0:Int))) else none)))))))
def zcx (a:zdM):Option zOl:=zvv a some
theorem z4G (a:zdM) (k:zOl→Ans):zvv a k=za (zcx a) k:=by
  obtain ⟨a0,a1_0,a1_1,a1_2,a1_3,a1_4,a1_5,a1_6,a1_7,a1_8,a1_9,a2⟩:=a
  simp only [zcx,zvv,zi,zh,zl,zc,zj,zm,zg]
def zCS:zdM→List AV:=fun (a0,a1_0,a1_1,a1_2,a1_3,a1_4,a1_5,a1_6,a1_7,a1_8,a1_9,a2)=>[.int .i64 a0,.agg [.int .i64 a1_0,.int .i64 a1_1,.int .i64 a1_2,.str a1_3,.int .i64 a1_4,.int .i64 a1_5,.str a1_6,.int .i64 a1_7,.int .i64 a1_8,.str a1_9],.bool a2]
def zNU (l:List AV):Option {a:zdM // l=zCS a}:=match l with
  | [.int .i64 a0,.agg [.int .i64 a1_0,.int .i64 a1_1,.int .i64 a1_2,.str a1_3,.int .i64 a1_4,.int .i64 a1_5,.str a1_6,.int .i64 a1_7,.int .i64 a1_8,.str a1_9],.bool a2]=>some ⟨(a0,a1_0,a1_1,a1_2,a1_3,a1_4,a1_5,a1_6,a1_7,a1_8,a1_9,a2),rfl⟩
  | _=>none
def zTh (l:List AV):Option zdM:=pk (zNU l)
theorem zYq (l:List AV) (a:zdM) (h:zTh l=some a):l=zCS a:=zt (o:=zNU l) h
def zA9:zdM→zOl→AV:=fun (a0,a1_0,a1_1,a1_2,a1_3,a1_4,a1_5,a1_6,a1_7,a1_8,a1_9,a2)=>unP fun r_0_y r_1_y => .tup [.str r_0_y,.int .i64 r_1_y]
theorem zWO : ∀(a:zdM) (y:zOl),(zA9 a y).closed1=true:=by
  rintro ⟨a0,a1_0,a1_1,a1_2,a1_3,a1_4,a1_5,a1_6,a1_7,a1_8,a1_9,a2⟩ y <;> first | rfl | exact Empty.elim y
theorem z7Z (a:zdM):fnE Tryz.tab zvF zd 0 70 56 Tryz.f56.ntmps Tryz.f56.results.toList z3s z8F (zCS a) [] (fun v _=>some (v,[]))=zvv a (fun y=>some (zA9 a y,[])):=by kernel_rfl
def Zfo (a:zdM) (K:AV→Ans):Ans:=za (zcx a) fun y=>K (zA9 a y)
def zWz:List AV→(AV→Ans)→Ans:=fun l K=>za (zTh l) fun a=>Zfo a K
theorem zBb:zM Tryz.prog 56 zWz:=zL (hint:=zd) (d:=0) (n:=70) mixed tabOk zLm Tryz.func56 (zE (by kernel_rfl)) (by decide +kernel) z2l zYq z7Z z4G zWO
end Go.Proofs.R9
