/- What the functions that DumpSpoiltCardSaid reaches compute: part 2. -/
import Derived.Test.YthfoooplgceaoaaGreatDoorOwnDumpSpoiltCardSaid1
set_option linter.unusedVariables false
set_option linter.unusedSimpArgs false
namespace Go.Proofs.R9
open Go Go.AE
set_option maxRecDepth 100000
--@ region_Pad
noncomputable def zNG:Env:=[(75,.pure W2)]
theorem zQP:zd Tryz.prog zNG:=zd.cons za4 (zd.nil)
noncomputable def zVl:Code:=Tryz.f94.body.getD .skip
noncomputable def zKX:Ann := .none
theorem zOE:zr Tryz.prog 15 zVl zKX:=(zb _ _ _)
abbrev zcG:=(List UInt8)
abbrev zzn:=(List UInt8)
def zre {β:Type}:zcG→(zzn→Option β)→Option β:=fun a0 exit=>(bif decide (Int.tmod (↑(List.length a0):Int) (64:Int)>(0:Int)) then (za (y1 ([(0:UInt8)],IntKind.wrap .i64 ((64:Int) - Int.tmod (↑(List.length a0):Int) (64:Int)))) fun r=>(bif Nat.ble (List.length a0+List.length r) (9223372036854775807:Nat) then (exit (a0++r)) else none)) else (exit (a0)))
def zfa (a:zcG):Option zzn:=zre a some
theorem zN1 (a:zcG) (k:zzn→Ans):zre a k=za (zfa a) k:=by
  obtain z:=a
  simp only [zfa,zre,zj,zg,zl,zc,zi,zm,zh]
def zsl:zcG→List AV:=fun a0=>[.str a0]
def zyT (l:List AV):Option {a:zcG // l=zsl a}:=match l with
  | [.str a0]=>some ⟨(a0),rfl⟩
  | _=>none
def zFR (l:List AV):Option zcG:=pk (zyT l)
theorem zHL (l:List AV) (a:zcG) (h:zFR l=some a):l=zsl a:=zx (o:=zyT l) h
def zsT:zcG→zzn→AV:=fun a0=>fun r_y => .str r_y
theorem zIq : ∀(a:zcG) (y:zzn),(zsT a y).closed1=true:=by
  rintro z y <;> first | rfl | exact Empty.elim y
theorem zQq (a:zcG):fnE Tryz.tab zNG zf 0 70 94 Tryz.f94.ntmps Tryz.f94.results.toList zKX zVl (zsl a) [] (fun v _=>some (v,[]))=zre a (fun y=>some (zsT a y,[])):=by kernel_rfl
def zVH (a:zcG) (K:AV→Ans):Ans:=za (zfa a) fun y=>K (zsT a y)
def zP9:List AV→(AV→Ans)→Ans:=fun l K=>za (zFR l) fun a=>zVH a K
theorem zFd:zV Tryz.prog 94 zP9:=zX (hint:=zf) (d:=0) (n:=70) mixed tabOk zQP Tryz.func94 (zI (by kernel_rfl)) (by decide +kernel) zOE zHL zQq zN1 zIq
--@ super_Put
noncomputable def ze0:Env:=[(52,.pure Fq4),(34,.pure zKv),(57,.pure ziN),(94,.pure zP9)]
theorem zCb:zd Tryz.prog ze0:=zd.cons zeo (zd.cons zsm (zd.cons zae (zd.cons zFd (zd.nil))))
noncomputable def zP3:Code:=Tryz.f53.body.getD .skip
noncomputable def zfd:Code:=zL [1,1,1,1,0,1,0,0] zP3
noncomputable def zgk:Ann := .at 0 [1,5,31,32,33] (.loop .none)
theorem zwr:zr Tryz.prog 51 (.loop zfd) zgk:=yG (zb _ _ _)
abbrev QG:=(Int)×(Int)×(Int)×(Int)×(Int)×(Int)×(Int)×(Int)×(List Int)
abbrev zle:=(List UInt8)
abbrev wz:=(List UInt8)×(Int)
def zkn:QG→wz→St:=fun (t32,o0_0,o0_1,o0_2,o0_3,o0_4,o0_5,o0_6,o1) (t5,t33)=>{ env:=[(1,.ptr 0 0),(5,.str t5),(31,.own 1),(32,.int .i64 t32),(33,.int .i64 t33)],stk:=[[]],H:=[.cells [.int .i64 o0_0,.int .i64 o0_1,.int .i64 o0_2,.int .i64 o0_3,.int .i64 o0_4,.int .i64 o0_5,.int .i64 o0_6],.arr (.int .i64) o1],blk:=217088 }
def zpo (s:St):Option {x:QG×wz // s=zkn x.1 x.2}:=match s with
  | { env:=[(1,.ptr 0 0),(5,.str t5),(31,.own 1),(32,.int .i64 t32),(33,.int .i64 t33)],stk:=[[]],H:=[.cells [.int .i64 o0_0,.int .i64 o0_1,.int .i64 o0_2,.int .i64 o0_3,.int .i64 o0_4,.int .i64 o0_5,.int .i64 o0_6],.arr (.int .i64) o1],blk:=217088 }=>some ⟨((t32,o0_0,o0_1,o0_2,o0_3,o0_4,o0_5,o0_6,o1),(t5,t33)),rfl⟩
  | _=>none
def zhu (s:St):Option (QG×wz):=pk (zpo s)
theorem zBc (s:St) (x:QG×wz) (h:zhu s=some x):s=zkn x.1 x.2:=zx (o:=zpo s) h
def zhB:QG→(Ex→St→Ans)→zle→Ans:=fun (t32,o0_0,o0_1,o0_2,o0_3,o0_4,o0_5,o0_6,o1) K=>fun t5_y=>K (Ex.exit 0) { env:=[(1,.ptr 0 0),(5,.str t5_y)],stk:=[[]],H:=[.cells [.int .i64 o0_0,.int .i64 o0_1,.int .i64 o0_2,.int .i64 o0_3,.int .i64 o0_4,.int .i64 o0_5,.int .i64 o0_6]],blk:=217088 }
def Jq {β:Type}:QG→wz→(wz→Option β)→(zle→Option β)→Option β:=fun (t32,o0_0,o0_1,o0_2,o0_3,o0_4,o0_5,o0_6,o1) (t5,t33) next exit=>(bif decide (t33<t32) then (bif inR t33 (List.length o1) then (za (o1[Int.toNat t33]?) fun x=>(za (Zt (t5,x,(1:Int))) fun r=>(next (r,IntKind.wrap .i64 (t33+(1:Int)))))) else none) else (exit (t5)))
def ZI (i:QG) (v:wz):Option (wz ⊕ zle):=Jq i v (fun v=>some (.inl v)) (fun y=>some (.inr y))
theorem zuF (i:QG) (v:wz) (next:wz→Ans) (exit:zle→Ans):Jq i v next exit=za (ZI i v) (Sum.elim next exit):=by
  obtain ⟨t32,o0_0,o0_1,o0_2,o0_3,o0_4,o0_5,o0_6,o1⟩:=i
  obtain ⟨t5,t33⟩:=v
  simp only [ZI,Jq,zj,zg,zl,zc,zi,zm,zh,Sum.elim_inl,Sum.elim_inr]
theorem zxt (n:Nat) (i:QG) (v:wz) (K:Ex→St→Ans):zA Tryz.tab ze0 zf (zD Tryz.tab ze0 zf 0 64) (n+1) 51 zgk (.loop zfd) (zH 0 (exk [1,5] [2,3] [(0,[1,5])]) K) (zkn i v)=Jq i v (fun v'=>zA Tryz.tab ze0 zf (zD Tryz.tab ze0 zf 0 64) n 51 zgk (.loop zfd) (zH 0 (exk [1,5] [2,3] [(0,[1,5])]) K) (zkn i v')) (fun y=>zhB i K y):=by kernel_rfl
theorem zDx:zy Tryz.prog 51 (.loop zfd) (y9 zhu ZI zhB):=yQ mixed tabOk zCb 0 (exk [1,5] [2,3] [(0,[1,5])]) zwr zBc zxt zuF
noncomputable def zGG:(Ex→St→Ans)→St→Ans:=(y9 zhu ZI zhB)
theorem zG0:zy Tryz.prog 51 (.loop zfd) zGG:=zDx
noncomputable def zOy:Ann:=(.seq .none (.seq .none (.seq .none (.seq .none (.seq (.seq .none (.block (.cut 0 [1,5,31,32,33] zGG))) .none)))))
theorem zOl:zr Tryz.prog 51 zP3 zOy:=⟨(zb _ _ _),⟨(zb _ _ _),⟨(zb _ _ _),⟨(zb _ _ _),⟨⟨(zb _ _ _),zG0⟩,(zb _ _ _)⟩⟩⟩⟩⟩
abbrev zcc:=(Int)×(Int)×(Int)×(Int)×(Int)×(Int)×(Int)
abbrev zzT:=(List UInt8)×(Int)
def zrU {β:Type}:zcc→(zzT→Option β)→Option β:=fun (a0_0,a0_1,a0_2,a0_3,a0_4,a0_5,a0_6) exit=>(za (zcU (a0_0,a0_1,a0_2,a0_3,a0_4,a0_5,a0_6)) fun r=>(bif r != (0:Int) then (exit ([],r)) else (za (Zt ([(83:UInt8)],a0_0,(1:Int))) fun r_2=>(za (Zt (r_2,a0_1,(1:Int))) fun r_3=>(za (Zt (r_3,a0_2,(4:Int))) fun r_4=>(za (zZ (ZI ((↑(List.length [a0_3,a0_4,a0_5]):Int),a0_0,a0_1,a0_2,a0_3,a0_4,a0_5,a0_6,[a0_3,a0_4,a0_5])) Zo (r_4,(0:Int))) fun t5=>(za (Zt (t5,a0_6,(2:Int))) fun r_5=>(za (zap (r_5)) fun r_6=>(bif Nat.ble (List.length r_5+List.length r_6) (9223372036854775807:Nat) then (za (zfa (r_5++r_6)) fun r_7=>(exit (r_7,(0:Int)))) else none)))))))))
def zcD (a:zcc):Option zzT:=zrU a some
theorem zOW (a:zcc) (k:zzT→Ans):zrU a k=za (zcD a) k:=by
  obtain ⟨a0_0,a0_1,a0_2,a0_3,a0_4,a0_5,a0_6⟩:=a
  simp only [zcD,zrU,zj,zg,zl,zc,zi,zm,zh]
def zsa:zcc→List AV:=fun (a0_0,a0_1,a0_2,a0_3,a0_4,a0_5,a0_6)=>[.agg [.int .i64 a0_0,.int .i64 a0_1,.int .i64 a0_2,.int .i64 a0_3,.int .i64 a0_4,.int .i64 a0_5,.int .i64 a0_6]]
def zBI (l:List AV):Option {a:zcc // l=zsa a}:=match l with
  | [.agg [.int .i64 a0_0,.int .i64 a0_1,.int .i64 a0_2,.int .i64 a0_3,.int .i64 a0_4,.int .i64 a0_5,.int .i64 a0_6]]=>some ⟨(a0_0,a0_1,a0_2,a0_3,a0_4,a0_5,a0_6),rfl⟩
  | _=>none
def zEU (l:List AV):Option zcc:=pk (zBI l)
theorem zI1 (l:List AV) (a:zcc) (h:zEU l=some a):l=zsa a:=zx (o:=zBI l) h
def ztz:zcc→zzT→AV:=fun (a0_0,a0_1,a0_2,a0_3,a0_4,a0_5,a0_6)=>unP fun r_0_y r_1_y => .tup [.str r_0_y,.int .i64 r_1_y]
theorem zHi : ∀(a:zcc) (y:zzT),(ztz a y).closed1=true:=by
  rintro ⟨a0_0,a0_1,a0_2,a0_3,a0_4,a0_5,a0_6⟩ y <;> first | rfl | exact Empty.elim y
theorem zQb (a:zcc):fnE Tryz.tab ze0 zf 0 70 53 Tryz.f53.ntmps Tryz.f53.results.toList zOy zP3 (zsa a) [] (fun v _=>some (v,[]))=zrU a (fun y=>some (ztz a y,[])):=by kernel_rfl
def zVs (a:zcc) (K:AV→Ans):Ans:=za (zcD a) fun y=>K (ztz a y)
def zKF:List AV→(AV→Ans)→Ans:=fun l K=>za (zEU l) fun a=>zVs a K
theorem zu7:zV Tryz.prog 53 zKF:=zX (hint:=zf) (d:=0) (n:=70) mixed tabOk zCb Tryz.func53 (zI (by kernel_rfl)) (by decide +kernel) zOl zI1 zQb zOW zHi
--@ super_Get
noncomputable def zoO:Env:=[(49,.func zvo),(50,.func zmw),(51,.func znZ),(52,.pure Fq4),(53,.pure zKF)]
theorem zAt:zd Tryz.prog zoO:=zd.cons zeF (zd.cons zbH (zd.cons zbJ (zd.cons zeo (zd.cons zu7 (zd.nil)))))
noncomputable def zQS:Code:=Tryz.f20.body.getD .skip
noncomputable def zlJ:Code:=zL [1,1,1,1,1,1,1,1,0,1,0] zQS
noncomputable def zp0:Ann := .none
theorem zx2:zr Tryz.prog 63 zlJ zp0:=(zb _ _ _)
abbrev Qb:=(List UInt8)×(List UInt8)×(Int)×(Int)×(Int)×(Int)×(Int)×(Int)×(Int)×(Int)
abbrev zkJ:=(Bool)
def zs2:Qb→St:=fun (t0,t7,t8,o1_0,o1_1,o1_2,o1_3,o1_4,o1_5,o1_6)=>{ env:=[(0,.str t0),(2,.ptr 0 0),(4,.ptr 1 0),(7,.str t7),(8,.int .i64 t8)],stk:=[[]],H:=[.cells [.int .i64 (0),.int .i64 (0),.int .i64 (0),.int .i64 (0),.int .i64 (0),.int .i64 (0),.int .i64 (0)],.cells [.int .i64 o1_0,.int .i64 o1_1,.int .i64 o1_2,.int .i64 o1_3,.int .i64 o1_4,.int .i64 o1_5,.int .i64 o1_6]],blk:=81920 }
def zqP (s:St):Option {x:Qb // s=zs2 x}:=match s with
  | { env:=[(0,.str t0),(2,.ptr 0 0),(4,.ptr 1 0),(7,.str t7),(8,.int .i64 t8)],stk:=[[]],H:=[.cells [.int .i64 r3,.int .i64 r4,.int .i64 r5,.int .i64 r6,.int .i64 r7,.int .i64 r8,.int .i64 r9],.cells [.int .i64 o1_0,.int .i64 o1_1,.int .i64 o1_2,.int .i64 o1_3,.int .i64 o1_4,.int .i64 o1_5,.int .i64 o1_6]],blk:=81920 }=>if h3:r3=0 then if h4:r4=0 then if h5:r5=0 then if h6:r6=0 then if h7:r7=0 then if h8:r8=0 then if h9:r9=0 then some ⟨(t0,t7,t8,o1_0,o1_1,o1_2,o1_3,o1_4,o1_5,o1_6),by subst h3 h4 h5 h6 h7 h8 h9;rfl⟩ else none else none else none else none else none else none else none
  | _=>none
def zg2 (s:St):Option Qb:=pk (zqP s)
theorem zBX (s:St) (x:Qb) (h:zg2 s=some x):s=zs2 x:=zx (o:=zqP s) h
def ziX:Qb→(Ex→St→Ans)→zkJ→Ans:=fun (t0,t7,t8,o1_0,o1_1,o1_2,o1_3,o1_4,o1_5,o1_6) K=>fun t60_y=>K (Ex.norm) { env:=[(2,.ptr 0 0),(4,.ptr 1 0),(60,.bool t60_y)],stk:=[[]],H:=[.cells [.int .i64 (0),.int .i64 (0),.int .i64 (0),.int .i64 (0),.int .i64 (0),.int .i64 (0),.int .i64 (0)],.cells [.int .i64 o1_0,.int .i64 o1_1,.int .i64 o1_2,.int .i64 o1_3,.int .i64 o1_4,.int .i64 o1_5,.int .i64 o1_6]],blk:=81920 }
def jV {β:Type}:Qb→(zkJ→Option β)→Option β:=fun (t0,t7,t8,o1_0,o1_1,o1_2,o1_3,o1_4,o1_5,o1_6) exit=>(bif t8 != (0:Int) then (exit (true)) else (exit (!t7 == t0)))
def we (i:Qb):Option zkJ:=jV i some
theorem zsI (i:Qb) (k:zkJ→Ans):jV i k=za (we i) k:=by
  obtain ⟨t0,t7,t8,o1_0,o1_1,o1_2,o1_3,o1_4,o1_5,o1_6⟩:=i
  simp only [we,jV,zj,zg,zl,zc,zi,zm,zh]
theorem zx3 (i:Qb) (K:Ex→St→Ans):zA Tryz.tab zoO zf (zD Tryz.tab zoO zf 0 64) 70 63 zp0 zlJ (zH 0 (exk [2,4,60] [2,3] []) K) (zs2 i)=jV i (ziX i K):=by kernel_rfl
theorem zDj:zy Tryz.prog 63 zlJ (zG zg2 we ziX):=zB mixed tabOk zAt 0 (exk [2,4,60] [2,3] []) zx2 zBX zx3 zsI
noncomputable def zFB:(Ex→St→Ans)→St→Ans:=(zG zg2 we ziX)
theorem zIS:zy Tryz.prog 63 zlJ zFB:=zDj
noncomputable def zKW:Ann:=(.seq .none (.seq .none (.seq .none (.seq .none (.seq .none (.seq .none (.seq .none (.seq .none (.seq (.seq .none (.seq (.cut 0 [0,2,4,7,8] zFB) .none)) .none)))))))))
theorem zKS:zr Tryz.prog 63 zQS zKW:=⟨(zb _ _ _),⟨(zb _ _ _),⟨(zb _ _ _),⟨(zb _ _ _),⟨(zb _ _ _),⟨(zb _ _ _),⟨(zb _ _ _),⟨(zb _ _ _),⟨⟨(zb _ _ _),⟨zIS,(zb _ _ _)⟩⟩,(zb _ _ _)⟩⟩⟩⟩⟩⟩⟩⟩⟩
abbrev zb2:=(List UInt8)
abbrev zza:=(Int)×(Int)×(Int)×(Int)×(Int)×(Int)×(Int)×(Int)
def zqt {β:Type}:zb2→(zza→Option β)→Option β:=fun a0 exit=>(bif (↑(List.length a0):Int) != (64:Int) then (exit ((0:Int),(0:Int),(0:Int),(0:Int),(0:Int),(0:Int),(0:Int),(12:Int))) else (za (w8 (a0)) fun _=>(za (yB ((1:Int),a0,(0:Int))) (unP fun r=>unP fun o0_0 o0_1=>(bif !r == [(83:UInt8)] then (exit ((0:Int),(0:Int),(0:Int),(0:Int),(0:Int),(0:Int),(0:Int),(4:Int))) else (za (ZY ((1:Int),o0_0,o0_1)) (unP fun r_2=>unP fun o0_0_2 o0_1_2=>(za (ZY ((1:Int),o0_0_2,o0_1_2)) (unP fun r_3=>unP fun o0_0_3 o0_1_3=>(za (ZY ((4:Int),o0_0_3,o0_1_3)) (unP fun r_4=>unP fun o0_0_4 o0_1_4=>(za (ZY ((1:Int),o0_0_4,o0_1_4)) (unP fun r_5=>unP fun o0_0_5 o0_1_5=>(za (ZY ((1:Int),o0_0_5,o0_1_5)) (unP fun r_6=>unP fun o0_0_6 o0_1_6=>(za (ZY ((1:Int),o0_0_6,o0_1_6)) (unP fun r_7=>unP fun o0_0_7 o0_1_7=>(za (ZY ((2:Int),o0_0_7,o0_1_7)) (unP fun r_8=>unP fun o0_0_8 o0_1_8=>(bif inR (12:Int) (List.length a0+(1:Nat)) then (za (zap (List.take (12:Nat) a0)) fun r_9=>(za (yB ((↑(List.length r_9):Int),o0_0_8,o0_1_8)) (unP fun r_10=>unP fun o0_0_9 o0_1_9=>(bif !r_10 == r_9 then (exit ((0:Int),(0:Int),(0:Int),(0:Int),(0:Int),(0:Int),(0:Int),(5:Int))) else (za (zcD (r_2,r_3,r_4,r_5,r_6,r_7,r_8)) (unP fun r_0 r_1=>(za (we (a0,r_0,r_1,r_2,r_3,r_4,r_5,r_6,r_7,r_8)) fun t60=>(bif t60 then (exit ((0:Int),(0:Int),(0:Int),(0:Int),(0:Int),(0:Int),(0:Int),(4:Int))) else (exit (r_2,r_3,r_4,r_5,r_6,r_7,r_8,(0:Int))))))))))) else none))))))))))))))))))))
def zeL (a:zb2):Option zza:=zqt a some
theorem zK6 (a:zb2) (k:zza→Ans):zqt a k=za (zeL a) k:=by
  obtain z:=a
  simp only [zeL,zqt,zj,zg,zl,zc,zi,zm,zh]
def zuS:zb2→List AV:=fun a0=>[.str a0]
def zAk (l:List AV):Option {a:zb2 // l=zuS a}:=match l with
  | [.str a0]=>some ⟨(a0),rfl⟩
  | _=>none
def zER (l:List AV):Option zb2:=pk (zAk l)
theorem zJ1 (l:List AV) (a:zb2) (h:zER l=some a):l=zuS a:=zx (o:=zAk l) h
def zuj:zb2→zza→AV:=fun a0=>unP fun r_0_0_y=>unP fun r_0_1_y=>unP fun r_0_2_y=>unP fun r_0_3_y=>unP fun r_0_4_y=>unP fun r_0_5_y=>unP fun r_0_6_y r_1_y => .tup [.agg [.int .i64 r_0_0_y,.int .i64 r_0_1_y,.int .i64 r_0_2_y,.int .i64 r_0_3_y,.int .i64 r_0_4_y,.int .i64 r_0_5_y,.int .i64 r_0_6_y],.int .i64 r_1_y]
theorem zJq : ∀(a:zb2) (y:zza),(zuj a y).closed1=true:=by
  rintro z y <;> first | rfl | exact Empty.elim y
theorem zQL (a:zb2):fnE Tryz.tab zoO zf 0 70 20 Tryz.f20.ntmps Tryz.f20.results.toList zKW zQS (zuS a) [] (fun v _=>some (v,[]))=zqt a (fun y=>some (zuj a y,[])):=by kernel_rfl
def zV9 (a:zb2) (K:AV→Ans):Ans:=za (zeL a) fun y=>K (zuj a y)
def zRP:List AV→(AV→Ans)→Ans:=fun l K=>za (zER l) fun a=>zV9 a K
theorem zFa:zV Tryz.prog 20 zRP:=zX (hint:=zf) (d:=0) (n:=70) mixed tabOk zAt Tryz.func20 (zI (by kernel_rfl)) (by decide +kernel) zKS zJ1 zQL zK6 zJq
--@ state_version
noncomputable def zOI:Env:=[(50,.func zmw),(51,.func znZ)]
theorem zRa:zd Tryz.prog zOI:=zd.cons zbH (zd.cons zbJ (zd.nil))
noncomputable def zUz:Code:=Tryz.f95.body.getD .skip
noncomputable def zMW:Ann := .none
theorem zOM:zr Tryz.prog 11 zUz zMW:=(zb _ _ _)
abbrev zdP:=(List UInt8)×(Int)
abbrev zIV:=(Int)×(Int)×(List UInt8)×(List UInt8)×(Int)
def zoT {β:Type}:zdP→(zIV→Option β)→Option β:=fun (o0_0,o0_1) exit=>(za (ZY ((7:Int),o0_0,o0_1)) (unP fun r=>unP fun o0_0_2 o0_1_2=>(za (ZY ((7:Int),o0_0_2,o0_1_2)) (unP fun r_2=>unP fun o0_0_3 o0_1_3=>(za (yB ((128:Int),o0_0_3,o0_1_3)) (unP fun r_3=>unP fun o0_0_4 o0_1_4=>(exit (r,r_2,r_3,o0_0_4,o0_1_4))))))))
def za0 (a:zdP):Option zIV:=zoT a some
theorem zLX (a:zdP) (k:zIV→Ans):zoT a k=za (za0 a) k:=by
  obtain ⟨o0_0,o0_1⟩:=a
  simp only [za0,zoT,zj,zg,zl,zc,zi,zm,zh]
def zjE:zdP→List AV×List AE.Obj:=fun (o0_0,o0_1)=>([.ptr 0 0],[.cells [.str o0_0,.int .i64 o0_1]])
def zBa (l:List AV) (H:List AE.Obj):Option {a:zdP // (l,H)=zjE a}:=match l,H with
  | [.ptr 0 0],[.cells [.str o0_0,.int .i64 o0_1]]=>some ⟨(o0_0,o0_1),rfl⟩
  | _,_=>none
def zGF (l:List AV) (H:List AE.Obj):Option zdP:=pk (zBa l H)
theorem zIQ (l:List AV) (H:List AE.Obj) (a:zdP) (h:zGF l H=some a):(l,H)=zjE a:=zx (o:=zBa l H) h
def zN0:zdP→(AV→List AE.Obj→Ans)→zIV→Ans:=fun (o0_0,o0_1) K=>unP fun r_0_y=>unP fun r_1_y=>unP fun r_2_y=>unP fun o0_0_y o0_1_y=>K (.agg [.int .i64 r_0_y,.int .i64 r_1_y,.str r_2_y]) [.cells [.str o0_0_y,.int .i64 o0_1_y]]
theorem zPk (a:zdP) (K:AV→List AE.Obj→Ans):fnE Tryz.tab zOI zf 0 70 95 Tryz.f95.ntmps Tryz.f95.results.toList zMW zUz (zjE a).1 (zjE a).2 K=zoT a (zN0 a K):=by kernel_rfl
def zVS (a:zdP) (K:AV→List AE.Obj→Ans):Ans:=za (za0 a) fun y=>zN0 a K y
def zPB:List AV→List AE.Obj→(AV→List AE.Obj→Ans)→Ans:=fun l H K=>za (zGF l H) fun a=>zVS a K
theorem zEQ:zP Tryz.prog 95 zPB:=ZN (hint:=zf) (d:=0) (n:=70) mixed tabOk zRa Tryz.func95 (zI (by kernel_rfl)) (by decide +kernel) zOM zIQ zPk zLX
--@ state_of
noncomputable def zMO:Env:=[]
theorem zQ8:zd Tryz.prog zMO:=zd.nil
noncomputable def zUf:Code:=Tryz.f70.body.getD .skip
noncomputable def zMc:Ann := .none
theorem zNe:zr Tryz.prog 15 zUf zMc:=(zb _ _ _)
abbrev zdF:=(Int)×(Int)×(Int)×(List UInt8)×(Int)×(Int)×(List UInt8)×(Int)×(Int)×(List UInt8)
abbrev zKL:=(Unit) ⊕ (Unit) ⊕ (Unit)
def zlp {β:Type}:zdF→(zKL→Option β)→Option β:=fun (a0_0,a0_1,a0_2,a0_3,a0_4,a0_5,a0_6,a0_7,a0_8,a0_9) exit=>(bif a0_0 == (0:Int) then (exit (Sum.inl ())) else (bif a0_0 == (1:Int) then (exit (Sum.inr (Sum.inl ()))) else (exit (Sum.inr (Sum.inr ())))))
def zcq (a:zdF):Option zKL:=zlp a some
theorem zLt (a:zdF) (k:zKL→Ans):zlp a k=za (zcq a) k:=by
  obtain ⟨a0_0,a0_1,a0_2,a0_3,a0_4,a0_5,a0_6,a0_7,a0_8,a0_9⟩:=a
  simp only [zcq,zlp,zj,zg,zl,zc,zi,zm,zh]
def zkZ:zdF→List AV×List AE.Obj:=fun (a0_0,a0_1,a0_2,a0_3,a0_4,a0_5,a0_6,a0_7,a0_8,a0_9)=>([.agg [.int .i64 a0_0,.int .i64 a0_1,.int .i64 a0_2,.str a0_3,.int .i64 a0_4,.int .i64 a0_5,.str a0_6,.int .i64 a0_7,.int .i64 a0_8,.str a0_9]],[])
def zAm (l:List AV) (H:List AE.Obj):Option {a:zdF // (l,H)=zkZ a}:=match l,H with
  | [.agg [.int .i64 a0_0,.int .i64 a0_1,.int .i64 a0_2,.str a0_3,.int .i64 a0_4,.int .i64 a0_5,.str a0_6,.int .i64 a0_7,.int .i64 a0_8,.str a0_9]],[]=>some ⟨(a0_0,a0_1,a0_2,a0_3,a0_4,a0_5,a0_6,a0_7,a0_8,a0_9),rfl⟩
  | _,_=>none
def zFo (l:List AV) (H:List AE.Obj):Option zdF:=pk (zAm l H)
theorem zHR (l:List AV) (H:List AE.Obj) (a:zdF) (h:zFo l H=some a):(l,H)=zkZ a:=zx (o:=zAm l H) h
def zOm:zdF→(AV→List AE.Obj→Ans)→zKL→Ans:=fun (a0_0,a0_1,a0_2,a0_3,a0_4,a0_5,a0_6,a0_7,a0_8,a0_9) K=>(Sum.elim (fun _=>K (.ifc 162 (.agg [.int .i64 a0_0,.int .i64 a0_1,.int .i64 a0_2,.str a0_3,.int .i64 a0_4,.int .i64 a0_5,.str a0_6,.int .i64 a0_7,.int .i64 a0_8,.str a0_9])) []) ((Sum.elim (fun _=>K (.ifc 163 (.agg [.int .i64 a0_0,.int .i64 a0_1,.int .i64 a0_2,.str a0_3,.int .i64 a0_4,.int .i64 a0_5,.str a0_6,.int .i64 a0_7,.int .i64 a0_8,.str a0_9])) []) (fun _=>K (.nili) []))))
theorem zQC (a:zdF) (K:AV→List AE.Obj→Ans):fnE Tryz.tab zMO zf 0 70 70 Tryz.f70.ntmps Tryz.f70.results.toList zMc zUf (zkZ a).1 (zkZ a).2 K=zlp a (zOm a K):=by kernel_rfl
def zV7 (a:zdF) (K:AV→List AE.Obj→Ans):Ans:=za (zcq a) fun y=>zOm a K y
def zHB:List AV→List AE.Obj→(AV→List AE.Obj→Ans)→Ans:=fun l H K=>za (zFo l H) fun a=>zV7 a K
theorem zsR:zP Tryz.prog 70 zHB:=ZN (hint:=zf) (d:=0) (n:=70) mixed tabOk zQ8 Tryz.func70 (zI (by kernel_rfl)) (by decide +kernel) zNe zHR zQC zLt
--@ vector_within
noncomputable def zqp:Env:=[]
theorem zz2:zd Tryz.prog zqp:=zd.nil
noncomputable def zQQ:Code:=Tryz.f246.body.getD .skip
noncomputable def zj2:Code:=zL [1,0] zQQ
noncomputable def zrz:Ann := .none
theorem zxu:zr Tryz.prog 12 zj2 zrz:=(zb _ _ _)
abbrev qN:=(Int)×(Int)
abbrev zku:=(Bool)
def zsF:qN→St:=fun (t0,t1)=>{ env:=[(0,.int .i64 t0),(1,.int .i64 t1)],stk:=[[]],H:=[],blk:=1007616 }
def zqu (s:St):Option {x:qN // s=zsF x}:=match s with
  | { env:=[(0,.int .i64 t0),(1,.int .i64 t1)],stk:=[[]],H:=[],blk:=1007616 }=>some ⟨(t0,t1),rfl⟩
  | _=>none
def zix (s:St):Option qN:=pk (zqu s)
theorem zCS (s:St) (x:qN) (h:zix s=some x):s=zsF x:=zx (o:=zqu s) h
def zhe:qN→(Ex→St→Ans)→zku→Ans:=fun (t0,t1) K=>fun t4_y=>K (Ex.norm) { env:=[(4,.bool t4_y)],stk:=[[]],H:=[],blk:=1007616 }
def JO {β:Type}:qN→(zku→Option β)→Option β:=fun (t0,t1) exit=>(bif decide (t0≥(0:Int)) then (exit (decide (t0≤t1))) else (exit (false)))
def WO (i:qN):Option zku:=JO i some
theorem zr8 (i:qN) (k:zku→Ans):JO i k=za (WO i) k:=by
  obtain ⟨t0,t1⟩:=i
  simp only [WO,JO,zj,zg,zl,zc,zi,zm,zh]
theorem zwg (i:qN) (K:Ex→St→Ans):zA Tryz.tab zqp zf (zD Tryz.tab zqp zf 0 64) 70 12 zrz zj2 (zH 0 (exk [4] [4] []) K) (zsF i)=JO i (zhe i K):=by kernel_rfl
theorem zDT:zy Tryz.prog 12 zj2 (zG zix WO zhe):=zB mixed tabOk zz2 0 (exk [4] [4] []) zxu zCS zwg zr8
noncomputable def zFs:(Ex→St→Ans)→St→Ans:=(zG zix WO zhe)
theorem zIx:zy Tryz.prog 12 zj2 zFs:=zDT
noncomputable def zM8:Ann:=(.seq .none (.seq (.cut 0 [0,1] zFs) .none))
theorem zO4:zr Tryz.prog 12 zQQ zM8:=⟨(zb _ _ _),⟨zIx,(zb _ _ _)⟩⟩
abbrev zbY:=(Int)×(Int)
abbrev zAl:=(Bool)
def zoA {β:Type}:zbY→(zAl→Option β)→Option β:=fun (a0,a1) exit=>(za (WO (a0,a1)) fun t4=>(exit (t4)))
def zcW (a:zbY):Option zAl:=zoA a some
theorem zNx (a:zbY) (k:zAl→Ans):zoA a k=za (zcW a) k:=by
  obtain ⟨a0,a1⟩:=a
  simp only [zcW,zoA,zj,zg,zl,zc,zi,zm,zh]
def zt9:zbY→List AV:=fun (a0,a1)=>[.int .i64 a0,.int .i64 a1]
def zzN (l:List AV):Option {a:zbY // l=zt9 a}:=match l with
  | [.int .i64 a0,.int .i64 a1]=>some ⟨(a0,a1),rfl⟩
  | _=>none
def zGJ (l:List AV):Option zbY:=pk (zzN l)
theorem zID (l:List AV) (a:zbY) (h:zGJ l=some a):l=zt9 a:=zx (o:=zzN l) h
def zsf:zbY→zAl→AV:=fun (a0,a1)=>fun r_y => .bool r_y
theorem zIU : ∀(a:zbY) (y:zAl),(zsf a y).closed1=true:=by
  rintro ⟨a0,a1⟩ y <;> first | rfl | exact Empty.elim y
theorem zPq (a:zbY):fnE Tryz.tab zqp zf 0 70 246 Tryz.f246.ntmps Tryz.f246.results.toList zM8 zQQ (zt9 a) [] (fun v _=>some (v,[]))=zoA a (fun y=>some (zsf a y,[])):=by kernel_rfl
def zVr (a:zbY) (K:AV→Ans):Ans:=za (zcW a) fun y=>K (zsf a y)
def zP4:List AV→(AV→Ans)→Ans:=fun l K=>za (zGJ l) fun a=>zVr a K
theorem zGD:zV Tryz.prog 246 zP4:=zX (hint:=zf) (d:=0) (n:=70) mixed tabOk zz2 Tryz.func246 (zI (by kernel_rfl)) (by decide +kernel) zO4 zID zPq zNx zIU
--@ vector_Right
noncomputable def zrH:Env:=[(246,.pure zP4)]
theorem zA4:zd Tryz.prog zrH:=zd.cons zGD (zd.nil)
noncomputable def zQX:Code:=Tryz.f224.body.getD .skip
noncomputable def zlN:Code:=zL [1,0] zQX
noncomputable def zoB:Ann := .none
theorem zxh:zr Tryz.prog 11 zlN zoB:=(zb _ _ _)
abbrev qR:=(Int)×(Int)
abbrev zj3:=(Bool)
def zsY:qR→St:=fun (o0_0,o0_1)=>{ env:=[(1,.ptr 0 0)],stk:=[[]],H:=[.cells [.int .i64 o0_0,.int .i64 o0_1]],blk:=917504 }
def zpZ (s:St):Option {x:qR // s=zsY x}:=match s with
  | { env:=[(1,.ptr 0 0)],stk:=[[]],H:=[.cells [.int .i64 o0_0,.int .i64 o0_1]],blk:=917504 }=>some ⟨(o0_0,o0_1),rfl⟩
  | _=>none
def zhG (s:St):Option qR:=pk (zpZ s)
theorem zBm (s:St) (x:qR) (h:zhG s=some x):s=zsY x:=zx (o:=zpZ s) h
def zhF:qR→(Ex→St→Ans)→zj3→Ans:=fun (o0_0,o0_1) K=>fun t2_y=>K (Ex.norm) { env:=[(2,.bool t2_y)],stk:=[[]],H:=[],blk:=917504 }
def Jl {β:Type}:qR→(zj3→Option β)→Option β:=fun (o0_0,o0_1) exit=>(za (zcW (o0_0,(1125899906842624:Int))) fun r=>(bif r then (za (zcW (o0_1,(1125899906842624:Int))) fun r_2=>(exit (r_2))) else (exit (false))))
def WQ (i:qR):Option zj3:=Jl i some
theorem zsy (i:qR) (k:zj3→Ans):Jl i k=za (WQ i) k:=by
  obtain ⟨o0_0,o0_1⟩:=i
  simp only [WQ,Jl,zj,zg,zl,zc,zi,zm,zh]
theorem zx9 (i:qR) (K:Ex→St→Ans):zA Tryz.tab zrH zf (zD Tryz.tab zrH zf 0 64) 70 11 zoB zlN (zH 0 (exk [2] [2] []) K) (zsY i)=Jl i (zhF i K):=by kernel_rfl
theorem zDw:zy Tryz.prog 11 zlN (zG zhG WQ zhF):=zB mixed tabOk zA4 0 (exk [2] [2] []) zxh zBm zx9 zsy
noncomputable def zFe:(Ex→St→Ans)→St→Ans:=(zG zhG WQ zhF)
theorem zHq:zy Tryz.prog 11 zlN zFe:=zDw
noncomputable def zNY:Ann:=(.seq .none (.seq (.cut 0 [1] zFe) .none))
theorem zLK:zr Tryz.prog 11 zQX zNY:=⟨(zb _ _ _),⟨zHq,(zb _ _ _)⟩⟩
abbrev zcx:=(Int)×(Int)
abbrev zzo:=(Bool)
def zo2 {β:Type}:zcx→(zzo→Option β)→Option β:=fun (a0_0,a0_1) exit=>(za (WQ (a0_0,a0_1)) fun t2=>(exit (t2)))
def zaL (a:zcx):Option zzo:=zo2 a some
theorem zLw (a:zcx) (k:zzo→Ans):zo2 a k=za (zaL a) k:=by
  obtain ⟨a0_0,a0_1⟩:=a
  simp only [zaL,zo2,zj,zg,zl,zc,zi,zm,zh]
def zvd:zcx→List AV:=fun (a0_0,a0_1)=>[.agg [.int .i64 a0_0,.int .i64 a0_1]]
def zy4 (l:List AV):Option {a:zcx // l=zvd a}:=match l with
  | [.agg [.int .i64 a0_0,.int .i64 a0_1]]=>some ⟨(a0_0,a0_1),rfl⟩
  | _=>none
def zFc (l:List AV):Option zcx:=pk (zy4 l)
theorem zJE (l:List AV) (a:zcx) (h:zFc l=some a):l=zvd a:=zx (o:=zy4 l) h
def zvw:zcx→zzo→AV:=fun (a0_0,a0_1)=>fun r_y => .bool r_y
theorem zHS : ∀(a:zcx) (y:zzo),(zvw a y).closed1=true:=by
  rintro ⟨a0_0,a0_1⟩ y <;> first | rfl | exact Empty.elim y
theorem zRq (a:zcx):fnE Tryz.tab zrH zf 0 70 224 Tryz.f224.ntmps Tryz.f224.results.toList zNY zQX (zvd a) [] (fun v _=>some (v,[]))=zo2 a (fun y=>some (zvw a y,[])):=by kernel_rfl
def zV6 (a:zcx) (K:AV→Ans):Ans:=za (zaL a) fun y=>K (zvw a y)
def zKD:List AV→(AV→Ans)→Ans:=fun l K=>za (zFc l) fun a=>zV6 a K
theorem ztN:zV Tryz.prog 224 zKD:=zX (hint:=zf) (d:=0) (n:=70) mixed tabOk zA4 Tryz.func224 (zI (by kernel_rfl)) (by decide +kernel) zLK zJE zRq zLw zHS
--@ state_single_check
noncomputable def zeP:Env:=[(224,.pure zKD)]
theorem znl:zd Tryz.prog zeP:=zd.cons ztN (zd.nil)
noncomputable def zJM:Code:=Tryz.f311.body.getD .skip
noncomputable def zkP:Code:=zL [1,1,0,0,1,1,1,1,0] zJM
noncomputable def zrq:Ann := .none
theorem zxP:zr Tryz.prog 29 zkP zrq:=(zb _ _ _)
abbrev Qm:=(Int)×(Int)×(Int)×(List UInt8)×(Int)×(Int)×(List UInt8)×(Int)×(Int)×(List UInt8)
abbrev zj4:=(Bool)
def ztt:Qm→St:=fun (o0_0,o0_1,o0_2,o0_3,o0_4,o0_5,o0_6,o0_7,o0_8,o0_9)=>{ env:=[(1,.ptr 0 0),(3,.ptr 1 0)],stk:=[[]],H:=[.cells [.int .i64 o0_0,.int .i64 o0_1,.int .i64 o0_2,.str o0_3,.int .i64 o0_4,.int .i64 o0_5,.str o0_6,.int .i64 o0_7,.int .i64 o0_8,.str o0_9],.cells [.int .i64 (0),.int .i64 (0),.str ([])]],blk:=1273856 }
def zn4 (s:St):Option {x:Qm // s=ztt x}:=match s with
  | { env:=[(1,.ptr 0 0),(3,.ptr 1 0)],stk:=[[]],H:=[.cells [.int .i64 o0_0,.int .i64 o0_1,.int .i64 o0_2,.str o0_3,.int .i64 o0_4,.int .i64 o0_5,.str o0_6,.int .i64 o0_7,.int .i64 o0_8,.str o0_9],.cells [.int .i64 r10,.int .i64 r11,.str r12]],blk:=1273856 }=>if h10:r10=0 then if h11:r11=0 then if h12:r12=[] then some ⟨(o0_0,o0_1,o0_2,o0_3,o0_4,o0_5,o0_6,o0_7,o0_8,o0_9),by subst h10 h11 h12;rfl⟩ else none else none else none
  | _=>none
def zgW (s:St):Option Qm:=pk (zn4 s)
theorem zAr (s:St) (x:Qm) (h:zgW s=some x):s=ztt x:=zx (o:=zn4 s) h
def ziy:Qm→(Ex→St→Ans)→zj4→Ans:=fun (o0_0,o0_1,o0_2,o0_3,o0_4,o0_5,o0_6,o0_7,o0_8,o0_9) K=>fun t16_y=>K (Ex.norm) { env:=[(16,.bool t16_y)],stk:=[[]],H:=[],blk:=1273856 }
def Jd {β:Type}:Qm→(zj4→Option β)→Option β:=fun (o0_0,o0_1,o0_2,o0_3,o0_4,o0_5,o0_6,o0_7,o0_8,o0_9) exit=>(bif !(o0_4 == (0:Int)&&(o0_5 == (0:Int)&&true)&&(o0_6 == []&&true)) then (exit (true)) else (exit (!(o0_7 == (0:Int)&&(o0_8 == (0:Int)&&true)&&(o0_9 == []&&true)))))
def Wl (i:Qm):Option zj4:=Jd i some
theorem zub (i:Qm) (k:zj4→Ans):Jd i k=za (Wl i) k:=by
  obtain ⟨o0_0,o0_1,o0_2,o0_3,o0_4,o0_5,o0_6,o0_7,o0_8,o0_9⟩:=i
  simp only [Wl,Jd,zj,zg,zl,zc,zi,zm,zh]
theorem zyc (i:Qm) (K:Ex→St→Ans):zA Tryz.tab zeP zf (zD Tryz.tab zeP zf 0 64) 70 29 zrq zkP (zH 0 (exk [16] [2] []) K) (ztt i)=Jd i (ziy i K):=by kernel_rfl
theorem zEe:zy Tryz.prog 29 zkP (zG zgW Wl ziy):=zB mixed tabOk znl 0 (exk [16] [2] []) zxP zAr zyc zub
noncomputable def zGL:(Ex→St→Ans)→St→Ans:=(zG zgW Wl ziy)
theorem zJr:zy Tryz.prog 29 zkP zGL:=zEe
noncomputable def zkN:Code:=zL [1,1,0] zJM
noncomputable def zov:Ann:=(.block (.seq .none (.cond .none (.seq .none (.cond .none (.seq (.cut 0 [1,3] zGL) .none))))))
theorem zyd:zr Tryz.prog 29 zkN zov:=⟨(zb _ _ _),⟨(zb _ _ _),⟨(zb _ _ _),⟨(zb _ _ _),⟨zJr,(zb _ _ _)⟩⟩⟩⟩⟩
abbrev QO:=(Int)×(Int)×(Int)×(List UInt8)×(Int)×(Int)×(List UInt8)×(Int)×(Int)×(List UInt8)
abbrev zjH:=((Int)) ⊕ (Unit)
def zs5:QO→St:=fun (o0_0,o0_1,o0_2,o0_3,o0_4,o0_5,o0_6,o0_7,o0_8,o0_9)=>{ env:=[(1,.ptr 0 0),(3,.ptr 1 0)],stk:=[[]],H:=[.cells [.int .i64 o0_0,.int .i64 o0_1,.int .i64 o0_2,.str o0_3,.int .i64 o0_4,.int .i64 o0_5,.str o0_6,.int .i64 o0_7,.int .i64 o0_8,.str o0_9],.cells [.int .i64 (0),.int .i64 (0),.str ([])]],blk:=1273856 }
def zqk (s:St):Option {x:QO // s=zs5 x}:=match s with
  | { env:=[(1,.ptr 0 0),(3,.ptr 1 0)],stk:=[[]],H:=[.cells [.int .i64 o0_0,.int .i64 o0_1,.int .i64 o0_2,.str o0_3,.int .i64 o0_4,.int .i64 o0_5,.str o0_6,.int .i64 o0_7,.int .i64 o0_8,.str o0_9],.cells [.int .i64 r10,.int .i64 r11,.str r12]],blk:=1273856 }=>if h10:r10=0 then if h11:r11=0 then if h12:r12=[] then some ⟨(o0_0,o0_1,o0_2,o0_3,o0_4,o0_5,o0_6,o0_7,o0_8,o0_9),by subst h10 h11 h12;rfl⟩ else none else none else none
  | _=>none
def ziH (s:St):Option QO:=pk (zqk s)
theorem zAA (s:St) (x:QO) (h:ziH s=some x):s=zs5 x:=zx (o:=zqk s) h
def zg4:QO→(Ex→St→Ans)→zjH→Ans:=fun (o0_0,o0_1,o0_2,o0_3,o0_4,o0_5,o0_6,o0_7,o0_8,o0_9) K=>(Sum.elim (fun t2_y=>K (Ex.ret) { env:=[(2,.int .i64 t2_y)],stk:=[[]],H:=[],blk:=1273856 }) (fun _=>K (Ex.norm) { env:=[],stk:=[[]],H:=[],blk:=1273856 }))
def JT {β:Type}:QO→(zjH→Option β)→Option β:=fun (o0_0,o0_1,o0_2,o0_3,o0_4,o0_5,o0_6,o0_7,o0_8,o0_9) exit=>(za (zaL (o0_1,o0_2)) fun r=>(bif !r then (exit (Sum.inl ((3:Int)))) else (bif (↑(List.length o0_3):Int) != (128:Int) then (exit (Sum.inl ((12:Int)))) else (za (Wl (o0_0,o0_1,o0_2,o0_3,o0_4,o0_5,o0_6,o0_7,o0_8,o0_9)) fun t16=>(bif t16 then (exit (Sum.inl ((4:Int)))) else (exit (Sum.inr ())))))))
def Wp (i:QO):Option zjH:=JT i some
theorem ztw (i:QO) (k:zjH→Ans):JT i k=za (Wp i) k:=by
  obtain ⟨o0_0,o0_1,o0_2,o0_3,o0_4,o0_5,o0_6,o0_7,o0_8,o0_9⟩:=i
  simp only [Wp,JT,zj,zg,zl,zc,zi,zm,zh]
theorem zxi (i:QO) (K:Ex→St→Ans):zA Tryz.tab zeP zf (zD Tryz.tab zeP zf 0 64) 70 29 zov zkN (zH 0 (exk [] [2] []) K) (zs5 i)=JT i (zg4 i K):=by kernel_rfl
theorem zDK:zy Tryz.prog 29 zkN (zG ziH Wp zg4):=zB mixed tabOk znl 0 (exk [] [2] []) zyd zAA zxi ztw
noncomputable def zEC:(Ex→St→Ans)→St→Ans:=(zG ziH Wp zg4)
theorem zHM:zy Tryz.prog 29 zkN zEC:=zDK
noncomputable def zOk:Ann:=(.seq .none (.seq .none (.seq (.cut 0 [1,3] zEC) .none)))
theorem zKU:zr Tryz.prog 29 zJM zOk:=⟨(zb _ _ _),⟨(zb _ _ _),⟨zHM,(zb _ _ _)⟩⟩⟩
abbrev zb8:=(Int)×(Int)×(Int)×(List UInt8)×(Int)×(Int)×(List UInt8)×(Int)×(Int)×(List UInt8)
abbrev zBG:=(Int)
def zpk {β:Type}:zb8→(zBG→Option β)→Option β:=fun (a0_0,a0_1,a0_2,a0_3,a0_4,a0_5,a0_6,a0_7,a0_8,a0_9) exit=>(za (Wp (a0_0,a0_1,a0_2,a0_3,a0_4,a0_5,a0_6,a0_7,a0_8,a0_9)) (Sum.elim (fun t2=>(exit (t2))) (fun _=>(exit ((0:Int))))))
def zgZ (a:zb8):Option zBG:=zpk a some
theorem zMZ (a:zb8) (k:zBG→Ans):zpk a k=za (zgZ a) k:=by
  obtain ⟨a0_0,a0_1,a0_2,a0_3,a0_4,a0_5,a0_6,a0_7,a0_8,a0_9⟩:=a
  simp only [zgZ,zpk,zj,zg,zl,zc,zi,zm,zh]
def zvq:zb8→List AV:=fun (a0_0,a0_1,a0_2,a0_3,a0_4,a0_5,a0_6,a0_7,a0_8,a0_9)=>[.agg [.int .i64 a0_0,.int .i64 a0_1,.int .i64 a0_2,.str a0_3,.int .i64 a0_4,.int .i64 a0_5,.str a0_6,.int .i64 a0_7,.int .i64 a0_8,.str a0_9]]
def zAb (l:List AV):Option {a:zb8 // l=zvq a}:=match l with
  | [.agg [.int .i64 a0_0,.int .i64 a0_1,.int .i64 a0_2,.str a0_3,.int .i64 a0_4,.int .i64 a0_5,.str a0_6,.int .i64 a0_7,.int .i64 a0_8,.str a0_9]]=>some ⟨(a0_0,a0_1,a0_2,a0_3,a0_4,a0_5,a0_6,a0_7,a0_8,a0_9),rfl⟩
  | _=>none
def zFC (l:List AV):Option zb8:=pk (zAb l)
theorem zKK (l:List AV) (a:zb8) (h:zFC l=some a):l=zvq a:=zx (o:=zAb l) h
def zsS:zb8→zBG→AV:=fun (a0_0,a0_1,a0_2,a0_3,a0_4,a0_5,a0_6,a0_7,a0_8,a0_9)=>fun r_y => .int .i64 r_y
theorem zJQ : ∀(a:zb8) (y:zBG),(zsS a y).closed1=true:=by
  rintro ⟨a0_0,a0_1,a0_2,a0_3,a0_4,a0_5,a0_6,a0_7,a0_8,a0_9⟩ y <;> first | rfl | exact Empty.elim y
theorem zRw (a:zb8):fnE Tryz.tab zeP zf 0 70 311 Tryz.f311.ntmps Tryz.f311.results.toList zOk zJM (zvq a) [] (fun v _=>some (v,[]))=zpk a (fun y=>some (zsS a y,[])):=by kernel_rfl
def zVv (a:zb8) (K:AV→Ans):Ans:=za (zgZ a) fun y=>K (zsS a y)
def zQN:List AV→(AV→Ans)→Ans:=fun l K=>za (zFC l) fun a=>zVv a K
theorem zFp:zV Tryz.prog 311 zQN:=zX (hint:=zf) (d:=0) (n:=70) mixed tabOk znl Tryz.func311 (zI (by kernel_rfl)) (by decide +kernel) zKU zKK zRw zMZ zJQ
--@ vector_Covers
noncomputable def zpQ:Env:=[]
theorem zzL:zd Tryz.prog zpQ:=zd.nil
noncomputable def zRR:Code:=Tryz.f263.body.getD .skip
noncomputable def zkI:Code:=zL [1,0] zRR
noncomputable def zpT:Ann := .none
theorem zwa:zr Tryz.prog 17 zkI zpT:=(zb _ _ _)
abbrev QL:=(Int)×(Int)×(Int)×(Int)
abbrev zjV:=(Bool)
def zuY:QL→St:=fun (o0_0,o0_1,o1_0,o1_1)=>{ env:=[(2,.ptr 0 0),(3,.ptr 1 0)],stk:=[[]],H:=[.cells [.int .i64 o0_0,.int .i64 o0_1],.cells [.int .i64 o1_0,.int .i64 o1_1]],blk:=1077248 }
def zoc (s:St):Option {x:QL // s=zuY x}:=match s with
  | { env:=[(2,.ptr 0 0),(3,.ptr 1 0)],stk:=[[]],H:=[.cells [.int .i64 o0_0,.int .i64 o0_1],.cells [.int .i64 o1_0,.int .i64 o1_1]],blk:=1077248 }=>some ⟨(o0_0,o0_1,o1_0,o1_1),rfl⟩
  | _=>none
def zjc (s:St):Option QL:=pk (zoc s)
theorem zCj (s:St) (x:QL) (h:zjc s=some x):s=zuY x:=zx (o:=zoc s) h
def zg0:QL→(Ex→St→Ans)→zjV→Ans:=fun (o0_0,o0_1,o1_0,o1_1) K=>fun t4_y=>K (Ex.norm) { env:=[(4,.bool t4_y)],stk:=[[]],H:=[],blk:=1077248 }
def Jj {β:Type}:QL→(zjV→Option β)→Option β:=fun (o0_0,o0_1,o1_0,o1_1) exit=>(bif decide (o0_0≥o1_0) then (exit (decide (o0_1≥o1_1))) else (exit (false)))
def WG (i:QL):Option zjV:=Jj i some
theorem ztc (i:QL) (k:zjV→Ans):Jj i k=za (WG i) k:=by
  obtain ⟨o0_0,o0_1,o1_0,o1_1⟩:=i
  simp only [WG,Jj,zj,zg,zl,zc,zi,zm,zh]
theorem zx6 (i:QL) (K:Ex→St→Ans):zA Tryz.tab zpQ zf (zD Tryz.tab zpQ zf 0 64) 70 17 zpT zkI (zH 0 (exk [4] [4] []) K) (zuY i)=Jj i (zg0 i K):=by kernel_rfl
theorem zEs:zy Tryz.prog 17 zkI (zG zjc WG zg0):=zB mixed tabOk zzL 0 (exk [4] [4] []) zwa zCj zx6 ztc
noncomputable def zEV:(Ex→St→Ans)→St→Ans:=(zG zjc WG zg0)
theorem zKc:zy Tryz.prog 17 zkI zEV:=zEs
noncomputable def zOK:Ann:=(.seq .none (.seq (.cut 0 [2,3] zEV) .none))
theorem zNJ:zr Tryz.prog 17 zRR zOK:=⟨(zb _ _ _),⟨zKc,(zb _ _ _)⟩⟩
abbrev zcE:=(Int)×(Int)×(Int)×(Int)
abbrev zBk:=(Bool)
def zpp {β:Type}:zcE→(zBk→Option β)→Option β:=fun (a0_0,a0_1,a1_0,a1_1) exit=>(za (WG (a0_0,a0_1,a1_0,a1_1)) fun t4=>(exit (t4)))
def zcI (a:zcE):Option zBk:=zpp a some
theorem zMl (a:zcE) (k:zBk→Ans):zpp a k=za (zcI a) k:=by
  obtain ⟨a0_0,a0_1,a1_0,a1_1⟩:=a
  simp only [zcI,zpp,zj,zg,zl,zc,zi,zm,zh]
def ztR:zcE→List AV:=fun (a0_0,a0_1,a1_0,a1_1)=>[.agg [.int .i64 a0_0,.int .i64 a0_1],.agg [.int .i64 a1_0,.int .i64 a1_1]]
def zCf (l:List AV):Option {a:zcE // l=ztR a}:=match l with
  | [.agg [.int .i64 a0_0,.int .i64 a0_1],.agg [.int .i64 a1_0,.int .i64 a1_1]]=>some ⟨(a0_0,a0_1,a1_0,a1_1),rfl⟩
  | _=>none
def zGd (l:List AV):Option zcE:=pk (zCf l)
theorem zIe (l:List AV) (a:zcE) (h:zGd l=some a):l=ztR a:=zx (o:=zCf l) h
def zuP:zcE→zBk→AV:=fun (a0_0,a0_1,a1_0,a1_1)=>fun r_y => .bool r_y
theorem zG5 : ∀(a:zcE) (y:zBk),(zuP a y).closed1=true:=by
  rintro ⟨a0_0,a0_1,a1_0,a1_1⟩ y <;> first | rfl | exact Empty.elim y
theorem zQw (a:zcE):fnE Tryz.tab zpQ zf 0 70 263 Tryz.f263.ntmps Tryz.f263.results.toList zOK zRR (ztR a) [] (fun v _=>some (v,[]))=zpp a (fun y=>some (zuP a y,[])):=by kernel_rfl
def zV1 (a:zcE) (K:AV→Ans):Ans:=za (zcI a) fun y=>K (zuP a y)
def zRA:List AV→(AV→Ans)→Ans:=fun l K=>za (zGd l) fun a=>zV1 a K
theorem zEJ:zV Tryz.prog 263 zRA:=zX (hint:=zf) (d:=0) (n:=70) mixed tabOk zzL Tryz.func263 (zI (by kernel_rfl)) (by decide +kernel) zNJ zIe zQw zMl zG5
--@ vector_Compare
noncomputable def zek:Env:=[(263,.pure zRA)]
theorem zmu:zd Tryz.prog zek:=zd.cons zEJ (zd.nil)
noncomputable def zHv:Code:=Tryz.f251.body.getD .skip
noncomputable def zkx:Code:=zL [1,1,0,0,0] zHv
noncomputable def zpE:Ann := .none
theorem zxG:zr Tryz.prog 22 zkx zpE:=(zb _ _ _)
abbrev q7:=(Bool)×(Bool)
abbrev zjI:=(Bool)
def zsU:q7→St:=fun (t5,t6)=>{ env:=[(5,.bool t5),(6,.bool t6)],stk:=[[]],H:=[],blk:=1028096 }
def zqE (s:St):Option {x:q7 // s=zsU x}:=match s with
  | { env:=[(5,.bool t5),(6,.bool t6)],stk:=[[]],H:=[],blk:=1028096 }=>some ⟨(t5,t6),rfl⟩
  | _=>none
def zhs (s:St):Option q7:=pk (zqE s)
theorem zCX (s:St) (x:q7) (h:zhs s=some x):s=zsU x:=zx (o:=zqE s) h
def zi6:q7→(Ex→St→Ans)→zjI→Ans:=fun (t5,t6) K=>fun t13_y=>K (Ex.norm) { env:=[(5,.bool t5),(6,.bool t6),(13,.bool t13_y)],stk:=[[]],H:=[],blk:=1028096 }
def JD {β:Type}:q7→(zjI→Option β)→Option β:=fun (t5,t6) exit=>(bif t5 then (exit (t6)) else (exit (false)))
def Wq (i:q7):Option zjI:=JD i some
theorem ztL (i:q7) (k:zjI→Ans):JD i k=za (Wq i) k:=by
  obtain ⟨t5,t6⟩:=i
  simp only [Wq,JD,zj,zg,zl,zc,zi,zm,zh]
theorem zwo (i:q7) (K:Ex→St→Ans):zA Tryz.tab zek zf (zD Tryz.tab zek zf 0 64) 70 22 zpE zkx (zH 0 (exk [5,6,13] [4] []) K) (zsU i)=JD i (zi6 i K):=by kernel_rfl
theorem zDE:zy Tryz.prog 22 zkx (zG zhs Wq zi6):=zB mixed tabOk zmu 0 (exk [5,6,13] [4] []) zxG zCX zwo ztL
noncomputable def zFh:(Ex→St→Ans)→St→Ans:=(zG zhs Wq zi6)
theorem zHt:zy Tryz.prog 22 zkx zFh:=zDE
noncomputable def zkQ:Code:=zL [1,1,0] zHv
noncomputable def zox:Ann:=(.block (.seq (.cut 0 [5,6] zFh) .none))
theorem zxl:zr Tryz.prog 22 zkQ zox:=⟨zHt,(zb _ _ _)⟩
abbrev qK:=(Bool)×(Bool)
abbrev zjY:=((Int)) ⊕ (Unit)
def ztM:qK→St:=fun (t5,t6)=>{ env:=[(5,.bool t5),(6,.bool t6)],stk:=[[]],H:=[],blk:=1028096 }
def zrQ (s:St):Option {x:qK // s=ztM x}:=match s with
  | { env:=[(5,.bool t5),(6,.bool t6)],stk:=[[]],H:=[],blk:=1028096 }=>some ⟨(t5,t6),rfl⟩
  | _=>none
def zhL (s:St):Option qK:=pk (zrQ s)
theorem zBu (s:St) (x:qK) (h:zhL s=some x):s=ztM x:=zx (o:=zrQ s) h
def zhQ:qK→(Ex→St→Ans)→zjY→Ans:=fun (t5,t6) K=>(Sum.elim (fun t4_y=>K (Ex.ret) { env:=[(4,.int .i64 t4_y)],stk:=[[]],H:=[],blk:=1028096 }) (fun _=>K (Ex.norm) { env:=[],stk:=[[]],H:=[],blk:=1028096 }))
def Ji {β:Type}:qK→(zjY→Option β)→Option β:=fun (t5,t6) exit=>(za (Wq (t5,t6)) fun t13=>(bif t13 then (exit (Sum.inl ((0:Int)))) else (bif t5 then (exit (Sum.inl ((1:Int)))) else (bif t6 then (exit (Sum.inl ((2:Int)))) else (exit (Sum.inr ()))))))
def Wy (i:qK):Option zjY:=Ji i some
theorem zsv (i:qK) (k:zjY→Ans):Ji i k=za (Wy i) k:=by
  obtain ⟨t5,t6⟩:=i
  simp only [Wy,Ji,zj,zg,zl,zc,zi,zm,zh]
theorem zxn (i:qK) (K:Ex→St→Ans):zA Tryz.tab zek zf (zD Tryz.tab zek zf 0 64) 70 22 zox zkQ (zH 0 (exk [] [4] []) K) (ztM i)=Ji i (zhQ i K):=by kernel_rfl
theorem zDb:zy Tryz.prog 22 zkQ (zG zhL Wy zhQ):=zB mixed tabOk zmu 0 (exk [] [4] []) zxl zBu zxn zsv
noncomputable def zEx:(Ex→St→Ans)→St→Ans:=(zG zhL Wy zhQ)
theorem zHu:zy Tryz.prog 22 zkQ zEx:=zDb
noncomputable def zN4:Ann:=(.seq .none (.seq .none (.seq (.cut 0 [5,6] zEx) .none)))
theorem zLj:zr Tryz.prog 22 zHv zN4:=⟨(zb _ _ _),⟨(zb _ _ _),⟨zHu,(zb _ _ _)⟩⟩⟩
abbrev zcM:=(Int)×(Int)×(Int)×(Int)
abbrev zAo:=(Int)
def zor {β:Type}:zcM→(zAo→Option β)→Option β:=fun (a0_0,a0_1,a1_0,a1_1) exit=>(za (zcI (a0_0,a0_1,a1_0,a1_1)) fun r=>(za (zcI (a1_0,a1_1,a0_0,a0_1)) fun r_2=>(za (Wy (r,r_2)) (Sum.elim (fun t4=>(exit (t4))) (fun _=>(exit ((3:Int))))))))
def ze3 (a:zcM):Option zAo:=zor a some
theorem zLP (a:zcM) (k:zAo→Ans):zor a k=za (ze3 a) k:=by
  obtain ⟨a0_0,a0_1,a1_0,a1_1⟩:=a
  simp only [ze3,zor,zj,zg,zl,zc,zi,zm,zh]
def zs8:zcM→List AV:=fun (a0_0,a0_1,a1_0,a1_1)=>[.agg [.int .i64 a0_0,.int .i64 a0_1],.agg [.int .i64 a1_0,.int .i64 a1_1]]
def zzp (l:List AV):Option {a:zcM // l=zs8 a}:=match l with
  | [.agg [.int .i64 a0_0,.int .i64 a0_1],.agg [.int .i64 a1_0,.int .i64 a1_1]]=>some ⟨(a0_0,a0_1,a1_0,a1_1),rfl⟩
  | _=>none
def zFi (l:List AV):Option zcM:=pk (zzp l)
theorem zIB (l:List AV) (a:zcM) (h:zFi l=some a):l=zs8 a:=zx (o:=zzp l) h
def zu2:zcM→zAo→AV:=fun (a0_0,a0_1,a1_0,a1_1)=>fun r_y => .int .i64 r_y
theorem zG6 : ∀(a:zcM) (y:zAo),(zu2 a y).closed1=true:=by
  rintro ⟨a0_0,a0_1,a1_0,a1_1⟩ y <;> first | rfl | exact Empty.elim y
theorem zQo (a:zcM):fnE Tryz.tab zek zf 0 70 251 Tryz.f251.ntmps Tryz.f251.results.toList zN4 zHv (zs8 a) [] (fun v _=>some (v,[]))=zor a (fun y=>some (zu2 a y,[])):=by kernel_rfl
def zVY (a:zcM) (K:AV→Ans):Ans:=za (ze3 a) fun y=>K (zu2 a y)
def zP8:List AV→(AV→Ans)→Ans:=fun l K=>za (zFi l) fun a=>zVY a K
theorem zFz:zV Tryz.prog 251 zP8:=zX (hint:=zf) (d:=0) (n:=70) mixed tabOk zmu Tryz.func251 (zI (by kernel_rfl)) (by decide +kernel) zLj zIB zQo zLP zG6
--@ slot_Check
noncomputable def Wi:Env:=[(224,.pure zKD),(251,.pure zP8)]
theorem JW:zd Tryz.prog Wi:=zd.cons ztN (zd.cons zFz (zd.nil))
noncomputable def zmC:Code:=Tryz.f233.body.getD .skip
noncomputable def zlf:Code:=zL [1,0,0,1,1,1,1,0,1] zmC
noncomputable def zos:Ann := .none
theorem zxq:zr Tryz.prog 51 zlf zos:=(zb _ _ _)
abbrev Qi:=(Bool)×(Int)×(Int)×(Int)×(List UInt8)×(Int)×(Int)×(List UInt8)
abbrev zlI:=(Bool)
def zse:Qi→St:=fun (t33,o0_0,o0_1,o0_2,o0_3,o0_4,o0_5,o0_6)=>{ env:=[(1,.ptr 0 0),(33,.bool t33)],stk:=[[]],H:=[.cells [.int .i64 o0_0,.int .i64 o0_1,.int .i64 o0_2,.str o0_3,.int .i64 o0_4,.int .i64 o0_5,.str o0_6]],blk:=954368 }
def zrP (s:St):Option {x:Qi // s=zse x}:=match s with
  | { env:=[(1,.ptr 0 0),(33,.bool t33)],stk:=[[]],H:=[.cells [.int .i64 o0_0,.int .i64 o0_1,.int .i64 o0_2,.str o0_3,.int .i64 o0_4,.int .i64 o0_5,.str o0_6]],blk:=954368 }=>some ⟨(t33,o0_0,o0_1,o0_2,o0_3,o0_4,o0_5,o0_6),rfl⟩
  | _=>none
def zhh (s:St):Option Qi:=pk (zrP s)
theorem zze (s:St) (x:Qi) (h:zhh s=some x):s=zse x:=zx (o:=zrP s) h
def zgQ:Qi→(Ex→St→Ans)→zlI→Ans:=fun (t33,o0_0,o0_1,o0_2,o0_3,o0_4,o0_5,o0_6) K=>fun t33_y=>K (Ex.norm) { env:=[(33,.bool t33_y)],stk:=[[]],H:=[],blk:=954368 }
def Jc {β:Type}:Qi→(zlI→Option β)→Option β:=fun (t33,o0_0,o0_1,o0_2,o0_3,o0_4,o0_5,o0_6) exit=>(bif t33 then (exit (t33)) else (exit (decide (o0_1<o0_4))))
def WL (i:Qi):Option zlI:=Jc i some
theorem zu5 (i:Qi) (k:zlI→Ans):Jc i k=za (WL i) k:=by
  obtain ⟨t33,o0_0,o0_1,o0_2,o0_3,o0_4,o0_5,o0_6⟩:=i
  simp only [WL,Jc,zj,zg,zl,zc,zi,zm,zh]
theorem zxp (i:Qi) (K:Ex→St→Ans):zA Tryz.tab Wi zf (zD Tryz.tab Wi zf 0 64) 70 51 zos zlf (zH 0 (exk [33] [2] []) K) (zse i)=Jc i (zgQ i K):=by kernel_rfl
theorem zDA:zy Tryz.prog 51 zlf (zG zhh WL zgQ):=zB mixed tabOk JW 0 (exk [33] [2] []) zxq zze zxp zu5
noncomputable def zE4:(Ex→St→Ans)→St→Ans:=(zG zhh WL zgQ)
theorem zHm:zy Tryz.prog 51 zlf zE4:=zDA
noncomputable def zjP:Code:=zL [1,0,0,1,1,0,1] zmC
noncomputable def zqQ:Ann := .none
theorem zxO:zr Tryz.prog 51 zjP zqQ:=(zb _ _ _)
abbrev Qu:=(Bool)×(Int)×(Int)×(Int)×(List UInt8)×(Int)×(Int)×(List UInt8)
abbrev zjS:=(Bool)
def ztB:Qu→St:=fun (t22,o0_0,o0_1,o0_2,o0_3,o0_4,o0_5,o0_6)=>{ env:=[(1,.ptr 0 0),(22,.bool t22)],stk:=[[]],H:=[.cells [.int .i64 o0_0,.int .i64 o0_1,.int .i64 o0_2,.str o0_3,.int .i64 o0_4,.int .i64 o0_5,.str o0_6]],blk:=954368 }
def zoj (s:St):Option {x:Qu // s=ztB x}:=match s with
  | { env:=[(1,.ptr 0 0),(22,.bool t22)],stk:=[[]],H:=[.cells [.int .i64 o0_0,.int .i64 o0_1,.int .i64 o0_2,.str o0_3,.int .i64 o0_4,.int .i64 o0_5,.str o0_6]],blk:=954368 }=>some ⟨(t22,o0_0,o0_1,o0_2,o0_3,o0_4,o0_5,o0_6),rfl⟩
  | _=>none
def zhq (s:St):Option Qu:=pk (zoj s)
theorem zzl (s:St) (x:Qu) (h:zhq s=some x):s=ztB x:=zx (o:=zoj s) h
def zjy:Qu→(Ex→St→Ans)→zjS→Ans:=fun (t22,o0_0,o0_1,o0_2,o0_3,o0_4,o0_5,o0_6) K=>fun t22_y=>K (Ex.norm) { env:=[(1,.ptr 0 0),(22,.bool t22_y)],stk:=[[]],H:=[.cells [.int .i64 o0_0,.int .i64 o0_1,.int .i64 o0_2,.str o0_3,.int .i64 o0_4,.int .i64 o0_5,.str o0_6]],blk:=954368 }
def jP {β:Type}:Qu→(zjS→Option β)→Option β:=fun (t22,o0_0,o0_1,o0_2,o0_3,o0_4,o0_5,o0_6) exit=>(bif t22 then (exit (t22)) else (exit ((↑(List.length o0_6):Int) != (128:Int))))
def WN (i:Qu):Option zjS:=jP i some
theorem zr7 (i:Qu) (k:zjS→Ans):jP i k=za (WN i) k:=by
  obtain ⟨t22,o0_0,o0_1,o0_2,o0_3,o0_4,o0_5,o0_6⟩:=i
  simp only [WN,jP,zj,zg,zl,zc,zi,zm,zh]
theorem zwQ (i:Qu) (K:Ex→St→Ans):zA Tryz.tab Wi zf (zD Tryz.tab Wi zf 0 64) 70 51 zqQ zjP (zH 0 (exk [1,22] [2] []) K) (ztB i)=jP i (zjy i K):=by kernel_rfl
theorem zD5:zy Tryz.prog 51 zjP (zG zhq WN zjy):=zB mixed tabOk JW 0 (exk [1,22] [2] []) zxO zzl zwQ zr7
noncomputable def zE9:(Ex→St→Ans)→St→Ans:=(zG zhq WN zjy)
theorem zJ6:zy Tryz.prog 51 zjP zE9:=zD5
noncomputable def zj0:Code:=zL [1,0,0,0,1] zmC
noncomputable def zoP:Ann := .none
theorem zxz:zr Tryz.prog 51 zj0 zoP:=(zb _ _ _)
abbrev q8:=(Bool)×(Int)×(Int)×(Int)×(List UInt8)×(Int)×(Int)×(List UInt8)
abbrev zjQ:=(Bool)
def zud:q8→St:=fun (t3,o0_0,o0_1,o0_2,o0_3,o0_4,o0_5,o0_6)=>{ env:=[(1,.ptr 0 0),(3,.bool t3)],stk:=[[]],H:=[.cells [.int .i64 o0_0,.int .i64 o0_1,.int .i64 o0_2,.str o0_3,.int .i64 o0_4,.int .i64 o0_5,.str o0_6]],blk:=954368 }
def zoh (s:St):Option {x:q8 // s=zud x}:=match s with
  | { env:=[(1,.ptr 0 0),(3,.bool t3)],stk:=[[]],H:=[.cells [.int .i64 o0_0,.int .i64 o0_1,.int .i64 o0_2,.str o0_3,.int .i64 o0_4,.int .i64 o0_5,.str o0_6]],blk:=954368 }=>some ⟨(t3,o0_0,o0_1,o0_2,o0_3,o0_4,o0_5,o0_6),rfl⟩
  | _=>none
def zhK (s:St):Option q8:=pk (zoh s)
theorem zCz (s:St) (x:q8) (h:zhK s=some x):s=zud x:=zx (o:=zoh s) h
def zhr:q8→(Ex→St→Ans)→zjQ→Ans:=fun (t3,o0_0,o0_1,o0_2,o0_3,o0_4,o0_5,o0_6) K=>fun t3_y=>K (Ex.norm) { env:=[(1,.ptr 0 0),(3,.bool t3_y)],stk:=[[]],H:=[.cells [.int .i64 o0_0,.int .i64 o0_1,.int .i64 o0_2,.str o0_3,.int .i64 o0_4,.int .i64 o0_5,.str o0_6]],blk:=954368 }
def JH {β:Type}:q8→(zjQ→Option β)→Option β:=fun (t3,o0_0,o0_1,o0_2,o0_3,o0_4,o0_5,o0_6) exit=>(bif t3 then (exit (t3)) else (za (zaL (o0_1,o0_2)) fun r=>(bif !r then (exit (!r)) else (za (zaL (o0_4,o0_5)) fun r_2=>(exit (!r_2))))))
def Ww (i:q8):Option zjQ:=JH i some
theorem zuO (i:q8) (k:zjQ→Ans):JH i k=za (Ww i) k:=by
  obtain ⟨t3,o0_0,o0_1,o0_2,o0_3,o0_4,o0_5,o0_6⟩:=i
  simp only [Ww,JH,zj,zg,zl,zc,zi,zm,zh]
theorem zxk (i:q8) (K:Ex→St→Ans):zA Tryz.tab Wi zf (zD Tryz.tab Wi zf 0 64) 70 51 zoP zj0 (zH 0 (exk [1,3] [2] []) K) (zud i)=JH i (zhr i K):=by kernel_rfl
theorem zDP:zy Tryz.prog 51 zj0 (zG zhK Ww zhr):=zB mixed tabOk JW 0 (exk [1,3] [2] []) zxz zCz zxk zuO
noncomputable def zFu:(Ex→St→Ans)→St→Ans:=(zG zhK Ww zhr)
theorem zKI:zy Tryz.prog 51 zj0 zFu:=zDP
noncomputable def zkG:Code:=zL [1,0,0,0,0] zmC
noncomputable def zoS:Ann := .none
theorem zxJ:zr Tryz.prog 51 zkG zoS:=(zb _ _ _)
abbrev Ql:=(Int)×(Int)×(Int)×(List UInt8)×(Int)×(Int)×(List UInt8)
abbrev zkd:=(Bool)
def zt4:Ql→St:=fun (o0_0,o0_1,o0_2,o0_3,o0_4,o0_5,o0_6)=>{ env:=[(1,.ptr 0 0)],stk:=[[]],H:=[.cells [.int .i64 o0_0,.int .i64 o0_1,.int .i64 o0_2,.str o0_3,.int .i64 o0_4,.int .i64 o0_5,.str o0_6]],blk:=954368 }
def zoD (s:St):Option {x:Ql // s=zt4 x}:=match s with
  | { env:=[(1,.ptr 0 0)],stk:=[[]],H:=[.cells [.int .i64 o0_0,.int .i64 o0_1,.int .i64 o0_2,.str o0_3,.int .i64 o0_4,.int .i64 o0_5,.str o0_6]],blk:=954368 }=>some ⟨(o0_0,o0_1,o0_2,o0_3,o0_4,o0_5,o0_6),rfl⟩
  | _=>none
def zhc (s:St):Option Ql:=pk (zoD s)
theorem zz5 (s:St) (x:Ql) (h:zhc s=some x):s=zt4 x:=zx (o:=zoD s) h
def zji:Ql→(Ex→St→Ans)→zkd→Ans:=fun (o0_0,o0_1,o0_2,o0_3,o0_4,o0_5,o0_6) K=>fun t3_y=>K (Ex.norm) { env:=[(1,.ptr 0 0),(3,.bool t3_y)],stk:=[[]],H:=[.cells [.int .i64 o0_0,.int .i64 o0_1,.int .i64 o0_2,.str o0_3,.int .i64 o0_4,.int .i64 o0_5,.str o0_6]],blk:=954368 }
def JS {β:Type}:Ql→(zkd→Option β)→Option β:=fun (o0_0,o0_1,o0_2,o0_3,o0_4,o0_5,o0_6) exit=>(bif decide (o0_0<(0:Int)) then (exit (true)) else (exit (decide (o0_0≥(24:Int)))))
def WD (i:Ql):Option zkd:=JS i some
theorem zvt (i:Ql) (k:zkd→Ans):JS i k=za (WD i) k:=by
  obtain ⟨o0_0,o0_1,o0_2,o0_3,o0_4,o0_5,o0_6⟩:=i
  simp only [WD,JS,zj,zg,zl,zc,zi,zm,zh]
theorem zwM (i:Ql) (K:Ex→St→Ans):zA Tryz.tab Wi zf (zD Tryz.tab Wi zf 0 64) 70 51 zoS zkG (zH 0 (exk [1,3] [2] []) K) (zt4 i)=JS i (zji i K):=by kernel_rfl
theorem zDI:zy Tryz.prog 51 zkG (zG zhc WD zji):=zB mixed tabOk JW 0 (exk [1,3] [2] []) zxJ zz5 zwM zvt
noncomputable def zEP:(Ex→St→Ans)→St→Ans:=(zG zhc WD zji)
theorem zJs:zy Tryz.prog 51 zkG zEP:=zDI
noncomputable def zkc:Code:=zL [1,0] zmC
noncomputable def zoe:Ann:=(.block (.seq (.seq (.cut 0 [1] zEP) (.cut 0 [1,3] zFu)) (.cond .none (.seq (.seq .none (.cut 0 [1,22] zE9)) (.cond .none (.seq (.seq .none (.cut 0 [1,33] zE4)) .none))))))
theorem zxQ:zr Tryz.prog 51 zkc zoe:=⟨⟨zJs,zKI⟩,⟨(zb _ _ _),⟨⟨(zb _ _ _),zJ6⟩,⟨(zb _ _ _),⟨⟨(zb _ _ _),zHm⟩,(zb _ _ _)⟩⟩⟩⟩⟩
abbrev QI:=(Int)×(Int)×(Int)×(List UInt8)×(Int)×(Int)×(List UInt8)
abbrev zk4:=((Int)) ⊕ (Unit)
def zvk:QI→St:=fun (o0_0,o0_1,o0_2,o0_3,o0_4,o0_5,o0_6)=>{ env:=[(1,.ptr 0 0)],stk:=[[]],H:=[.cells [.int .i64 o0_0,.int .i64 o0_1,.int .i64 o0_2,.str o0_3,.int .i64 o0_4,.int .i64 o0_5,.str o0_6]],blk:=954368 }
def zrR (s:St):Option {x:QI // s=zvk x}:=match s with
  | { env:=[(1,.ptr 0 0)],stk:=[[]],H:=[.cells [.int .i64 o0_0,.int .i64 o0_1,.int .i64 o0_2,.str o0_3,.int .i64 o0_4,.int .i64 o0_5,.str o0_6]],blk:=954368 }=>some ⟨(o0_0,o0_1,o0_2,o0_3,o0_4,o0_5,o0_6),rfl⟩
  | _=>none
def zhg (s:St):Option QI:=pk (zrR s)
theorem zCA (s:St) (x:QI) (h:zhg s=some x):s=zvk x:=zx (o:=zrR s) h
def zg3:QI→(Ex→St→Ans)→zk4→Ans:=fun (o0_0,o0_1,o0_2,o0_3,o0_4,o0_5,o0_6) K=>(Sum.elim (fun t2_y=>K (Ex.ret) { env:=[(2,.int .i64 t2_y)],stk:=[[]],H:=[],blk:=954368 }) (fun _=>K (Ex.norm) { env:=[],stk:=[[]],H:=[],blk:=954368 }))
def jK {β:Type}:QI→(zk4→Option β)→Option β:=fun (o0_0,o0_1,o0_2,o0_3,o0_4,o0_5,o0_6) exit=>(za (WD (o0_0,o0_1,o0_2,o0_3,o0_4,o0_5,o0_6)) fun t3=>(za (Ww (t3,o0_0,o0_1,o0_2,o0_3,o0_4,o0_5,o0_6)) fun t3_2=>(bif t3_2 then (exit (Sum.inl ((3:Int)))) else (za (WN ((↑(List.length o0_3):Int) != (128:Int),o0_0,o0_1,o0_2,o0_3,o0_4,o0_5,o0_6)) fun t22=>(bif t22 then (exit (Sum.inl ((12:Int)))) else (za (ze3 (o0_1,o0_2,o0_4,o0_5)) fun r=>(za (WL (r != (3:Int),o0_0,o0_1,o0_2,o0_3,o0_4,o0_5,o0_6)) fun t33=>(bif t33 then (exit (Sum.inl ((10:Int)))) else (exit (Sum.inr ()))))))))))
def WM (i:QI):Option zk4:=jK i some
theorem zsx (i:QI) (k:zk4→Ans):jK i k=za (WM i) k:=by
  obtain ⟨o0_0,o0_1,o0_2,o0_3,o0_4,o0_5,o0_6⟩:=i
  simp only [WM,jK,zj,zg,zl,zc,zi,zm,zh]
theorem zwY (i:QI) (K:Ex→St→Ans):zA Tryz.tab Wi zf (zD Tryz.tab Wi zf 0 64) 70 51 zoe zkc (zH 0 (exk [] [2] []) K) (zvk i)=jK i (zg3 i K):=by kernel_rfl
theorem zEo:zy Tryz.prog 51 zkc (zG zhg WM zg3):=zB mixed tabOk JW 0 (exk [] [2] []) zxQ zCA zwY zsx
noncomputable def zFG:(Ex→St→Ans)→St→Ans:=(zG zhg WM zg3)
theorem zHZ:zy Tryz.prog 51 zkc zFG:=zEo
noncomputable def zL8:Ann:=(.seq .none (.seq (.cut 0 [1] zFG) .none))
theorem zLT:zr Tryz.prog 51 zmC zL8:=⟨(zb _ _ _),⟨zHZ,(zb _ _ _)⟩⟩
abbrev zcK:=(Int)×(Int)×(Int)×(List UInt8)×(Int)×(Int)×(List UInt8)
abbrev zAL:=(Int)
def zoZ {β:Type}:zcK→(zAL→Option β)→Option β:=fun (a0_0,a0_1,a0_2,a0_3,a0_4,a0_5,a0_6) exit=>(za (WM (a0_0,a0_1,a0_2,a0_3,a0_4,a0_5,a0_6)) (Sum.elim (fun t2=>(exit (t2))) (fun _=>(exit ((0:Int))))))
def zer (a:zcK):Option zAL:=zoZ a some
theorem zLG (a:zcK) (k:zAL→Ans):zoZ a k=za (zer a) k:=by
  obtain ⟨a0_0,a0_1,a0_2,a0_3,a0_4,a0_5,a0_6⟩:=a
  simp only [zer,zoZ,zj,zg,zl,zc,zi,zm,zh]
def zr2:zcK→List AV:=fun (a0_0,a0_1,a0_2,a0_3,a0_4,a0_5,a0_6)=>[.agg [.int .i64 a0_0,.int .i64 a0_1,.int .i64 a0_2,.str a0_3,.int .i64 a0_4,.int .i64 a0_5,.str a0_6]]
def zB3 (l:List AV):Option {a:zcK // l=zr2 a}:=match l with
  | [.agg [.int .i64 a0_0,.int .i64 a0_1,.int .i64 a0_2,.str a0_3,.int .i64 a0_4,.int .i64 a0_5,.str a0_6]]=>some ⟨(a0_0,a0_1,a0_2,a0_3,a0_4,a0_5,a0_6),rfl⟩
  | _=>none
def zFL (l:List AV):Option zcK:=pk (zB3 l)
theorem zIJ (l:List AV) (a:zcK) (h:zFL l=some a):l=zr2 a:=zx (o:=zB3 l) h
def zsK:zcK→zAL→AV:=fun (a0_0,a0_1,a0_2,a0_3,a0_4,a0_5,a0_6)=>fun r_y => .int .i64 r_y
theorem zJA : ∀(a:zcK) (y:zAL),(zsK a y).closed1=true:=by
  rintro ⟨a0_0,a0_1,a0_2,a0_3,a0_4,a0_5,a0_6⟩ y <;> first | rfl | exact Empty.elim y
theorem zRd (a:zcK):fnE Tryz.tab Wi zf 0 70 233 Tryz.f233.ntmps Tryz.f233.results.toList zL8 zmC (zr2 a) [] (fun v _=>some (v,[]))=zoZ a (fun y=>some (zsK a y,[])):=by kernel_rfl
def zVQ (a:zcK) (K:AV→Ans):Ans:=za (zer a) fun y=>K (zsK a y)
def zRJ:List AV→(AV→Ans)→Ans:=fun l K=>za (zFL l) fun a=>zVQ a K
theorem zE2:zV Tryz.prog 233 zRJ:=zX (hint:=zf) (d:=0) (n:=70) mixed tabOk JW Tryz.func233 (zI (by kernel_rfl)) (by decide +kernel) zLT zIJ zRd zLG zJA
--@ state_double_check
noncomputable def zq5:Env:=[(233,.pure zRJ)]
theorem zCB:zd Tryz.prog zq5:=zd.cons zE2 (zd.nil)
noncomputable def zRr:Code:=Tryz.f312.body.getD .skip
noncomputable def zj8:Code:=zL [1,1,0,0] zRr
noncomputable def zpP:Ann := .none
theorem zw2:zr Tryz.prog 36 zj8 zpP:=(zb _ _ _)
abbrev Qo:=(Int)×(Int)×(Int)×(List UInt8)×(Int)×(Int)×(List UInt8)×(Int)×(Int)×(List UInt8)
abbrev zko:=(Bool)
def ztj:Qo→St:=fun (o0_0,o0_1,o0_2,o0_3,o0_4,o0_5,o0_6,o0_7,o0_8,o0_9)=>{ env:=[(1,.ptr 0 0)],stk:=[[]],H:=[.cells [.int .i64 o0_0,.int .i64 o0_1,.int .i64 o0_2,.str o0_3,.int .i64 o0_4,.int .i64 o0_5,.str o0_6,.int .i64 o0_7,.int .i64 o0_8,.str o0_9]],blk:=1277952 }
def zq4 (s:St):Option {x:Qo // s=ztj x}:=match s with
  | { env:=[(1,.ptr 0 0)],stk:=[[]],H:=[.cells [.int .i64 o0_0,.int .i64 o0_1,.int .i64 o0_2,.str o0_3,.int .i64 o0_4,.int .i64 o0_5,.str o0_6,.int .i64 o0_7,.int .i64 o0_8,.str o0_9]],blk:=1277952 }=>some ⟨(o0_0,o0_1,o0_2,o0_3,o0_4,o0_5,o0_6,o0_7,o0_8,o0_9),rfl⟩
  | _=>none
def zh1 (s:St):Option Qo:=pk (zq4 s)
theorem zyE (s:St) (x:Qo) (h:zh1 s=some x):s=ztj x:=zx (o:=zq4 s) h
def zhm:Qo→(Ex→St→Ans)→zko→Ans:=fun (o0_0,o0_1,o0_2,o0_3,o0_4,o0_5,o0_6,o0_7,o0_8,o0_9) K=>fun t35_y=>K (Ex.norm) { env:=[(35,.bool t35_y)],stk:=[[]],H:=[],blk:=1277952 }
def Jv {β:Type}:Qo→(zko→Option β)→Option β:=fun (o0_0,o0_1,o0_2,o0_3,o0_4,o0_5,o0_6,o0_7,o0_8,o0_9) exit=>(bif !(o0_1 == o0_4&&(o0_2 == o0_8&&true)) then (exit (true)) else (exit (!o0_3 == [])))
def Wm (i:Qo):Option zko:=Jv i some
theorem zso (i:Qo) (k:zko→Ans):Jv i k=za (Wm i) k:=by
  obtain ⟨o0_0,o0_1,o0_2,o0_3,o0_4,o0_5,o0_6,o0_7,o0_8,o0_9⟩:=i
  simp only [Wm,Jv,zj,zg,zl,zc,zi,zm,zh]
theorem zxc (i:Qo) (K:Ex→St→Ans):zA Tryz.tab zq5 zf (zD Tryz.tab zq5 zf 0 64) 70 36 zpP zj8 (zH 0 (exk [35] [2] []) K) (ztj i)=Jv i (zhm i K):=by kernel_rfl
theorem zEl:zy Tryz.prog 36 zj8 (zG zh1 Wm zhm):=zB mixed tabOk zCB 0 (exk [35] [2] []) zw2 zyE zxc zso
noncomputable def zGh:(Ex→St→Ans)→St→Ans:=(zG zh1 Wm zhm)
theorem zG9:zy Tryz.prog 36 zj8 zGh:=zEl
noncomputable def zLl:Ann:=(.seq .none (.seq .none (.seq (.seq (.cut 0 [1] zGh) .none) .none)))
theorem zOb:zr Tryz.prog 36 zRr zLl:=⟨(zb _ _ _),⟨(zb _ _ _),⟨⟨zG9,(zb _ _ _)⟩,(zb _ _ _)⟩⟩⟩
abbrev zbZ:=(Int)×(Int)×(Int)×(List UInt8)×(Int)×(Int)×(List UInt8)×(Int)×(Int)×(List UInt8)
abbrev zA3:=(Int)
def zqB {β:Type}:zbZ→(zA3→Option β)→Option β:=fun (a0_0,a0_1,a0_2,a0_3,a0_4,a0_5,a0_6,a0_7,a0_8,a0_9) exit=>(za (zer ((0:Int),a0_4,a0_5,a0_6,a0_7,a0_8,a0_9)) fun r=>(bif r != (0:Int) then (exit (r)) else (za (Wm (a0_0,a0_1,a0_2,a0_3,a0_4,a0_5,a0_6,a0_7,a0_8,a0_9)) fun t35=>(bif t35 then (exit ((4:Int))) else (exit ((0:Int)))))))
def zjd (a:zbZ):Option zA3:=zqB a some
theorem zN9 (a:zbZ) (k:zA3→Ans):zqB a k=za (zjd a) k:=by
  obtain ⟨a0_0,a0_1,a0_2,a0_3,a0_4,a0_5,a0_6,a0_7,a0_8,a0_9⟩:=a
  simp only [zjd,zqB,zj,zg,zl,zc,zi,zm,zh]
def zuM:zbZ→List AV:=fun (a0_0,a0_1,a0_2,a0_3,a0_4,a0_5,a0_6,a0_7,a0_8,a0_9)=>[.agg [.int .i64 a0_0,.int .i64 a0_1,.int .i64 a0_2,.str a0_3,.int .i64 a0_4,.int .i64 a0_5,.str a0_6,.int .i64 a0_7,.int .i64 a0_8,.str a0_9]]
def zyB (l:List AV):Option {a:zbZ // l=zuM a}:=match l with
  | [.agg [.int .i64 a0_0,.int .i64 a0_1,.int .i64 a0_2,.str a0_3,.int .i64 a0_4,.int .i64 a0_5,.str a0_6,.int .i64 a0_7,.int .i64 a0_8,.str a0_9]]=>some ⟨(a0_0,a0_1,a0_2,a0_3,a0_4,a0_5,a0_6,a0_7,a0_8,a0_9),rfl⟩
  | _=>none
def zGR (l:List AV):Option zbZ:=pk (zyB l)
theorem zHA (l:List AV) (a:zbZ) (h:zGR l=some a):l=zuM a:=zx (o:=zyB l) h
def zt8:zbZ→zA3→AV:=fun (a0_0,a0_1,a0_2,a0_3,a0_4,a0_5,a0_6,a0_7,a0_8,a0_9)=>fun r_y => .int .i64 r_y
theorem zJ2 : ∀(a:zbZ) (y:zA3),(zt8 a y).closed1=true:=by
  rintro ⟨a0_0,a0_1,a0_2,a0_3,a0_4,a0_5,a0_6,a0_7,a0_8,a0_9⟩ y <;> first | rfl | exact Empty.elim y
theorem zRc (a:zbZ):fnE Tryz.tab zq5 zf 0 70 312 Tryz.f312.ntmps Tryz.f312.results.toList zLl zRr (zuM a) [] (fun v _=>some (v,[]))=zqB a (fun y=>some (zt8 a y,[])):=by kernel_rfl
def zVx (a:zbZ) (K:AV→Ans):Ans:=za (zjd a) fun y=>K (zt8 a y)
def zPl:List AV→(AV→Ans)→Ans:=fun l K=>za (zGR l) fun a=>zVx a K
theorem zF5:zV Tryz.prog 312 zPl:=zX (hint:=zf) (d:=0) (n:=70) mixed tabOk zCB Tryz.func312 (zI (by kernel_rfl)) (by decide +kernel) zOb zHA zRc zN9 zJ2
--@ state_Check
noncomputable def zLL:Env:=[(70,.func zHB),(311,.pure zQN),(312,.pure zPl)]
theorem zPp:zd Tryz.prog zLL:=zd.cons zsR (zd.cons zFp (zd.cons zF5 (zd.nil)))
noncomputable def zU8:Code:=Tryz.f35.body.getD .skip
noncomputable def zLU:Ann := .none
theorem zK3:zr Tryz.prog 10 zU8 zLU:=(zb _ _ _)
abbrev zcS:=(Int)×(Int)×(Int)×(List UInt8)×(Int)×(Int)×(List UInt8)×(Int)×(Int)×(List UInt8)
abbrev zzj:=(Int)
def zoi {β:Type}:zcS→(zzj→Option β)→Option β:=fun (a0_0,a0_1,a0_2,a0_3,a0_4,a0_5,a0_6,a0_7,a0_8,a0_9) exit=>(za (zcq (a0_0,a0_1,a0_2,a0_3,a0_4,a0_5,a0_6,a0_7,a0_8,a0_9)) (Sum.elim (fun _=>(za (zgZ (a0_0,a0_1,a0_2,a0_3,a0_4,a0_5,a0_6,a0_7,a0_8,a0_9)) fun r=>(exit (r)))) ((Sum.elim (fun _=>(za (zjd (a0_0,a0_1,a0_2,a0_3,a0_4,a0_5,a0_6,a0_7,a0_8,a0_9)) fun r=>(exit (r)))) (fun _=>(exit ((7:Int))))))))
def JP (a:zcS):Option zzj:=zoi a some
theorem zOq (a:zcS) (k:zzj→Ans):zoi a k=za (JP a) k:=by
  obtain ⟨a0_0,a0_1,a0_2,a0_3,a0_4,a0_5,a0_6,a0_7,a0_8,a0_9⟩:=a
  simp only [JP,zoi,zj,zg,zl,zc,zi,zm,zh]
def zuy:zcS→List AV:=fun (a0_0,a0_1,a0_2,a0_3,a0_4,a0_5,a0_6,a0_7,a0_8,a0_9)=>[.agg [.int .i64 a0_0,.int .i64 a0_1,.int .i64 a0_2,.str a0_3,.int .i64 a0_4,.int .i64 a0_5,.str a0_6,.int .i64 a0_7,.int .i64 a0_8,.str a0_9]]
def zyR (l:List AV):Option {a:zcS // l=zuy a}:=match l with
  | [.agg [.int .i64 a0_0,.int .i64 a0_1,.int .i64 a0_2,.str a0_3,.int .i64 a0_4,.int .i64 a0_5,.str a0_6,.int .i64 a0_7,.int .i64 a0_8,.str a0_9]]=>some ⟨(a0_0,a0_1,a0_2,a0_3,a0_4,a0_5,a0_6,a0_7,a0_8,a0_9),rfl⟩
  | _=>none
def zFK (l:List AV):Option zcS:=pk (zyR l)
theorem zKj (l:List AV) (a:zcS) (h:zFK l=some a):l=zuy a:=zx (o:=zyR l) h
def zsX:zcS→zzj→AV:=fun (a0_0,a0_1,a0_2,a0_3,a0_4,a0_5,a0_6,a0_7,a0_8,a0_9)=>fun r_y => .int .i64 r_y
theorem zJd : ∀(a:zcS) (y:zzj),(zsX a y).closed1=true:=by
  rintro ⟨a0_0,a0_1,a0_2,a0_3,a0_4,a0_5,a0_6,a0_7,a0_8,a0_9⟩ y <;> first | rfl | exact Empty.elim y
theorem zRZ (a:zcS):fnE Tryz.tab zLL zf 0 70 35 Tryz.f35.ntmps Tryz.f35.results.toList zLU zU8 (zuy a) [] (fun v _=>some (v,[]))=zoi a (fun y=>some (zsX a y,[])):=by kernel_rfl
def zVD (a:zcS) (K:AV→Ans):Ans:=za (JP a) fun y=>K (zsX a y)
def zAp:List AV→(AV→Ans)→Ans:=fun l K=>za (zFK l) fun a=>zVD a K
theorem zka:zV Tryz.prog 35 zAp:=zX (hint:=zf) (d:=0) (n:=70) mixed tabOk zPp Tryz.func35 (zI (by kernel_rfl)) (by decide +kernel) zK3 zKj zRZ zOq zJd
--@ state_Get
noncomputable def ze2:Env:=[(49,.func zvo),(51,.func znZ),(96,.func zIE),(95,.func zPB),(35,.pure zAp)]
theorem zmx:zd Tryz.prog ze2:=zd.cons zeF (zd.cons zbJ (zd.cons ztp (zd.cons zEQ (zd.cons zka (zd.nil)))))
noncomputable def zKd:Code:=Tryz.f54.body.getD .skip
noncomputable def zkE:Code:=zL [1,1,1,1,1,0,1] zKd
noncomputable def zqf:Ann := .none
theorem zwB:zr Tryz.prog 55 zkE zqf:=(zb _ _ _)
abbrev qV:=(Int)×(Bool)×(Int)×(Int)×(Int)×(List UInt8)×(Int)×(Int)×(List UInt8)×(Int)×(Int)×(List UInt8)
abbrev zjX:=(Int)
def zu8:qV→St:=fun (t7,t47,o1_0,o1_1,o1_2,o1_3,o1_4,o1_5,o1_6,o1_7,o1_8,o1_9)=>{ env:=[(2,.ptr 0 0),(5,.ptr 1 0),(7,.int .i64 t7),(47,.bool t47)],stk:=[[]],H:=[.cells [.int .i64 (0),.int .i64 (0),.int .i64 (0),.str ([]),.int .i64 (0),.int .i64 (0),.str ([]),.int .i64 (0),.int .i64 (0),.str ([])],.cells [.int .i64 o1_0,.int .i64 o1_1,.int .i64 o1_2,.str o1_3,.int .i64 o1_4,.int .i64 o1_5,.str o1_6,.int .i64 o1_7,.int .i64 o1_8,.str o1_9]],blk:=221184 }
def zrI (s:St):Option {x:qV // s=zu8 x}:=match s with
  | { env:=[(2,.ptr 0 0),(5,.ptr 1 0),(7,.int .i64 t7),(47,.bool t47)],stk:=[[]],H:=[.cells [.int .i64 r2,.int .i64 r3,.int .i64 r4,.str r5,.int .i64 r6,.int .i64 r7,.str r8,.int .i64 r9,.int .i64 r10,.str r11],.cells [.int .i64 o1_0,.int .i64 o1_1,.int .i64 o1_2,.str o1_3,.int .i64 o1_4,.int .i64 o1_5,.str o1_6,.int .i64 o1_7,.int .i64 o1_8,.str o1_9]],blk:=221184 }=>if h2:r2=0 then if h3:r3=0 then if h4:r4=0 then if h5:r5=[] then if h6:r6=0 then if h7:r7=0 then if h8:r8=[] then if h9:r9=0 then if h10:r10=0 then if h11:r11=[] then some ⟨(t7,t47,o1_0,o1_1,o1_2,o1_3,o1_4,o1_5,o1_6,o1_7,o1_8,o1_9),by subst h2 h3 h4 h5 h6 h7 h8 h9 h10 h11;rfl⟩ else none else none else none else none else none else none else none else none else none else none
  | _=>none
def zh2 (s:St):Option qV:=pk (zrI s)
theorem zAj (s:St) (x:qV) (h:zh2 s=some x):s=zu8 x:=zx (o:=zrI s) h
def zir:qV→(Ex→St→Ans)→zjX→Ans:=fun (t7,t47,o1_0,o1_1,o1_2,o1_3,o1_4,o1_5,o1_6,o1_7,o1_8,o1_9) K=>fun t7_y=>K (Ex.norm) { env:=[(2,.ptr 0 0),(5,.ptr 1 0),(7,.int .i64 t7_y)],stk:=[[]],H:=[.cells [.int .i64 (0),.int .i64 (0),.int .i64 (0),.str ([]),.int .i64 (0),.int .i64 (0),.str ([]),.int .i64 (0),.int .i64 (0),.str ([])],.cells [.int .i64 o1_0,.int .i64 o1_1,.int .i64 o1_2,.str o1_3,.int .i64 o1_4,.int .i64 o1_5,.str o1_6,.int .i64 o1_7,.int .i64 o1_8,.str o1_9]],blk:=221184 }
def j6 {β:Type}:qV→(zjX→Option β)→Option β:=fun (t7,t47,o1_0,o1_1,o1_2,o1_3,o1_4,o1_5,o1_6,o1_7,o1_8,o1_9) exit=>(bif t47 then (za (JP (o1_0,o1_1,o1_2,o1_3,o1_4,o1_5,o1_6,o1_7,o1_8,o1_9)) fun r=>(exit (r))) else (exit (t7)))
def Wk (i:qV):Option zjX:=j6 i some
theorem zte (i:qV) (k:zjX→Ans):j6 i k=za (Wk i) k:=by
  obtain ⟨t7,t47,o1_0,o1_1,o1_2,o1_3,o1_4,o1_5,o1_6,o1_7,o1_8,o1_9⟩:=i
  simp only [Wk,j6,zj,zg,zl,zc,zi,zm,zh]
theorem zxs (i:qV) (K:Ex→St→Ans):zA Tryz.tab ze2 zf (zD Tryz.tab ze2 zf 0 64) 70 55 zqf zkE (zH 0 (exk [2,5,7] [2,3] []) K) (zu8 i)=j6 i (zir i K):=by kernel_rfl
theorem zEf:zy Tryz.prog 55 zkE (zG zh2 Wk zir):=zB mixed tabOk zmx 0 (exk [2,5,7] [2,3] []) zwB zAj zxs zte
noncomputable def zFA:(Ex→St→Ans)→St→Ans:=(zG zh2 Wk zir)
theorem zHc:zy Tryz.prog 55 zkE zFA:=zEf
noncomputable def zk5:Code:=zL [1,1,1,0,1] zKd
noncomputable def zpD:Ann := .none
theorem zw0:zr Tryz.prog 55 zk5 zpD:=(zb _ _ _)
abbrev QA:=(Int)×(List UInt8)×(Int)×(Int)
abbrev zlu:=((List UInt8)×(Int)×(Int)×(Int)×(List UInt8)×(Int)×(Int)×(List UInt8)×(Int)×(Int)×(List UInt8)) ⊕ (Unit)
def zsn:QA→St:=fun (t14,o1_0,o1_1,o2_0)=>{ env:=[(2,.ptr 0 0),(4,.ptr 1 0),(5,.ptr 2 0),(14,.int .i64 t14)],stk:=[[]],H:=[.cells [.int .i64 (0),.int .i64 (0),.int .i64 (0),.str ([]),.int .i64 (0),.int .i64 (0),.str ([]),.int .i64 (0),.int .i64 (0),.str ([])],.cells [.str o1_0,.int .i64 o1_1],.cells [.int .i64 o2_0,.int .i64 (0),.int .i64 (0),.str ([]),.int .i64 (0),.int .i64 (0),.str ([]),.int .i64 (0),.int .i64 (0),.str ([])]],blk:=221184 }
def zp1 (s:St):Option {x:QA // s=zsn x}:=match s with
  | { env:=[(2,.ptr 0 0),(4,.ptr 1 0),(5,.ptr 2 0),(14,.int .i64 t14)],stk:=[[]],H:=[.cells [.int .i64 r1,.int .i64 r2,.int .i64 r3,.str r4,.int .i64 r5,.int .i64 r6,.str r7,.int .i64 r8,.int .i64 r9,.str r10],.cells [.str o1_0,.int .i64 o1_1],.cells [.int .i64 o2_0,.int .i64 r14,.int .i64 r15,.str r16,.int .i64 r17,.int .i64 r18,.str r19,.int .i64 r20,.int .i64 r21,.str r22]],blk:=221184 }=>if h1:r1=0 then if h2:r2=0 then if h3:r3=0 then if h4:r4=[] then if h5:r5=0 then if h6:r6=0 then if h7:r7=[] then if h8:r8=0 then if h9:r9=0 then if h10:r10=[] then if h14:r14=0 then if h15:r15=0 then if h16:r16=[] then if h17:r17=0 then if h18:r18=0 then if h19:r19=[] then if h20:r20=0 then if h21:r21=0 then if h22:r22=[] then some ⟨(t14,o1_0,o1_1,o2_0),by subst h1 h2 h3 h4 h5 h6 h7 h8 h9 h10 h14 h15 h16 h17 h18 h19 h20 h21 h22;rfl⟩ else none else none else none else none else none else none else none else none else none else none else none else none else none else none else none else none else none else none else none
  | _=>none
def zjg (s:St):Option QA:=pk (zp1 s)
theorem zCU (s:St) (x:QA) (h:zjg s=some x):s=zsn x:=zx (o:=zp1 s) h
def zjb:QA→(Ex→St→Ans)→zlu→Ans:=fun (t14,o1_0,o1_1,o2_0) K=>(Sum.elim (unP fun o1_0_y=>unP fun o1_1_y=>unP fun o2_1_y=>unP fun o2_2_y=>unP fun o2_3_y=>unP fun o2_4_y=>unP fun o2_5_y=>unP fun o2_6_y=>unP fun o2_7_y=>unP fun o2_8_y o2_9_y=>K (Ex.norm) { env:=[(2,.ptr 0 0),(4,.ptr 1 0),(5,.ptr 2 0)],stk:=[[]],H:=[.cells [.int .i64 (0),.int .i64 (0),.int .i64 (0),.str ([]),.int .i64 (0),.int .i64 (0),.str ([]),.int .i64 (0),.int .i64 (0),.str ([])],.cells [.str o1_0_y,.int .i64 o1_1_y],.cells [.int .i64 o2_0,.int .i64 o2_1_y,.int .i64 o2_2_y,.str o2_3_y,.int .i64 o2_4_y,.int .i64 o2_5_y,.str o2_6_y,.int .i64 o2_7_y,.int .i64 o2_8_y,.str o2_9_y]],blk:=221184 }) (fun _=>K (Ex.ret) { env:=[(2,.ptr 0 0),(3,.int .i64 (7))],stk:=[[]],H:=[.cells [.int .i64 (0),.int .i64 (0),.int .i64 (0),.str ([]),.int .i64 (0),.int .i64 (0),.str ([]),.int .i64 (0),.int .i64 (0),.str ([])]],blk:=221184 }))
def JM {β:Type}:QA→(zlu→Option β)→Option β:=fun (t14,o1_0,o1_1,o2_0) exit=>(bif t14 == (0:Int) then (za (za0 (o1_0,o1_1)) (unP fun r_0=>unP fun r_1=>unP fun r_2=>unP fun o0_0 o0_1=>(exit (Sum.inl (o0_0,o0_1,r_0,r_1,r_2,(0:Int),(0:Int),[],(0:Int),(0:Int),[]))))) else (bif t14 == (1:Int) then (za (za0 (o1_0,o1_1)) (unP fun r_0=>unP fun r_1=>unP fun r_2=>unP fun o0_0 o0_1=>(za (za0 (o0_0,o0_1)) (unP fun r_0_2=>unP fun r_1_2=>unP fun r_2_2=>unP fun o0_0_2 o0_1_2=>(exit (Sum.inl (o0_0_2,o0_1_2,r_0,r_1_2,[],r_0,r_1,r_2,r_0_2,r_1_2,r_2_2))))))) else (exit (Sum.inr ()))))
def WA (i:QA):Option zlu:=JM i some
theorem zsk (i:QA) (k:zlu→Ans):JM i k=za (WA i) k:=by
  obtain ⟨t14,o1_0,o1_1,o2_0⟩:=i
  simp only [WA,JM,zj,zg,zl,zc,zi,zm,zh]
theorem zwR (i:QA) (K:Ex→St→Ans):zA Tryz.tab ze2 zf (zD Tryz.tab ze2 zf 0 64) 70 55 zpD zk5 (zH 0 (exk [2,4,5] [2,3] []) K) (zsn i)=JM i (zjb i K):=by kernel_rfl
theorem zDc:zy Tryz.prog 55 zk5 (zG zjg WA zjb):=zB mixed tabOk zmx 0 (exk [2,4,5] [2,3] []) zw0 zCU zwR zsk
noncomputable def zGp:(Ex→St→Ans)→St→Ans:=(zG zjg WA zjb)
theorem zJn:zy Tryz.prog 55 zk5 zGp:=zDc
noncomputable def zNL:Ann:=(.seq .none (.seq .none (.seq .none (.seq (.seq .none (.cut 0 [2,4,5,14] zGp)) (.seq .none (.seq (.seq .none (.cut 0 [2,5,7,47] zFA)) .none))))))
theorem zO7:zr Tryz.prog 55 zKd zNL:=⟨(zb _ _ _),⟨(zb _ _ _),⟨(zb _ _ _),⟨⟨(zb _ _ _),zJn⟩,⟨(zb _ _ _),⟨⟨(zb _ _ _),zHc⟩,(zb _ _ _)⟩⟩⟩⟩⟩⟩
abbrev zcC:=(List UInt8)
abbrev zAY:=(Int)×(Int)×(Int)×(List UInt8)×(Int)×(Int)×(List UInt8)×(Int)×(Int)×(List UInt8)×(Int)
def zpY {β:Type}:zcC→(zAY→Option β)→Option β:=fun a0 exit=>(za (w8 (a0)) fun _=>(za (ZY ((1:Int),a0,(0:Int))) (unP fun r=>unP fun o0_0 o0_1=>(za (WA (r,o0_0,o0_1,r)) (Sum.elim (unP fun o1_0=>unP fun o1_1=>unP fun o2_1=>unP fun o2_2=>unP fun o2_3=>unP fun o2_4=>unP fun o2_5=>unP fun o2_6=>unP fun o2_7=>unP fun o2_8 o2_9=>(za (zcF (o1_0,o1_1)) fun r_2=>(za (Wk (r_2,r_2 == (0:Int),r,o2_1,o2_2,o2_3,o2_4,o2_5,o2_6,o2_7,o2_8,o2_9)) fun t7=>(bif t7 != (0:Int) then (exit ((0:Int),(0:Int),(0:Int),[],(0:Int),(0:Int),[],(0:Int),(0:Int),[],t7)) else (exit (r,o2_1,o2_2,o2_3,o2_4,o2_5,o2_6,o2_7,o2_8,o2_9,(0:Int))))))) (fun _=>(exit ((0:Int),(0:Int),(0:Int),[],(0:Int),(0:Int),[],(0:Int),(0:Int),[],(7:Int)))))))))
def ze6 (a:zcC):Option zAY:=zpY a some
theorem zOn (a:zcC) (k:zAY→Ans):zpY a k=za (ze6 a) k:=by
  obtain z:=a
  simp only [ze6,zpY,zj,zg,zl,zc,zi,zm,zh]
def zsj:zcC→List AV:=fun a0=>[.str a0]
def zCF (l:List AV):Option {a:zcC // l=zsj a}:=match l with
  | [.str a0]=>some ⟨(a0),rfl⟩
  | _=>none
def zFj (l:List AV):Option zcC:=pk (zCF l)
theorem zKk (l:List AV) (a:zcC) (h:zFj l=some a):l=zsj a:=zx (o:=zCF l) h
def zuz:zcC→zAY→AV:=fun a0=>unP fun r_0_0_y=>unP fun r_0_1_y=>unP fun r_0_2_y=>unP fun r_0_3_y=>unP fun r_0_4_y=>unP fun r_0_5_y=>unP fun r_0_6_y=>unP fun r_0_7_y=>unP fun r_0_8_y=>unP fun r_0_9_y r_1_y => .tup [.agg [.int .i64 r_0_0_y,.int .i64 r_0_1_y,.int .i64 r_0_2_y,.str r_0_3_y,.int .i64 r_0_4_y,.int .i64 r_0_5_y,.str r_0_6_y,.int .i64 r_0_7_y,.int .i64 r_0_8_y,.str r_0_9_y],.int .i64 r_1_y]
theorem zI6 : ∀(a:zcC) (y:zAY),(zuz a y).closed1=true:=by
  rintro z y <;> first | rfl | exact Empty.elim y
theorem zQp (a:zcC):fnE Tryz.tab ze2 zf 0 70 54 Tryz.f54.ntmps Tryz.f54.results.toList zNL zKd (zsj a) [] (fun v _=>some (v,[]))=zpY a (fun y=>some (zuz a y,[])):=by kernel_rfl
def zVI (a:zcC) (K:AV→Ans):Ans:=za (ze6 a) fun y=>K (zuz a y)
def zPX:List AV→(AV→Ans)→Ans:=fun l K=>za (zFj l) fun a=>zVI a K
theorem zF2:zV Tryz.prog 54 zPX:=zX (hint:=zf) (d:=0) (n:=70) mixed tabOk zmx Tryz.func54 (zI (by kernel_rfl)) (by decide +kernel) zO7 zKk zQp zOn zI6
--@ state_single_side
noncomputable def zMr:Env:=[]
theorem zQe:zd Tryz.prog zMr:=zd.nil
noncomputable def zUi:Code:=Tryz.f181.body.getD .skip
noncomputable def zOT:Ann := .none
theorem zOJ:zr Tryz.prog 12 zUi zOT:=(zb _ _ _)
abbrev zcQ:=(Int)×(Int)×(Int)×(List UInt8)×(Int)×(Int)×(List UInt8)×(Int)×(Int)×(List UInt8)×(Int)
abbrev zzd:=Unit
def zpx {β:Type}:zcQ→(zzd→Option β)→Option β:=fun (a0_0,a0_1,a0_2,a0_3,a0_4,a0_5,a0_6,a0_7,a0_8,a0_9,a1) exit=>(exit ())
def zhX (a:zcQ):Option zzd:=zpx a some
theorem zMp (a:zcQ) (k:zzd→Ans):zpx a k=za (zhX a) k:=by
  obtain ⟨a0_0,a0_1,a0_2,a0_3,a0_4,a0_5,a0_6,a0_7,a0_8,a0_9,a1⟩:=a
  simp only [zhX,zpx,zj,zg,zl,zc,zi,zm,zh]
def zuC:zcQ→List AV:=fun (a0_0,a0_1,a0_2,a0_3,a0_4,a0_5,a0_6,a0_7,a0_8,a0_9,a1)=>[.agg [.int .i64 a0_0,.int .i64 a0_1,.int .i64 a0_2,.str a0_3,.int .i64 a0_4,.int .i64 a0_5,.str a0_6,.int .i64 a0_7,.int .i64 a0_8,.str a0_9],.int .i64 a1]
def zAM (l:List AV):Option {a:zcQ // l=zuC a}:=match l with
  | [.agg [.int .i64 a0_0,.int .i64 a0_1,.int .i64 a0_2,.str a0_3,.int .i64 a0_4,.int .i64 a0_5,.str a0_6,.int .i64 a0_7,.int .i64 a0_8,.str a0_9],.int .i64 a1]=>some ⟨(a0_0,a0_1,a0_2,a0_3,a0_4,a0_5,a0_6,a0_7,a0_8,a0_9,a1),rfl⟩
  | _=>none
def zFx (l:List AV):Option zcQ:=pk (zAM l)
theorem zJH (l:List AV) (a:zcQ) (h:zFx l=some a):l=zuC a:=zx (o:=zAM l) h
def zsQ:zcQ→zzd→AV:=fun (a0_0,a0_1,a0_2,a0_3,a0_4,a0_5,a0_6,a0_7,a0_8,a0_9,a1)=>fun _ => .agg [.int .i64 a0_1,.int .i64 a0_2,.str a0_3]
theorem zJV : ∀(a:zcQ) (y:zzd),(zsQ a y).closed1=true:=by
  rintro ⟨a0_0,a0_1,a0_2,a0_3,a0_4,a0_5,a0_6,a0_7,a0_8,a0_9,a1⟩ y <;> first | rfl | exact Empty.elim y
theorem zPT (a:zcQ):fnE Tryz.tab zMr zf 0 70 181 Tryz.f181.ntmps Tryz.f181.results.toList zOT zUi (zuC a) [] (fun v _=>some (v,[]))=zpx a (fun y=>some (zsQ a y,[])):=by kernel_rfl
def zVL (a:zcQ) (K:AV→Ans):Ans:=za (zhX a) fun y=>K (zsQ a y)
def zR3:List AV→(AV→Ans)→Ans:=fun l K=>za (zFx l) fun a=>zVL a K
theorem zFf:zV Tryz.prog 181 zR3:=zX (hint:=zf) (d:=0) (n:=70) mixed tabOk zQe Tryz.func181 (zI (by kernel_rfl)) (by decide +kernel) zOJ zJH zPT zMp zJV
--@ state_double_side
noncomputable def zMo:Env:=[]
theorem zR4:zd Tryz.prog zMo:=zd.nil
noncomputable def zUu:Code:=Tryz.f182.body.getD .skip
noncomputable def zM3:Ann := .none
theorem zNM:zr Tryz.prog 13 zUu zM3:=(zb _ _ _)
abbrev zbT:=(Int)×(Int)×(Int)×(List UInt8)×(Int)×(Int)×(List UInt8)×(Int)×(Int)×(List UInt8)×(Int)
abbrev zz9:=(Int)×(Int)×(List UInt8)
def zyz {β:Type}:zbT→(zz9→Option β)→Option β:=fun (a0_0,a0_1,a0_2,a0_3,a0_4,a0_5,a0_6,a0_7,a0_8,a0_9,a1) exit=>(bif a1 == (0:Int) then (exit (a0_4,a0_5,a0_6)) else (exit (a0_7,a0_8,a0_9)))
def zhx (a:zbT):Option zz9:=zyz a some
theorem zMG (a:zbT) (k:zz9→Ans):zyz a k=za (zhx a) k:=by
  obtain ⟨a0_0,a0_1,a0_2,a0_3,a0_4,a0_5,a0_6,a0_7,a0_8,a0_9,a1⟩:=a
  simp only [zhx,zyz,zj,zg,zl,zc,zi,zm,zh]
def zs9:zbT→List AV:=fun (a0_0,a0_1,a0_2,a0_3,a0_4,a0_5,a0_6,a0_7,a0_8,a0_9,a1)=>[.agg [.int .i64 a0_0,.int .i64 a0_1,.int .i64 a0_2,.str a0_3,.int .i64 a0_4,.int .i64 a0_5,.str a0_6,.int .i64 a0_7,.int .i64 a0_8,.str a0_9],.int .i64 a1]
def zCE (l:List AV):Option {a:zbT // l=zs9 a}:=match l with
  | [.agg [.int .i64 a0_0,.int .i64 a0_1,.int .i64 a0_2,.str a0_3,.int .i64 a0_4,.int .i64 a0_5,.str a0_6,.int .i64 a0_7,.int .i64 a0_8,.str a0_9],.int .i64 a1]=>some ⟨(a0_0,a0_1,a0_2,a0_3,a0_4,a0_5,a0_6,a0_7,a0_8,a0_9,a1),rfl⟩
  | _=>none
def zEz (l:List AV):Option zbT:=pk (zCE l)
theorem zKo (l:List AV) (a:zbT) (h:zEz l=some a):l=zs9 a:=zx (o:=zCE l) h
def zst:zbT→zz9→AV:=fun (a0_0,a0_1,a0_2,a0_3,a0_4,a0_5,a0_6,a0_7,a0_8,a0_9,a1)=>unP fun r_0_y=>unP fun r_1_y r_2_y => .agg [.int .i64 r_0_y,.int .i64 r_1_y,.str r_2_y]
theorem zJy : ∀(a:zbT) (y:zz9),(zst a y).closed1=true:=by
  rintro ⟨a0_0,a0_1,a0_2,a0_3,a0_4,a0_5,a0_6,a0_7,a0_8,a0_9,a1⟩ y <;> first | rfl | exact Empty.elim y
theorem zRH (a:zbT):fnE Tryz.tab zMo zf 0 70 182 Tryz.f182.ntmps Tryz.f182.results.toList zM3 zUu (zs9 a) [] (fun v _=>some (v,[]))=zyz a (fun y=>some (zst a y,[])):=by kernel_rfl
def zVP (a:zbT) (K:AV→Ans):Ans:=za (zhx a) fun y=>K (zst a y)
def zQz:List AV→(AV→Ans)→Ans:=fun l K=>za (zEz l) fun a=>zVP a K
theorem zGb:zV Tryz.prog 182 zQz:=zX (hint:=zf) (d:=0) (n:=70) mixed tabOk zR4 Tryz.func182 (zI (by kernel_rfl)) (by decide +kernel) zNM zKo zRH zMG zJy
--@ state_Side
noncomputable def zKV:Env:=[(70,.func zHB),(181,.pure zR3),(182,.pure zQz)]
theorem zQf:zd Tryz.prog zKV:=zd.cons zsR (zd.cons zFf (zd.cons zGb (zd.nil)))
noncomputable def zVj:Code:=Tryz.f143.body.getD .skip
noncomputable def zLh:Ann := .none
theorem zO5:zr Tryz.prog 25 zVj zLh:=(zb _ _ _)
abbrev zcm:=(Int)×(Int)×(Int)×(List UInt8)×(Int)×(Int)×(List UInt8)×(Int)×(Int)×(List UInt8)×(Int)
abbrev zyG:=(Int)×(Int)×(List UInt8)
def zqn {β:Type}:zcm→(zyG→Option β)→Option β:=fun (a0_0,a0_1,a0_2,a0_3,a0_4,a0_5,a0_6,a0_7,a0_8,a0_9,a1) exit=>(za (zcq (a0_0,a0_1,a0_2,a0_3,a0_4,a0_5,a0_6,a0_7,a0_8,a0_9)) (Sum.elim (fun _=>(za (zhX (a0_0,a0_1,a0_2,a0_3,a0_4,a0_5,a0_6,a0_7,a0_8,a0_9,a1)) fun _=>(exit (a0_1,a0_2,a0_3)))) ((Sum.elim (fun _=>(za (zhx (a0_0,a0_1,a0_2,a0_3,a0_4,a0_5,a0_6,a0_7,a0_8,a0_9,a1)) (unP fun r_0=>unP fun r_1 r_2=>(exit (r_0,r_1,r_2))))) (fun _=>(za (zhx (a0_0,a0_1,a0_2,a0_3,a0_4,a0_5,a0_6,a0_7,a0_8,a0_9,a1)) (unP fun r_0=>unP fun r_1 r_2=>(exit (r_0,r_1,r_2)))))))))
def zi9 (a:zcm):Option zyG:=zqn a some
theorem zOO (a:zcm) (k:zyG→Ans):zqn a k=za (zi9 a) k:=by
  obtain ⟨a0_0,a0_1,a0_2,a0_3,a0_4,a0_5,a0_6,a0_7,a0_8,a0_9,a1⟩:=a
  simp only [zi9,zqn,zj,zg,zl,zc,zi,zm,zh]
def zuE:zcm→List AV:=fun (a0_0,a0_1,a0_2,a0_3,a0_4,a0_5,a0_6,a0_7,a0_8,a0_9,a1)=>[.agg [.int .i64 a0_0,.int .i64 a0_1,.int .i64 a0_2,.str a0_3,.int .i64 a0_4,.int .i64 a0_5,.str a0_6,.int .i64 a0_7,.int .i64 a0_8,.str a0_9],.int .i64 a1]
def zB1 (l:List AV):Option {a:zcm // l=zuE a}:=match l with
  | [.agg [.int .i64 a0_0,.int .i64 a0_1,.int .i64 a0_2,.str a0_3,.int .i64 a0_4,.int .i64 a0_5,.str a0_6,.int .i64 a0_7,.int .i64 a0_8,.str a0_9],.int .i64 a1]=>some ⟨(a0_0,a0_1,a0_2,a0_3,a0_4,a0_5,a0_6,a0_7,a0_8,a0_9,a1),rfl⟩
  | _=>none
def zGy (l:List AV):Option zcm:=pk (zB1 l)
theorem zHV (l:List AV) (a:zcm) (h:zGy l=some a):l=zuE a:=zx (o:=zB1 l) h
def zvc:zcm→zyG→AV:=fun (a0_0,a0_1,a0_2,a0_3,a0_4,a0_5,a0_6,a0_7,a0_8,a0_9,a1)=>unP fun r_0_y=>unP fun r_1_y r_2_y => .agg [.int .i64 r_0_y,.int .i64 r_1_y,.str r_2_y]
theorem zII : ∀(a:zcm) (y:zyG),(zvc a y).closed1=true:=by
  rintro ⟨a0_0,a0_1,a0_2,a0_3,a0_4,a0_5,a0_6,a0_7,a0_8,a0_9,a1⟩ y <;> first | rfl | exact Empty.elim y
theorem zQy (a:zcm):fnE Tryz.tab zKV zf 0 70 143 Tryz.f143.ntmps Tryz.f143.results.toList zLh zVj (zuE a) [] (fun v _=>some (v,[]))=zqn a (fun y=>some (zvc a y,[])):=by kernel_rfl
def zV0 (a:zcm) (K:AV→Ans):Ans:=za (zi9 a) fun y=>K (zvc a y)
def zR6:List AV→(AV→Ans)→Ans:=fun l K=>za (zGy l) fun a=>zV0 a K
theorem zE7:zV Tryz.prog 143 zR6:=zX (hint:=zf) (d:=0) (n:=70) mixed tabOk zQf Tryz.func143 (zI (by kernel_rfl)) (by decide +kernel) zO5 zHV zQy zOO zII
--@ vector_Put
noncomputable def zMX:Env:=[(57,.pure ziN)]
theorem zRp:zd Tryz.prog zMX:=zd.cons zae (zd.nil)
noncomputable def zUl:Code:=Tryz.f180.body.getD .skip
noncomputable def zLJ:Ann := .none
theorem zMh:zr Tryz.prog 12 zUl zLJ:=(zb _ _ _)
abbrev zcz:=(List UInt8)×(Int)×(Int)
abbrev zzk:=(List UInt8)
def zrr {β:Type}:zcz→(zzk→Option β)→Option β:=fun (a0,a1_0,a1_1) exit=>(za (Zt (a0,a1_0,(7:Int))) fun r=>(za (Zt (r,a1_1,(7:Int))) fun r_2=>(exit (r_2))))
def zeK (a:zcz):Option zzk:=zrr a some
theorem zLV (a:zcz) (k:zzk→Ans):zrr a k=za (zeK a) k:=by
  obtain ⟨a0,a1_0,a1_1⟩:=a
  simp only [zeK,zrr,zj,zg,zl,zc,zi,zm,zh]
def zuH:zcz→List AV:=fun (a0,a1_0,a1_1)=>[.str a0,.agg [.int .i64 a1_0,.int .i64 a1_1]]
def zzu (l:List AV):Option {a:zcz // l=zuH a}:=match l with
  | [.str a0,.agg [.int .i64 a1_0,.int .i64 a1_1]]=>some ⟨(a0,a1_0,a1_1),rfl⟩
  | _=>none
def zFW (l:List AV):Option zcz:=pk (zzu l)
theorem zJY (l:List AV) (a:zcz) (h:zFW l=some a):l=zuH a:=zx (o:=zzu l) h
def zt0:zcz→zzk→AV:=fun (a0,a1_0,a1_1)=>fun r_y => .str r_y
theorem zJO : ∀(a:zcz) (y:zzk),(zt0 a y).closed1=true:=by
  rintro ⟨a0,a1_0,a1_1⟩ y <;> first | rfl | exact Empty.elim y
theorem zQk (a:zcz):fnE Tryz.tab zMX zf 0 70 180 Tryz.f180.ntmps Tryz.f180.results.toList zLJ zUl (zuH a) [] (fun v _=>some (v,[]))=zrr a (fun y=>some (zt0 a y,[])):=by kernel_rfl
def zVG (a:zcz) (K:AV→Ans):Ans:=za (zeK a) fun y=>K (zt0 a y)
def zQV:List AV→(AV→Ans)→Ans:=fun l K=>za (zFW l) fun a=>zVG a K
theorem zGX:zV Tryz.prog 180 zQV:=zX (hint:=zf) (d:=0) (n:=70) mixed tabOk zRp Tryz.func180 (zI (by kernel_rfl)) (by decide +kernel) zMh zJY zQk zLV zJO
--@ state_put
noncomputable def zMd:Env:=[(180,.pure zQV)]
theorem zQR:zd Tryz.prog zMd:=zd.cons zGX (zd.nil)
noncomputable def zTH:Code:=Tryz.f142.body.getD .skip
noncomputable def zLN:Ann := .none
theorem zNs:zr Tryz.prog 12 zTH zLN:=(zb _ _ _)
abbrev zct:=(List UInt8)×(Int)×(Int)×(List UInt8)
abbrev zyL:=(List UInt8)
def zoQ {β:Type}:zct→(zyL→Option β)→Option β:=fun (a0,a1_0,a1_1,a1_2) exit=>(za (zeK (a0,a1_0,a1_1)) fun r=>(bif Nat.ble (List.length r+List.length a1_2) (9223372036854775807:Nat) then (exit (r++a1_2)) else none))
def zaP (a:zct):Option zyL:=zoQ a some
theorem zMu (a:zct) (k:zyL→Ans):zoQ a k=za (zaP a) k:=by
  obtain ⟨a0,a1_0,a1_1,a1_2⟩:=a
  simp only [zaP,zoQ,zj,zg,zl,zc,zi,zm,zh]
def zt2:zct→List AV:=fun (a0,a1_0,a1_1,a1_2)=>[.str a0,.agg [.int .i64 a1_0,.int .i64 a1_1,.str a1_2]]
def zCv (l:List AV):Option {a:zct // l=zt2 a}:=match l with
  | [.str a0,.agg [.int .i64 a1_0,.int .i64 a1_1,.str a1_2]]=>some ⟨(a0,a1_0,a1_1,a1_2),rfl⟩
  | _=>none
def zFI (l:List AV):Option zct:=pk (zCv l)
theorem zH5 (l:List AV) (a:zct) (h:zFI l=some a):l=zt2 a:=zx (o:=zCv l) h
def zt6:zct→zyL→AV:=fun (a0,a1_0,a1_1,a1_2)=>fun r_y => .str r_y
theorem zIb : ∀(a:zct) (y:zyL),(zt6 a y).closed1=true:=by
  rintro ⟨a0,a1_0,a1_1,a1_2⟩ y <;> first | rfl | exact Empty.elim y
theorem zQG (a:zct):fnE Tryz.tab zMd zf 0 70 142 Tryz.f142.ntmps Tryz.f142.results.toList zLN zTH (zt2 a) [] (fun v _=>some (v,[]))=zoQ a (fun y=>some (zt6 a y,[])):=by kernel_rfl
def zVz (a:zct) (K:AV→Ans):Ans:=za (zaP a) fun y=>K (zt6 a y)
def zPQ:List AV→(AV→Ans)→Ans:=fun l K=>za (zFI l) fun a=>zVz a K
theorem zGq:zV Tryz.prog 142 zPQ:=zX (hint:=zf) (d:=0) (n:=70) mixed tabOk zQR Tryz.func142 (zI (by kernel_rfl)) (by decide +kernel) zNs zH5 zQG zMu zIb
--@ state_Put
noncomputable def zLq:Env:=[(57,.pure ziN),(35,.pure zAp),(143,.pure zR6),(142,.pure zPQ)]
theorem zPe:zd Tryz.prog zLq:=zd.cons zae (zd.cons zka (zd.cons zE7 (zd.cons zGq (zd.nil))))
noncomputable def zUa:Code:=Tryz.f97.body.getD .skip
noncomputable def zLA:Ann := .none
theorem zPa:zr Tryz.prog 28 zUa zLA:=(zb _ _ _)
abbrev zco:=(Int)×(Int)×(Int)×(List UInt8)×(Int)×(Int)×(List UInt8)×(Int)×(Int)×(List UInt8)
abbrev zBe:=(List UInt8)×(Int)
def zrp {β:Type}:zco→(zBe→Option β)→Option β:=fun (a0_0,a0_1,a0_2,a0_3,a0_4,a0_5,a0_6,a0_7,a0_8,a0_9) exit=>(za (JP (a0_0,a0_1,a0_2,a0_3,a0_4,a0_5,a0_6,a0_7,a0_8,a0_9)) fun r=>(bif r != (0:Int) then (exit ([],r)) else (za (Zt ([],a0_0,(1:Int))) fun r_2=>(bif a0_0 == (0:Int) then (za (zi9 (a0_0,a0_1,a0_2,a0_3,a0_4,a0_5,a0_6,a0_7,a0_8,a0_9,(0:Int))) (unP fun r_0=>unP fun r_1 r_2_2=>(za (zaP (r_2,r_0,r_1,r_2_2)) fun r_3=>(exit (r_3,(0:Int)))))) else (za (zaP (r_2,a0_4,a0_5,a0_6)) fun r_3=>(za (zaP (r_3,a0_7,a0_8,a0_9)) fun r_4=>(exit (r_4,(0:Int)))))))))
def zej (a:zco):Option zBe:=zrp a some
theorem zNW (a:zco) (k:zBe→Ans):zrp a k=za (zej a) k:=by
  obtain ⟨a0_0,a0_1,a0_2,a0_3,a0_4,a0_5,a0_6,a0_7,a0_8,a0_9⟩:=a
  simp only [zej,zrp,zj,zg,zl,zc,zi,zm,zh]
def zuW:zco→List AV:=fun (a0_0,a0_1,a0_2,a0_3,a0_4,a0_5,a0_6,a0_7,a0_8,a0_9)=>[.agg [.int .i64 a0_0,.int .i64 a0_1,.int .i64 a0_2,.str a0_3,.int .i64 a0_4,.int .i64 a0_5,.str a0_6,.int .i64 a0_7,.int .i64 a0_8,.str a0_9]]
def zC3 (l:List AV):Option {a:zco // l=zuW a}:=match l with
  | [.agg [.int .i64 a0_0,.int .i64 a0_1,.int .i64 a0_2,.str a0_3,.int .i64 a0_4,.int .i64 a0_5,.str a0_6,.int .i64 a0_7,.int .i64 a0_8,.str a0_9]]=>some ⟨(a0_0,a0_1,a0_2,a0_3,a0_4,a0_5,a0_6,a0_7,a0_8,a0_9),rfl⟩
  | _=>none
def zGW (l:List AV):Option zco:=pk (zC3 l)
theorem zJP (l:List AV) (a:zco) (h:zGW l=some a):l=zuW a:=zx (o:=zC3 l) h
def ztD:zco→zBe→AV:=fun (a0_0,a0_1,a0_2,a0_3,a0_4,a0_5,a0_6,a0_7,a0_8,a0_9)=>unP fun r_0_y r_1_y => .tup [.str r_0_y,.int .i64 r_1_y]
theorem zHP : ∀(a:zco) (y:zBe),(ztD a y).closed1=true:=by
  rintro ⟨a0_0,a0_1,a0_2,a0_3,a0_4,a0_5,a0_6,a0_7,a0_8,a0_9⟩ y <;> first | rfl | exact Empty.elim y
theorem zP0 (a:zco):fnE Tryz.tab zLq zf 0 70 97 Tryz.f97.ntmps Tryz.f97.results.toList zLA zUa (zuW a) [] (fun v _=>some (v,[]))=zrp a (fun y=>some (ztD a y,[])):=by kernel_rfl
def zVO (a:zco) (K:AV→Ans):Ans:=za (zej a) fun y=>K (ztD a y)
def zPt:List AV→(AV→Ans)→Ans:=fun l K=>za (zGW l) fun a=>zVO a K
theorem zGf:zV Tryz.prog 97 zPt:=zX (hint:=zf) (d:=0) (n:=70) mixed tabOk zPe Tryz.func97 (zI (by kernel_rfl)) (by decide +kernel) zPa zJP zP0 zNW zHP
--@ dump_extent
noncomputable def zp5:Env:=[(57,.pure ziN),(97,.pure zPt)]
theorem zBD:zd Tryz.prog zp5:=zd.cons zae (zd.cons zGf (zd.nil))
noncomputable def zPK:Code:=Tryz.f56.body.getD .skip
noncomputable def zlK:Code:=zL [1,1,1,1,0,1] zPK
noncomputable def zpO:Ann := .none
theorem zwP:zr Tryz.prog 26 zlK zpO:=(zb _ _ _)
abbrev Qe:=(Int)×(List UInt8)×(Bool)
abbrev zkF:=(Int)
def zug:Qe→St:=fun (t0,t8,t19)=>{ env:=[(0,.int .i64 t0),(8,.str t8),(10,.int .i64 (0)),(19,.bool t19)],stk:=[[]],H:=[],blk:=229376 }
def zqF (s:St):Option {x:Qe // s=zug x}:=match s with
  | { env:=[(0,.int .i64 t0),(8,.str t8),(10,.int .i64 r2),(19,.bool t19)],stk:=[[]],H:=[],blk:=229376 }=>if h2:r2=0 then some ⟨(t0,t8,t19),by subst h2;rfl⟩ else none
  | _=>none
def zhC (s:St):Option Qe:=pk (zqF s)
theorem zAF (s:St) (x:Qe) (h:zhC s=some x):s=zug x:=zx (o:=zqF s) h
def zgH:Qe→(Ex→St→Ans)→zkF→Ans:=fun (t0,t8,t19) K=>fun t10_y=>K (Ex.norm) { env:=[(0,.int .i64 t0),(8,.str t8),(10,.int .i64 t10_y)],stk:=[[]],H:=[],blk:=229376 }
def JA {β:Type}:Qe→(zkF→Option β)→Option β:=fun (t0,t8,t19) exit=>(bif t19 then (exit ((1:Int))) else (exit ((0:Int))))
def wg (i:Qe):Option zkF:=JA i some
theorem zta (i:Qe) (k:zkF→Ans):JA i k=za (wg i) k:=by
  obtain ⟨t0,t8,t19⟩:=i
  simp only [wg,JA,zj,zg,zl,zc,zi,zm,zh]
theorem zwW (i:Qe) (K:Ex→St→Ans):zA Tryz.tab zp5 zf (zD Tryz.tab zp5 zf 0 64) 70 26 zpO zlK (zH 0 (exk [0,8,10] [6,7] []) K) (zug i)=JA i (zgH i K):=by kernel_rfl
theorem zDh:zy Tryz.prog 26 zlK (zG zhC wg zgH):=zB mixed tabOk zBD 0 (exk [0,8,10] [6,7] []) zwP zAF zwW zta
noncomputable def zET:(Ex→St→Ans)→St→Ans:=(zG zhC wg zgH)
theorem zHO:zy Tryz.prog 26 zlK zET:=zDh
noncomputable def zNA:Ann:=(.seq .none (.seq .none (.seq .none (.seq .none (.seq (.seq .none (.cut 0 [0,8,10,19] zET)) .none)))))
theorem zOx:zr Tryz.prog 26 zPK zNA:=⟨(zb _ _ _),⟨(zb _ _ _),⟨(zb _ _ _),⟨(zb _ _ _),⟨⟨(zb _ _ _),zHO⟩,(zb _ _ _)⟩⟩⟩⟩⟩
abbrev zca:=(Int)×(Int)×(Int)×(Int)×(List UInt8)×(Int)×(Int)×(List UInt8)×(Int)×(Int)×(List UInt8)×(Bool)
abbrev zBo:=(List UInt8)×(Int)
def zrK {β:Type}:zca→(zBo→Option β)→Option β:=fun (a0,a1_0,a1_1,a1_2,a1_3,a1_4,a1_5,a1_6,a1_7,a1_8,a1_9,a2) exit=>(za (zej (a1_0,a1_1,a1_2,a1_3,a1_4,a1_5,a1_6,a1_7,a1_8,a1_9)) (unP fun r_0 r_1=>(bif r_1 != (0:Int) then (exit ([],r_1)) else (za (wg (a0,r_0,a2)) fun t10=>(za (Zt ([],a0,(1:Int))) fun r=>(za (Zt (r,t10,(1:Int))) fun r_2=>(bif Nat.ble (List.length r_2+List.length r_0) (9223372036854775807:Nat) then (exit (r_2++r_0,(0:Int))) else none)))))))
def zaT (a:zca):Option zBo:=zrK a some
theorem zLZ (a:zca) (k:zBo→Ans):zrK a k=za (zaT a) k:=by
  obtain ⟨a0,a1_0,a1_1,a1_2,a1_3,a1_4,a1_5,a1_6,a1_7,a1_8,a1_9,a2⟩:=a
  simp only [zaT,zrK,zj,zg,zl,zc,zi,zm,zh]
def ztu:zca→List AV:=fun (a0,a1_0,a1_1,a1_2,a1_3,a1_4,a1_5,a1_6,a1_7,a1_8,a1_9,a2)=>[.int .i64 a0,.agg [.int .i64 a1_0,.int .i64 a1_1,.int .i64 a1_2,.str a1_3,.int .i64 a1_4,.int .i64 a1_5,.str a1_6,.int .i64 a1_7,.int .i64 a1_8,.str a1_9],.bool a2]
def zC2 (l:List AV):Option {a:zca // l=ztu a}:=match l with
  | [.int .i64 a0,.agg [.int .i64 a1_0,.int .i64 a1_1,.int .i64 a1_2,.str a1_3,.int .i64 a1_4,.int .i64 a1_5,.str a1_6,.int .i64 a1_7,.int .i64 a1_8,.str a1_9],.bool a2]=>some ⟨(a0,a1_0,a1_1,a1_2,a1_3,a1_4,a1_5,a1_6,a1_7,a1_8,a1_9,a2),rfl⟩
  | _=>none
def zFw (l:List AV):Option zca:=pk (zC2 l)
theorem zIo (l:List AV) (a:zca) (h:zFw l=some a):l=ztu a:=zx (o:=zC2 l) h
def zsC:zca→zBo→AV:=fun (a0,a1_0,a1_1,a1_2,a1_3,a1_4,a1_5,a1_6,a1_7,a1_8,a1_9,a2)=>unP fun r_0_y r_1_y => .tup [.str r_0_y,.int .i64 r_1_y]
theorem zKz : ∀(a:zca) (y:zBo),(zsC a y).closed1=true:=by
  rintro ⟨a0,a1_0,a1_1,a1_2,a1_3,a1_4,a1_5,a1_6,a1_7,a1_8,a1_9,a2⟩ y <;> first | rfl | exact Empty.elim y
theorem zRU (a:zca):fnE Tryz.tab zp5 zf 0 70 56 Tryz.f56.ntmps Tryz.f56.results.toList zNA zPK (ztu a) [] (fun v _=>some (v,[]))=zrK a (fun y=>some (zsC a y,[])):=by kernel_rfl
def zV5 (a:zca) (K:AV→Ans):Ans:=za (zaT a) fun y=>K (zsC a y)
def zKr:List AV→(AV→Ans)→Ans:=fun l K=>za (zFw l) fun a=>zV5 a K
theorem zts:zV Tryz.prog 56 zKr:=zX (hint:=zf) (d:=0) (n:=70) mixed tabOk zBD Tryz.func56 (zI (by kernel_rfl)) (by decide +kernel) zOx zIo zRU zLZ zKz
end Go.Proofs.R9
namespace Go.Proofs.R9
open Go Go.AE
set_option maxRecDepth 100000
--@ dump_read
noncomputable def zep:Env:=[(49,.func zvo),(50,.func zmw),(51,.func znZ),(55,.func zJ7),(54,.pure zPX),(56,.pure zKr)]
theorem zmY:zd Tryz.prog zep:=zd.cons zeF (zd.cons zbH (zd.cons zbJ (zd.cons zsq (zd.cons zF2 (zd.cons zts (zd.nil))))))
noncomputable def zIK:Code:=Tryz.f21.body.getD .skip
noncomputable def zlM:Code:=zL [1,1,1,1,1,1,1,0] zIK
noncomputable def zqs:Ann := .none
theorem zwj:zr Tryz.prog 65 zlM zqs:=(zb _ _ _)
abbrev wI:=(Int)×(Int)×(Int)×(Int)×(Int)×(Int)×(Int)×(Int)×(List (Int×(Int×Int)×List UInt8×((Int×Int)×List UInt8)×(Int×Int)×List UInt8))×(List Bool)×(Int)×(Int)×(Int)×(List UInt8)×(Int)×(Int)×(List UInt8)×(Int)×(Int)×(List UInt8)
abbrev zbG:=(List (Int×(Int×Int)×List UInt8×((Int×Int)×List UInt8)×(Int×Int)×List UInt8))×(List Bool)
def zun:wI→St:=fun (t8,o0_0,o0_1,o0_2,o0_3,o0_4,o0_5,o0_6,o1,o2,o3_0,o3_1,o3_2,o3_3,o3_4,o3_5,o3_6,o3_7,o3_8,o3_9)=>{ env:=[(0,.ptr 0 0),(8,.int .i64 t8),(9,.ptr 3 0)],stk:=[[(0,.ptr 0 0)]],H:=[.cells [.int .i64 o0_0,.int .i64 o0_1,.int .i64 o0_2,.int .i64 o0_3,.int .i64 o0_4,.int .i64 o0_5,.int .i64 o0_6,.own 1,.own 2],.arr (.st (.pair (.int .i64) (.pair (.pair (.int .i64) (.int .i64)) (.pair .str (.pair (.pair (.pair (.int .i64) (.int .i64)) .str) (.pair (.pair (.int .i64) (.int .i64)) .str)))))) o1,.arr .bool o2,.cells [.int .i64 o3_0,.int .i64 o3_1,.int .i64 o3_2,.str o3_3,.int .i64 o3_4,.int .i64 o3_5,.str o3_6,.int .i64 o3_7,.int .i64 o3_8,.str o3_9]],blk:=86016 }
def zpy (s:St):Option {x:wI // s=zun x}:=match s with
  | { env:=[(0,.ptr 0 0),(8,.int .i64 t8),(9,.ptr 3 0)],stk:=[[(0,.ptr 0 0)]],H:=[.cells [.int .i64 o0_0,.int .i64 o0_1,.int .i64 o0_2,.int .i64 o0_3,.int .i64 o0_4,.int .i64 o0_5,.int .i64 o0_6,.own 1,.own 2],.arr (.st (.pair (.int .i64) (.pair (.pair (.int .i64) (.int .i64)) (.pair .str (.pair (.pair (.pair (.int .i64) (.int .i64)) .str) (.pair (.pair (.int .i64) (.int .i64)) .str)))))) o1,.arr .bool o2,.cells [.int .i64 o3_0,.int .i64 o3_1,.int .i64 o3_2,.str o3_3,.int .i64 o3_4,.int .i64 o3_5,.str o3_6,.int .i64 o3_7,.int .i64 o3_8,.str o3_9]],blk:=86016 }=>some ⟨(t8,o0_0,o0_1,o0_2,o0_3,o0_4,o0_5,o0_6,o1,o2,o3_0,o3_1,o3_2,o3_3,o3_4,o3_5,o3_6,o3_7,o3_8,o3_9),rfl⟩
  | _=>none
def zh7 (s:St):Option wI:=pk (zpy s)
theorem zA9 (s:St) (x:wI) (h:zh7 s=some x):s=zun x:=zx (o:=zpy s) h
def zhD:wI→(Ex→St→Ans)→zbG→Ans:=fun (t8,o0_0,o0_1,o0_2,o0_3,o0_4,o0_5,o0_6,o1,o2,o3_0,o3_1,o3_2,o3_3,o3_4,o3_5,o3_6,o3_7,o3_8,o3_9) K=>unP fun o1_y o2_y=>K (Ex.norm) { env:=[],stk:=[[(0,.ptr 0 0)]],H:=[.cells [.int .i64 o0_0,.int .i64 o0_1,.int .i64 o0_2,.int .i64 o0_3,.int .i64 o0_4,.int .i64 o0_5,.int .i64 o0_6,.own 1,.own 2],.arr (.st (.pair (.int .i64) (.pair (.pair (.int .i64) (.int .i64)) (.pair .str (.pair (.pair (.pair (.int .i64) (.int .i64)) .str) (.pair (.pair (.int .i64) (.int .i64)) .str)))))) o1_y,.arr .bool o2_y],blk:=86016 }
def wO {β:Type}:wI→(zbG→Option β)→Option β:=fun (t8,o0_0,o0_1,o0_2,o0_3,o0_4,o0_5,o0_6,o1,o2,o3_0,o3_1,o3_2,o3_3,o3_4,o3_5,o3_6,o3_7,o3_8,o3_9) exit=>(bif Nat.ble ((List.length o1+List.length [(o3_0,(o3_1,o3_2),o3_3,((o3_4,o3_5),o3_6),(o3_7,o3_8),o3_9)])*(104:Nat)) (140737488355328:Nat) then (bif Nat.ble ((List.length o2+List.length [t8 == (1:Int)])*(1:Nat)) (140737488355328:Nat) then (exit (o1++[(o3_0,(o3_1,o3_2),o3_3,((o3_4,o3_5),o3_6),(o3_7,o3_8),o3_9)],o2++[t8 == (1:Int)])) else none) else none)
def Wt (i:wI):Option zbG:=wO i some
theorem zt7 (i:wI) (k:zbG→Ans):wO i k=za (Wt i) k:=by
  obtain ⟨t8,o0_0,o0_1,o0_2,o0_3,o0_4,o0_5,o0_6,o1,o2,o3_0,o3_1,o3_2,o3_3,o3_4,o3_5,o3_6,o3_7,o3_8,o3_9⟩:=i
  simp only [Wt,wO,zj,zg,zl,zc,zi,zm,zh]
noncomputable def zdL {β:Type}:wI→(zbG→Option β)→Option β:=fun (t8,o0_0,o0_1,o0_2,o0_3,o0_4,o0_5,o0_6,o1,o2,o3_0,o3_1,o3_2,o3_3,o3_4,o3_5,o3_6,o3_7,o3_8,o3_9) exit=>(zfU (zfU (bif Nat.ble ((List.length o1+List.length [(o3_0,(o3_1,o3_2),o3_3,((o3_4,o3_5),o3_6),(o3_7,o3_8),o3_9)])*(104:Nat)) (140737488355328:Nat) then (bif Nat.ble ((List.length o2+List.length [t8 == (1:Int)])*(1:Nat)) (140737488355328:Nat) then (exit (o1++[(o3_0,(o3_1,o3_2),o3_3,((o3_4,o3_5),o3_6),(o3_7,o3_8),o3_9)],o2++[t8 == (1:Int)])) else none) else none) (bif Nat.ble ((List.length o1+List.length [(o3_0,(o3_1,o3_2),o3_3,((o3_4,o3_5),o3_6),(o3_7,o3_8),o3_9)])*(104:Nat)) (140737488355328:Nat) then (bif Nat.ble ((List.length o2+List.length [t8 == (1:Int)])*(1:Nat)) (140737488355328:Nat) then (exit (o1++[(o3_0,(o3_1,o3_2),o3_3,((o3_4,o3_5),o3_6),(o3_7,o3_8),o3_9)],o2++[t8 == (1:Int)])) else none) else none)) (bif Nat.ble ((List.length o1+List.length [(o3_0,(o3_1,o3_2),o3_3,((o3_4,o3_5),o3_6),(o3_7,o3_8),o3_9)])*(104:Nat)) (140737488355328:Nat) then (bif Nat.ble ((List.length o2+List.length [t8 == (1:Int)])*(1:Nat)) (140737488355328:Nat) then (exit (o1++[(o3_0,(o3_1,o3_2),o3_3,((o3_4,o3_5),o3_6),(o3_7,o3_8),o3_9)],o2++[t8 == (1:Int)])) else none) else none))
theorem zva : ∀(i:wI) (exit:zbG→Ans),zdL i exit=wO i exit:=by
  rintro ⟨t8,o0_0,o0_1,o0_2,o0_3,o0_4,o0_5,o0_6,o1,o2,o3_0,o3_1,o3_2,o3_3,o3_4,o3_5,o3_6,o3_7,o3_8,o3_9⟩ exit
  simp only [zdL,wO,zHr]
theorem zxI (i:wI) (K:Ex→St→Ans):zA Tryz.tab zep zf (zD Tryz.tab zep zf 0 64) 70 65 zqs zlM (zH 3 (exk [] [6] []) K) (zun i)=wO i (zhD i K):=(show _=zdL i _ from by kernel_rfl).trans (zva _ _)
theorem zDW:zy Tryz.prog 65 zlM (zG zh7 Wt zhD):=zB mixed tabOk zmY 3 (exk [] [6] []) zwj zA9 zxI zt7
noncomputable def zFH:(Ex→St→Ans)→St→Ans:=(zG zh7 Wt zhD)
theorem zIp:zy Tryz.prog 65 zlM zFH:=zDW
noncomputable def zly:Code:=zL [1,1,1,1,1,1,0,1,0] zIK
noncomputable def zpz:Ann := .none
theorem zxX:zr Tryz.prog 65 zly zpz:=(zb _ _ _)
abbrev q6:=(List UInt8)×(Int)×(List UInt8)×(Int)×(Int)×(Int)×(Int)×(Int)×(Int)×(Int)×(Int)×(List (Int×(Int×Int)×List UInt8×((Int×Int)×List UInt8)×(Int×Int)×List UInt8))×(List Bool)×(Int)×(Int)×(Int)×(List UInt8)×(Int)×(Int)×(List UInt8)×(Int)×(Int)×(List UInt8)
abbrev zlm:=(Bool)
def zuT:q6→St:=fun (t2,t8,t11,t12,o0_0,o0_1,o0_2,o0_3,o0_4,o0_5,o0_6,o1,o2,o3_0,o3_1,o3_2,o3_3,o3_4,o3_5,o3_6,o3_7,o3_8,o3_9)=>{ env:=[(0,.ptr 0 0),(2,.str t2),(8,.int .i64 t8),(9,.ptr 3 0),(11,.str t11),(12,.int .i64 t12)],stk:=[[(0,.ptr 0 0)]],H:=[.cells [.int .i64 o0_0,.int .i64 o0_1,.int .i64 o0_2,.int .i64 o0_3,.int .i64 o0_4,.int .i64 o0_5,.int .i64 o0_6,.own 1,.own 2],.arr (.st (.pair (.int .i64) (.pair (.pair (.int .i64) (.int .i64)) (.pair .str (.pair (.pair (.pair (.int .i64) (.int .i64)) .str) (.pair (.pair (.int .i64) (.int .i64)) .str)))))) o1,.arr .bool o2,.cells [.int .i64 o3_0,.int .i64 o3_1,.int .i64 o3_2,.str o3_3,.int .i64 o3_4,.int .i64 o3_5,.str o3_6,.int .i64 o3_7,.int .i64 o3_8,.str o3_9]],blk:=86016 }
def zqU (s:St):Option {x:q6 // s=zuT x}:=match s with
  | { env:=[(0,.ptr 0 0),(2,.str t2),(8,.int .i64 t8),(9,.ptr 3 0),(11,.str t11),(12,.int .i64 t12)],stk:=[[(0,.ptr 0 0)]],H:=[.cells [.int .i64 o0_0,.int .i64 o0_1,.int .i64 o0_2,.int .i64 o0_3,.int .i64 o0_4,.int .i64 o0_5,.int .i64 o0_6,.own 1,.own 2],.arr (.st (.pair (.int .i64) (.pair (.pair (.int .i64) (.int .i64)) (.pair .str (.pair (.pair (.pair (.int .i64) (.int .i64)) .str) (.pair (.pair (.int .i64) (.int .i64)) .str)))))) o1,.arr .bool o2,.cells [.int .i64 o3_0,.int .i64 o3_1,.int .i64 o3_2,.str o3_3,.int .i64 o3_4,.int .i64 o3_5,.str o3_6,.int .i64 o3_7,.int .i64 o3_8,.str o3_9]],blk:=86016 }=>some ⟨(t2,t8,t11,t12,o0_0,o0_1,o0_2,o0_3,o0_4,o0_5,o0_6,o1,o2,o3_0,o3_1,o3_2,o3_3,o3_4,o3_5,o3_6,o3_7,o3_8,o3_9),rfl⟩
  | _=>none
def zgV (s:St):Option q6:=pk (zqU s)
theorem zCh (s:St) (x:q6) (h:zgV s=some x):s=zuT x:=zx (o:=zqU s) h
def zjj:q6→(Ex→St→Ans)→zlm→Ans:=fun (t2,t8,t11,t12,o0_0,o0_1,o0_2,o0_3,o0_4,o0_5,o0_6,o1,o2,o3_0,o3_1,o3_2,o3_3,o3_4,o3_5,o3_6,o3_7,o3_8,o3_9) K=>fun t43_y=>K (Ex.norm) { env:=[(0,.ptr 0 0),(8,.int .i64 t8),(9,.ptr 3 0),(43,.bool t43_y)],stk:=[[(0,.ptr 0 0)]],H:=[.cells [.int .i64 o0_0,.int .i64 o0_1,.int .i64 o0_2,.int .i64 o0_3,.int .i64 o0_4,.int .i64 o0_5,.int .i64 o0_6,.own 1,.own 2],.arr (.st (.pair (.int .i64) (.pair (.pair (.int .i64) (.int .i64)) (.pair .str (.pair (.pair (.pair (.int .i64) (.int .i64)) .str) (.pair (.pair (.int .i64) (.int .i64)) .str)))))) o1,.arr .bool o2,.cells [.int .i64 o3_0,.int .i64 o3_1,.int .i64 o3_2,.str o3_3,.int .i64 o3_4,.int .i64 o3_5,.str o3_6,.int .i64 o3_7,.int .i64 o3_8,.str o3_9]],blk:=86016 }
def Jo {β:Type}:q6→(zlm→Option β)→Option β:=fun (t2,t8,t11,t12,o0_0,o0_1,o0_2,o0_3,o0_4,o0_5,o0_6,o1,o2,o3_0,o3_1,o3_2,o3_3,o3_4,o3_5,o3_6,o3_7,o3_8,o3_9) exit=>(bif t12 != (0:Int) then (exit (true)) else (exit (!t11 == t2)))
def WT (i:q6):Option zlm:=Jo i some
theorem zvn (i:q6) (k:zlm→Ans):Jo i k=za (WT i) k:=by
  obtain ⟨t2,t8,t11,t12,o0_0,o0_1,o0_2,o0_3,o0_4,o0_5,o0_6,o1,o2,o3_0,o3_1,o3_2,o3_3,o3_4,o3_5,o3_6,o3_7,o3_8,o3_9⟩:=i
  simp only [WT,Jo,zj,zg,zl,zc,zi,zm,zh]
theorem zxe (i:q6) (K:Ex→St→Ans):zA Tryz.tab zep zf (zD Tryz.tab zep zf 0 64) 70 65 zpz zly (zH 3 (exk [0,8,9,43] [6] []) K) (zuT i)=Jo i (zjj i K):=by kernel_rfl
theorem zD6:zy Tryz.prog 65 zly (zG zgV WT zjj):=zB mixed tabOk zmY 3 (exk [0,8,9,43] [6] []) zxX zCh zxe zvn
noncomputable def zFq:(Ex→St→Ans)→St→Ans:=(zG zgV WT zjj)
theorem zHl:zy Tryz.prog 65 zly zFq:=zD6
noncomputable def zOf:Ann:=(.seq .none (.seq .none (.seq .none (.seq .none (.seq .none (.seq .none (.seq (.seq .none (.seq (.cut 3 [0,2,8,9,11,12] zFq) .none)) (.seq (.cut 3 [0,8,9] zFH) .none))))))))
theorem zOr:zr Tryz.prog 65 zIK zOf:=⟨(zb _ _ _),⟨(zb _ _ _),⟨(zb _ _ _),⟨(zb _ _ _),⟨(zb _ _ _),⟨(zb _ _ _),⟨⟨(zb _ _ _),⟨zHl,(zb _ _ _)⟩⟩,⟨zIp,(zb _ _ _)⟩⟩⟩⟩⟩⟩⟩⟩
abbrev zdM:=(Int)×(List UInt8)×(Int)×(Int)×(Int)×(Int)×(Int)×(Int)×(Int)×(List (Int×(Int×Int)×List UInt8×((Int×Int)×List UInt8)×(Int×Int)×List UInt8))×(List Bool)
abbrev zH4:=(Int)×(List (Int×(Int×Int)×List UInt8×((Int×Int)×List UInt8)×(Int×Int)×List UInt8))×(List Bool)
def zlr {β:Type}:zdM→(zH4→Option β)→Option β:=fun (a1,a2,o0_0,o0_1,o0_2,o0_3,o0_4,o0_5,o0_6,o1,o2) exit=>(za (w8 (a2)) fun _=>(za (ZY ((1:Int),a2,(0:Int))) (unP fun r=>unP fun o0_0_2 o0_1_2=>(za (ZY ((1:Int),o0_0_2,o0_1_2)) (unP fun r_2=>unP fun o0_0_3 o0_1_3=>(za (zaV (o0_0_3,o0_1_3)) fun r_3=>(za (yB (r_3,o0_0_3,o0_1_3)) (unP fun r_4=>unP fun o0_0_4 o0_1_4=>(za (ze6 (r_4)) (unP fun r_0_0=>unP fun r_0_1=>unP fun r_0_2=>unP fun r_0_3=>unP fun r_0_4=>unP fun r_0_5=>unP fun r_0_6=>unP fun r_0_7=>unP fun r_0_8=>unP fun r_0_9 r_1=>(bif r_1 != (0:Int) then (exit ((4:Int),o1,o2)) else (za (zaT (a1,r_0_0,r_0_1,r_0_2,r_0_3,r_0_4,r_0_5,r_0_6,r_0_7,r_0_8,r_0_9,r_2 == (1:Int))) (unP fun r_0 r_1_2=>(za (WT (a2,r_2,r_0,r_1_2,o0_0,o0_1,o0_2,o0_3,o0_4,o0_5,o0_6,o1,o2,r_0_0,r_0_1,r_0_2,r_0_3,r_0_4,r_0_5,r_0_6,r_0_7,r_0_8,r_0_9)) fun t43=>(bif t43 then (exit ((4:Int),o1,o2)) else (za (Wt (r_2,o0_0,o0_1,o0_2,o0_3,o0_4,o0_5,o0_6,o1,o2,r_0_0,r_0_1,r_0_2,r_0_3,r_0_4,r_0_5,r_0_6,r_0_7,r_0_8,r_0_9)) (unP fun o1_2 o2_2=>(exit ((0:Int),o1_2,o2_2)))))))))))))))))))
def zb3 (a:zdM):Option zH4:=zlr a some
theorem zNq (a:zdM) (k:zH4→Ans):zlr a k=za (zb3 a) k:=by
  obtain ⟨a1,a2,o0_0,o0_1,o0_2,o0_3,o0_4,o0_5,o0_6,o1,o2⟩:=a
  simp only [zb3,zlr,zj,zg,zl,zc,zi,zm,zh]
def zlG:zdM→List AV×List AE.Obj:=fun (a1,a2,o0_0,o0_1,o0_2,o0_3,o0_4,o0_5,o0_6,o1,o2)=>([.ptr 0 0,.int .i64 a1,.str a2],[.cells [.int .i64 o0_0,.int .i64 o0_1,.int .i64 o0_2,.int .i64 o0_3,.int .i64 o0_4,.int .i64 o0_5,.int .i64 o0_6,.own 1,.own 2],.arr (.st (.pair (.int .i64) (.pair (.pair (.int .i64) (.int .i64)) (.pair .str (.pair (.pair (.pair (.int .i64) (.int .i64)) .str) (.pair (.pair (.int .i64) (.int .i64)) .str)))))) o1,.arr .bool o2])
def zAd (l:List AV) (H:List AE.Obj):Option {a:zdM // (l,H)=zlG a}:=match l,H with
  | [.ptr 0 0,.int .i64 a1,.str a2],[.cells [.int .i64 o0_0,.int .i64 o0_1,.int .i64 o0_2,.int .i64 o0_3,.int .i64 o0_4,.int .i64 o0_5,.int .i64 o0_6,.own 1,.own 2],.arr (.st (.pair (.int .i64) (.pair (.pair (.int .i64) (.int .i64)) (.pair .str (.pair (.pair (.pair (.int .i64) (.int .i64)) .str) (.pair (.pair (.int .i64) (.int .i64)) .str)))))) o1,.arr .bool o2]=>some ⟨(a1,a2,o0_0,o0_1,o0_2,o0_3,o0_4,o0_5,o0_6,o1,o2),rfl⟩
  | _,_=>none
def zGr (l:List AV) (H:List AE.Obj):Option zdM:=pk (zAd l H)
theorem zJ4 (l:List AV) (H:List AE.Obj) (a:zdM) (h:zGr l H=some a):(l,H)=zlG a:=zx (o:=zAd l H) h
def zNZ:zdM→(AV→List AE.Obj→Ans)→zH4→Ans:=fun (a1,a2,o0_0,o0_1,o0_2,o0_3,o0_4,o0_5,o0_6,o1,o2) K=>unP fun r_y=>unP fun o1_y o2_y=>K (.int .i64 r_y) [.cells [.int .i64 o0_0,.int .i64 o0_1,.int .i64 o0_2,.int .i64 o0_3,.int .i64 o0_4,.int .i64 o0_5,.int .i64 o0_6,.own 1,.own 2],.arr (.st (.pair (.int .i64) (.pair (.pair (.int .i64) (.int .i64)) (.pair .str (.pair (.pair (.pair (.int .i64) (.int .i64)) .str) (.pair (.pair (.int .i64) (.int .i64)) .str)))))) o1_y,.arr .bool o2_y]
theorem zR0 (a:zdM) (K:AV→List AE.Obj→Ans):fnE Tryz.tab zep zf 0 70 21 Tryz.f21.ntmps Tryz.f21.results.toList zOf zIK (zlG a).1 (zlG a).2 K=zlr a (zNZ a K):=by kernel_rfl
def zVw (a:zdM) (K:AV→List AE.Obj→Ans):Ans:=za (zb3 a) fun y=>zNZ a K y
def zUV:List AV→List AE.Obj→(AV→List AE.Obj→Ans)→Ans:=fun l H K=>za (zGr l H) fun a=>zVw a K
theorem zS0:zP Tryz.prog 21 zUV:=ZN (hint:=zf) (d:=0) (n:=70) mixed tabOk zmY Tryz.func21 (zI (by kernel_rfl)) (by decide +kernel) zOr zJ4 zR0 zNq
--@ dump_end
noncomputable def zMC:Env:=[(58,.pure je),(52,.pure Fq4),(57,.pure ziN)]
theorem zPc:zd Tryz.prog zMC:=zd.cons zb1 (zd.cons zeo (zd.cons zae (zd.nil)))
noncomputable def zUJ:Code:=Tryz.f22.body.getD .skip
noncomputable def zNr:Ann := .none
theorem zOw:zr Tryz.prog 10 zUJ zNr:=(zb _ _ _)
abbrev zcf:=(List (List UInt8))
abbrev zBw:=(List UInt8)
def zoW {β:Type}:zcf→(zBw→Option β)→Option β:=fun a0 exit=>(za (Zt ([],(↑(List.length a0):Int),(2:Int))) fun r=>(za (Y0 (a0,[])) fun r_2=>(za (zap (r_2)) fun r_3=>(bif Nat.ble (List.length r+List.length r_3) (9223372036854775807:Nat) then (exit (r++r_3)) else none))))
def zcr (a:zcf):Option zBw:=zoW a some
theorem zKR (a:zcf) (k:zBw→Ans):zoW a k=za (zcr a) k:=by
  obtain z:=a
  simp only [zcr,zoW,zj,zg,zl,zc,zi,zm,zh]
def zsM:zcf→List AV:=fun a0=>[.ro .str a0]
def zyC (l:List AV):Option {a:zcf // l=zsM a}:=match l with
  | [.ro .str a0]=>some ⟨(a0),rfl⟩
  | _=>none
def zE8 (l:List AV):Option zcf:=pk (zyC l)
theorem zH8 (l:List AV) (a:zcf) (h:zE8 l=some a):l=zsM a:=zx (o:=zyC l) h
def zsD:zcf→zBw→AV:=fun a0=>fun r_y => .str r_y
theorem zJD : ∀(a:zcf) (y:zBw),(zsD a y).closed1=true:=by
  rintro z y <;> first | rfl | exact Empty.elim y
theorem zQd (a:zcf):fnE Tryz.tab zMC zf 0 70 22 Tryz.f22.ntmps Tryz.f22.results.toList zNr zUJ (zsM a) [] (fun v _=>some (v,[]))=zoW a (fun y=>some (zsD a y,[])):=by kernel_rfl
def zVF (a:zcf) (K:AV→Ans):Ans:=za (zcr a) fun y=>K (zsD a y)
def zIF:List AV→(AV→Ans)→Ans:=fun l K=>za (zE8 l) fun a=>zVF a K
theorem zr3:zV Tryz.prog 22 zIF:=zX (hint:=zf) (d:=0) (n:=70) mixed tabOk zPc Tryz.func22 (zI (by kernel_rfl)) (by decide +kernel) zOw zH8 zQd zKR zJD
--@ dump_Check
noncomputable def zai:Env:=[(34,.pure zKv),(35,.pure zAp)]
theorem zkb:zd Tryz.prog zai:=zd.cons zsm (zd.cons zka (zd.nil))
noncomputable def bq6:Code:=Tryz.f14.body.getD .skip
noncomputable def zrG:Code:=zL [1,1,1,1,0,1,0,0,1,1,0] bq6
noncomputable def zvO:Ann := .none
theorem zyF:zr Tryz.prog 55 zrG zvO:=(zb _ _ _)
abbrev Jg:=(Int)×(List (Int×(Int×Int)×List UInt8×((Int×Int)×List UInt8)×(Int×Int)×List UInt8))×(Int)×(Int)×(Int)×(Int)×(Int)×(Int)×(Int)×(Int)×(Int)×(List (Int×(Int×Int)×List UInt8×((Int×Int)×List UInt8)×(Int×Int)×List UInt8))×(List Bool)
abbrev zoo:=((Int)) ⊕ ((Int))
def zzV:Jg→St:=fun (t5,t32,t33,t34,o0_0,o0_1,o0_2,o0_3,o0_4,o0_5,o0_6,o0_7,o0_8)=>{ env:=[(1,.ptr 0 0),(5,.int .i64 t5),(32,.ro (.st (.pair (.int .i64) (.pair (.pair (.int .i64) (.int .i64)) (.pair .str (.pair (.pair (.pair (.int .i64) (.int .i64)) .str) (.pair (.pair (.int .i64) (.int .i64)) .str)))))) t32),(33,.int .i64 t33),(34,.int .i64 t34)],stk:=[[]],H:=[.cells [.int .i64 o0_0,.int .i64 o0_1,.int .i64 o0_2,.int .i64 o0_3,.int .i64 o0_4,.int .i64 o0_5,.int .i64 o0_6,.ro (.st (.pair (.int .i64) (.pair (.pair (.int .i64) (.int .i64)) (.pair .str (.pair (.pair (.pair (.int .i64) (.int .i64)) .str) (.pair (.pair (.int .i64) (.int .i64)) .str)))))) o0_7,.ro .bool o0_8]],blk:=57344 }
def zvY (s:St):Option {x:Jg // s=zzV x}:=match s with
  | { env:=[(1,.ptr 0 0),(5,.int .i64 t5),(32,.ro (.st (.pair (.int .i64) (.pair (.pair (.int .i64) (.int .i64)) (.pair .str (.pair (.pair (.pair (.int .i64) (.int .i64)) .str) (.pair (.pair (.int .i64) (.int .i64)) .str)))))) t32),(33,.int .i64 t33),(34,.int .i64 t34)],stk:=[[]],H:=[.cells [.int .i64 o0_0,.int .i64 o0_1,.int .i64 o0_2,.int .i64 o0_3,.int .i64 o0_4,.int .i64 o0_5,.int .i64 o0_6,.ro (.st (.pair (.int .i64) (.pair (.pair (.int .i64) (.int .i64)) (.pair .str (.pair (.pair (.pair (.int .i64) (.int .i64)) .str) (.pair (.pair (.int .i64) (.int .i64)) .str)))))) o0_7,.ro .bool o0_8]],blk:=57344 }=>some ⟨(t5,t32,t33,t34,o0_0,o0_1,o0_2,o0_3,o0_4,o0_5,o0_6,o0_7,o0_8),rfl⟩
  | _=>none
def zmL (s:St):Option Jg:=pk (zvY s)
theorem zEh (s:St) (x:Jg) (h:zmL s=some x):s=zzV x:=zx (o:=zvY s) h
def zmS:Jg→(Ex→St→Ans)→zoo→Ans:=fun (t5,t32,t33,t34,o0_0,o0_1,o0_2,o0_3,o0_4,o0_5,o0_6,o0_7,o0_8) K=>(Sum.elim (fun t2_y=>K (Ex.ret) { env:=[(2,.int .i64 t2_y)],stk:=[[]],H:=[],blk:=57345 }) (fun t5_y=>K (Ex.norm) { env:=[(1,.ptr 0 0),(5,.int .i64 t5_y),(32,.ro (.st (.pair (.int .i64) (.pair (.pair (.int .i64) (.int .i64)) (.pair .str (.pair (.pair (.pair (.int .i64) (.int .i64)) .str) (.pair (.pair (.int .i64) (.int .i64)) .str)))))) t32),(33,.int .i64 t33),(34,.int .i64 t34)],stk:=[[]],H:=[.cells [.int .i64 o0_0,.int .i64 o0_1,.int .i64 o0_2,.int .i64 o0_3,.int .i64 o0_4,.int .i64 o0_5,.int .i64 o0_6,.ro (.st (.pair (.int .i64) (.pair (.pair (.int .i64) (.int .i64)) (.pair .str (.pair (.pair (.pair (.int .i64) (.int .i64)) .str) (.pair (.pair (.int .i64) (.int .i64)) .str)))))) o0_7,.ro .bool o0_8]],blk:=57345 }))
def js {β:Type}:Jg→(zoo→Option β)→Option β:=fun (t5,t32,t33,t34,o0_0,o0_1,o0_2,o0_3,o0_4,o0_5,o0_6,o0_7,o0_8) exit=>(za (nth t32 t34) fun x=>(za (JP (x.fst,x.snd.fst.fst,x.snd.fst.snd,x.snd.snd.fst,x.snd.snd.snd.fst.fst.fst,x.snd.snd.snd.fst.fst.snd,x.snd.snd.snd.fst.snd,x.snd.snd.snd.snd.fst.fst,x.snd.snd.snd.snd.fst.snd,x.snd.snd.snd.snd.snd)) fun r=>(bif r != (0:Int) then (exit (Sum.inl (r))) else (bif x.fst == (1:Int) then (exit (Sum.inr (IntKind.wrap .i64 (t5+(1:Int))))) else (exit (Sum.inr (t5)))))))
def wV (i:Jg):Option zoo:=js i some
theorem zwS (i:Jg) (k:zoo→Ans):js i k=za (wV i) k:=by
  obtain ⟨t5,t32,t33,t34,o0_0,o0_1,o0_2,o0_3,o0_4,o0_5,o0_6,o0_7,o0_8⟩:=i
  simp only [wV,js,zj,zg,zl,zc,zi,zm,zh]
theorem zCn (i:Jg) (K:Ex→St→Ans):zA Tryz.tab zai zf (zD Tryz.tab zai zf 0 64) 70 55 zvO zrG (zH 0 (exk [1,5,32,33,34] [2] []) K) (zzV i)=js i (zmS i K):=by kernel_rfl
theorem zHn:zy Tryz.prog 55 zrG (zG zmL wV zmS):=zB mixed tabOk zkb 0 (exk [1,5,32,33,34] [2] []) zyF zEh zCn zwS
noncomputable def zLz:(Ex→St→Ans)→St→Ans:=(zG zmL wV zmS)
theorem zLn:zy Tryz.prog 55 zrG zLz:=zHn
noncomputable def zjx:Code:=zL [1,1,1,1,0,1,0,0] bq6
noncomputable def zgJ:Ann := .at 0 [1,5,32,33,34] (.loop (.seq .none (.seq .none (.seq (.cut 0 [1,5,32,33,34] zLz) .none))))
theorem zzC:zr Tryz.prog 55 (.loop zjx) zgJ:=yG ⟨(zb _ _ _),⟨(zb _ _ _),⟨zLn,(zb _ _ _)⟩⟩⟩
abbrev jY:=(List (Int×(Int×Int)×List UInt8×((Int×Int)×List UInt8)×(Int×Int)×List UInt8))×(Int)×(Int)×(Int)×(Int)×(Int)×(Int)×(Int)×(Int)×(List (Int×(Int×Int)×List UInt8×((Int×Int)×List UInt8)×(Int×Int)×List UInt8))×(List Bool)
abbrev zqv:=((Int)) ⊕ ((Int))
abbrev qF:=(Int)×(Int)
def zq7:jY→qF→St:=fun (t32,t33,o0_0,o0_1,o0_2,o0_3,o0_4,o0_5,o0_6,o0_7,o0_8) (t5,t34)=>{ env:=[(1,.ptr 0 0),(5,.int .i64 t5),(32,.ro (.st (.pair (.int .i64) (.pair (.pair (.int .i64) (.int .i64)) (.pair .str (.pair (.pair (.pair (.int .i64) (.int .i64)) .str) (.pair (.pair (.int .i64) (.int .i64)) .str)))))) t32),(33,.int .i64 t33),(34,.int .i64 t34)],stk:=[[]],H:=[.cells [.int .i64 o0_0,.int .i64 o0_1,.int .i64 o0_2,.int .i64 o0_3,.int .i64 o0_4,.int .i64 o0_5,.int .i64 o0_6,.ro (.st (.pair (.int .i64) (.pair (.pair (.int .i64) (.int .i64)) (.pair .str (.pair (.pair (.pair (.int .i64) (.int .i64)) .str) (.pair (.pair (.int .i64) (.int .i64)) .str)))))) o0_7,.ro .bool o0_8]],blk:=57344 }
def zvE (s:St):Option {x:jY×qF // s=zq7 x.1 x.2}:=match s with
  | { env:=[(1,.ptr 0 0),(5,.int .i64 t5),(32,.ro (.st (.pair (.int .i64) (.pair (.pair (.int .i64) (.int .i64)) (.pair .str (.pair (.pair (.pair (.int .i64) (.int .i64)) .str) (.pair (.pair (.int .i64) (.int .i64)) .str)))))) t32),(33,.int .i64 t33),(34,.int .i64 t34)],stk:=[[]],H:=[.cells [.int .i64 o0_0,.int .i64 o0_1,.int .i64 o0_2,.int .i64 o0_3,.int .i64 o0_4,.int .i64 o0_5,.int .i64 o0_6,.ro (.st (.pair (.int .i64) (.pair (.pair (.int .i64) (.int .i64)) (.pair .str (.pair (.pair (.pair (.int .i64) (.int .i64)) .str) (.pair (.pair (.int .i64) (.int .i64)) .str)))))) o0_7,.ro .bool o0_8]],blk:=57344 }=>some ⟨((t32,t33,o0_0,o0_1,o0_2,o0_3,o0_4,o0_5,o0_6,o0_7,o0_8),(t5,t34)),rfl⟩
  | _=>none
def znH (s:St):Option (jY×qF):=pk (zvE s)
theorem zDX (s:St) (x:jY×qF) (h:znH s=some x):s=zq7 x.1 x.2:=zx (o:=zvE s) h
def znd:jY→(Ex→St→Ans)→zqv→Ans:=fun (t32,t33,o0_0,o0_1,o0_2,o0_3,o0_4,o0_5,o0_6,o0_7,o0_8) K=>(Sum.elim (fun t2_y=>K (Ex.ret) { env:=[(2,.int .i64 t2_y)],stk:=[[]],H:=[],blk:=57345 }) (fun t5_y=>K (Ex.exit 0) { env:=[(1,.ptr 0 0),(5,.int .i64 t5_y)],stk:=[[]],H:=[.cells [.int .i64 o0_0,.int .i64 o0_1,.int .i64 o0_2,.int .i64 o0_3,.int .i64 o0_4,.int .i64 o0_5,.int .i64 o0_6,.ro (.st (.pair (.int .i64) (.pair (.pair (.int .i64) (.int .i64)) (.pair .str (.pair (.pair (.pair (.int .i64) (.int .i64)) .str) (.pair (.pair (.int .i64) (.int .i64)) .str)))))) o0_7,.ro .bool o0_8]],blk:=57344 }))
def qG {β:Type}:jY→qF→(qF→Option β)→(zqv→Option β)→Option β:=fun (t32,t33,o0_0,o0_1,o0_2,o0_3,o0_4,o0_5,o0_6,o0_7,o0_8) (t5,t34) next exit=>(bif decide (t34<t33) then (za (wV (t5,t32,t33,t34,o0_0,o0_1,o0_2,o0_3,o0_4,o0_5,o0_6,o0_7,o0_8)) (Sum.elim (fun t2=>(exit (Sum.inl (t2)))) (fun t5_2=>(next (t5_2,IntKind.wrap .i64 (t34+(1:Int))))))) else (exit (Sum.inr (t5))))
def yN (i:jY) (v:qF):Option (qF ⊕ zqv):=qG i v (fun v=>some (.inl v)) (fun y=>some (.inr y))
theorem zwK (i:jY) (v:qF) (next:qF→Ans) (exit:zqv→Ans):qG i v next exit=za (yN i v) (Sum.elim next exit):=by
  obtain ⟨t32,t33,o0_0,o0_1,o0_2,o0_3,o0_4,o0_5,o0_6,o0_7,o0_8⟩:=i
  obtain ⟨t5,t34⟩:=v
  simp only [yN,qG,zj,zg,zl,zc,zi,zm,zh,Sum.elim_inl,Sum.elim_inr]
theorem zz4 (n:Nat) (i:jY) (v:qF) (K:Ex→St→Ans):zA Tryz.tab zai zf (zD Tryz.tab zai zf 0 64) (n+1) 55 zgJ (.loop zjx) (zH 0 (exk [1,5] [2] [(0,[1,5])]) K) (zq7 i v)=qG i v (fun v'=>zA Tryz.tab zai zf (zD Tryz.tab zai zf 0 64) n 55 zgJ (.loop zjx) (zH 0 (exk [1,5] [2] [(0,[1,5])]) K) (zq7 i v')) (fun y=>znd i K y):=by kernel_rfl
theorem zKH:zy Tryz.prog 55 (.loop zjx) (y9 znH yN znd):=yQ mixed tabOk zkb 0 (exk [1,5] [2] [(0,[1,5])]) zzC zDX zz4 zwK
noncomputable def zOL:(Ex→St→Ans)→St→Ans:=(y9 znH yN znd)
theorem zMJ:zy Tryz.prog 55 (.loop zjx) zOL:=zKH
noncomputable def zpu:Code:=zL [1,1,0,1,0] bq6
noncomputable def zv2:Ann := .none
theorem zCL:zr Tryz.prog 55 zpu zv2:=(zb _ _ _)
abbrev jH:=(Int)×(Int)×(Int)×(Int)×(Int)×(Int)×(Int)×(Int)×(List (Int×(Int×Int)×List UInt8×((Int×Int)×List UInt8)×(Int×Int)×List UInt8))×(List Bool)
abbrev zoG:=(Bool)
def zzf:jH→St:=fun (t4,o0_0,o0_1,o0_2,o0_3,o0_4,o0_5,o0_6,o0_7,o0_8)=>{ env:=[(1,.ptr 0 0),(4,.int .i64 t4)],stk:=[[]],H:=[.cells [.int .i64 o0_0,.int .i64 o0_1,.int .i64 o0_2,.int .i64 o0_3,.int .i64 o0_4,.int .i64 o0_5,.int .i64 o0_6,.ro (.st (.pair (.int .i64) (.pair (.pair (.int .i64) (.int .i64)) (.pair .str (.pair (.pair (.pair (.int .i64) (.int .i64)) .str) (.pair (.pair (.int .i64) (.int .i64)) .str)))))) o0_7,.ro .bool o0_8]],blk:=57344 }
def zv4 (s:St):Option {x:jH // s=zzf x}:=match s with
  | { env:=[(1,.ptr 0 0),(4,.int .i64 t4)],stk:=[[]],H:=[.cells [.int .i64 o0_0,.int .i64 o0_1,.int .i64 o0_2,.int .i64 o0_3,.int .i64 o0_4,.int .i64 o0_5,.int .i64 o0_6,.ro (.st (.pair (.int .i64) (.pair (.pair (.int .i64) (.int .i64)) (.pair .str (.pair (.pair (.pair (.int .i64) (.int .i64)) .str) (.pair (.pair (.int .i64) (.int .i64)) .str)))))) o0_7,.ro .bool o0_8]],blk:=57344 }=>some ⟨(t4,o0_0,o0_1,o0_2,o0_3,o0_4,o0_5,o0_6,o0_7,o0_8),rfl⟩
  | _=>none
def znG (s:St):Option jH:=pk (zv4 s)
theorem zDr (s:St) (x:jH) (h:znG s=some x):s=zzf x:=zx (o:=zv4 s) h
def zni:jH→(Ex→St→Ans)→zoG→Ans:=fun (t4,o0_0,o0_1,o0_2,o0_3,o0_4,o0_5,o0_6,o0_7,o0_8) K=>fun t30_y=>K (Ex.norm) { env:=[(1,.ptr 0 0),(30,.bool t30_y)],stk:=[[]],H:=[.cells [.int .i64 o0_0,.int .i64 o0_1,.int .i64 o0_2,.int .i64 o0_3,.int .i64 o0_4,.int .i64 o0_5,.int .i64 o0_6,.ro (.st (.pair (.int .i64) (.pair (.pair (.int .i64) (.int .i64)) (.pair .str (.pair (.pair (.pair (.int .i64) (.int .i64)) .str) (.pair (.pair (.int .i64) (.int .i64)) .str)))))) o0_7,.ro .bool o0_8]],blk:=57344 }
def zaR {β:Type}:jH→(zoG→Option β)→Option β:=fun (t4,o0_0,o0_1,o0_2,o0_3,o0_4,o0_5,o0_6,o0_7,o0_8) exit=>(bif (↑(List.length o0_7):Int) != t4 then (exit (true)) else (exit ((↑(List.length o0_8):Int) != t4)))
def qQ (i:jH):Option zoG:=zaR i some
theorem zwE (i:jH) (k:zoG→Ans):zaR i k=za (qQ i) k:=by
  obtain ⟨t4,o0_0,o0_1,o0_2,o0_3,o0_4,o0_5,o0_6,o0_7,o0_8⟩:=i
  simp only [qQ,zaR,zj,zg,zl,zc,zi,zm,zh]
theorem zzU (i:jH) (K:Ex→St→Ans):zA Tryz.tab zai zf (zD Tryz.tab zai zf 0 64) 70 55 zv2 zpu (zH 0 (exk [1,30] [2] []) K) (zzf i)=zaR i (zni i K):=by kernel_rfl
theorem zHp:zy Tryz.prog 55 zpu (zG znG qQ zni):=zB mixed tabOk zkb 0 (exk [1,30] [2] []) zCL zDr zzU zwE
noncomputable def zMw:(Ex→St→Ans)→St→Ans:=(zG znG qQ zni)
theorem zL5:zy Tryz.prog 55 zpu zMw:=zHp
noncomputable def zSw:Ann:=(.seq .none (.seq .none (.seq (.seq .none (.seq (.cut 0 [1,4] zMw) .none)) (.seq .none (.seq (.seq .none (.block (.cut 0 [1,5,32,33,34] zOL))) .none)))))
theorem zR5:zr Tryz.prog 55 bq6 zSw:=⟨(zb _ _ _),⟨(zb _ _ _),⟨⟨(zb _ _ _),⟨zL5,(zb _ _ _)⟩⟩,⟨(zb _ _ _),⟨⟨(zb _ _ _),zMJ⟩,(zb _ _ _)⟩⟩⟩⟩⟩
abbrev Aq6:=(Int)×(Int)×(Int)×(Int)×(Int)×(Int)×(Int)×(List (Int×(Int×Int)×List UInt8×((Int×Int)×List UInt8)×(Int×Int)×List UInt8))×(List Bool)
abbrev Yq6:=(Int)
def zzX {β:Type}:Aq6→(Yq6→Option β)→Option β:=fun (a0_0,a0_1,a0_2,a0_3,a0_4,a0_5,a0_6,a0_7,a0_8) exit=>(za (zcU (a0_0,a0_1,a0_2,a0_3,a0_4,a0_5,a0_6)) fun r=>(bif r != (0:Int) then (exit (r)) else (za (qQ (a0_4,a0_0,a0_1,a0_2,a0_3,a0_4,a0_5,a0_6,a0_7,a0_8)) fun t30=>(bif t30 then (exit ((12:Int))) else (za (zZ (yN (a0_7,(↑(List.length a0_7):Int),a0_0,a0_1,a0_2,a0_3,a0_4,a0_5,a0_6,a0_7,a0_8)) Zo ((0:Int),(0:Int))) (Sum.elim (fun t2=>(exit (t2))) (fun t5=>(bif decide (t5>a0_5) then (exit ((16:Int))) else (exit ((0:Int)))))))))))
def zfh (a:Aq6):Option Yq6:=zzX a some
theorem zRe (a:Aq6) (k:Yq6→Ans):zzX a k=za (zfh a) k:=by
  obtain ⟨a0_0,a0_1,a0_2,a0_3,a0_4,a0_5,a0_6,a0_7,a0_8⟩:=a
  simp only [zfh,zzX,zj,zg,zl,zc,zi,zm,zh]
def zAI:Aq6→List AV:=fun (a0_0,a0_1,a0_2,a0_3,a0_4,a0_5,a0_6,a0_7,a0_8)=>[.agg [.int .i64 a0_0,.int .i64 a0_1,.int .i64 a0_2,.int .i64 a0_3,.int .i64 a0_4,.int .i64 a0_5,.int .i64 a0_6,.ro (.st (.pair (.int .i64) (.pair (.pair (.int .i64) (.int .i64)) (.pair .str (.pair (.pair (.pair (.int .i64) (.int .i64)) .str) (.pair (.pair (.int .i64) (.int .i64)) .str)))))) a0_7,.ro .bool a0_8]]
def zGg (l:List AV):Option {a:Aq6 // l=zAI a}:=match l with
  | [.agg [.int .i64 a0_0,.int .i64 a0_1,.int .i64 a0_2,.int .i64 a0_3,.int .i64 a0_4,.int .i64 a0_5,.int .i64 a0_6,.ro (.st (.pair (.int .i64) (.pair (.pair (.int .i64) (.int .i64)) (.pair .str (.pair (.pair (.pair (.int .i64) (.int .i64)) .str) (.pair (.pair (.int .i64) (.int .i64)) .str)))))) a0_7,.ro .bool a0_8]]=>some ⟨(a0_0,a0_1,a0_2,a0_3,a0_4,a0_5,a0_6,a0_7,a0_8),rfl⟩
  | _=>none
def zM5 (l:List AV):Option Aq6:=pk (zGg l)
theorem zMe (l:List AV) (a:Aq6) (h:zM5 l=some a):l=zAI a:=zx (o:=zGg l) h
def zBg:Aq6→Yq6→AV:=fun (a0_0,a0_1,a0_2,a0_3,a0_4,a0_5,a0_6,a0_7,a0_8)=>fun r_y => .int .i64 r_y
theorem zLE : ∀(a:Aq6) (y:Yq6),(zBg a y).closed1=true:=by
  rintro ⟨a0_0,a0_1,a0_2,a0_3,a0_4,a0_5,a0_6,a0_7,a0_8⟩ y <;> first | rfl | exact Empty.elim y
theorem zSI (a:Aq6):fnE Tryz.tab zai zf 0 70 14 Tryz.f14.ntmps Tryz.f14.results.toList zSw bq6 (zAI a) [] (fun v _=>some (v,[]))=zzX a (fun y=>some (zBg a y,[])):=by kernel_rfl
def zWq (a:Aq6) (K:AV→Ans):Ans:=za (zfh a) fun y=>K (zBg a y)
def Fq6:List AV→(AV→Ans)→Ans:=fun l K=>za (zM5 l) fun a=>zWq a K
theorem zCD:zV Tryz.prog 14 Fq6:=zX (hint:=zf) (d:=0) (n:=70) mixed tabOk zkb Tryz.func14 (zI (by kernel_rfl)) (by decide +kernel) zR5 zMe zSI zRe zLE
--@ dump_Get
noncomputable def zc4:Env:=[(19,.func zQn),(20,.pure zRP),(21,.func zUV),(22,.pure zIF),(14,.pure Fq6)]
theorem ztl:zd Tryz.prog zc4:=zd.cons zEM (zd.cons zFa (zd.cons zS0 (zd.cons zr3 (zd.cons zCD (zd.nil)))))
noncomputable def bq7:Code:=Tryz.f7.body.getD .skip
noncomputable def zh0:Code:=zL [1,1,1,1,1,1,1,0,1,0,0] bq7
noncomputable def ziq:Ann := .at 0 [0,2,4,5,6,8,51,52,53] (.loop .none)
theorem zyS:zr Tryz.prog 83 (.loop zh0) ziq:=yG (zb _ _ _)
abbrev jW:=(List (List UInt8))×(Int)×(Nat)×(Int)×(Int)×(Int)×(Int)×(Int)×(Int)×(Int)×(Int)×(List (List UInt8))
abbrev zn7:=((Int)) ⊕ ((List (Int×(Int×Int)×List UInt8×((Int×Int)×List UInt8)×(Int×Int)×List UInt8))×(List Bool))
abbrev qt:=(Int)×(List (Int×(Int×Int)×List UInt8×((Int×Int)×List UInt8)×(Int×Int)×List UInt8))×(List Bool)
def zps:jW→qt→St:=fun (t0,t8,t51_2,t52,o2_0,o2_1,o2_2,o2_3,o2_4,o2_5,o2_6,o3) (t53,o8,o9)=>{ env:=[(0,.ro .str t0),(2,.ptr 0 0),(4,.ptr 1 0),(5,.ptr 2 0),(6,.own 3),(8,.int .i64 t8),(51,.sub 3 (1) t51_2 1),(52,.int .i64 t52),(53,.int .i64 t53)],stk:=[[]],H:=[.cells [.int .i64 (0),.int .i64 (0),.int .i64 (0),.int .i64 (0),.int .i64 (0),.int .i64 (0),.int .i64 (0),.own 4,.own 5],.cells [.int .i64 (0),.int .i64 (0),.int .i64 (0),.int .i64 (0),.int .i64 (0),.int .i64 (0),.int .i64 (0),.own 6,.own 7],.cells [.int .i64 o2_0,.int .i64 o2_1,.int .i64 o2_2,.int .i64 o2_3,.int .i64 o2_4,.int .i64 o2_5,.int .i64 o2_6,.own 8,.own 9],.arr .str o3,.arr (.st (.pair (.int .i64) (.pair (.pair (.int .i64) (.int .i64)) (.pair .str (.pair (.pair (.pair (.int .i64) (.int .i64)) .str) (.pair (.pair (.int .i64) (.int .i64)) .str)))))) ([]),.arr .bool ([]),.arr (.st (.pair (.int .i64) (.pair (.pair (.int .i64) (.int .i64)) (.pair .str (.pair (.pair (.pair (.int .i64) (.int .i64)) .str) (.pair (.pair (.int .i64) (.int .i64)) .str)))))) ([]),.arr .bool ([]),.arr (.st (.pair (.int .i64) (.pair (.pair (.int .i64) (.int .i64)) (.pair .str (.pair (.pair (.pair (.int .i64) (.int .i64)) .str) (.pair (.pair (.int .i64) (.int .i64)) .str)))))) o8,.arr .bool o9],blk:=28672 }
def zvD (s:St):Option {x:jW×qt // s=zps x.1 x.2}:=match s with
  | { env:=[(0,.ro .str t0),(2,.ptr 0 0),(4,.ptr 1 0),(5,.ptr 2 0),(6,.own 3),(8,.int .i64 t8),(51,.sub 3 r2 t51_2 1),(52,.int .i64 t52),(53,.int .i64 t53)],stk:=[[]],H:=[.cells [.int .i64 r6,.int .i64 r7,.int .i64 r8,.int .i64 r9,.int .i64 r10,.int .i64 r11,.int .i64 r12,.own 4,.own 5],.cells [.int .i64 r13,.int .i64 r14,.int .i64 r15,.int .i64 r16,.int .i64 r17,.int .i64 r18,.int .i64 r19,.own 6,.own 7],.cells [.int .i64 o2_0,.int .i64 o2_1,.int .i64 o2_2,.int .i64 o2_3,.int .i64 o2_4,.int .i64 o2_5,.int .i64 o2_6,.own 8,.own 9],.arr .str o3,.arr (.st (.pair (.int .i64) (.pair (.pair (.int .i64) (.int .i64)) (.pair .str (.pair (.pair (.pair (.int .i64) (.int .i64)) .str) (.pair (.pair (.int .i64) (.int .i64)) .str)))))) r28,.arr .bool r29,.arr (.st (.pair (.int .i64) (.pair (.pair (.int .i64) (.int .i64)) (.pair .str (.pair (.pair (.pair (.int .i64) (.int .i64)) .str) (.pair (.pair (.int .i64) (.int .i64)) .str)))))) r30,.arr .bool r31,.arr (.st (.pair (.int .i64) (.pair (.pair (.int .i64) (.int .i64)) (.pair .str (.pair (.pair (.pair (.int .i64) (.int .i64)) .str) (.pair (.pair (.int .i64) (.int .i64)) .str)))))) o8,.arr .bool o9],blk:=28672 }=>if h2:r2=1 then if h6:r6=0 then if h7:r7=0 then if h8:r8=0 then if h9:r9=0 then if h10:r10=0 then if h11:r11=0 then if h12:r12=0 then if h13:r13=0 then if h14:r14=0 then if h15:r15=0 then if h16:r16=0 then if h17:r17=0 then if h18:r18=0 then if h19:r19=0 then if h28:r28=[] then if h29:r29=[] then if h30:r30=[] then if h31:r31=[] then some ⟨((t0,t8,t51_2,t52,o2_0,o2_1,o2_2,o2_3,o2_4,o2_5,o2_6,o3),(t53,o8,o9)),by subst h2 h6 h7 h8 h9 h10 h11 h12 h13 h14 h15 h16 h17 h18 h19 h28 h29 h30 h31;rfl⟩ else none else none else none else none else none else none else none else none else none else none else none else none else none else none else none else none else none else none else none
  | _=>none
def znm (s:St):Option (jW×qt):=pk (zvD s)
theorem zEu (s:St) (x:jW×qt) (h:znm s=some x):s=zps x.1 x.2:=zx (o:=zvD s) h
def znQ:jW→(Ex→St→Ans)→zn7→Ans:=fun (t0,t8,t51_2,t52,o2_0,o2_1,o2_2,o2_3,o2_4,o2_5,o2_6,o3) K=>(Sum.elim (fun t3_y=>K (Ex.ret) { env:=[(2,.ptr 0 0),(3,.int .i64 t3_y)],stk:=[[]],H:=[.cells [.int .i64 (0),.int .i64 (0),.int .i64 (0),.int .i64 (0),.int .i64 (0),.int .i64 (0),.int .i64 (0),.own 1,.own 2],.arr (.st (.pair (.int .i64) (.pair (.pair (.int .i64) (.int .i64)) (.pair .str (.pair (.pair (.pair (.int .i64) (.int .i64)) .str) (.pair (.pair (.int .i64) (.int .i64)) .str)))))) ([]),.arr .bool ([])],blk:=28673 }) (unP fun o8_y o9_y=>K (Ex.exit 0) { env:=[(0,.ro .str t0),(2,.ptr 0 0),(4,.ptr 1 0),(5,.ptr 2 0),(6,.own 3),(8,.int .i64 t8)],stk:=[[]],H:=[.cells [.int .i64 (0),.int .i64 (0),.int .i64 (0),.int .i64 (0),.int .i64 (0),.int .i64 (0),.int .i64 (0),.own 4,.own 5],.cells [.int .i64 (0),.int .i64 (0),.int .i64 (0),.int .i64 (0),.int .i64 (0),.int .i64 (0),.int .i64 (0),.own 6,.own 7],.cells [.int .i64 o2_0,.int .i64 o2_1,.int .i64 o2_2,.int .i64 o2_3,.int .i64 o2_4,.int .i64 o2_5,.int .i64 o2_6,.own 8,.own 9],.arr .str o3,.arr (.st (.pair (.int .i64) (.pair (.pair (.int .i64) (.int .i64)) (.pair .str (.pair (.pair (.pair (.int .i64) (.int .i64)) .str) (.pair (.pair (.int .i64) (.int .i64)) .str)))))) ([]),.arr .bool ([]),.arr (.st (.pair (.int .i64) (.pair (.pair (.int .i64) (.int .i64)) (.pair .str (.pair (.pair (.pair (.int .i64) (.int .i64)) .str) (.pair (.pair (.int .i64) (.int .i64)) .str)))))) ([]),.arr .bool ([]),.arr (.st (.pair (.int .i64) (.pair (.pair (.int .i64) (.int .i64)) (.pair .str (.pair (.pair (.pair (.int .i64) (.int .i64)) .str) (.pair (.pair (.int .i64) (.int .i64)) .str)))))) o8_y,.arr .bool o9_y],blk:=28672 }))
def jx {β:Type}:jW→qt→(qt→Option β)→(zn7→Option β)→Option β:=fun (t0,t8,t51_2,t52,o2_0,o2_1,o2_2,o2_3,o2_4,o2_5,o2_6,o3) (t53,o8,o9) next exit=>(bif decide (t53<t52) then (bif inR t53 t51_2 then (za (o3[nat_lit 1+Int.toNat t53]?) fun x=>(za (zb3 (t53,x,o2_0,o2_1,o2_2,o2_3,o2_4,o2_5,o2_6,o8,o9)) (unP fun r=>unP fun o1 o2=>(bif r != (0:Int) then (exit (Sum.inl (r))) else (next (IntKind.wrap .i64 (t53+(1:Int)),o1,o2)))))) else none) else (exit (Sum.inr (o8,o9))))
def Ya (i:jW) (v:qt):Option (qt ⊕ zn7):=jx i v (fun v=>some (.inl v)) (fun y=>some (.inr y))
theorem zwh (i:jW) (v:qt) (next:qt→Ans) (exit:zn7→Ans):jx i v next exit=za (Ya i v) (Sum.elim next exit):=by
  obtain ⟨t0,t8,t51_2,t52,o2_0,o2_1,o2_2,o2_3,o2_4,o2_5,o2_6,o3⟩:=i
  obtain ⟨t53,o8,o9⟩:=v
  simp only [Ya,jx,zj,zg,zl,zc,zi,zm,zh,Sum.elim_inl,Sum.elim_inr]
theorem zzQ (n:Nat) (i:jW) (v:qt) (K:Ex→St→Ans):zA Tryz.tab zc4 zf (zD Tryz.tab zc4 zf 0 64) (n+1) 83 ziq (.loop zh0) (zH 0 (exk [0,2,4,5,6,8] [2,3] [(0,[0,2,4,5,6,8])]) K) (zps i v)=jx i v (fun v'=>zA Tryz.tab zc4 zf (zD Tryz.tab zc4 zf 0 64) n 83 ziq (.loop zh0) (zH 0 (exk [0,2,4,5,6,8] [2,3] [(0,[0,2,4,5,6,8])]) K) (zps i v')) (fun y=>znQ i K y):=by kernel_rfl
theorem zHF:zy Tryz.prog 83 (.loop zh0) (y9 znm Ya znQ):=yQ mixed tabOk ztl 0 (exk [0,2,4,5,6,8] [2,3] [(0,[0,2,4,5,6,8])]) zyS zEu zzQ zwh
noncomputable def zMz:(Ex→St→Ans)→St→Ans:=(y9 znm Ya znQ)
theorem zMQ:zy Tryz.prog 83 (.loop zh0) zMz:=zHF
noncomputable def zrs:Code:=zL [1,1,1,1,1,1,0,1,0] bq7
noncomputable def zvB:Ann := .none
theorem zCm:zr Tryz.prog 83 zrs zvB:=(zb _ _ _)
abbrev Jm:=(List (List UInt8))×(Int)×(Int)×(Int)×(Int)×(Int)×(Int)×(Int)×(Int)×(Int)×(List (List UInt8))
abbrev zqr:=(Bool)
def zAh:Jm→St:=fun (t0,t7,t8,o2_0,o2_1,o2_2,o2_3,o2_4,o2_5,o2_6,o3)=>{ env:=[(0,.ro .str t0),(2,.ptr 0 0),(4,.ptr 1 0),(5,.ptr 2 0),(6,.own 3),(7,.int .i64 t7),(8,.int .i64 t8)],stk:=[[]],H:=[.cells [.int .i64 (0),.int .i64 (0),.int .i64 (0),.int .i64 (0),.int .i64 (0),.int .i64 (0),.int .i64 (0),.own 4,.own 5],.cells [.int .i64 (0),.int .i64 (0),.int .i64 (0),.int .i64 (0),.int .i64 (0),.int .i64 (0),.int .i64 (0),.own 6,.own 7],.cells [.int .i64 o2_0,.int .i64 o2_1,.int .i64 o2_2,.int .i64 o2_3,.int .i64 o2_4,.int .i64 o2_5,.int .i64 o2_6,.own 8,.own 9],.arr .str o3,.arr (.st (.pair (.int .i64) (.pair (.pair (.int .i64) (.int .i64)) (.pair .str (.pair (.pair (.pair (.int .i64) (.int .i64)) .str) (.pair (.pair (.int .i64) (.int .i64)) .str)))))) ([]),.arr .bool ([]),.arr (.st (.pair (.int .i64) (.pair (.pair (.int .i64) (.int .i64)) (.pair .str (.pair (.pair (.pair (.int .i64) (.int .i64)) .str) (.pair (.pair (.int .i64) (.int .i64)) .str)))))) ([]),.arr .bool ([]),.arr (.st (.pair (.int .i64) (.pair (.pair (.int .i64) (.int .i64)) (.pair .str (.pair (.pair (.pair (.int .i64) (.int .i64)) .str) (.pair (.pair (.int .i64) (.int .i64)) .str)))))) ([]),.arr .bool ([])],blk:=28672 }
def zvX (s:St):Option {x:Jm // s=zAh x}:=match s with
  | { env:=[(0,.ro .str t0),(2,.ptr 0 0),(4,.ptr 1 0),(5,.ptr 2 0),(6,.own 3),(7,.int .i64 t7),(8,.int .i64 t8)],stk:=[[]],H:=[.cells [.int .i64 r3,.int .i64 r4,.int .i64 r5,.int .i64 r6,.int .i64 r7,.int .i64 r8,.int .i64 r9,.own 4,.own 5],.cells [.int .i64 r10,.int .i64 r11,.int .i64 r12,.int .i64 r13,.int .i64 r14,.int .i64 r15,.int .i64 r16,.own 6,.own 7],.cells [.int .i64 o2_0,.int .i64 o2_1,.int .i64 o2_2,.int .i64 o2_3,.int .i64 o2_4,.int .i64 o2_5,.int .i64 o2_6,.own 8,.own 9],.arr .str o3,.arr (.st (.pair (.int .i64) (.pair (.pair (.int .i64) (.int .i64)) (.pair .str (.pair (.pair (.pair (.int .i64) (.int .i64)) .str) (.pair (.pair (.int .i64) (.int .i64)) .str)))))) r25,.arr .bool r26,.arr (.st (.pair (.int .i64) (.pair (.pair (.int .i64) (.int .i64)) (.pair .str (.pair (.pair (.pair (.int .i64) (.int .i64)) .str) (.pair (.pair (.int .i64) (.int .i64)) .str)))))) r27,.arr .bool r28,.arr (.st (.pair (.int .i64) (.pair (.pair (.int .i64) (.int .i64)) (.pair .str (.pair (.pair (.pair (.int .i64) (.int .i64)) .str) (.pair (.pair (.int .i64) (.int .i64)) .str)))))) r29,.arr .bool r30],blk:=28672 }=>if h3:r3=0 then if h4:r4=0 then if h5:r5=0 then if h6:r6=0 then if h7:r7=0 then if h8:r8=0 then if h9:r9=0 then if h10:r10=0 then if h11:r11=0 then if h12:r12=0 then if h13:r13=0 then if h14:r14=0 then if h15:r15=0 then if h16:r16=0 then if h25:r25=[] then if h26:r26=[] then if h27:r27=[] then if h28:r28=[] then if h29:r29=[] then if h30:r30=[] then some ⟨(t0,t7,t8,o2_0,o2_1,o2_2,o2_3,o2_4,o2_5,o2_6,o3),by subst h3 h4 h5 h6 h7 h8 h9 h10 h11 h12 h13 h14 h15 h16 h25 h26 h27 h28 h29 h30;rfl⟩ else none else none else none else none else none else none else none else none else none else none else none else none else none else none else none else none else none else none else none else none
  | _=>none
def znV (s:St):Option Jm:=pk (zvX s)
theorem zEm (s:St) (x:Jm) (h:znV s=some x):s=zAh x:=zx (o:=zvX s) h
def zmv:Jm→(Ex→St→Ans)→zqr→Ans:=fun (t0,t7,t8,o2_0,o2_1,o2_2,o2_3,o2_4,o2_5,o2_6,o3) K=>fun t47_y=>K (Ex.norm) { env:=[(0,.ro .str t0),(2,.ptr 0 0),(4,.ptr 1 0),(5,.ptr 2 0),(6,.own 3),(8,.int .i64 t8),(47,.bool t47_y)],stk:=[[]],H:=[.cells [.int .i64 (0),.int .i64 (0),.int .i64 (0),.int .i64 (0),.int .i64 (0),.int .i64 (0),.int .i64 (0),.own 4,.own 5],.cells [.int .i64 (0),.int .i64 (0),.int .i64 (0),.int .i64 (0),.int .i64 (0),.int .i64 (0),.int .i64 (0),.own 6,.own 7],.cells [.int .i64 o2_0,.int .i64 o2_1,.int .i64 o2_2,.int .i64 o2_3,.int .i64 o2_4,.int .i64 o2_5,.int .i64 o2_6,.own 8,.own 9],.arr .str o3,.arr (.st (.pair (.int .i64) (.pair (.pair (.int .i64) (.int .i64)) (.pair .str (.pair (.pair (.pair (.int .i64) (.int .i64)) .str) (.pair (.pair (.int .i64) (.int .i64)) .str)))))) ([]),.arr .bool ([]),.arr (.st (.pair (.int .i64) (.pair (.pair (.int .i64) (.int .i64)) (.pair .str (.pair (.pair (.pair (.int .i64) (.int .i64)) .str) (.pair (.pair (.int .i64) (.int .i64)) .str)))))) ([]),.arr .bool ([]),.arr (.st (.pair (.int .i64) (.pair (.pair (.int .i64) (.int .i64)) (.pair .str (.pair (.pair (.pair (.int .i64) (.int .i64)) .str) (.pair (.pair (.int .i64) (.int .i64)) .str)))))) ([]),.arr .bool ([])],blk:=28672 }
def za1 {β:Type}:Jm→(zqr→Option β)→Option β:=fun (t0,t7,t8,o2_0,o2_1,o2_2,o2_3,o2_4,o2_5,o2_6,o3) exit=>(bif t7 != (0:Int) then (exit (true)) else (exit (o2_4 != IntKind.wrap .i64 (t8 - (1:Int)))))
def qU (i:Jm):Option zqr:=za1 i some
theorem zxY (i:Jm) (k:zqr→Ans):za1 i k=za (qU i) k:=by
  obtain ⟨t0,t7,t8,o2_0,o2_1,o2_2,o2_3,o2_4,o2_5,o2_6,o3⟩:=i
  simp only [qU,za1,zj,zg,zl,zc,zi,zm,zh]
theorem zBL (i:Jm) (K:Ex→St→Ans):zA Tryz.tab zc4 zf (zD Tryz.tab zc4 zf 0 64) 70 83 zvB zrs (zH 0 (exk [0,2,4,5,6,8,47] [2,3] []) K) (zAh i)=za1 i (zmv i K):=by kernel_rfl
theorem zJI:zy Tryz.prog 83 zrs (zG znV qU zmv):=zB mixed tabOk ztl 0 (exk [0,2,4,5,6,8,47] [2,3] []) zCm zEm zBL zxY
noncomputable def zNh:(Ex→St→Ans)→St→Ans:=(zG znV qU zmv)
theorem zNO:zy Tryz.prog 83 zrs zNh:=zJI
noncomputable def zSt:Ann:=(.seq .none (.seq .none (.seq .none (.seq .none (.seq .none (.seq .none (.seq (.seq .none (.seq (.cut 0 [0,2,4,5,6,7,8] zNh) .none)) (.seq (.seq .none (.block (.cut 0 [0,2,4,5,6,8,51,52,53] zMz))) .none))))))))
theorem zRV:zr Tryz.prog 83 bq7 zSt:=⟨(zb _ _ _),⟨(zb _ _ _),⟨(zb _ _ _),⟨(zb _ _ _),⟨(zb _ _ _),⟨(zb _ _ _),⟨⟨(zb _ _ _),⟨zNO,(zb _ _ _)⟩⟩,⟨⟨(zb _ _ _),zMQ⟩,(zb _ _ _)⟩⟩⟩⟩⟩⟩⟩⟩
abbrev Aq7:=(List (List UInt8))
abbrev Yq7:=(Int)×(Int)×(Int)×(Int)×(Int)×(Int)×(Int)×(Int)×(List (Int×(Int×Int)×List UInt8×((Int×Int)×List UInt8)×(Int×Int)×List UInt8))×(List Bool)
def zzz {β:Type}:Aq7→(Yq7→Option β)→Option β:=fun a0 exit=>(bif decide ((↑(List.length a0):Int)<(2:Int)) then (exit ((0:Int),(0:Int),(0:Int),(0:Int),(0:Int),(0:Int),(0:Int),(1:Int),[],[])) else (za (zel (a0)) (unP fun r_1 o0=>(bif r_1 != (0:Int) then (exit ((0:Int),(0:Int),(0:Int),(0:Int),(0:Int),(0:Int),(0:Int),r_1,[],[])) else (bif inR (0:Int) (List.length o0) then (za (o0[(0:Nat)]?) fun x=>(za (zeL (x)) (unP fun r_0_0=>unP fun r_0_1=>unP fun r_0_2=>unP fun r_0_3=>unP fun r_0_4=>unP fun r_0_5=>unP fun r_0_6 r_1_2=>(za (qU (a0,r_1_2,IntKind.wrap .i64 ((↑(List.length o0):Int) - (1:Int)),r_0_0,r_0_1,r_0_2,r_0_3,r_0_4,r_0_5,r_0_6,o0)) fun t47=>(bif t47 then (exit ((0:Int),(0:Int),(0:Int),(0:Int),(0:Int),(0:Int),(0:Int),(4:Int),[],[])) else (bif inR (IntKind.wrap .i64 ((↑(List.length o0):Int) - (1:Int))) (List.length o0+(1:Nat))&&inR (1:Int) (Int.toNat (IntKind.wrap .i64 ((↑(List.length o0):Int) - (1:Int)))+(1:Nat)) then (za (zZ (Ya (a0,IntKind.wrap .i64 ((↑(List.length o0):Int) - (1:Int)),Int.toNat (IntKind.wrap .i64 ((↑(List.length o0):Int) - (1:Int))) - (1:Nat),(↑(Int.toNat (IntKind.wrap .i64 ((↑(List.length o0):Int) - (1:Int))) - (1:Nat)):Int),r_0_0,r_0_1,r_0_2,r_0_3,r_0_4,r_0_5,r_0_6,o0)) Zo ((0:Int),[],[])) (Sum.elim (fun t3=>(exit ((0:Int),(0:Int),(0:Int),(0:Int),(0:Int),(0:Int),(0:Int),t3,[],[]))) (unP fun o8 o9=>(bif inR (IntKind.wrap .i64 ((↑(List.length o0):Int) - (1:Int))) (List.length o0) then (za (o0[Int.toNat (IntKind.wrap .i64 ((↑(List.length o0):Int) - (1:Int)))]?) fun x_2=>(bif inR (IntKind.wrap .i64 ((↑(List.length o0):Int) - (1:Int))) (List.length a0+(1:Nat)) then (za (zcr (List.take (Int.toNat (IntKind.wrap .i64 ((↑(List.length o0):Int) - (1:Int)))) a0)) fun r=>(bif !x_2 == r then (exit ((0:Int),(0:Int),(0:Int),(0:Int),(0:Int),(0:Int),(0:Int),(5:Int),[],[])) else (za (zfh (r_0_0,r_0_1,r_0_2,r_0_3,r_0_4,r_0_5,r_0_6,o8,o9)) fun r_2=>(bif r_2 != (0:Int) then (exit ((0:Int),(0:Int),(0:Int),(0:Int),(0:Int),(0:Int),(0:Int),r_2,[],[])) else (exit (r_0_0,r_0_1,r_0_2,r_0_3,r_0_4,r_0_5,r_0_6,(0:Int),o8,o9)))))) else none)) else none)))) else none)))))) else none)))))
def zc6 (a:Aq7):Option Yq7:=zzz a some
theorem zQr (a:Aq7) (k:Yq7→Ans):zzz a k=za (zc6 a) k:=by
  obtain z:=a
  simp only [zc6,zzz,zj,zg,zl,zc,zi,zm,zh]
def zoH:Aq7→List AV×List AE.Obj:=fun a0=>([.ro .str a0],[])
def zFv (l:List AV) (H:List AE.Obj):Option {a:Aq7 // (l,H)=zoH a}:=match l,H with
  | [.ro .str a0],[]=>some ⟨(a0),rfl⟩
  | _,_=>none
def zLa (l:List AV) (H:List AE.Obj):Option Aq7:=pk (zFv l H)
theorem zO9 (l:List AV) (H:List AE.Obj) (a:Aq7) (h:zLa l H=some a):(l,H)=zoH a:=zx (o:=zFv l H) h
def zSo:Aq7→(AV→List AE.Obj→Ans)→Yq7→Ans:=fun a0 K=>unP fun r_0_0_y=>unP fun r_0_1_y=>unP fun r_0_2_y=>unP fun r_0_3_y=>unP fun r_0_4_y=>unP fun r_0_5_y=>unP fun r_0_6_y=>unP fun r_1_y=>unP fun o0_y o1_y=>K (.tup [.agg [.int .i64 r_0_0_y,.int .i64 r_0_1_y,.int .i64 r_0_2_y,.int .i64 r_0_3_y,.int .i64 r_0_4_y,.int .i64 r_0_5_y,.int .i64 r_0_6_y,.own 0,.own 1],.int .i64 r_1_y]) [.arr (.st (.pair (.int .i64) (.pair (.pair (.int .i64) (.int .i64)) (.pair .str (.pair (.pair (.pair (.int .i64) (.int .i64)) .str) (.pair (.pair (.int .i64) (.int .i64)) .str)))))) o0_y,.arr .bool o1_y]
theorem zTm (a:Aq7) (K:AV→List AE.Obj→Ans):fnE Tryz.tab zc4 zf 0 70 7 Tryz.f7.ntmps Tryz.f7.results.toList zSt bq7 (zoH a).1 (zoH a).2 K=zzz a (zSo a K):=by kernel_rfl
def zWv (a:Aq7) (K:AV→List AE.Obj→Ans):Ans:=za (zc6 a) fun y=>zSo a K y
def Fq7:List AV→List AE.Obj→(AV→List AE.Obj→Ans)→Ans:=fun l H K=>za (zLa l H) fun a=>zWv a K
theorem zU3:zP Tryz.prog 7 Fq7:=ZN (hint:=zf) (d:=0) (n:=70) mixed tabOk ztl Tryz.func7 (zI (by kernel_rfl)) (by decide +kernel) zRV zO9 zTm zQr
--@ ref03_Of
--@ ref03_Tail
--@ ref04_First
--@ ref04_Get
--@ ref15_Check
--@ ref16_Check
--@ ref02_Fits
abbrev zFN:=(Int)
abbrev zF9:=(Int)
abbrev zkO:=(Int)×(Int)
def zf0 {β:Type}:zFN→zkO→(zkO→Option β)→(zF9→Option β)→Option β:=fun t1 (t0,t5) next exit=>(bif decide (t5<t1) then (next (IntKind.wrap .i64 (Int.tdiv t0 (256:Int)),IntKind.wrap .i64 (t5+(1:Int)))) else (exit (t0)))
def Q3 (i:zFN) (v:zkO):Option (zkO ⊕ zF9):=zf0 i v (fun v=>some (.inl v)) (fun y=>some (.inr y))
abbrev zFm:=(Int)×(Int)
abbrev zE6:=(Bool)
def zqK {β:Type}:zFm→(zE6→Option β)→Option β:=fun (t0,t1) exit=>(bif decide (t1<(1:Int)) then (exit (true)) else (bif decide (t1>(7:Int)) then (exit (true)) else (exit (decide (t0<(0:Int))))))
def zma (i:zFm):Option zE6:=zqK i some
abbrev zTJ:=(Int)×(Int)
abbrev zU5:=(Bool)
def zSr {β:Type}:zTJ→(zU5→Option β)→Option β:=fun (a0,a1) exit=>(za (zma (a0,a1)) fun t15=>(bif t15 then (exit (false)) else (za (zZ (Q3 (a1)) Zo (a0,(0:Int))) fun t0=>(exit (t0 == (0:Int))))))
def zzF (a:zTJ):Option zU5:=zSr a some
--@ ref02_Put
abbrev zEY:=(List UInt8)×(Int)
abbrev zEF:=(List UInt8)
abbrev zlg:=(Int)×(List UInt8)×(Int)
def zfx {β:Type}:zEY→zlg→(zlg→Option β)→(zEF→Option β)→Option β:=fun (t0,t2) (t1,t7,t8) next exit=>(bif decide (t8<t2) then (bif Nat.ble (List.length (z6 [IntKind.wrap .u8 (Int.tmod t1 (256:Int))])+List.length t7) (9223372036854775807:Nat) then (next (IntKind.wrap .i64 (Int.tdiv t1 (256:Int)),z6 [IntKind.wrap .u8 (Int.tmod t1 (256:Int))]++t7,IntKind.wrap .i64 (t8+(1:Int)))) else none) else (exit (t7)))
def QZ (i:zEY) (v:zlg):Option (zlg ⊕ zEF):=zfx i v (fun v=>some (.inl v)) (fun y=>some (.inr y))
abbrev zUx:=(List UInt8)×(Int)×(Int)
abbrev zUO:=(List UInt8)
def zSi {β:Type}:zUx→(zUO→Option β)→Option β:=fun (a0,a1,a2) exit=>(za (zzF (a1,a2)) fun r=>(bif !r then (exit (a0)) else (za (zZ (QZ (a0,a2)) Zo (a1,[],(0:Int))) fun t7=>(bif Nat.ble (List.length a0+List.length t7) (9223372036854775807:Nat) then (exit (a0++t7)) else none))))
def zef (a:zUx):Option zUO:=zSi a some
--@ ref09_Pad
--@ ref16_Put
--@ ref16_Get
end Go.Proofs.R9
namespace Go.Proofs.R9
open Go Go.AE
set_option maxRecDepth 100000
--@ ref02_Reader_Bytes
--@ ref02_Reader_Num
--@ ref23_version
--@ ref02_Reader_End
--@ ref05_Right
--@ ref05_Covers
--@ ref05_Compare
--@ ref21_Check
--@ ref23_Check
--@ ref23_Get
--@ ref05_Put
--@ ref23_Put
--@ ref43_line
--@ ref43_end
--@ ref43_Check
end Go.Proofs.R9
