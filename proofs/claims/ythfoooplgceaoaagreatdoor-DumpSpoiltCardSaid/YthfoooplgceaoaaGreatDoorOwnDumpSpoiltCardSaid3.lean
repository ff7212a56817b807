/- What the functions that DumpSpoiltCardSaid reaches compute: part 3. -/
import Derived.Test.YthfoooplgceaoaaGreatDoorOwnDumpSpoiltCardSaid2
set_option linter.unusedVariables false
set_option linter.unusedSimpArgs false
namespace Go.Proofs.R9
open Go Go.AE
set_option maxRecDepth 100000
--@ ref43_Get
--@ dump_bodies
noncomputable def zNP:Env:=[]
theorem zP6:zd Tryz.prog zNP:=zd.nil
noncomputable def zUe:Code:=Tryz.f30.body.getD .skip
noncomputable def zNV:Ann := .none
theorem zO6:zr Tryz.prog 4 zUe zNV:=(zb _ _ _)
abbrev zdT:=(Int)×(Int)×(Int)×(Int)×(Int)×(Int)×(Int)×(List (Int×(Int×Int)×List UInt8×((Int×Int)×List UInt8)×(Int×Int)×List UInt8))×(List Bool)
abbrev zIf:=Unit
def zod {β:Type}:zdT→(zIf→Option β)→Option β:=fun (a0_0,a0_1,a0_2,a0_3,a0_4,a0_5,a0_6,a0_7,a0_8) exit=>(exit ())
def zhl (a:zdT):Option zIf:=zod a some
theorem zLe (a:zdT) (k:zIf→Ans):zod a k=za (zhl a) k:=by
  obtain ⟨a0_0,a0_1,a0_2,a0_3,a0_4,a0_5,a0_6,a0_7,a0_8⟩:=a
  simp only [zhl,zod,zj,zg,zl,zc,zi,zm,zh]
def zkW:zdT→List AV×List AE.Obj:=fun (a0_0,a0_1,a0_2,a0_3,a0_4,a0_5,a0_6,a0_7,a0_8)=>([.agg [.int .i64 a0_0,.int .i64 a0_1,.int .i64 a0_2,.int .i64 a0_3,.int .i64 a0_4,.int .i64 a0_5,.int .i64 a0_6,.ro (.st (.pair (.int .i64) (.pair (.pair (.int .i64) (.int .i64)) (.pair .str (.pair (.pair (.pair (.int .i64) (.int .i64)) .str) (.pair (.pair (.int .i64) (.int .i64)) .str)))))) a0_7,.ro .bool a0_8]],[])
def zAf (l:List AV) (H:List AE.Obj):Option {a:zdT // (l,H)=zkW a}:=match l,H with
  | [.agg [.int .i64 a0_0,.int .i64 a0_1,.int .i64 a0_2,.int .i64 a0_3,.int .i64 a0_4,.int .i64 a0_5,.int .i64 a0_6,.ro (.st (.pair (.int .i64) (.pair (.pair (.int .i64) (.int .i64)) (.pair .str (.pair (.pair (.pair (.int .i64) (.int .i64)) .str) (.pair (.pair (.int .i64) (.int .i64)) .str)))))) a0_7,.ro .bool a0_8]],[]=>some ⟨(a0_0,a0_1,a0_2,a0_3,a0_4,a0_5,a0_6,a0_7,a0_8),rfl⟩
  | _,_=>none
def zF0 (l:List AV) (H:List AE.Obj):Option zdT:=pk (zAf l H)
theorem zKG (l:List AV) (H:List AE.Obj) (a:zdT) (h:zF0 l H=some a):(l,H)=zkW a:=zx (o:=zAf l H) h
def zLI:zdT→(AV→List AE.Obj→Ans)→zIf→Ans:=fun (a0_0,a0_1,a0_2,a0_3,a0_4,a0_5,a0_6,a0_7,a0_8) K=>fun _=>K (.fn (Fn.func 66) [] [.ptr 0 0]) [.cells [.int .i64 a0_0,.int .i64 a0_1,.int .i64 a0_2,.int .i64 a0_3,.int .i64 a0_4,.int .i64 a0_5,.int .i64 a0_6,.ro (.st (.pair (.int .i64) (.pair (.pair (.int .i64) (.int .i64)) (.pair .str (.pair (.pair (.pair (.int .i64) (.int .i64)) .str) (.pair (.pair (.int .i64) (.int .i64)) .str)))))) a0_7,.ro .bool a0_8]]
theorem zRk (a:zdT) (K:AV→List AE.Obj→Ans):fnE Tryz.tab zNP zf 0 70 30 Tryz.f30.ntmps Tryz.f30.results.toList zNV zUe (zkW a).1 (zkW a).2 K=zod a (zLI a K):=by kernel_rfl
def zVT (a:zdT) (K:AV→List AE.Obj→Ans):Ans:=za (zhl a) fun y=>zLI a K y
def zUN:List AV→List AE.Obj→(AV→List AE.Obj→Ans)→Ans:=fun l H K=>za (zF0 l H) fun a=>zVT a K
theorem zSy:zP Tryz.prog 30 zUN:=ZN (hint:=zf) (d:=0) (n:=70) mixed tabOk zP6 Tryz.func30 (zI (by kernel_rfl)) (by decide +kernel) zO6 zKG zRk zLe
--@ seal_Put
noncomputable def zem:Env:=[(52,.pure Fq4),(57,.pure ziN)]
theorem zmA:zd Tryz.prog zem:=zd.cons zeo (zd.cons zae (zd.nil))
noncomputable def zKg:Code:=Tryz.f29.body.getD .skip
noncomputable def zjz:Code:=zL [1,0,0,0] zKg
noncomputable def zpq:Ann := .none
theorem zxK:zr Tryz.prog 29 zjz zpq:=(zb _ _ _)
abbrev QC:=(Int)×(List UInt8)
abbrev zk0:=(Bool)
def zuD:QC→St:=fun (t0,t1)=>{ env:=[(0,.int .i64 t0),(1,.str t1)],stk:=[[]],H:=[],blk:=118784 }
def zqo (s:St):Option {x:QC // s=zuD x}:=match s with
  | { env:=[(0,.int .i64 t0),(1,.str t1)],stk:=[[]],H:=[],blk:=118784 }=>some ⟨(t0,t1),rfl⟩
  | _=>none
def zgO (s:St):Option QC:=pk (zqo s)
theorem zCH (s:St) (x:QC) (h:zgO s=some x):s=zuD x:=zx (o:=zqo s) h
def zjn:QC→(Ex→St→Ans)→zk0→Ans:=fun (t0,t1) K=>fun t7_y=>K (Ex.norm) { env:=[(0,.int .i64 t0),(1,.str t1),(7,.bool t7_y)],stk:=[[]],H:=[],blk:=118784 }
def jR {β:Type}:QC→(zk0→Option β)→Option β:=fun (t0,t1) exit=>(bif decide (t0<(0:Int)) then (exit (true)) else (exit (decide (t0>(255:Int)))))
def WH (i:QC):Option zk0:=jR i some
theorem zsZ (i:QC) (k:zk0→Ans):jR i k=za (WH i) k:=by
  obtain ⟨t0,t1⟩:=i
  simp only [WH,jR,zj,zg,zl,zc,zi,zm,zh]
theorem zxv (i:QC) (K:Ex→St→Ans):zA Tryz.tab zem zf (zD Tryz.tab zem zf 0 64) 70 29 zpq zjz (zH 0 (exk [0,1,7] [4,5] []) K) (zuD i)=jR i (zjn i K):=by kernel_rfl
theorem zEp:zy Tryz.prog 29 zjz (zG zgO WH zjn):=zB mixed tabOk zmA 0 (exk [0,1,7] [4,5] []) zxK zCH zxv zsZ
noncomputable def zGa:(Ex→St→Ans)→St→Ans:=(zG zgO WH zjn)
theorem zIA:zy Tryz.prog 29 zjz zGa:=zEp
noncomputable def zjN:Code:=zL [1,0] zKg
noncomputable def zpB:Ann:=(.block (.seq (.cut 0 [0,1] zGa) .none))
theorem zxB:zr Tryz.prog 29 zjN zpB:=⟨zIA,(zb _ _ _)⟩
abbrev Qr:=(Int)×(List UInt8)
abbrev zky:=((Int)) ⊕ (Unit)
def zvp:Qr→St:=fun (t0,t1)=>{ env:=[(0,.int .i64 t0),(1,.str t1)],stk:=[[]],H:=[],blk:=118784 }
def zqx (s:St):Option {x:Qr // s=zvp x}:=match s with
  | { env:=[(0,.int .i64 t0),(1,.str t1)],stk:=[[]],H:=[],blk:=118784 }=>some ⟨(t0,t1),rfl⟩
  | _=>none
def zie (s:St):Option Qr:=pk (zqx s)
theorem zAi (s:St) (x:Qr) (h:zie s=some x):s=zvp x:=zx (o:=zqx s) h
def zii:Qr→(Ex→St→Ans)→zky→Ans:=fun (t0,t1) K=>(Sum.elim (fun t5_y=>K (Ex.ret) { env:=[(4,.str ([])),(5,.int .i64 t5_y)],stk:=[[]],H:=[],blk:=118784 }) (fun _=>K (Ex.norm) { env:=[(0,.int .i64 t0),(1,.str t1)],stk:=[[]],H:=[],blk:=118784 }))
def Jt {β:Type}:Qr→(zky→Option β)→Option β:=fun (t0,t1) exit=>(za (WH (t0,t1)) fun t7=>(bif t7 then (exit (Sum.inl ((7:Int)))) else (bif decide ((↑(List.length t1):Int)>(600:Int)) then (exit (Sum.inl ((11:Int)))) else (exit (Sum.inr ())))))
def WK (i:Qr):Option zky:=Jt i some
theorem zth (i:Qr) (k:zky→Ans):Jt i k=za (WK i) k:=by
  obtain ⟨t0,t1⟩:=i
  simp only [WK,Jt,zj,zg,zl,zc,zi,zm,zh]
theorem zx4 (i:Qr) (K:Ex→St→Ans):zA Tryz.tab zem zf (zD Tryz.tab zem zf 0 64) 70 29 zpB zjN (zH 0 (exk [0,1] [4,5] []) K) (zvp i)=Jt i (zii i K):=by kernel_rfl
theorem zDy:zy Tryz.prog 29 zjN (zG zie WK zii):=zB mixed tabOk zmA 0 (exk [0,1] [4,5] []) zxB zAi zx4 zth
noncomputable def zGe:(Ex→St→Ans)→St→Ans:=(zG zie WK zii)
theorem zHC:zy Tryz.prog 29 zjN zGe:=zDy
noncomputable def zLB:Ann:=(.seq .none (.seq (.cut 0 [0,1] zGe) .none))
theorem zLo:zr Tryz.prog 29 zKg zLB:=⟨(zb _ _ _),⟨zHC,(zb _ _ _)⟩⟩
abbrev zcy:=(Int)×(List UInt8)
abbrev zAs:=(List UInt8)×(Int)
def zqG {β:Type}:zcy→(zAs→Option β)→Option β:=fun (a0,a1) exit=>(za (WK (a0,a1)) (Sum.elim (fun t5=>(exit ([],t5))) (fun _=>(za (Zt ([],a0,(1:Int))) fun r=>(za (Zt (r,(↑(List.length a1):Int),(2:Int))) fun r_2=>(bif Nat.ble (List.length r_2+List.length a1) (9223372036854775807:Nat) then (za (zap (r_2++a1)) fun r_3=>(bif Nat.ble (List.length (r_2++a1)+List.length r_3) (9223372036854775807:Nat) then (exit (r_2++a1++r_3,(0:Int))) else none)) else none))))))
def zeY (a:zcy):Option zAs:=zqG a some
theorem zMP (a:zcy) (k:zAs→Ans):zqG a k=za (zeY a) k:=by
  obtain ⟨a0,a1⟩:=a
  simp only [zeY,zqG,zj,zg,zl,zc,zi,zm,zh]
def zsH:zcy→List AV:=fun (a0,a1)=>[.int .i64 a0,.str a1]
def zzY (l:List AV):Option {a:zcy // l=zsH a}:=match l with
  | [.int .i64 a0,.str a1]=>some ⟨(a0,a1),rfl⟩
  | _=>none
def zE1 (l:List AV):Option zcy:=pk (zzY l)
theorem zJx (l:List AV) (a:zcy) (h:zE1 l=some a):l=zsH a:=zx (o:=zzY l) h
def zsA:zcy→zAs→AV:=fun (a0,a1)=>unP fun r_0_y r_1_y => .tup [.str r_0_y,.int .i64 r_1_y]
theorem zKn : ∀(a:zcy) (y:zAs),(zsA a y).closed1=true:=by
  rintro ⟨a0,a1⟩ y <;> first | rfl | exact Empty.elim y
theorem zPF (a:zcy):fnE Tryz.tab zem zf 0 70 29 Tryz.f29.ntmps Tryz.f29.results.toList zLB zKg (zsH a) [] (fun v _=>some (v,[]))=zqG a (fun y=>some (zsA a y,[])):=by kernel_rfl
def zVq (a:zcy) (K:AV→Ans):Ans:=za (zeY a) fun y=>K (zsA a y)
def zRz:List AV→(AV→Ans)→Ans:=fun l K=>za (zE1 l) fun a=>zVq a K
theorem zGs:zV Tryz.prog 29 zRz:=zX (hint:=zf) (d:=0) (n:=70) mixed tabOk zmA Tryz.func29 (zI (by kernel_rfl)) (by decide +kernel) zLo zJx zPF zMP zKn
--@ dump_Put_1
noncomputable def zOY:Env:=[(29,.pure zRz)]
theorem zPZ:zd Tryz.prog zOY:=zd.cons zGs (zd.nil)
noncomputable def zUC:Code:=Tryz.f28.body.getD .skip
noncomputable def zOG:Ann := .none
theorem zKO:zr Tryz.prog 26 zUC zOG:=(zb _ _ _)
abbrev zd7:=(Int)×(List UInt8)×(Int)×(Int)×(List (List UInt8))
abbrev zKl:=(Bool)×(Int)×(List (List UInt8))
def zrd {β:Type}:zd7→(zKl→Option β)→Option β:=fun (a0,a1,a2,o0_0,o2) exit=>(za (zeY (a0,a1)) (unP fun r_0 r_1=>(bif (if r_1>a2 then r_1 else a2) != (0:Int) then (exit (false,if r_1>a2 then r_1 else a2,o2)) else (bif Nat.ble ((List.length o2+List.length [r_0])*(16:Nat)) (140737488355328:Nat) then (exit (true,if r_1>a2 then r_1 else a2,o2++[r_0])) else none))))
def zaF (a:zd7):Option zKl:=zrd a some
theorem zNS (a:zd7) (k:zKl→Ans):zrd a k=za (zaF a) k:=by
  obtain ⟨a0,a1,a2,o0_0,o2⟩:=a
  simp only [zaF,zrd,zj,zg,zl,zc,zi,zm,zh]
def zk6:zd7→List AV×List AE.Obj:=fun (a0,a1,a2,o0_0,o2)=>([.int .i64 a0,.str a1,.int .i64 a2,.ptr 0 0,.ptr 1 0],[.cells [.int .i64 o0_0],.cells [.own 2],.arr .str o2])
def zC4 (l:List AV) (H:List AE.Obj):Option {a:zd7 // (l,H)=zk6 a}:=match l,H with
  | [.int .i64 a0,.str a1,.int .i64 a2,.ptr 0 0,.ptr 1 0],[.cells [.int .i64 o0_0],.cells [.own 2],.arr .str o2]=>some ⟨(a0,a1,a2,o0_0,o2),rfl⟩
  | _,_=>none
def zGA (l:List AV) (H:List AE.Obj):Option zd7:=pk (zC4 l H)
theorem zIR (l:List AV) (H:List AE.Obj) (a:zd7) (h:zGA l H=some a):(l,H)=zk6 a:=zx (o:=zC4 l H) h
def zNn:zd7→(AV→List AE.Obj→Ans)→zKl→Ans:=fun (a0,a1,a2,o0_0,o2) K=>unP fun r_y=>unP fun o0_0_y o2_y=>K (.bool r_y) [.cells [.int .i64 o0_0_y],.cells [.own 2],.arr .str o2_y]
theorem zRB (a:zd7) (K:AV→List AE.Obj→Ans):fnE Tryz.tab zOY zf 0 70 28 Tryz.f28.ntmps Tryz.f28.results.toList zOG zUC (zk6 a).1 (zk6 a).2 K=zrd a (zNn a K):=by kernel_rfl
def zVE (a:zd7) (K:AV→List AE.Obj→Ans):Ans:=za (zaF a) fun y=>zNn a K y
def zRi:List AV→List AE.Obj→(AV→List AE.Obj→Ans)→Ans:=fun l H K=>za (zGA l H) fun a=>zVE a K
theorem zE5:zP Tryz.prog 28 zRi:=ZN (hint:=zf) (d:=0) (n:=70) mixed tabOk zPZ Tryz.func28 (zI (by kernel_rfl)) (by decide +kernel) zKO zIR zRB zNS
--@ dump_bodies_1
noncomputable def zeq:Env:=[(53,.pure zKF),(56,.pure zKr),(28,.func zRi)]
theorem zBv:zd Tryz.prog zeq:=zd.cons zu7 (zd.cons zts (zd.cons zE5 (zd.nil)))
noncomputable def zQj:Code:=Tryz.f66.body.getD .skip
noncomputable def zei:Code:=zL [1,1,1,0,0] zQj
noncomputable def zf3:Ann := .at 4 [0,1,21,22,23] (.loop .none)
theorem zxW:zr Tryz.prog 45 (.loop zei) zf3:=yG (zb _ _ _)
abbrev qS:=(List (Int×(Int×Int)×List UInt8×((Int×Int)×List UInt8)×(Int×Int)×List UInt8))×(Int)×(Int)×(Int)×(Int)×(Int)×(Int)×(Int)×(Int)×(List (Int×(Int×Int)×List UInt8×((Int×Int)×List UInt8)×(Int×Int)×List UInt8))×(List Bool)
abbrev zlB:=((Int)×(List (List UInt8))) ⊕ ((Int)×(List (List UInt8)))
abbrev wn:=(Int)×(Int)×(List (List UInt8))
def zlq:qS→wn→St:=fun (t21,t22,o2_0,o2_1,o2_2,o2_3,o2_4,o2_5,o2_6,o2_7,o2_8) (t23,o0_0,o3)=>{ env:=[(0,.fn (Fn.func 28) [] [.ptr 0 0,.ptr 1 0]),(1,.ptr 2 0),(21,.ro (.st (.pair (.int .i64) (.pair (.pair (.int .i64) (.int .i64)) (.pair .str (.pair (.pair (.pair (.int .i64) (.int .i64)) .str) (.pair (.pair (.int .i64) (.int .i64)) .str)))))) t21),(22,.int .i64 t22),(23,.int .i64 t23)],stk:=[[(0,.ptr 0 0),(1,.ptr 1 0),(2,.ptr 2 0)]],H:=[.cells [.int .i64 o0_0],.cells [.own 3],.cells [.int .i64 o2_0,.int .i64 o2_1,.int .i64 o2_2,.int .i64 o2_3,.int .i64 o2_4,.int .i64 o2_5,.int .i64 o2_6,.ro (.st (.pair (.int .i64) (.pair (.pair (.int .i64) (.int .i64)) (.pair .str (.pair (.pair (.pair (.int .i64) (.int .i64)) .str) (.pair (.pair (.int .i64) (.int .i64)) .str)))))) o2_7,.ro .bool o2_8],.arr .str o3],blk:=270336 }
def zqz (s:St):Option {x:qS×wn // s=zlq x.1 x.2}:=match s with
  | { env:=[(0,.fn (Fn.func 28) [] [.ptr 0 0,.ptr 1 0]),(1,.ptr 2 0),(21,.ro (.st (.pair (.int .i64) (.pair (.pair (.int .i64) (.int .i64)) (.pair .str (.pair (.pair (.pair (.int .i64) (.int .i64)) .str) (.pair (.pair (.int .i64) (.int .i64)) .str)))))) t21),(22,.int .i64 t22),(23,.int .i64 t23)],stk:=[[(0,.ptr 0 0),(1,.ptr 1 0),(2,.ptr 2 0)]],H:=[.cells [.int .i64 o0_0],.cells [.own 3],.cells [.int .i64 o2_0,.int .i64 o2_1,.int .i64 o2_2,.int .i64 o2_3,.int .i64 o2_4,.int .i64 o2_5,.int .i64 o2_6,.ro (.st (.pair (.int .i64) (.pair (.pair (.int .i64) (.int .i64)) (.pair .str (.pair (.pair (.pair (.int .i64) (.int .i64)) .str) (.pair (.pair (.int .i64) (.int .i64)) .str)))))) o2_7,.ro .bool o2_8],.arr .str o3],blk:=270336 }=>some ⟨((t21,t22,o2_0,o2_1,o2_2,o2_3,o2_4,o2_5,o2_6,o2_7,o2_8),(t23,o0_0,o3)),rfl⟩
  | _=>none
def zhW (s:St):Option (qS×wn):=pk (zqz s)
theorem zCI (s:St) (x:qS×wn) (h:zhW s=some x):s=zlq x.1 x.2:=zx (o:=zqz s) h
def zi8:qS→(Ex→St→Ans)→zlB→Ans:=fun (t21,t22,o2_0,o2_1,o2_2,o2_3,o2_4,o2_5,o2_6,o2_7,o2_8) K=>(Sum.elim (unP fun o0_0_y o3_y=>K (Ex.ret) { env:=[],stk:=[[(0,.ptr 0 0),(1,.ptr 1 0),(2,.ptr 2 0)]],H:=[.cells [.int .i64 o0_0_y],.cells [.own 3],.cells [.int .i64 o2_0,.int .i64 o2_1,.int .i64 o2_2,.int .i64 o2_3,.int .i64 o2_4,.int .i64 o2_5,.int .i64 o2_6,.ro (.st (.pair (.int .i64) (.pair (.pair (.int .i64) (.int .i64)) (.pair .str (.pair (.pair (.pair (.int .i64) (.int .i64)) .str) (.pair (.pair (.int .i64) (.int .i64)) .str)))))) o2_7,.ro .bool o2_8],.arr .str o3_y],blk:=270337 }) (unP fun o0_0_y o3_y=>K (Ex.exit 0) { env:=[],stk:=[[(0,.ptr 0 0),(1,.ptr 1 0),(2,.ptr 2 0)]],H:=[.cells [.int .i64 o0_0_y],.cells [.own 3],.cells [.int .i64 o2_0,.int .i64 o2_1,.int .i64 o2_2,.int .i64 o2_3,.int .i64 o2_4,.int .i64 o2_5,.int .i64 o2_6,.ro (.st (.pair (.int .i64) (.pair (.pair (.int .i64) (.int .i64)) (.pair .str (.pair (.pair (.pair (.int .i64) (.int .i64)) .str) (.pair (.pair (.int .i64) (.int .i64)) .str)))))) o2_7,.ro .bool o2_8],.arr .str o3_y],blk:=270336 }))
def Qy {β:Type}:qS→wn→(wn→Option β)→(zlB→Option β)→Option β:=fun (t21,t22,o2_0,o2_1,o2_2,o2_3,o2_4,o2_5,o2_6,o2_7,o2_8) (t23,o0_0,o3) next exit=>(bif decide (t23<t22) then (za (nth t21 t23) fun x=>(za (nth o2_8 t23) fun x_2=>(za (zaT (t23,x.fst,x.snd.fst.fst,x.snd.fst.snd,x.snd.snd.fst,x.snd.snd.snd.fst.fst.fst,x.snd.snd.snd.fst.fst.snd,x.snd.snd.snd.fst.snd,x.snd.snd.snd.snd.fst.fst,x.snd.snd.snd.snd.fst.snd,x.snd.snd.snd.snd.snd,x_2)) (unP fun r_0 r_1=>(za (zaF ((21:Int),r_0,r_1,o0_0,o3)) (unP fun r=>unP fun o0_0_2 o2=>(bif !r then (exit (Sum.inl (o0_0_2,o2))) else (next (IntKind.wrap .i64 (t23+(1:Int)),o0_0_2,o2))))))))) else (exit (Sum.inr (o0_0,o3))))
def yI (i:qS) (v:wn):Option (wn ⊕ zlB):=Qy i v (fun v=>some (.inl v)) (fun y=>some (.inr y))
theorem ztS (i:qS) (v:wn) (next:wn→Ans) (exit:zlB→Ans):Qy i v next exit=za (yI i v) (Sum.elim next exit):=by
  obtain ⟨t21,t22,o2_0,o2_1,o2_2,o2_3,o2_4,o2_5,o2_6,o2_7,o2_8⟩:=i
  obtain ⟨t23,o0_0,o3⟩:=v
  simp only [yI,Qy,zj,zg,zl,zc,zi,zm,zh,Sum.elim_inl,Sum.elim_inr]
theorem zwG (n:Nat) (i:qS) (v:wn) (K:Ex→St→Ans):zA Tryz.tab zeq zf (zD Tryz.tab zeq zf 0 64) (n+1) 45 zf3 (.loop zei) (zH 4 (exk [] [] [(0,[])]) K) (zlq i v)=Qy i v (fun v'=>zA Tryz.tab zeq zf (zD Tryz.tab zeq zf 0 64) n 45 zf3 (.loop zei) (zH 4 (exk [] [] [(0,[])]) K) (zlq i v')) (fun y=>zi8 i K y):=by kernel_rfl
theorem zEb:zy Tryz.prog 45 (.loop zei) (y9 zhW yI zi8):=yQ mixed tabOk zBv 4 (exk [] [] [(0,[])]) zxW zCI zwG ztS
noncomputable def zFb:(Ex→St→Ans)→St→Ans:=(y9 zhW yI zi8)
theorem zJe:zy Tryz.prog 45 (.loop zei) zFb:=zEb
noncomputable def zMH:Ann:=(.seq .none (.seq .none (.seq .none (.block (.cut 4 [0,1,21,22,23] zFb)))))
theorem zMU:zr Tryz.prog 45 zQj zMH:=⟨(zb _ _ _),⟨(zb _ _ _),⟨(zb _ _ _),zJe⟩⟩⟩
abbrev zdQ:=(Int)×(Int)×(Int)×(Int)×(Int)×(Int)×(Int)×(Int)×(List (Int×(Int×Int)×List UInt8×((Int×Int)×List UInt8)×(Int×Int)×List UInt8))×(List Bool)×(List (List UInt8))
abbrev zId:=(Int)×(List (List UInt8))
def zrW {β:Type}:zdQ→(zId→Option β)→Option β:=fun (o0_0,o2_0,o2_1,o2_2,o2_3,o2_4,o2_5,o2_6,o2_7,o2_8,o3) exit=>(za (zcD (o2_0,o2_1,o2_2,o2_3,o2_4,o2_5,o2_6)) (unP fun r_0 r_1=>(za (zaF ((20:Int),r_0,r_1,o0_0,o3)) (unP fun r=>unP fun o0_0_2 o2=>(bif !r then (exit (o0_0_2,o2)) else (za (zZ (yI (o2_7,(↑(List.length o2_7):Int),o2_0,o2_1,o2_2,o2_3,o2_4,o2_5,o2_6,o2_7,o2_8)) Zo ((0:Int),o0_0_2,o2)) (Sum.elim (unP fun o0_0_3 o3_2=>(exit (o0_0_3,o3_2))) (unP fun o0_0_3 o3_2=>(exit (o0_0_3,o3_2))))))))))
def zgY (a:zdQ):Option zId:=zrW a some
theorem zNN (a:zdQ) (k:zId→Ans):zrW a k=za (zgY a) k:=by
  obtain ⟨o0_0,o2_0,o2_1,o2_2,o2_3,o2_4,o2_5,o2_6,o2_7,o2_8,o3⟩:=a
  simp only [zgY,zrW,zj,zg,zl,zc,zi,zm,zh]
def zjD:zdQ→List AV×List AE.Obj:=fun (o0_0,o2_0,o2_1,o2_2,o2_3,o2_4,o2_5,o2_6,o2_7,o2_8,o3)=>([.fn (Fn.func 28) [] [.ptr 0 0,.ptr 1 0],.ptr 2 0],[.cells [.int .i64 o0_0],.cells [.own 3],.cells [.int .i64 o2_0,.int .i64 o2_1,.int .i64 o2_2,.int .i64 o2_3,.int .i64 o2_4,.int .i64 o2_5,.int .i64 o2_6,.ro (.st (.pair (.int .i64) (.pair (.pair (.int .i64) (.int .i64)) (.pair .str (.pair (.pair (.pair (.int .i64) (.int .i64)) .str) (.pair (.pair (.int .i64) (.int .i64)) .str)))))) o2_7,.ro .bool o2_8],.arr .str o3])
def zAP (l:List AV) (H:List AE.Obj):Option {a:zdQ // (l,H)=zjD a}:=match l,H with
  | [.fn (Fn.func 28) [] [.ptr 0 0,.ptr 1 0],.ptr 2 0],[.cells [.int .i64 o0_0],.cells [.own 3],.cells [.int .i64 o2_0,.int .i64 o2_1,.int .i64 o2_2,.int .i64 o2_3,.int .i64 o2_4,.int .i64 o2_5,.int .i64 o2_6,.ro (.st (.pair (.int .i64) (.pair (.pair (.int .i64) (.int .i64)) (.pair .str (.pair (.pair (.pair (.int .i64) (.int .i64)) .str) (.pair (.pair (.int .i64) (.int .i64)) .str)))))) o2_7,.ro .bool o2_8],.arr .str o3]=>some ⟨(o0_0,o2_0,o2_1,o2_2,o2_3,o2_4,o2_5,o2_6,o2_7,o2_8,o3),rfl⟩
  | _,_=>none
def zGV (l:List AV) (H:List AE.Obj):Option zdQ:=pk (zAP l H)
theorem zHY (l:List AV) (H:List AE.Obj) (a:zdQ) (h:zGV l H=some a):(l,H)=zjD a:=zx (o:=zAP l H) h
def zLM:zdQ→(AV→List AE.Obj→Ans)→zId→Ans:=fun (o0_0,o2_0,o2_1,o2_2,o2_3,o2_4,o2_5,o2_6,o2_7,o2_8,o3) K=>unP fun o0_0_y o3_y=>K (.tup []) [.cells [.int .i64 o0_0_y],.cells [.own 3],.cells [.int .i64 o2_0,.int .i64 o2_1,.int .i64 o2_2,.int .i64 o2_3,.int .i64 o2_4,.int .i64 o2_5,.int .i64 o2_6,.ro (.st (.pair (.int .i64) (.pair (.pair (.int .i64) (.int .i64)) (.pair .str (.pair (.pair (.pair (.int .i64) (.int .i64)) .str) (.pair (.pair (.int .i64) (.int .i64)) .str)))))) o2_7,.ro .bool o2_8],.arr .str o3_y]
theorem zP1 (a:zdQ) (K:AV→List AE.Obj→Ans):fnE Tryz.tab zeq zf 0 70 66 Tryz.f66.ntmps Tryz.f66.results.toList zMH zQj (zjD a).1 (zjD a).2 K=zrW a (zLM a K):=by kernel_rfl
def zVp (a:zdQ) (K:AV→List AE.Obj→Ans):Ans:=za (zgY a) fun y=>zLM a K y
def zVm:List AV→List AE.Obj→(AV→List AE.Obj→Ans)→Ans:=fun l H K=>za (zGV l H) fun a=>zVp a K
theorem zSV:zP Tryz.prog 66 zVm:=ZN (hint:=zf) (d:=0) (n:=70) mixed tabOk zBv Tryz.func66 (zI (by kernel_rfl)) (by decide +kernel) zMU zHY zP1 zNN
--@ dump_Put
noncomputable def zyA:Env:=[(22,.pure zIF),(14,.pure Fq6),(30,.func zUN),(28,.func zRi),(66,.func zVm)]
theorem zFy:zd Tryz.prog zyA:=zd.cons zr3 (zd.cons zCD (zd.cons zSy (zd.cons zE5 (zd.cons zSV (zd.nil)))))
noncomputable def bq9:Code:=Tryz.f9.body.getD .skip
noncomputable def zpn:Code:=zL [1,1,1,1,1,1,0,1] bq9
noncomputable def zvH:Ann := .none
theorem zAc:zr Tryz.prog 28 zpn zvH:=(zb _ _ _)
abbrev Je:=(Bool)×(Int)×(List (List UInt8))
abbrev zp3:=(Int)×(List (List UInt8))
def zzE:Je→St:=fun (t19,o1_0,o2)=>{ env:=[(5,.ptr 0 0),(6,.ptr 1 0),(7,.fn (Fn.func 28) [] [.ptr 1 0,.ptr 0 0]),(19,.bool t19)],stk:=[[]],H:=[.cells [.own 2],.cells [.int .i64 o1_0],.arr .str o2],blk:=36864 }
def zvR (s:St):Option {x:Je // s=zzE x}:=match s with
  | { env:=[(5,.ptr 0 0),(6,.ptr 1 0),(7,.fn (Fn.func 28) [] [.ptr 1 0,.ptr 0 0]),(19,.bool t19)],stk:=[[]],H:=[.cells [.own 2],.cells [.int .i64 o1_0],.arr .str o2],blk:=36864 }=>some ⟨(t19,o1_0,o2),rfl⟩
  | _=>none
def zm4 (s:St):Option Je:=pk (zvR s)
theorem zDa (s:St) (x:Je) (h:zm4 s=some x):s=zzE x:=zx (o:=zvR s) h
def znk:Je→(Ex→St→Ans)→zp3→Ans:=fun (t19,o1_0,o2) K=>unP fun o1_0_y o2_y=>K (Ex.norm) { env:=[(5,.ptr 0 0),(6,.ptr 1 0)],stk:=[[]],H:=[.cells [.own 2],.cells [.int .i64 o1_0_y],.arr .str o2_y],blk:=36864 }
def zaK {β:Type}:Je→(zp3→Option β)→Option β:=fun (t19,o1_0,o2) exit=>(bif t19 then (za (zcr (o2)) fun r=>(za (zaF ((22:Int),r,(0:Int),o1_0,o2)) (unP fun r_2=>unP fun o0_0 o2_2=>(exit (o0_0,o2_2))))) else (exit (o1_0,o2)))
def Qq (i:Je):Option zp3:=zaK i some
theorem zwI (i:Je) (k:zp3→Ans):zaK i k=za (Qq i) k:=by
  obtain ⟨t19,o1_0,o2⟩:=i
  simp only [Qq,zaK,zj,zg,zl,zc,zi,zm,zh]
theorem zBz (i:Je) (K:Ex→St→Ans):zA Tryz.tab zyA zf (zD Tryz.tab zyA zf 0 64) 70 28 zvH zpn (zH 0 (exk [5,6] [2,3] []) K) (zzE i)=zaK i (znk i K):=by kernel_rfl
theorem zIh:zy Tryz.prog 28 zpn (zG zm4 Qq znk):=zB mixed tabOk zFy 0 (exk [5,6] [2,3] []) zAc zDa zBz zwI
noncomputable def zNi:(Ex→St→Ans)→St→Ans:=(zG zm4 Qq znk)
theorem zKP:zy Tryz.prog 28 zpn zNi:=zIh
noncomputable def zSh:Ann:=(.seq .none (.seq .none (.seq .none (.seq .none (.seq .none (.seq .none (.seq (.seq .none (.cut 0 [5,6,7,19] zNi)) .none)))))))
theorem zRG:zr Tryz.prog 28 bq9 zSh:=⟨(zb _ _ _),⟨(zb _ _ _),⟨(zb _ _ _),⟨(zb _ _ _),⟨(zb _ _ _),⟨(zb _ _ _),⟨⟨(zb _ _ _),zKP⟩,(zb _ _ _)⟩⟩⟩⟩⟩⟩⟩
abbrev Aq9:=(Int)×(Int)×(Int)×(Int)×(Int)×(Int)×(Int)×(List (Int×(Int×Int)×List UInt8×((Int×Int)×List UInt8)×(Int×Int)×List UInt8))×(List Bool)
abbrev Yq9:=((Int)×(List (List UInt8))) ⊕ ((Int))
def zyX {β:Type}:Aq9→(Yq9→Option β)→Option β:=fun (a0_0,a0_1,a0_2,a0_3,a0_4,a0_5,a0_6,a0_7,a0_8) exit=>(za (zfh (a0_0,a0_1,a0_2,a0_3,a0_4,a0_5,a0_6,a0_7,a0_8)) fun r=>(bif r != (0:Int) then (exit (Sum.inl (r,[]))) else (za (zhl (a0_0,a0_1,a0_2,a0_3,a0_4,a0_5,a0_6,a0_7,a0_8)) fun _=>(za (zgY ((0:Int),a0_0,a0_1,a0_2,a0_3,a0_4,a0_5,a0_6,a0_7,a0_8,[])) (unP fun o0_0 o3=>(za (Qq (o0_0 == (0:Int),o0_0,o3)) (unP fun o1_0 o2=>(bif o1_0 != (0:Int) then (exit (Sum.inr (o1_0))) else (exit (Sum.inl ((0:Int),o2)))))))))))
def zj7 (a:Aq9):Option Yq9:=zyX a some
theorem zQv (a:Aq9) (k:Yq9→Ans):zyX a k=za (zj7 a) k:=by
  obtain ⟨a0_0,a0_1,a0_2,a0_3,a0_4,a0_5,a0_6,a0_7,a0_8⟩:=a
  simp only [zj7,zyX,zj,zg,zl,zc,zi,zm,zh]
def zo3:Aq9→List AV×List AE.Obj:=fun (a0_0,a0_1,a0_2,a0_3,a0_4,a0_5,a0_6,a0_7,a0_8)=>([.agg [.int .i64 a0_0,.int .i64 a0_1,.int .i64 a0_2,.int .i64 a0_3,.int .i64 a0_4,.int .i64 a0_5,.int .i64 a0_6,.ro (.st (.pair (.int .i64) (.pair (.pair (.int .i64) (.int .i64)) (.pair .str (.pair (.pair (.pair (.int .i64) (.int .i64)) .str) (.pair (.pair (.int .i64) (.int .i64)) .str)))))) a0_7,.ro .bool a0_8]],[])
def zFP (l:List AV) (H:List AE.Obj):Option {a:Aq9 // (l,H)=zo3 a}:=match l,H with
  | [.agg [.int .i64 a0_0,.int .i64 a0_1,.int .i64 a0_2,.int .i64 a0_3,.int .i64 a0_4,.int .i64 a0_5,.int .i64 a0_6,.ro (.st (.pair (.int .i64) (.pair (.pair (.int .i64) (.int .i64)) (.pair .str (.pair (.pair (.pair (.int .i64) (.int .i64)) .str) (.pair (.pair (.int .i64) (.int .i64)) .str)))))) a0_7,.ro .bool a0_8]],[]=>some ⟨(a0_0,a0_1,a0_2,a0_3,a0_4,a0_5,a0_6,a0_7,a0_8),rfl⟩
  | _,_=>none
def zML (l:List AV) (H:List AE.Obj):Option Aq9:=pk (zFP l H)
theorem zMy (l:List AV) (H:List AE.Obj) (a:Aq9) (h:zML l H=some a):(l,H)=zo3 a:=zx (o:=zFP l H) h
def zSs:Aq9→(AV→List AE.Obj→Ans)→Yq9→Ans:=fun (a0_0,a0_1,a0_2,a0_3,a0_4,a0_5,a0_6,a0_7,a0_8) K=>(Sum.elim (unP fun r_1_y o0_y=>K (.tup [.own 0,.int .i64 r_1_y]) [.arr .str o0_y]) (fun r_1_y=>K (.tup [.nils,.int .i64 r_1_y]) []))
theorem zS9 (a:Aq9) (K:AV→List AE.Obj→Ans):fnE Tryz.tab zyA zf 0 70 9 Tryz.f9.ntmps Tryz.f9.results.toList zSh bq9 (zo3 a).1 (zo3 a).2 K=zyX a (zSs a K):=by kernel_rfl
def zWo (a:Aq9) (K:AV→List AE.Obj→Ans):Ans:=za (zj7 a) fun y=>zSs a K y
def Fq9:List AV→List AE.Obj→(AV→List AE.Obj→Ans)→Ans:=fun l H K=>za (zML l H) fun a=>zWo a K
theorem zUo:zP Tryz.prog 9 Fq9:=ZN (hint:=zf) (d:=0) (n:=70) mixed tabOk zFy Tryz.func9 (zI (by kernel_rfl)) (by decide +kernel) zRG zMy zS9 zQv
--@ ref43_Same
end Go.Proofs.R9
namespace Go.Proofs.R9
open Go Go.AE Go.Plain
theorem zeZ {m:Nat} (h:m<4294967296):IntKind.wrap .u32 (m:Int)=(m:Int):=by
  simp [IntKind.wrap,IntKind.bits,IntKind.signed];omega
theorem zBE (m:Nat):IntKind.wrap .u8 (m:Int)=((m % 256:Nat):Int):=by
  simp [IntKind.wrap,IntKind.bits,IntKind.signed]
theorem zh3 {m:Nat} (h:m<4294967296):Int.toNat ((m:Int) % 4294967296)=m:=by omega
theorem zSb {m:Nat} (h:m<9223372036854775808):Int.toNat ((m:Int) % 18446744073709551616)=m:=by omega
theorem zq9 {m:Nat} (h:m≤9223372036854775807):IntKind.wrap .i64 (m:Int)=(m:Int):=yz (by omega) (by omega)
theorem zfe (m p:Nat):Int.fdiv (m:Int) (p:Int)=((m / p:Nat):Int):=by rw [Int.fdiv_eq_ediv_of_nonneg _ (by omega)];rfl
theorem zRM (m p:Nat):Int.tmod (m:Int) (p:Int)=((m % p:Nat):Int):=rfl
theorem zJj {n:Nat} (h:n<4294967296):IntKind.wrap .u32 (((Int.toNat (Int.fdiv (n:Int) 2 % 4294967296) ^^^ Int.toNat (IntKind.wrap .u32 (((3988292384 &&&
    Int.toNat (IntKind.wrap .u32 ((0:Int) - IntKind.wrap .u32 (((Int.toNat ((n:Int) % 4294967296) &&& 1:Nat)):Int)) % 4294967296):Nat)):Int) % 4294967296):Nat)):Int)=((ye n:Nat):Int):=by
  have e1:Int.fdiv (n:Int) 2=((n / 2:Nat):Int):=zfe n 2
  rw [e1,zh3 (m:=n / 2) (by omega),zh3 h,Nat.and_one_is_mod]
  have hlt:=zbA (n:=n) (by omega)
  unfold ye at hlt ⊢
  have hn:n % 2=0∨n % 2=1:=by omega
  rcases hn with hn | hn <;> rw [hn] at hlt ⊢
  · have:Int.toNat (IntKind.wrap .u32 (((3988292384 &&& Int.toNat (IntKind.wrap .u32 ((0:Int) - IntKind.wrap .u32 ((0:Nat):Int)) % 4294967296):Nat)):Int) % 4294967296)=0:=by decide
    rw [this]
    exact zeZ hlt
  · have:Int.toNat (IntKind.wrap .u32 (((3988292384 &&& Int.toNat (IntKind.wrap .u32 ((0:Int) - IntKind.wrap .u32 ((1:Nat):Int)) % 4294967296):Nat)):Int) % 4294967296)=zCO:=by decide
    rw [this]
    exact zeZ hlt
theorem zLC (k n:Nat):yi (k+1) n=ye (yi k n):=by rw [← znY k 1];rfl
theorem zsr {n c:Nat} (hn:n<4294967296) (hc:c<256):zkl ((n:Int),(c:Int))=some ((yW n c:Nat):Int):=by
  have hx:n ^^^ c<4294967296:=Nat.xor_lt_two_pow (n:=32) hn (by omega)
  have key : ∃y,zZ (YO ()) Zo (((n ^^^ c:Nat):Int),(0:Int))=some y∧y=((yW n c:Nat):Int):=by
    refine qp (fun j v=>j≤8∧v=(((yi j (n ^^^ c):Nat):Int),(j:Int))) 8 _ ?_ ⟨by omega,rfl⟩ (by omega)
    rintro j v ⟨hj,rfl⟩
    have hb:=zr5 j (n:=n ^^^ c) hx
    by_cases h8:j<8
    · left
      refine ⟨_,?_,h8,by omega,rfl⟩
      simp only [YO,jC,zp (show (j:Int)<8 by omega),cond_true]
      rw [zJj hb,ZG (by omega),zLC]
    · right
      obtain rfl:j=8:=by omega
      refine ⟨_,?_,rfl⟩
      simp only [YO,jC,zq (show ¬((8:Nat):Int)<8 by omega),cond_false]
      rfl
  obtain ⟨y,hy,rfl⟩:=key
  have e:IntKind.wrap .u32 (((Int.toNat ((n:Int) % 4294967296) ^^^ Int.toNat (IntKind.wrap .u32 (c:Int) % 4294967296):Nat)):Int)=((n ^^^ c:Nat):Int):=by
    rw [zh3 hn,zeZ (m:=c) (by omega),zh3 (m:=c) (by omega),zeZ hx]
  simp only [zkl,zz3]
  rw [e,hy]
  rfl
theorem zPv (m:Nat) {s:List UInt8} {j:Nat} {c:UInt8} (h:s[j]? = some c):QS m (s.take (j+1))=yW (QS m (s.take j)) c.toNat:=by
  rw [List.take_add_one,h,qP];rfl
theorem zTr {n:Nat} (hn:n<4294967296):IntKind.wrap .u32 (((Int.toNat ((n:Int) % 4294967296) ^^^ 4294967295:Nat)):Int)=((n ^^^ wh:Nat):Int):=by
  rw [zh3 hn,zeZ (Nat.xor_lt_two_pow (n:=32) hn (by decide))]
  rfl
theorem zBb (s:List UInt8) (hs:s.length≤1000000000000):zll s=some ((crc s:Nat):Int):=by
  have key : ∃y,zZ (Yb (s,(s.length:Int),0)) Zo (((wh:Nat):Int),((0:Nat):Int))=some y∧y=((QS wh s:Nat):Int):=by
    refine Qj s (fun j (_:Unit)=>(((QS wh (s.take j):Nat):Int),(j:Int))) (fun _ _=>True) _ ?_ ?_ (s0:=()) trivial (by omega)
    · intro j c _ hj hlt _
      left
      refine ⟨(),?_,trivial⟩
      have hr:=zch (s.take j) (n:=wh) (by decide)
      simp only [Yb,ju,zp (show (j:Int)<(s.length:Int) by omega),cond_true,zaG hj,zc,ZG (show j<9223372036854775807 by omega),zsr hr c.toNat_lt,zPv wh hj]
    · intro _ _
      simp only [Yb,ju,zq (show ¬(s.length:Int)<(s.length:Int) by omega),cond_false]
      exact ⟨_,rfl,by rw [List.take_length]⟩
  obtain ⟨y,hy,rfl⟩:=key
  have hr:=zch s (n:=wh) (by decide)
  have hc:QS wh s ^^^ wh<4294967296:=zLy s
  have h0:IntKind.wrap .u32 (((Int.toNat ((0:Int) % 4294967296) ^^^ 4294967295:Nat)):Int)=((wh:Nat):Int):=by decide
  simp only [zll,zBC,zrY,zCe,zq3,zBB,zoN,zCx,zc]
  have hy':zZ (Yb (s,(s.length:Int),0)) Zo (((wh:Nat):Int),0)=_:=hy
  rw [h0,hy']
  simp only [zc]
  rw [zTr hr,zq9 (by omega)]
  rfl
theorem zyp (n p:Nat):UInt8.ofNat (Int.toNat (IntKind.wrap .u8 (Int.fdiv (n:Int) (p:Int))))=UInt8.ofNat (n / p % 256):=by
  rw [zfe,zBE]
  rfl
theorem wD (s:List UInt8) (hs:s.length≤1000000000000):zap s=some (tail s):=by
  simp only [zap,zAH,zBb s hs,zc,q4,zaM,Qx,za2,wo,Q4,wp,Q0,wl,QV,wF,QY,unP]
  have b0:=zyp (crc s) 1
  have b1:=zyp (crc s) 256
  have b2:=zyp (crc s) 65536
  have b3:=zyp (crc s) 16777216
  simp only [Int.cast_ofNat_Int] at b0 b1 b2 b3
  unfold z6 tail le4
  simp only [List.map_cons,List.map_nil]
  rw [b0,b1,b2,b3,Nat.div_one]
theorem zmb : ∀n:Nat,Lib.repeatL [0] n=List.replicate n 0
  | 0=>rfl
  | n+1=>by rw [Lib.repeatL,zmb n,List.replicate_succ];rfl
theorem zxN (s:List UInt8) (hs:s.length≤1000000000000):zfa s=some (zbv s):=by
  have e:Int.tmod (s.length:Int) 64=((s.length % 64:Nat):Int):=rfl
  simp only [zfa,zre,e]
  by_cases h:s.length % 64=0
  · rw [zq (by omega),cond_false,zbv,h]
    simp
  · have e2:IntKind.wrap .i64 ((64:Int) - ((s.length % 64:Nat):Int))=((64 - s.length % 64:Nat):Int):=by rw [yz (by omega) (by omega)];omega
    rw [zp (by omega),cond_true,e2]
    have:y1 ([0],((64 - s.length % 64:Nat):Int))=some (List.replicate (64 - s.length % 64) 0):=by
      unfold y1
      rw [zmb]
      simp only [Int.toNat_natCast,List.length_cons,List.length_nil]
      rw [zp (by omega),zp (by omega),Zl (by omega)]
      rfl
    rw [this]
    simp only [zc]
    rw [Zl (by rw [List.length_replicate];omega),cond_true,zbv,show (64 - s.length % 64) % 64=64 - s.length % 64 by omega]
theorem zNQ (k:Nat):(2:Nat) ^ (8*k)=256 ^ k:=by rw [Nat.pow_mul]
theorem zw1 (n:Int) (k:Nat) (hk:1≤k∧k≤7):zey (n,(k:Int))=some (decide (0≤n∧n<((256 ^ k:Nat):Int))):=by
  have w:IntKind.wrap .i64 ((8:Int)*(k:Int))=((8*k:Nat):Int):=by rw [yz (by omega) (by omega)];omega
  simp only [zey,zoK,WE,jF,za3,zfy,Yi,w6,zc]
  rw [zp (show (k:Int)≥1 by omega),zp (show (k:Int)≤7 by omega),cond_true]
  simp only [zc,cond_true]
  by_cases h0:n≥0
  · rw [zp h0,cond_true,w,zq (by omega),cond_false]
    simp only [zc]
    obtain ⟨m,rfl⟩:=Int.eq_ofNat_of_zero_le h0
    have:min (Int.toNat ((8*k:Nat):Int)) 64=8*k:=by simp only [Int.toNat_natCast];omega
    rw [this]
    have:(2:Int) ^ (8*k)=((2 ^ (8*k):Nat):Int):=by simp
    rw [this,zfe,zNQ]
    have hp:0<256 ^ k:=Nat.pow_pos (by omega)
    congr 1
    rw [Bool.eq_iff_iff,beq_iff_eq,decide_eq_true_eq]
    have:m / 256 ^ k=0↔m<256 ^ k:=Nat.div_eq_zero_iff_lt hp
    omega
  · rw [zq h0,cond_false]
    simp only [zc]
    rw [zq (by omega)]
def zO (s:List UInt8) (n:Int) (k:Nat):List UInt8:=if 0≤n∧n<((256 ^ k:Nat):Int) then s++be k n.toNat else s
theorem Zh (s:List UInt8) (n:Int) (k:Nat):(zO s n k).length≤s.length+k:=by
  unfold zO;split
  · rw [List.length_append,zT];omega
  · omega
theorem zrS (s:List UInt8):z6 (zW s)=s:=by
  unfold z6 zW
  rw [List.map_map]
  conv=>rhs;rw [← List.map_id s]
  refine List.map_congr_left fun c _ => ?_
  simp
theorem yo (s:List UInt8) (n:Int) (k:Nat) (hk:1≤k∧k≤7) (hs:s.length≤1000000000000):Zt (s,n,(k:Int))=some (zO s n k):=by
  simp only [Zt,zoL,zw1 n k hk,zc]
  unfold zO
  by_cases hf:0≤n∧n<((256 ^ k:Nat):Int)
  · rw [if_pos hf,zp hf]
    obtain ⟨m,rfl⟩:=Int.eq_ofNat_of_zero_le hf.1
    simp only [Bool.not_true,cond_false,Int.toNat_natCast]
    rw [zp (show (0:Int)≤k by omega),zp (show (k:Int)≤k by omega),zp (show (1:Int)*k≤281474976710656 by omega),zp (show (k:Int)≤9223372036854775807 by omega)]
    simp only [Bool.and_self,cond_true,List.length_replicate]
    have key : ∃y,zZ (yL (s,(m:Int),(k:Int),(k:Int))) Zo (((0:Nat):Int),List.replicate k (0:Int))=some y∧y=zW (be k m):=by
      refine qp (fun j v=>j≤k∧v=((j:Int),(zW (be k m)).take j++List.replicate (k - j) 0)) k _ ?_ ⟨by omega,by simp⟩ (by omega)
      rintro j v ⟨hj,rfl⟩
      by_cases hlt:j<k
      · left
        refine ⟨_,?_,hlt,by omega,rfl⟩
        have w1:IntKind.wrap .i64 ((k:Int) - 1)=((k - 1:Nat):Int):=by rw [yz (by omega) (by omega)];omega
        have w2:IntKind.wrap .i64 (((k - 1:Nat):Int) - (j:Int))=((k - 1 - j:Nat):Int):=by rw [yz (by omega) (by omega)];omega
        have w3:IntKind.wrap .i64 ((8:Int)*((k - 1 - j:Nat):Int))=((8*(k - 1 - j):Nat):Int):=by rw [yz (by omega) (by omega)];omega
        have hlen:((zW (be k m)).take j++List.replicate (k - j) (0:Int)).length=k:=by simp [zW,zT];omega
        have hget:((zW (be k m)).take j++List.replicate (k - j) (0:Int))[j]? = some 0:=by
          rw [List.getElem?_append_right (by simp [zW,zT];omega),List.getElem?_replicate,if_pos (by simp [zW,zT];omega)]
        simp only [yL,QJ,zp (show (j:Int)<(k:Int) by omega),cond_true,w1,w2,w3,zq (show ¬((8*(k - 1 - j):Nat):Int)<0 by omega),cond_false,hlen,
          Zw (show (0:Int)≤(j:Int)∧(j:Int)<(k:Int) by omega),Int.toNat_natCast,hget,zc,ZG (show j<9223372036854775807 by omega)]
        have hm:min (8*(k - 1 - j)) 64=8*(k - 1 - j):=by omega
        have hp:(2:Int) ^ (8*(k - 1 - j))=((256 ^ (k - 1 - j):Nat):Int):=by rw [← zNQ];simp
        rw [hm,hp,zfe,zBE]
        have hb:=zNa k m j hlt
        have hi:(zW (be k m))[j]? = some ((m / 256 ^ (k - 1 - j) % 256:Nat):Int):=by
          unfold zW
          rw [List.getElem?_map,hb]
          simp [zvx]
        congr 3
        apply List.ext_getElem?
        intro i
        have h1:(zW (be k m)).length=k:=by simp [zW,zT]
        rw [List.getElem?_set]
        by_cases hij:j=i
        · subst hij
          rw [if_pos rfl,if_pos (by rw [hlen];omega),List.getElem?_append_left (by rw [List.length_take];omega),List.getElem?_take_of_lt (by omega),hi]
        · rw [if_neg hij]
          by_cases hij2:i<j
          · rw [List.getElem?_append_left (by rw [List.length_take];omega),List.getElem?_append_left (by rw [List.length_take];omega),List.getElem?_take_of_lt hij2,List.getElem?_take_of_lt (by omega)]
          · rw [List.getElem?_append_right (by rw [List.length_take];omega),List.getElem?_append_right (by rw [List.length_take];omega),List.getElem?_replicate,List.getElem?_replicate,List.length_take,List.length_take]
            split <;> split <;> first | rfl | omega
      · right
        obtain rfl:j=k:=by omega
        simp only [yL,QJ,zq (show ¬(j:Int)<(j:Int) by omega),cond_false]
        refine ⟨_,rfl,?_⟩
        rw [Nat.sub_self,List.replicate_zero,List.append_nil,List.take_of_length_le (by simp [zW,zT])]
    obtain ⟨y,hy,rfl⟩:=key
    have hy':zZ (yL (s,(m:Int),(k:Int),(k:Int))) Zo (0,List.replicate k (0:Int))=_:=hy
    rw [hy']
    simp only [zc,zrS,zT]
    rw [Zl (by omega),cond_true]
  · rw [if_neg hf,zq hf]
    rfl
theorem zxa (n:Int) (k:Nat) (hk:1≤k∧k≤7) (hn : -9223372036854775808≤n∧n≤9223372036854775807):zzF (n,(k:Int))=some (decide (0≤n∧n<((256 ^ k:Nat):Int))):=by
  simp only [zzF,zSr,zma,zqK,zc]
  rw [zq (show ¬(k:Int)<1 by omega),zq (show ¬(k:Int)>7 by omega),cond_false,cond_false]
  simp only [zc]
  by_cases h0:n<0
  · rw [zp h0,cond_true,zq (by omega)]
  · rw [zq h0,cond_false]
    obtain ⟨m,rfl⟩:=Int.eq_ofNat_of_zero_le (show 0≤n by omega)
    have key : ∃y,zZ (Q3 (k:Int)) Zo ((m:Int),((0:Nat):Int))=some y∧y=((m / 256 ^ k:Nat):Int):=by
      refine qp (fun j v=>j≤k∧v=(((m / 256 ^ j:Nat):Int),(j:Int))) k _ ?_ ⟨by omega,by simp⟩ (by omega)
      rintro j v ⟨hj,rfl⟩
      by_cases hlt:j<k
      · left
        refine ⟨_,?_,hlt,by omega,rfl⟩
        have e:Int.tdiv ((m / 256 ^ j:Nat):Int) 256=((m / 256 ^ (j+1):Nat):Int):=by
          rw [Nat.pow_succ,← Nat.div_div_eq_div_mul];rfl
        have hle:=Nat.div_le_self m (256 ^ (j+1))
        simp only [Q3,zf0,zp (show (j:Int)<(k:Int) by omega),cond_true,e,zq9 (show m / 256 ^ (j+1)≤9223372036854775807 by omega),ZG (show j<9223372036854775807 by omega)]
      · right
        obtain rfl:j=k:=by omega
        simp only [Q3,zf0,zq (show ¬(j:Int)<(j:Int) by omega),cond_false]
        exact ⟨_,rfl,rfl⟩
    obtain ⟨y,hy,rfl⟩:=key
    have hy':zZ (Q3 (k:Int)) Zo ((m:Int),0)=_:=hy
    rw [hy']
    simp only [zc]
    have hp:0<256 ^ k:=Nat.pow_pos (by omega)
    congr 1
    rw [Bool.eq_iff_iff,beq_iff_eq,decide_eq_true_eq,Int.natCast_eq_zero,Nat.div_eq_zero_iff_lt hp]
    omega
theorem zyH (s:List UInt8) (n:Int) (k:Nat) (hk:1≤k∧k≤7) (hn : -9223372036854775808≤n∧n≤9223372036854775807) (hs:s.length≤1000000000000):zef (s,n,(k:Int))=some (zO s n k):=by
  simp only [zef,zSi,zxa n k hk hn,zc]
  unfold zO
  by_cases hf:0≤n∧n<((256 ^ k:Nat):Int)
  · rw [if_pos hf,zp hf]
    obtain ⟨m,rfl⟩:=Int.eq_ofNat_of_zero_le hf.1
    simp only [Bool.not_true,cond_false,Int.toNat_natCast]
    have key : ∃y,zZ (QZ (s,(k:Int))) Zo ((m:Int),([]:List UInt8),((0:Nat):Int))=some y∧y=be k m:=by
      refine qp (fun j v=>j≤k∧v=(((m / 256 ^ j:Nat):Int),be j m,(j:Int))) k _ ?_ ⟨by omega,by simp [be]⟩ (by omega)
      rintro j v ⟨hj,rfl⟩
      by_cases hlt:j<k
      · left
        refine ⟨_,?_,hlt,by omega,rfl⟩
        have e:Int.tdiv ((m / 256 ^ j:Nat):Int) 256=((m / 256 ^ (j+1):Nat):Int):=by
          rw [Nat.pow_succ,← Nat.div_div_eq_div_mul];rfl
        have hle:=Nat.div_le_self m (256 ^ (j+1))
        have e2:IntKind.wrap .u8 (Int.tmod ((m / 256 ^ j:Nat):Int) 256)=((m / 256 ^ j % 256:Nat):Int):=by
          rw [show Int.tmod ((m / 256 ^ j:Nat):Int) 256=((m / 256 ^ j % 256:Nat):Int) from rfl,zBE,Nat.mod_mod]
        simp only [QZ,zfx,zp (show (j:Int)<(k:Int) by omega),cond_true,e,e2,zq9 (show m / 256 ^ (j+1)≤9223372036854775807 by omega),ZG (show j<9223372036854775807 by omega)]
        have e3:z6 [((m / 256 ^ j % 256:Nat):Int)]=[UInt8.ofNat (m / 256 ^ j % 256)]:=rfl
        rw [e3,List.length_singleton,zT,Zl (by omega),cond_true,be]
        rfl
      · right
        obtain rfl:j=k:=by omega
        simp only [QZ,zfx,zq (show ¬(j:Int)<(j:Int) by omega),cond_false]
        exact ⟨_,rfl,rfl⟩
    obtain ⟨y,hy,rfl⟩:=key
    have hy':zZ (QZ (s,(k:Int))) Zo ((m:Int),[],0)=_:=hy
    rw [hy']
    simp only [zc,zT]
    rw [Zl (by omega),cond_true]
  · rw [if_neg hf,zq hf]
    rfl
end Go.Proofs.R9
namespace Go.Proofs.R9
open Go Go.AE Go.Plain
theorem W6 (n:Nat) (r:List UInt8) (h:n≤r.length) (hl:r.length≤1000000000000):yB ((n:Int),r,0)=some (r.take n,r.drop n,0):=by
  simp only [yB,zgc,Yf,wM]
  rw [zq (show ¬(n:Int)<0 by omega),cond_false,zq (show ¬(n:Int)>(r.length:Int) by omega),cond_false]
  simp only [zc]
  rw [Zw (show (0:Int)≤(n:Int)∧(n:Int)<((r.length+1:Nat):Int) by omega)]
  rfl
theorem zSZ (n c:Nat) (hc:c<256):(n*256) ||| c=256*n+c:=by
  have:=Nat.shiftLeft_add_eq_or_of_lt (i:=8) (b:=c) (by omega) n
  rw [Nat.shiftLeft_eq] at this
  simp only [show (2:Nat) ^ 8=256 from rfl] at this
  omega
theorem yu (k:Nat) (r:List UInt8) (hk:1≤k∧k≤7) (h:k≤r.length) (hl:r.length≤1000000000000):ZY ((k:Int),r,0)=some (((num (r.take k):Nat):Int),r.drop k,0):=by
  simp only [ZY,zlE,za3,zfy,Yi,w6,zc]
  rw [zp (show (k:Int)≥1 by omega),zp (show (k:Int)≤7 by omega),cond_true]
  simp only [zc,Bool.not_true,cond_false,W6 k r h hl,unP]
  have hlen:(r.take k).length=k:=by rw [List.length_take];omega
  have hil:(zW (r.take k)).length=k:=by rw [zW,List.length_map,hlen]
  rw [Zl (by omega),cond_true,hil]
  have key : ∃y,zZ (yO ((k:Int),r.drop k,0,zW (r.take k))) Zo ((0:Int),((0:Nat):Int))=some y∧y=((num (r.take k):Nat):Int):=by
    refine qp (fun j v=>j≤k∧v=(((num (r.take j):Nat):Int),(j:Int))) k _ ?_ ⟨by omega,by simp [num]⟩ (by omega)
    rintro j v ⟨hj,rfl⟩
    by_cases hlt:j<k
    · left
      refine ⟨_,?_,hlt,by omega,rfl⟩
      have hget:r[j]? = some r[j]:=List.getElem?_eq_getElem (by omega)
      generalize r[j]=c at hget
      have hi:(zW (r.take k))[j]? = some ((c.toNat:Nat):Int):=by
        rw [zW,List.getElem?_map,List.getElem?_take_of_lt hlt,hget];rfl
      have hn:=zrb (r.take j)
      have hp:256 ^ (r.take j).length≤256 ^ 6:=Nat.pow_le_pow_right (by omega) (by rw [List.length_take];omega)
      have hc:c.toNat<256:=c.toNat_lt
      have e1:IntKind.wrap .i64 (((num (r.take j):Nat):Int)*256)=((num (r.take j)*256:Nat):Int):=by rw [yz (by omega) (by omega)];omega
      have e2:num (r.take (j+1))=256*num (r.take j)+c.toNat:=by rw [List.take_add_one,hget];exact zRN _ _
      simp only [yO,QP,zp (show (j:Int)<(k:Int) by omega),cond_true,hil,Zw (show (0:Int)≤(j:Int)∧(j:Int)<(k:Int) by omega),Int.toNat_natCast,hi,zc,e1,
        zq9 (m:=c.toNat) (show c.toNat≤9223372036854775807 by omega),zSb (m:=num (r.take j)*256) (show num (r.take j)*256<9223372036854775808 by omega),zSb (m:=c.toNat) (show c.toNat<9223372036854775808 by omega),zSZ _ _ hc,
        zq9 (m:=256*num (r.take j)+c.toNat) (show 256*num (r.take j)+c.toNat≤9223372036854775807 by omega),ZG (show j<9223372036854775807 by omega),e2]
    · right
      obtain rfl:j=k:=by omega
      simp only [yO,QP,zq (show ¬(j:Int)<(j:Int) by omega),cond_false]
      exact ⟨_,rfl,rfl⟩
  obtain ⟨y,hy,rfl⟩:=key
  have hy':zZ (yO ((k:Int),r.drop k,0,zW (r.take k))) Zo (0,0)=_:=hy
  rw [hy']
  rfl
end Go.Proofs.R9
namespace Go.Proofs.R9
open Go Go.AE Go.Plain
abbrev zKA (x s l:Int):Prop:=(1≤x∧x≤24)∧(1≤s∧s≤8)∧24≤l∧l≤200
abbrev zfW (n r b c x s l:Int):Prop:=zKA x s l∧(0≤n∧n≤1)∧(0≤r∧r≤1)∧(0≤b∧b≤16777216)∧0≤c∧c<x
theorem zKm (n a b:Int):za5 (n,a,b)=some (decide (a≤n∧n≤b)):=by
  simp only [za5,zon,WS,jI]
  by_cases h:n≥a <;> simp [h,zc,show a≤n↔n≥a from Iff.rfl]
theorem zL4 (x s l:Int):zeT (x,s,l)=some (if zKA x s l then 0 else 3):=by
  simp only [zeT,zoI,Wn,Jw,zKm,zc]
  unfold zKA
  by_cases h1:1≤x∧x≤24
  · by_cases h2:1≤s∧s≤8
    · by_cases h3:24≤l∧l≤200
      · rw [zp h1,zp h2,zp h3,if_pos ⟨h1,h2,h3⟩];rfl
      · rw [zp h1,zp h2,zq h3,if_neg (fun h=>h3 h.2.2)];rfl
    · rw [zp h1,zq h2,if_neg (fun h=>h2 h.2.1)];rfl
  · rw [zq h1,if_neg (fun h=>h1 h.1)];rfl
theorem zJi (n b:Int):JL (n,b)=some (decide (0≤n∧n≤b)):=by
  simp only [JL,zrA,WB,JE]
  by_cases h:n≥0 <;> simp [h,zc,show 0≤n↔n≥0 from Iff.rfl]
def zhR (n r b c x s l:Int):Int:=if zfW n r b c x s l then 0 else 3
theorem zvU (n r b c x s l:Int):zcU (n,r,b,c,x,s,l)=some (zhR n r b c x s l):=by
  simp only [zcU,zrk,WC,j4,zJi,zL4,zc]
  unfold zhR
  by_cases h0:zKA x s l
  · rw [if_pos h0,yz (show -9223372036854775808≤x - 1 by omega) (by omega)]
    by_cases h1:0≤n∧n≤1
    · by_cases h2:0≤r∧r≤1
      · by_cases h3:0≤b∧b≤16777216
        · by_cases h4:0≤c∧c≤x - 1
          · rw [zp h1,zp h2,zp h3,zp h4,if_pos ⟨h0,h1,h2,h3,by omega⟩];rfl
          · rw [zp h1,zp h2,zp h3,zq h4,if_neg (fun h=>h4 (by have:=h.2.2.2.2;omega))];rfl
        · rw [zp h1,zp h2,zq h3,if_neg (fun h=>h3 h.2.2.2.1)];rfl
      · rw [zp h1,zq h2,if_neg (fun h=>h2 h.2.2.1)];rfl
    · rw [zq h1,if_neg (fun h=>h1 h.2.1)];rfl
  · rw [if_neg h0,if_neg (fun h=>h0 h.1)];rfl
def zbp (n r b:Int):List UInt8:=zO (zO (zO [83] n 1) r 1) b 4
def zne (n r b c x s:Int):List UInt8:=zO (zO (zO (zbp n r b) c 1) x 1) s 1
def ZT (n r b c x s l:Int):List UInt8:=zO (zne n r b c x s) l 2
def ZR (n r b c x s l:Int):List UInt8:=zbv (ZT n r b c x s l++tail (ZT n r b c x s l))
def zhA (n r b c x s l:Int):List UInt8×Int:=if zfW n r b c x s l then (ZR n r b c x s l,0) else ([],3)
theorem zB2 (n r b:Int):(zbp n r b).length≤7:=by
  unfold zbp
  have h1:=Zh [83] n 1
  have h2:=Zh (zO [83] n 1) r 1
  have h3:=Zh (zO (zO [83] n 1) r 1) b 4
  simp only [List.length_cons,List.length_nil] at h1
  omega
theorem zGT (n r b c x s:Int):(zne n r b c x s).length≤10:=by
  unfold zne
  have h0:=zB2 n r b
  have h1:=Zh (zbp n r b) c 1
  have h2:=Zh (zO (zbp n r b) c 1) x 1
  have h3:=Zh (zO (zO (zbp n r b) c 1) x 1) s 1
  omega
theorem zC5 (n r b c x s l:Int):(ZT n r b c x s l).length≤12:=by
  unfold ZT
  have h0:=zGT n r b c x s
  have h1:=Zh (zne n r b c x s) l 2
  omega
theorem zPR (t:List UInt8) (n:Int) (k:Nat) (hk:1≤k∧k≤7) (ht:t.length≤100) {m:Int} (hm:m=(k:Int)):Zt (t,n,m)=some (zO t n k):=by
  subst hm;exact yo t n k hk (by omega)
theorem f1 (t:List UInt8) (n:Int) (ht:t.length≤100):Zt (t,n,1)=some (zO t n 1):=zPR t n 1 (by omega) ht rfl
theorem f2 (t:List UInt8) (n:Int) (ht:t.length≤100):Zt (t,n,2)=some (zO t n 2):=zPR t n 2 (by omega) ht rfl
theorem f4 (t:List UInt8) (n:Int) (ht:t.length≤100):Zt (t,n,4)=some (zO t n 4):=zPR t n 4 (by omega) ht rfl
theorem zKu (n r b c x s l:Int) (h:List UInt8) (hh:h.length≤10):zZ (ZI (3,n,r,b,c,x,s,l,[c,x,s])) Zo (h,0)=some (zO (zO (zO h c 1) x 1) s 1):=by
  have h1:=Zh h c 1
  have h2:=Zh (zO h c 1) x 1
  refine zgo 4 Zo _ _ (by unfold Zo;omega) ?_
  have st : ∀(j:Nat) (p:List UInt8) (v:Int),p.length≤100→j<3→[c,x,s][j]? = some v→ZI (3,n,r,b,c,x,s,l,[c,x,s]) (p,(j:Int))=some (.inl (zO p v 1,((j+1:Nat):Int))):=by
    intro j p v hp hj hv
    simp only [ZI,Jq,zp (show (j:Int)<3 by omega),cond_true,Zw (show (0:Int)≤(j:Int)∧(j:Int)<(([c,x,s].length:Nat):Int) by simp only [List.length_cons,List.length_nil];omega),Int.toNat_natCast,hv,zc,f1 p v hp]
    rw [ZG (by omega)]
  have s0:ZI (3,n,r,b,c,x,s,l,[c,x,s]) (h,0)=some (.inl (zO h c 1,1)):=st 0 h c (by omega) (by omega) rfl
  have s1:ZI (3,n,r,b,c,x,s,l,[c,x,s]) (zO h c 1,1)=some (.inl (zO (zO h c 1) x 1,2)):=st 1 _ x (by omega) (by omega) rfl
  have s2:ZI (3,n,r,b,c,x,s,l,[c,x,s]) (zO (zO h c 1) x 1,2)=some (.inl (zO (zO (zO h c 1) x 1) s 1,3)):=st 2 _ s (by omega) (by omega) rfl
  have s3 : ∀t,ZI (3,n,r,b,c,x,s,l,[c,x,s]) (t,3)=some (.inr t):=fun t=>rfl
  rw [zZ,s0,zc,Sum.elim_inl,zZ,s1,zc,Sum.elim_inl,zZ,s2,zc,Sum.elim_inl,zZ,s3,zc,Sum.elim_inr]
theorem zGB (n r b c x s l:Int):zcD (n,r,b,c,x,s,l)=some (zhA n r b c x s l):=by
  simp only [zcD,zrU,zvU,zc]
  unfold zhA zhR
  by_cases h:zfW n r b c x s l
  · rw [if_pos h,if_pos h]
    have l1:=Zh [83] n 1
    have l2:=Zh (zO [83] n 1) r 1
    simp only [List.length_cons,List.length_nil] at l1
    have l3:=zB2 n r b
    have l4:=zGT n r b c x s
    have hb:=zC5 n r b c x s l
    have e3:Zt (zO (zO [83] n 1) r 1,b,4)=some (zbp n r b):=f4 _ b (by omega)
    have e5:Zt (zne n r b c x s,l,2)=some (ZT n r b c x s l):=f2 _ l (by omega)
    have lp:zZ (ZI (((([c,x,s]:List Int).length:Nat):Int),n,r,b,c,x,s,l,[c,x,s])) Zo (zbp n r b,0)=some (zne n r b c x s):=zKu n r b c x s l _ (by omega)
    simp only [bne_self_eq_false,cond_false,f1 [83] n (by simp),f1 (zO [83] n 1) r (by omega),e3,zc,lp,e5,
      wD _ (show (ZT n r b c x s l).length≤1000000000000 by omega),Zr,Zl (show (ZT n r b c x s l).length+4≤9223372036854775807 by omega),cond_true,
      zxN _ (show (ZT n r b c x s l++tail (ZT n r b c x s l)).length≤1000000000000 by rw [List.length_append,Zr];omega)]
    rfl
  · rw [if_neg h,if_neg h];rfl
end Go.Proofs.R9
namespace Go.Proofs.R9
open Go Go.AE Go.Plain
abbrev S8:=Int×Int×Int×Int×Int×Int×Int×Int
abbrev nS (t:List UInt8) (i k:Nat):Int:=((num ((t.drop i).take k):Nat):Int)
def ztn (p:List UInt8×Int) (t:List UInt8) (n r b c x s l:Int):S8:=if p=(t,0) then (n,r,b,c,x,s,l,0) else (0,0,0,0,0,0,0,4)
def qE (t:List UInt8):S8 :=
  if t.length≠64 then (0,0,0,0,0,0,0,12) else if t.take 1≠[83] then (0,0,0,0,0,0,0,4) else if (t.drop 12).take 4≠tail (t.take 12) then (0,0,0,0,0,0,0,5) else
    ztn (zhA (nS t 1 1) (nS t 2 1) (nS t 3 4) (nS t 7 1) (nS t 8 1) (nS t 9 1) (nS t 10 2)) t (nS t 1 1) (nS t 2 1) (nS t 3 4) (nS t 7 1) (nS t 8 1) (nS t 9 1) (nS t 10 2)
theorem zSM (p:List UInt8×Int) (t:List UInt8) (n r b c x s l:Int) :
    (za (bif p.2 != 0 then some true else some (!p.1 == t):Option Bool) fun w=>bif w then some ((0,0,0,0,0,0,0,4):S8) else some (n,r,b,c,x,s,l,0))=some (ztn p t n r b c x s l):=by
  obtain ⟨u,e⟩:=p
  unfold ztn
  by_cases he:e=0
  · subst he
    by_cases hs:u=t
    · subst hs;simp [zc]
    · have:(u == t)=false:=by simpa using hs
      simp [hs,this,zc]
  · have:(e != 0)=true:=by simpa using he
    simp [this,he,zc]
theorem zOQ (t:List UInt8) (pp:List UInt8×Int) (n r b c x s l:Int) :
    (unP (fun r_0 r_1=>za (we (t,r_0,r_1,n,r,b,c,x,s,l)) fun w=>bif w then some ((0,0,0,0,0,0,0,4):S8) else some (n,r,b,c,x,s,l,0)) pp:Option S8)=some (ztn pp t n r b c x s l):=by
  obtain ⟨u,e⟩:=pp
  simp only [unP,we,jV]
  exact zSM (u,e) t n r b c x s l
theorem zTb (t:List UInt8) (hl:t.length≤1000000000000):zeL t=some (qE t):=by
  unfold qE
  simp only [zeL,zqt]
  by_cases h64:t.length=64
  · have e1:((t.length:Int) != 64)=false:=by rw [h64];rfl
    rw [if_neg (by simpa using h64),e1,cond_false]
    simp only [w8,zbi,zc]
    have b1:=W6 1 t (by omega) hl
    simp only [Int.cast_ofNat_Int] at b1
    rw [b1]
    simp only [zc,unP]
    by_cases hm:t.take 1=[83]
    · rw [if_neg (by simpa using hm),hm]
      have n1:=yu 1 (t.drop 1) (by omega) (by rw [List.length_drop];omega) (by rw [List.length_drop];omega)
      have n2:=yu 1 (t.drop 2) (by omega) (by rw [List.length_drop];omega) (by rw [List.length_drop];omega)
      have n3:=yu 4 (t.drop 3) (by omega) (by rw [List.length_drop];omega) (by rw [List.length_drop];omega)
      have n4:=yu 1 (t.drop 7) (by omega) (by rw [List.length_drop];omega) (by rw [List.length_drop];omega)
      have n5:=yu 1 (t.drop 8) (by omega) (by rw [List.length_drop];omega) (by rw [List.length_drop];omega)
      have n6:=yu 1 (t.drop 9) (by omega) (by rw [List.length_drop];omega) (by rw [List.length_drop];omega)
      have n7:=yu 2 (t.drop 10) (by omega) (by rw [List.length_drop];omega) (by rw [List.length_drop];omega)
      have b4:=W6 4 (t.drop 12) (by rw [List.length_drop];omega) (by rw [List.length_drop];omega)
      simp only [Int.cast_ofNat_Int,List.drop_drop,Nat.reduceAdd] at n1 n2 n3 n4 n5 n6 n7 b4
      simp only [beq_self_eq_true,Bool.not_true,cond_false,n1,n2,n3,n4,n5,n6,n7,zc,unP]
      rw [Zw (show (0:Int)≤12∧(12:Int)<((t.length+1:Nat):Int) by omega),cond_true]
      simp only [wD _ (show (t.take 12).length≤1000000000000 by rw [List.length_take];omega),zc,Zr,Int.cast_ofNat_Int]
      rw [b4]
      simp only [zc,unP]
      generalize tail (t.take 12)=tl
      by_cases ht:(t.drop 12).take 4=tl
      · rw [if_neg (fun h=>h ht),ht,beq_self_eq_true,Bool.not_true,cond_false]
        rw [zGB (nS t 1 1) (nS t 2 1) (nS t 3 4) (nS t 7 1) (nS t 8 1) (nS t 9 1) (nS t 10 2),zc]
        exact zOQ t _ _ _ _ _ _ _ _
      · have:((t.drop 12).take 4 == tl)=false:=beq_eq_false_iff_ne.2 ht
        rw [if_pos ht,this]
        rfl
    · have:(t.take 1 == [83])=false:=by simpa using hm
      rw [if_pos (by simpa using hm),this]
      rfl
  · have e1:((t.length:Int) != 64)=true:=by rw [bne_iff_ne];omega
    rw [if_pos (by simpa using h64),e1]
    rfl
end Go.Proofs.R9
namespace Go.Proofs.R9
open Go Go.AE Go.Plain
abbrev zHN (n:Int):Prop := -9223372036854775808≤n∧n≤9223372036854775807
theorem zPu (t:List UInt8) (n:Int) (k:Nat) (hk:1≤k∧k≤7) (hn:zHN n) (ht:t.length≤100) {m:Int} (hm:m=(k:Int)):zef (t,n,m)=some (zO t n k):=by
  subst hm;exact zyH t n k hk hn (by omega)
theorem r1 (t:List UInt8) (n:Int) (hn:zHN n) (ht:t.length≤100):zef (t,n,1)=some (zO t n 1):=zPu t n 1 (by omega) hn ht rfl
theorem r2 (t:List UInt8) (n:Int) (hn:zHN n) (ht:t.length≤100):zef (t,n,2)=some (zO t n 2):=zPu t n 2 (by omega) hn ht rfl
theorem r4 (t:List UInt8) (n:Int) (hn:zHN n) (ht:t.length≤100):zef (t,n,4)=some (zO t n 4):=zPu t n 4 (by omega) hn ht rfl
end Go.Proofs.R9
namespace Go.Proofs.R9
open Go Go.AE Go.Plain
abbrev J6 (a b:Int):Prop:=(0≤a∧a≤1125899906842624)∧(0≤b∧b≤1125899906842624)
abbrev InI (n:Int):Prop := -9223372036854775808≤n∧n≤9223372036854775807
theorem zMn (n b:Int):zcW (n,b)=some (decide (0≤n∧n≤b)):=by
  simp only [zcW,zoA,WO,JO]
  by_cases h:n≥0 <;> simp [h,zc,show 0≤n↔n≥0 from Iff.rfl]
theorem zyZ (a b:Int):zaL (a,b)=some (decide (J6 a b)):=by
  simp only [zaL,zo2,WQ,Jl,zMn,zc]
  by_cases h1:0≤a∧a≤1125899906842624
  · rw [zp h1,cond_true]
    show some _=some _
    congr 1
    rw [decide_eq_decide]
    exact ⟨fun h=>⟨h1,h⟩,fun h=>h.2⟩
  · rw [zq h1,cond_false,zq (fun h=>h1 h.1)]
    rfl
theorem zLO (a b c d:Int):zcI (a,b,c,d)=some (decide (c≤a∧d≤b)):=by
  simp only [zcI,zpp,WG,Jj]
  by_cases h:a≥c
  · rw [zp h,cond_true,zc]
    exact congrArg some (decide_eq_decide.2 ⟨fun h2=>⟨h,h2⟩,fun h2=>h2.2⟩)
  · rw [zq h,cond_false,zc,zq (fun h2=>h h2.1)]
def zKB (a b c d:Int):Int:=if c≤a∧d≤b then (if a≤c∧b≤d then 0 else 1) else if a≤c∧b≤d then 2 else 3
theorem zHQ (a b c d:Int):ze3 (a,b,c,d)=some (zKB a b c d):=by
  simp only [ze3,zor,zLO,zc,Wy,Ji,Wq,JD]
  unfold zKB
  by_cases h1:c≤a∧d≤b
  · rw [zp h1,if_pos h1]
    by_cases h2:a≤c∧b≤d
    · rw [zp h2,if_pos h2];rfl
    · rw [zq h2,if_neg h2];rfl
  · rw [zq h1,if_neg h1]
    by_cases h2:a≤c∧b≤d
    · rw [zp h2,if_pos h2];rfl
    · rw [zq h2,if_neg h2];rfl
def zm3 (e a1 a2:Int) (x:List UInt8) (b1 b2:Int) (y:List UInt8):Int :=
  if e<0 then 3 else if e≥24 then 3 else if ¬J6 a1 a2 then 3 else if ¬J6 b1 b2 then 3 else if x.length≠128 then 12 else if y.length≠128 then 12
  else if zKB a1 a2 b1 b2≠3 then 10 else if a1<b1 then 10 else 0
theorem zRC (e a1 a2:Int) (x:List UInt8) (b1 b2:Int) (y:List UInt8):zer (e,a1,a2,x,b1,b2,y)=some (zm3 e a1 a2 x b1 b2 y):=by
  simp only [zer,zoZ,WM,jK,WD,JS,Ww,JH,WN,jP,WL,Jc,zyZ,zHQ,zc,Yo]
  unfold zm3
  by_cases c1:e<0
  · rw [zp c1,if_pos c1];rfl
  rw [zq c1,if_neg c1]
  by_cases c2:e≥24
  · rw [zp c2,if_pos c2];rfl
  rw [zq c2,if_neg c2]
  by_cases c3:J6 a1 a2
  · rw [zp c3,if_neg (fun h=>h c3)]
    by_cases c4:J6 b1 b2
    · rw [zp c4,if_neg (fun h=>h c4)]
      by_cases c5:x.length=128
      · rw [zp (show (x.length:Int)=128 by omega),if_neg (by simpa using c5)]
        by_cases c6:y.length=128
        · rw [zp (show (y.length:Int)=128 by omega),if_neg (by simpa using c6)]
          by_cases c7:zKB a1 a2 b1 b2=3
          · rw [zp c7,if_neg (by simpa using c7)]
            by_cases c8:a1<b1
            · rw [zp c8,if_pos c8];rfl
            · rw [zq c8,if_neg c8];rfl
          · rw [zq c7,if_pos c7];rfl
        · rw [zq (show ¬(y.length:Int)=128 by omega),if_pos c6];rfl
      · rw [zq (show ¬(x.length:Int)=128 by omega),if_pos c5];rfl
    · rw [zq c4,if_pos c4];rfl
  · rw [zq c3,if_pos c3];rfl
theorem zvN {e a1 a2:Int} {x:List UInt8} {b1 b2:Int} {y:List UInt8} (h:zm3 e a1 a2 x b1 b2 y=0):(0≤e∧e<24)∧J6 a1 a2∧J6 b1 b2∧x.length=128∧y.length=128:=by
  unfold zm3 at h
  split at h
  · omega
  split at h
  · omega
  split at h
  · omega
  split at h
  · omega
  split at h
  · omega
  split at h
  · omega
  rename_i h1 h2 h3 h4 h5 h6
  exact ⟨by omega,Classical.not_not.1 h3,Classical.not_not.1 h4,Classical.not_not.1 h5,Classical.not_not.1 h6⟩
theorem zS5 (s:List UInt8) (a b:Int) (hs:s.length≤100000):zeK (s,a,b)=some (zO (zO s a 7) b 7):=by
  have h1:=Zh s a 7
  have e1:=yo s a 7 (by omega) (by omega)
  have e2:=yo (zO s a 7) b 7 (by omega) (by omega)
  simp only [Int.cast_ofNat_Int] at e1 e2
  simp only [zeK,zrr,e1,e2,zc]
theorem zR2 (s:List UInt8):(zbv s).length≤s.length+64:=by simp [zbv];omega
end Go.Proofs.R9
namespace Go.Proofs.R9
open Go Go.AE Go.Plain
def rdB (n:Nat) (r:List UInt8) (e:Int):List UInt8×List UInt8×Int:=if e≠0 then ([],r,e) else if r.length<n then ([],r,1) else (r.take n,r.drop n,0)
theorem zkB {e:Int} (n:Nat) (r:List UInt8) (h:e≠0):rdB n r e=([],r,e):=by unfold rdB;rw [if_pos h]
theorem jE {n:Nat} {r:List UInt8} (h:r.length<n):rdB n r 0=([],r,1):=by unfold rdB;rw [if_neg (by simp),if_pos h]
theorem YN {n:Nat} {r:List UInt8} (h:n≤r.length):rdB n r 0=(r.take n,r.drop n,0):=by unfold rdB;rw [if_neg (by simp),if_neg (by omega)]
theorem zaO (n:Nat) (r:List UInt8) (e:Int):(rdB n r e).2.1.length≤r.length:=by
  by_cases h:e=0
  · subst h
    by_cases h1:r.length<n
    · rw [jE h1];exact Nat.le_refl _
    · rw [YN (by omega)];show (r.drop n).length≤_;rw [List.length_drop];omega
  · rw [zkB n r h];exact Nat.le_refl _
def rdE (r:List UInt8) (e:Int):Int:=if e=0 then (if r=[] then 0 else 2) else e
theorem zGQ (a:Int) (r:List UInt8) (e:Int):zaZ (a,r,e)=some (if e=0 then a else e):=by
  simp only [zaZ,zrn,zdD]
  by_cases h:e=0
  · rw [zp h,if_pos h];rfl
  · rw [zq h,if_neg h];rfl
theorem zb4 (n:Nat) (r:List UInt8) (e:Int) (hl:r.length≤1000000000000):yB ((n:Int),r,e)=some (rdB n r e):=by
  by_cases h:e=0
  · subst h
    by_cases h1:r.length<n
    · rw [jE h1]
      simp only [yB,zgc,Yf,wM,zq (show ¬(n:Int)<0 by omega),cond_false,zp (show (n:Int)>(r.length:Int) by omega),cond_true,zGQ,zc]
      rfl
    · rw [YN (by omega)]
      exact W6 n r (by omega) hl
  · rw [zkB n r h]
    have hb:(e != 0)=true:=by simpa using h
    simp only [yB,zgc,Yf,wM,zq (show ¬(n:Int)<0 by omega),cond_false,zGQ,if_neg h]
    cases decide ((n:Int)>(r.length:Int)) <;> simp only [cond_true,cond_false,zc,hb]
theorem zbW (k:Nat) (r:List UInt8) (e:Int) (hk:1≤k∧k≤7) (hl:r.length≤1000000000000) :
    ZY ((k:Int),r,e)=some (((num (rdB k r e).1:Nat):Int),(rdB k r e).2.1,(rdB k r e).2.2):=by
  by_cases h:e=0∧k≤r.length
  · obtain ⟨rfl,h1⟩:=h
    rw [YN h1]
    exact yu k r hk h1 hl
  · have he : ∃q,rdB k r e=([],r,q):=by
      by_cases h0:e=0
      · subst h0;exact ⟨1,jE (by omega)⟩
      · exact ⟨e,zkB k r h0⟩
    obtain ⟨q,hq⟩:=he
    have hB:=zb4 k r e hl
    rw [hq] at hB ⊢
    simp only [ZY,zlE,za3,zfy,Yi,w6,zc]
    rw [zp (show (k:Int)≥1 by omega),zp (show (k:Int)≤7 by omega),cond_true]
    simp only [zc,Bool.not_true,cond_false,hB,unP]
    rfl
theorem zgn (r:List UInt8) (e:Int):zcF (r,e)=some (rdE r e):=by
  unfold rdE
  simp only [zcF,zqL,Wz,Ja,Wu,j9,zdD]
  by_cases h:e=0
  · subst h
    rw [zp rfl,if_pos rfl]
    cases r <;> rfl
  · rw [zq h,if_neg h];rfl
end Go.Proofs.R9
namespace Go.Proofs.R9
open Go Go.AE
set_option maxRecDepth 100000
--@ law01_Same
--@ law01_Same_2
--@ law23_Great
noncomputable def zpF:Env:=[]
theorem zy8:zd Tryz.prog zpF:=zd.nil
noncomputable def zPY:Code:=Tryz.f31.body.getD .skip
noncomputable def zlj:Code:=zL [1,0] zPY
noncomputable def zql:Ann := .none
theorem zwZ:zr Tryz.prog 21 zlj zql:=(zb _ _ _)
abbrev Qt:=(Int)×(Int)×(Int)×(List UInt8)×(Int)×(Int)×(List UInt8)×(Int)×(Int)×(List UInt8)
abbrev zk8:=(Bool)
def ztU:Qt→St:=fun (o0_0,o0_1,o0_2,o0_3,o0_4,o0_5,o0_6,o0_7,o0_8,o0_9)=>{ env:=[(1,.ptr 0 0)],stk:=[[]],H:=[.cells [.int .i64 o0_0,.int .i64 o0_1,.int .i64 o0_2,.str o0_3,.int .i64 o0_4,.int .i64 o0_5,.str o0_6,.int .i64 o0_7,.int .i64 o0_8,.str o0_9]],blk:=126976 }
def zoF (s:St):Option {x:Qt // s=ztU x}:=match s with
  | { env:=[(1,.ptr 0 0)],stk:=[[]],H:=[.cells [.int .i64 o0_0,.int .i64 o0_1,.int .i64 o0_2,.str o0_3,.int .i64 o0_4,.int .i64 o0_5,.str o0_6,.int .i64 o0_7,.int .i64 o0_8,.str o0_9]],blk:=126976 }=>some ⟨(o0_0,o0_1,o0_2,o0_3,o0_4,o0_5,o0_6,o0_7,o0_8,o0_9),rfl⟩
  | _=>none
def ziQ (s:St):Option Qt:=pk (zoF s)
theorem zCC (s:St) (x:Qt) (h:ziQ s=some x):s=ztU x:=zx (o:=zoF s) h
def ziS:Qt→(Ex→St→Ans)→zk8→Ans:=fun (o0_0,o0_1,o0_2,o0_3,o0_4,o0_5,o0_6,o0_7,o0_8,o0_9) K=>fun t2_y=>K (Ex.norm) { env:=[(2,.bool t2_y)],stk:=[[]],H:=[],blk:=126976 }
def Jf {β:Type}:Qt→(zk8→Option β)→Option β:=fun (o0_0,o0_1,o0_2,o0_3,o0_4,o0_5,o0_6,o0_7,o0_8,o0_9) exit=>(bif decide ((↑(List.length o0_3):Int)>(1000:Int)) then (exit (true)) else (bif decide ((↑(List.length o0_6):Int)>(1000:Int)) then (exit (true)) else (exit (decide ((↑(List.length o0_9):Int)>(1000:Int))))))
def Wj (i:Qt):Option zk8:=Jf i some
theorem zsw (i:Qt) (k:zk8→Ans):Jf i k=za (Wj i) k:=by
  obtain ⟨o0_0,o0_1,o0_2,o0_3,o0_4,o0_5,o0_6,o0_7,o0_8,o0_9⟩:=i
  simp only [Wj,Jf,zj,zg,zl,zc,zi,zm,zh]
theorem zwX (i:Qt) (K:Ex→St→Ans):zA Tryz.tab zpF zf (zD Tryz.tab zpF zf 0 64) 70 21 zql zlj (zH 0 (exk [2] [2] []) K) (ztU i)=Jf i (ziS i K):=by kernel_rfl
theorem zD4:zy Tryz.prog 21 zlj (zG ziQ Wj ziS):=zB mixed tabOk zy8 0 (exk [2] [2] []) zwZ zCC zwX zsw
noncomputable def zFO:(Ex→St→Ans)→St→Ans:=(zG ziQ Wj ziS)
theorem zHb:zy Tryz.prog 21 zlj zFO:=zD4
noncomputable def zNj:Ann:=(.seq .none (.seq (.cut 0 [1] zFO) .none))
theorem zLF:zr Tryz.prog 21 zPY zNj:=⟨(zb _ _ _),⟨zHb,(zb _ _ _)⟩⟩
abbrev zcB:=(Int)×(Int)×(Int)×(List UInt8)×(Int)×(Int)×(List UInt8)×(Int)×(Int)×(List UInt8)
abbrev zzi:=(Bool)
def zqb {β:Type}:zcB→(zzi→Option β)→Option β:=fun (a0_0,a0_1,a0_2,a0_3,a0_4,a0_5,a0_6,a0_7,a0_8,a0_9) exit=>(za (Wj (a0_0,a0_1,a0_2,a0_3,a0_4,a0_5,a0_6,a0_7,a0_8,a0_9)) fun t2=>(exit (t2)))
def zed (a:zcB):Option zzi:=zqb a some
theorem zLg (a:zcB) (k:zzi→Ans):zqb a k=za (zed a) k:=by
  obtain ⟨a0_0,a0_1,a0_2,a0_3,a0_4,a0_5,a0_6,a0_7,a0_8,a0_9⟩:=a
  simp only [zed,zqb,zj,zg,zl,zc,zi,zm,zh]
def zuZ:zcB→List AV:=fun (a0_0,a0_1,a0_2,a0_3,a0_4,a0_5,a0_6,a0_7,a0_8,a0_9)=>[.agg [.int .i64 a0_0,.int .i64 a0_1,.int .i64 a0_2,.str a0_3,.int .i64 a0_4,.int .i64 a0_5,.str a0_6,.int .i64 a0_7,.int .i64 a0_8,.str a0_9]]
def zzh (l:List AV):Option {a:zcB // l=zuZ a}:=match l with
  | [.agg [.int .i64 a0_0,.int .i64 a0_1,.int .i64 a0_2,.str a0_3,.int .i64 a0_4,.int .i64 a0_5,.str a0_6,.int .i64 a0_7,.int .i64 a0_8,.str a0_9]]=>some ⟨(a0_0,a0_1,a0_2,a0_3,a0_4,a0_5,a0_6,a0_7,a0_8,a0_9),rfl⟩
  | _=>none
def zFJ (l:List AV):Option zcB:=pk (zzh l)
theorem zIO (l:List AV) (a:zcB) (h:zFJ l=some a):l=zuZ a:=zx (o:=zzh l) h
def zuQ:zcB→zzi→AV:=fun (a0_0,a0_1,a0_2,a0_3,a0_4,a0_5,a0_6,a0_7,a0_8,a0_9)=>fun r_y => .bool r_y
theorem zJN : ∀(a:zcB) (y:zzi),(zuQ a y).closed1=true:=by
  rintro ⟨a0_0,a0_1,a0_2,a0_3,a0_4,a0_5,a0_6,a0_7,a0_8,a0_9⟩ y <;> first | rfl | exact Empty.elim y
theorem zPO (a:zcB):fnE Tryz.tab zpF zf 0 70 31 Tryz.f31.ntmps Tryz.f31.results.toList zNj zPY (zuZ a) [] (fun v _=>some (v,[]))=zqb a (fun y=>some (zuQ a y,[])):=by kernel_rfl
def zV4 (a:zcB) (K:AV→Ans):Ans:=za (zed a) fun y=>K (zuQ a y)
def zT7:List AV→(AV→Ans)→Ans:=fun l K=>za (zFJ l) fun a=>zV4 a K
theorem zSW:zV Tryz.prog 31 zT7:=zX (hint:=zf) (d:=0) (n:=70) mixed tabOk zy8 Tryz.func31 (zI (by kernel_rfl)) (by decide +kernel) zLF zIO zPO zLg zJN
--@ law43_great
noncomputable def QW:Env:=[(31,.pure zT7)]
theorem zfO:zd Tryz.prog QW:=zd.cons zSW (zd.nil)
noncomputable def zzm:Code:=Tryz.f12.body.getD .skip
noncomputable def zjT:Code:=zL [1,0,1,0,0,1,0,0,0] zzm
noncomputable def zph:Ann := .none
theorem zv9:zr Tryz.prog 25 zjT zph:=(zb _ _ _)
abbrev qW:=(Int)×(Int)×(Int)×(Int)×(Int)×(Int)×(Int)×(Int)×(List (Int×(Int×Int)×List UInt8×((Int×Int)×List UInt8)×(Int×Int)×List UInt8))×(List Bool)
abbrev zlt:=(Bool)
def zve:qW→St:=fun (t3,o0_0,o0_1,o0_2,o0_3,o0_4,o0_5,o0_6,o0_7,o0_8)=>{ env:=[(1,.ptr 0 0),(3,.int .i64 t3)],stk:=[[]],H:=[.cells [.int .i64 o0_0,.int .i64 o0_1,.int .i64 o0_2,.int .i64 o0_3,.int .i64 o0_4,.int .i64 o0_5,.int .i64 o0_6,.ro (.st (.pair (.int .i64) (.pair (.pair (.int .i64) (.int .i64)) (.pair .str (.pair (.pair (.pair (.int .i64) (.int .i64)) .str) (.pair (.pair (.int .i64) (.int .i64)) .str)))))) o0_7,.ro .bool o0_8]],blk:=49153 }
def zqZ (s:St):Option {x:qW // s=zve x}:=match s with
  | { env:=[(1,.ptr 0 0),(3,.int .i64 t3)],stk:=[[]],H:=[.cells [.int .i64 o0_0,.int .i64 o0_1,.int .i64 o0_2,.int .i64 o0_3,.int .i64 o0_4,.int .i64 o0_5,.int .i64 o0_6,.ro (.st (.pair (.int .i64) (.pair (.pair (.int .i64) (.int .i64)) (.pair .str (.pair (.pair (.pair (.int .i64) (.int .i64)) .str) (.pair (.pair (.int .i64) (.int .i64)) .str)))))) o0_7,.ro .bool o0_8]],blk:=49153 }=>some ⟨(t3,o0_0,o0_1,o0_2,o0_3,o0_4,o0_5,o0_6,o0_7,o0_8),rfl⟩
  | _=>none
def zjl (s:St):Option qW:=pk (zqZ s)
theorem zCy (s:St) (x:qW) (h:zjl s=some x):s=zve x:=zx (o:=zqZ s) h
def zja:qW→(Ex→St→Ans)→zlt→Ans:=fun (t3,o0_0,o0_1,o0_2,o0_3,o0_4,o0_5,o0_6,o0_7,o0_8) K=>fun t20_y=>K (Ex.norm) { env:=[(1,.ptr 0 0),(3,.int .i64 t3),(20,.bool t20_y)],stk:=[[]],H:=[.cells [.int .i64 o0_0,.int .i64 o0_1,.int .i64 o0_2,.int .i64 o0_3,.int .i64 o0_4,.int .i64 o0_5,.int .i64 o0_6,.ro (.st (.pair (.int .i64) (.pair (.pair (.int .i64) (.int .i64)) (.pair .str (.pair (.pair (.pair (.int .i64) (.int .i64)) .str) (.pair (.pair (.int .i64) (.int .i64)) .str)))))) o0_7,.ro .bool o0_8]],blk:=49153 }
def jS {β:Type}:qW→(zlt→Option β)→Option β:=fun (t3,o0_0,o0_1,o0_2,o0_3,o0_4,o0_5,o0_6,o0_7,o0_8) exit=>(bif decide (t3≥(30:Int)) then (exit (true)) else (za (nth o0_7 t3) fun x=>(za (zed (x.fst,x.snd.fst.fst,x.snd.fst.snd,x.snd.snd.fst,x.snd.snd.snd.fst.fst.fst,x.snd.snd.snd.fst.fst.snd,x.snd.snd.snd.fst.snd,x.snd.snd.snd.snd.fst.fst,x.snd.snd.snd.snd.fst.snd,x.snd.snd.snd.snd.snd)) fun r=>(exit (r)))))
def WI (i:qW):Option zlt:=jS i some
theorem zs7 (i:qW) (k:zlt→Ans):jS i k=za (WI i) k:=by
  obtain ⟨t3,o0_0,o0_1,o0_2,o0_3,o0_4,o0_5,o0_6,o0_7,o0_8⟩:=i
  simp only [WI,jS,zj,zg,zl,zc,zi,zm,zh]
theorem zwy (i:qW) (K:Ex→St→Ans):zA Tryz.tab QW zf (zD Tryz.tab QW zf 0 64) 70 25 zph zjT (zH 0 (exk [1,3,20] [2] []) K) (zve i)=jS i (zja i K):=by kernel_rfl
theorem zDe:zy Tryz.prog 25 zjT (zG zjl WI zja):=zB mixed tabOk zfO 0 (exk [1,3,20] [2] []) zv9 zCy zwy zs7
noncomputable def zFE:(Ex→St→Ans)→St→Ans:=(zG zjl WI zja)
theorem zIk:zy Tryz.prog 25 zjT zFE:=zDe
noncomputable def zkg:Code:=zL [1,0,1,0,0,1,0] zzm
noncomputable def zpS:Ann:=(.block (.seq (.cut 0 [1,3] zFE) .none))
theorem zwT:zr Tryz.prog 25 zkg zpS:=⟨zIk,(zb _ _ _)⟩
abbrev Qn:=(Int)×(Int)×(Int)×(Int)×(Int)×(Int)×(Int)×(Int)×(List (Int×(Int×Int)×List UInt8×((Int×Int)×List UInt8)×(Int×Int)×List UInt8))×(List Bool)
abbrev zkA:=(Unit) ⊕ (Unit)
def ztb:Qn→St:=fun (t3,o0_0,o0_1,o0_2,o0_3,o0_4,o0_5,o0_6,o0_7,o0_8)=>{ env:=[(1,.ptr 0 0),(3,.int .i64 t3)],stk:=[[]],H:=[.cells [.int .i64 o0_0,.int .i64 o0_1,.int .i64 o0_2,.int .i64 o0_3,.int .i64 o0_4,.int .i64 o0_5,.int .i64 o0_6,.ro (.st (.pair (.int .i64) (.pair (.pair (.int .i64) (.int .i64)) (.pair .str (.pair (.pair (.pair (.int .i64) (.int .i64)) .str) (.pair (.pair (.int .i64) (.int .i64)) .str)))))) o0_7,.ro .bool o0_8]],blk:=49152 }
def zpm (s:St):Option {x:Qn // s=ztb x}:=match s with
  | { env:=[(1,.ptr 0 0),(3,.int .i64 t3)],stk:=[[]],H:=[.cells [.int .i64 o0_0,.int .i64 o0_1,.int .i64 o0_2,.int .i64 o0_3,.int .i64 o0_4,.int .i64 o0_5,.int .i64 o0_6,.ro (.st (.pair (.int .i64) (.pair (.pair (.int .i64) (.int .i64)) (.pair .str (.pair (.pair (.pair (.int .i64) (.int .i64)) .str) (.pair (.pair (.int .i64) (.int .i64)) .str)))))) o0_7,.ro .bool o0_8]],blk:=49152 }=>some ⟨(t3,o0_0,o0_1,o0_2,o0_3,o0_4,o0_5,o0_6,o0_7,o0_8),rfl⟩
  | _=>none
def zhM (s:St):Option Qn:=pk (zpm s)
theorem zCN (s:St) (x:Qn) (h:zhM s=some x):s=ztb x:=zx (o:=zpm s) h
def zjw:Qn→(Ex→St→Ans)→zkA→Ans:=fun (t3,o0_0,o0_1,o0_2,o0_3,o0_4,o0_5,o0_6,o0_7,o0_8) K=>(Sum.elim (fun _=>K (Ex.ret) { env:=[(2,.bool (true))],stk:=[[]],H:=[],blk:=49153 }) (fun _=>K (Ex.norm) { env:=[(1,.ptr 0 0),(3,.int .i64 t3)],stk:=[[]],H:=[.cells [.int .i64 o0_0,.int .i64 o0_1,.int .i64 o0_2,.int .i64 o0_3,.int .i64 o0_4,.int .i64 o0_5,.int .i64 o0_6,.ro (.st (.pair (.int .i64) (.pair (.pair (.int .i64) (.int .i64)) (.pair .str (.pair (.pair (.pair (.int .i64) (.int .i64)) .str) (.pair (.pair (.int .i64) (.int .i64)) .str)))))) o0_7,.ro .bool o0_8]],blk:=49153 }))
def j7 {β:Type}:Qn→(zkA→Option β)→Option β:=fun (t3,o0_0,o0_1,o0_2,o0_3,o0_4,o0_5,o0_6,o0_7,o0_8) exit=>(za (WI (t3,o0_0,o0_1,o0_2,o0_3,o0_4,o0_5,o0_6,o0_7,o0_8)) fun t20=>(bif t20 then (exit (Sum.inl ())) else (exit (Sum.inr ()))))
def Wo (i:Qn):Option zkA:=j7 i some
theorem ztm (i:Qn) (k:zkA→Ans):j7 i k=za (Wo i) k:=by
  obtain ⟨t3,o0_0,o0_1,o0_2,o0_3,o0_4,o0_5,o0_6,o0_7,o0_8⟩:=i
  simp only [Wo,j7,zj,zg,zl,zc,zi,zm,zh]
theorem zyi (i:Qn) (K:Ex→St→Ans):zA Tryz.tab QW zf (zD Tryz.tab QW zf 0 64) 70 25 zpS zkg (zH 0 (exk [1,3] [2] []) K) (ztb i)=j7 i (zjw i K):=by kernel_rfl
theorem zD9:zy Tryz.prog 25 zkg (zG zhM Wo zjw):=zB mixed tabOk zfO 0 (exk [1,3] [2] []) zwT zCN zyi ztm
noncomputable def zGk:(Ex→St→Ans)→St→Ans:=(zG zhM Wo zjw)
theorem zI5:zy Tryz.prog 25 zkg zGk:=zD9
noncomputable def zeh:Code:=zL [1,0,1,0,0] zzm
noncomputable def zfq:Ann := .at 0 [1,3] (.loop (.seq .none (.seq (.cut 0 [1,3] zGk) .none)))
theorem zxo:zr Tryz.prog 25 (.loop zeh) zfq:=yG ⟨(zb _ _ _),⟨zI5,(zb _ _ _)⟩⟩
abbrev Qs:=(Int)×(Int)×(Int)×(Int)×(Int)×(Int)×(Int)×(List (Int×(Int×Int)×List UInt8×((Int×Int)×List UInt8)×(Int×Int)×List UInt8))×(List Bool)
abbrev zkT:=(Unit) ⊕ (Unit)
abbrev wq:=(Int)
def zlC:Qs→wq→St:=fun (o0_0,o0_1,o0_2,o0_3,o0_4,o0_5,o0_6,o0_7,o0_8) t3=>{ env:=[(1,.ptr 0 0),(3,.int .i64 t3)],stk:=[[]],H:=[.cells [.int .i64 o0_0,.int .i64 o0_1,.int .i64 o0_2,.int .i64 o0_3,.int .i64 o0_4,.int .i64 o0_5,.int .i64 o0_6,.ro (.st (.pair (.int .i64) (.pair (.pair (.int .i64) (.int .i64)) (.pair .str (.pair (.pair (.pair (.int .i64) (.int .i64)) .str) (.pair (.pair (.int .i64) (.int .i64)) .str)))))) o0_7,.ro .bool o0_8]],blk:=49152 }
def zn9 (s:St):Option {x:Qs×wq // s=zlC x.1 x.2}:=match s with
  | { env:=[(1,.ptr 0 0),(3,.int .i64 t3)],stk:=[[]],H:=[.cells [.int .i64 o0_0,.int .i64 o0_1,.int .i64 o0_2,.int .i64 o0_3,.int .i64 o0_4,.int .i64 o0_5,.int .i64 o0_6,.ro (.st (.pair (.int .i64) (.pair (.pair (.int .i64) (.int .i64)) (.pair .str (.pair (.pair (.pair (.int .i64) (.int .i64)) .str) (.pair (.pair (.int .i64) (.int .i64)) .str)))))) o0_7,.ro .bool o0_8]],blk:=49152 }=>some ⟨((o0_0,o0_1,o0_2,o0_3,o0_4,o0_5,o0_6,o0_7,o0_8),t3),rfl⟩
  | _=>none
def zju (s:St):Option (Qs×wq):=pk (zn9 s)
theorem zyY (s:St) (x:Qs×wq) (h:zju s=some x):s=zlC x.1 x.2:=zx (o:=zn9 s) h
def zha:Qs→(Ex→St→Ans)→zkT→Ans:=fun (o0_0,o0_1,o0_2,o0_3,o0_4,o0_5,o0_6,o0_7,o0_8) K=>(Sum.elim (fun _=>K (Ex.ret) { env:=[(2,.bool (true))],stk:=[[]],H:=[],blk:=49153 }) (fun _=>K (Ex.exit 0) { env:=[(1,.ptr 0 0)],stk:=[[]],H:=[.cells [.int .i64 o0_0,.int .i64 o0_1,.int .i64 o0_2,.int .i64 o0_3,.int .i64 o0_4,.int .i64 o0_5,.int .i64 o0_6,.ro (.st (.pair (.int .i64) (.pair (.pair (.int .i64) (.int .i64)) (.pair .str (.pair (.pair (.pair (.int .i64) (.int .i64)) .str) (.pair (.pair (.int .i64) (.int .i64)) .str)))))) o0_7,.ro .bool o0_8]],blk:=49152 }))
def Qz {β:Type}:Qs→wq→(wq→Option β)→(zkT→Option β)→Option β:=fun (o0_0,o0_1,o0_2,o0_3,o0_4,o0_5,o0_6,o0_7,o0_8) t3 next exit=>(bif decide (t3<(↑(List.length o0_7):Int)) then (za (Wo (t3,o0_0,o0_1,o0_2,o0_3,o0_4,o0_5,o0_6,o0_7,o0_8)) (Sum.elim (fun _=>(exit (Sum.inl ()))) (fun _=>(next (IntKind.wrap .i64 (t3+(1:Int))))))) else (exit (Sum.inr ())))
def yM (i:Qs) (v:wq):Option (wq ⊕ zkT):=Qz i v (fun v=>some (.inl v)) (fun y=>some (.inr y))
theorem zut (i:Qs) (v:wq) (next:wq→Ans) (exit:zkT→Ans):Qz i v next exit=za (yM i v) (Sum.elim next exit):=by
  obtain ⟨o0_0,o0_1,o0_2,o0_3,o0_4,o0_5,o0_6,o0_7,o0_8⟩:=i
  obtain z:=v
  simp only [yM,Qz,zj,zg,zl,zc,zi,zm,zh,Sum.elim_inl,Sum.elim_inr]
theorem zwv (n:Nat) (i:Qs) (v:wq) (K:Ex→St→Ans):zA Tryz.tab QW zf (zD Tryz.tab QW zf 0 64) (n+1) 25 zfq (.loop zeh) (zH 0 (exk [1] [2] [(0,[1])]) K) (zlC i v)=Qz i v (fun v'=>zA Tryz.tab QW zf (zD Tryz.tab QW zf 0 64) n 25 zfq (.loop zeh) (zH 0 (exk [1] [2] [(0,[1])]) K) (zlC i v')) (fun y=>zha i K y):=by kernel_rfl
theorem zD0:zy Tryz.prog 25 (.loop zeh) (y9 zju yM zha):=yQ mixed tabOk zfO 0 (exk [1] [2] [(0,[1])]) zxo zyY zwv zut
noncomputable def zFl:(Ex→St→Ans)→St→Ans:=(y9 zju yM zha)
theorem zG8:zy Tryz.prog 25 (.loop zeh) zFl:=zD0
noncomputable def zOs:Ann:=(.seq .none (.seq (.seq .none (.block (.cut 0 [1,3] zFl))) .none))
theorem zOR:zr Tryz.prog 25 zzm zOs:=⟨(zb _ _ _),⟨⟨(zb _ _ _),zG8⟩,(zb _ _ _)⟩⟩
abbrev zb6:=(Int)×(Int)×(Int)×(Int)×(Int)×(Int)×(Int)×(List (Int×(Int×Int)×List UInt8×((Int×Int)×List UInt8)×(Int×Int)×List UInt8))×(List Bool)
abbrev zCg:=(Bool)
def zn2 {β:Type}:zb6→(zCg→Option β)→Option β:=fun (a0_0,a0_1,a0_2,a0_3,a0_4,a0_5,a0_6,a0_7,a0_8) exit=>(za (zZ (yM (a0_0,a0_1,a0_2,a0_3,a0_4,a0_5,a0_6,a0_7,a0_8)) Zo ((0:Int))) (Sum.elim (fun _=>(exit (true))) (fun _=>(exit (decide ((↑(List.length a0_8):Int)>(100:Int)))))))
def zeX (a:zb6):Option zCg:=zn2 a some
theorem zOA (a:zb6) (k:zCg→Ans):zn2 a k=za (zeX a) k:=by
  obtain ⟨a0_0,a0_1,a0_2,a0_3,a0_4,a0_5,a0_6,a0_7,a0_8⟩:=a
  simp only [zeX,zn2,zj,zg,zl,zc,zi,zm,zh]
def zs3:zb6→List AV:=fun (a0_0,a0_1,a0_2,a0_3,a0_4,a0_5,a0_6,a0_7,a0_8)=>[.agg [.int .i64 a0_0,.int .i64 a0_1,.int .i64 a0_2,.int .i64 a0_3,.int .i64 a0_4,.int .i64 a0_5,.int .i64 a0_6,.ro (.st (.pair (.int .i64) (.pair (.pair (.int .i64) (.int .i64)) (.pair .str (.pair (.pair (.pair (.int .i64) (.int .i64)) .str) (.pair (.pair (.int .i64) (.int .i64)) .str)))))) a0_7,.ro .bool a0_8]]
def zAq (l:List AV):Option {a:zb6 // l=zs3 a}:=match l with
  | [.agg [.int .i64 a0_0,.int .i64 a0_1,.int .i64 a0_2,.int .i64 a0_3,.int .i64 a0_4,.int .i64 a0_5,.int .i64 a0_6,.ro (.st (.pair (.int .i64) (.pair (.pair (.int .i64) (.int .i64)) (.pair .str (.pair (.pair (.pair (.int .i64) (.int .i64)) .str) (.pair (.pair (.int .i64) (.int .i64)) .str)))))) a0_7,.ro .bool a0_8]]=>some ⟨(a0_0,a0_1,a0_2,a0_3,a0_4,a0_5,a0_6,a0_7,a0_8),rfl⟩
  | _=>none
def zEW (l:List AV):Option zb6:=pk (zAq l)
theorem zHf (l:List AV) (a:zb6) (h:zEW l=some a):l=zs3 a:=zx (o:=zAq l) h
def ztr:zb6→zCg→AV:=fun (a0_0,a0_1,a0_2,a0_3,a0_4,a0_5,a0_6,a0_7,a0_8)=>fun r_y => .bool r_y
theorem zIW : ∀(a:zb6) (y:zCg),(ztr a y).closed1=true:=by
  rintro ⟨a0_0,a0_1,a0_2,a0_3,a0_4,a0_5,a0_6,a0_7,a0_8⟩ y <;> first | rfl | exact Empty.elim y
theorem zRo (a:zb6):fnE Tryz.tab QW zf 0 70 12 Tryz.f12.ntmps Tryz.f12.results.toList zOs zzm (zs3 a) [] (fun v _=>some (v,[]))=zn2 a (fun y=>some (ztr a y,[])):=by kernel_rfl
def zVK (a:zb6) (K:AV→Ans):Ans:=za (zeX a) fun y=>K (ztr a y)
def zT5:List AV→(AV→Ans)→Ans:=fun l K=>za (zEW l) fun a=>zVK a K
theorem zTf:zV Tryz.prog 12 zT5:=zX (hint:=zf) (d:=0) (n:=70) mixed tabOk zfO Tryz.func12 (zI (by kernel_rfl)) (by decide +kernel) zOR zHf zRo zOA zIW
--@ ref04_Put
--@ ref43_Put
--@ slices_Equal_api_State_api_State
--@ slices_Equal_bool_bool
--@ dump_Same
--@ dump_Get_2
--@ law01_Same_3
end Go.Proofs.R9
namespace Go.Proofs.R9
open Go Go.AE Go.Plain
set_option maxRecDepth 100000
def wN (k:Nat) (b:List UInt8):List UInt8:=zO (zO [] (k:Int) 1) (b.length:Int) 2++b
def ZF (k:Nat) (b:List UInt8):List UInt8:=wN k b++tail (wN k b)
theorem znN {k:Nat} {b:List UInt8} (hk:k≤255) (hb:b.length≤600):wN k b=be 1 k++(be 2 b.length++b):=by
  unfold wN zO
  rw [if_pos ⟨by omega,by simp only [Nat.reducePow];omega⟩,if_pos ⟨by omega,by simp only [Nat.reducePow];omega⟩,Int.toNat_natCast,Int.toNat_natCast,List.nil_append,List.append_assoc]
theorem ziM {k:Nat} {b:List UInt8} (hk:k≤255) (hb:b.length≤600):(wN k b).length=3+b.length:=by
  rw [znN hk hb,List.length_append,List.length_append,zT,zT];omega
theorem jy {k:Nat} {b:List UInt8} (hk:k≤255) (hb:b.length≤600):(ZF k b).length=7+b.length:=by
  unfold ZF;rw [List.length_append,ziM hk hb,Zr];omega
theorem zHw (k:Nat) (b:List UInt8) (hk:k≤255) (hb:b.length≤600):zeY ((k:Int),b)=some (ZF k b,0):=by
  have hl:=ziM hk hb
  have l1:=Zh [] (k:Int) 1
  simp only [List.length_nil] at l1
  have e1:Zt ([],(k:Int),1)=some (zO [] (k:Int) 1):=yo [] (k:Int) 1 (by omega) (by simp)
  have e2:Zt (zO [] (k:Int) 1,(b.length:Int),2)=some (zO (zO [] (k:Int) 1) (b.length:Int) 2):=yo _ (b.length:Int) 2 (by omega) (by omega)
  have l2:=Zh (zO [] (k:Int) 1) (b.length:Int) 2
  have hs:zO (zO [] (k:Int) 1) (b.length:Int) 2++b=wN k b:=rfl
  simp only [zeY,zqG,WK,Jt,WH,jR,zq (show ¬(k:Int)<0 by omega),zq (show ¬(k:Int)>255 by omega),zq (show ¬(b.length:Int)>600 by omega),
    cond_false,zc,Sum.elim_inr,e1,e2,Zl (show (zO (zO [] (k:Int) 1) (b.length:Int) 2).length+b.length≤9223372036854775807 by omega),cond_true,hs,wD _ (show (wN k b).length≤1000000000000 by omega),
    Zr,Zl (show (wN k b).length+4≤9223372036854775807 by omega)]
  rfl
def yK (s:List UInt8):Nat:=num ((s.drop 1).take 2)
def Zc (s:List UInt8):Int×List UInt8×Int :=
  if s.length<7 then (0,[],1) else if 600<yK s then (0,[],11) else if s.length<yK s+7 then (0,[],1)
  else if (s.drop (3+yK s)).take 4≠tail (s.take (3+yK s)) then (0,[],5) else if s.length≠yK s+7 then (0,[],2)
  else (((num (s.take 1):Nat):Int),(s.drop 3).take (yK s),0)
theorem zIP (s:List UInt8) (hl:s.length≤1000000000000):ze1 s=some (Zc s):=by
  unfold Zc
  simp only [ze1,zoz,zif,zn8]
  by_cases h7:s.length<7
  · rw [if_pos h7,zp (show (s.length:Int)<7 by omega),cond_true];rfl
  rw [if_neg h7,zq (show ¬(s.length:Int)<7 by omega),cond_false]
  have e1:ZY (1,s,0)=some (((num (s.take 1):Nat):Int),s.drop 1,0):=by have:=zbW 1 s 0 (by omega) hl;rw [YN (by omega)] at this;exact this
  have e2:ZY (2,s.drop 1,0)=some (((yK s:Nat):Int),s.drop 3,0):=by
    have:=zbW 2 (s.drop 1) 0 (by omega) (by rw [List.length_drop];omega);rw [YN (by rw [List.length_drop];omega),List.drop_drop] at this;exact this
  simp only [w8,zbi,zc,e1,unP,e2]
  generalize yK s=n
  by_cases h6:600<n
  · rw [if_pos h6,zp (show (n:Int)>600 by omega),cond_true];rfl
  rw [if_neg h6,zq (show ¬(n:Int)>600 by omega),cond_false,zb4 n (s.drop 3) 0 (by rw [List.length_drop];omega)]
  by_cases hs:s.length<n+7
  · rw [if_pos hs]
    have e4 : ∃b r,rdB n (s.drop 3) 0=(b,r,(rdB n (s.drop 3) 0).2.2)∧rdB 4 r (rdB n (s.drop 3) 0).2.2=([],r,1)∧r.length≤s.length:=by
      by_cases hn:(s.drop 3).length<n
      · exact ⟨[],s.drop 3,by rw [jE hn],by rw [jE hn];exact zkB 4 _ (show (1:Int)≠0 by decide),by rw [List.length_drop];omega⟩
      · rw [YN (by omega)]
        exact ⟨_,_,rfl,jE (by rw [List.length_drop,List.length_drop] at *;omega),by rw [List.length_drop,List.length_drop];omega⟩
    obtain ⟨b,r,hb,h4,hr⟩:=e4
    rw [hb]
    have e5:=zb4 4 r (rdB n (s.drop 3) 0).2.2 (by omega)
    rw [h4] at e5
    have e5':yB (4,r,(rdB n (s.drop 3) 0).2.2)=some ([],r,1):=e5
    simp only [zc,unP,e5',zgn]
    rfl
  rw [if_neg hs,YN (by rw [List.length_drop];omega),List.drop_drop]
  have e5:yB (4,s.drop (3+n),0)=some ((s.drop (3+n)).take 4,s.drop (7+n),0):=by
    have:=zb4 4 (s.drop (3+n)) 0 (by rw [List.length_drop];omega)
    rw [YN (by rw [List.length_drop];omega),List.drop_drop,show 3+n+4=7+n by omega] at this
    exact this
  have e6:(bif rdE (s.drop (7+n)) 0 == 1 then (some (0,[],[],rdE (s.drop (7+n)) 0):Option (Int×List UInt8×List UInt8×Int)) else none)=none:=by
    unfold rdE
    rw [if_pos rfl]
    by_cases h:s.drop (7+n)=[]
    · rw [if_pos h];rfl
    · rw [if_neg h];rfl
  have e7:(rdE (s.drop (7+n)) 0 == 1)=false:=by
    unfold rdE
    rw [if_pos rfl]
    by_cases h:s.drop (7+n)=[]
    · rw [if_pos h];rfl
    · rw [if_neg h];rfl
  simp only [zc,unP,e5,zgn,e7,cond_false]
  rw [yz (x:=3+(n:Int)) (by omega) (by omega),Zw (show (0:Int)≤3+(n:Int)∧3+(n:Int)<((s.length+1:Nat):Int) by omega),cond_true,show (3+(n:Int)).toNat=3+n by omega,
    wD _ (show (s.take (3+n)).length≤1000000000000 by rw [List.length_take];omega)]
  simp only [zc]
  by_cases ht:(s.drop (3+n)).take 4=tail (s.take (3+n))
  · rw [if_neg (fun h=>h ht),ht,beq_self_eq_true,Bool.not_true,cond_false]
    have e8:=zb4 (s.drop (7+n)).length (s.drop (7+n)) 0 (by rw [List.length_drop];omega)
    rw [YN (Nat.le_refl _),List.take_length] at e8
    simp only [zaV,zfD,zc,e8,unP,Wr,jZ,beq_self_eq_true,cond_true]
    by_cases hm:s.length=n+7
    · rw [if_neg (fun h=>h hm),List.drop_eq_nil_of_le (show s.length≤7+n by omega)];rfl
    · have hne:(s.drop (7+n) == [])=false:=by
        rw [beq_eq_false_iff_ne];intro h;have:=List.drop_eq_nil_iff.1 h;omega
      rw [if_pos hm,hne];rfl
  · have hne:((s.drop (3+n)).take 4 == tail (s.take (3+n)))=false:=by rw [beq_eq_false_iff_ne];exact ht
    rw [if_pos ht,hne];rfl
theorem Yg {k:Nat} {b:List UInt8} (hk:k≤255) (hb:b.length≤600):Zc (ZF k b)=((k:Int),b,0):=by
  have hL:=jy hk hb
  have hB:=ziM hk hb
  have e:ZF k b=be 1 k++(be 2 b.length++(b++tail (wN k b))):=by
    unfold ZF
    conv=>lhs;lhs;rw [znN hk hb]
    rw [List.append_assoc,List.append_assoc]
  have d1:(ZF k b).drop 1=be 2 b.length++(b++tail (wN k b)):=by rw [e,List.drop_left' (zT ..)]
  have d3:(ZF k b).drop 3=b++tail (wN k b):=by rw [show 3=1+2 from rfl,← List.drop_drop,d1,List.drop_left' (zT ..)]
  have hn:yK (ZF k b)=b.length:=by
    unfold yK
    rw [d1,List.take_left' (zT ..),zck]
    exact Nat.mod_eq_of_lt (by simp only [Nat.reducePow];omega)
  have t1:num ((ZF k b).take 1)=k:=by
    rw [e,List.take_left' (zT ..),zck]
    exact Nat.mod_eq_of_lt (by simp only [Nat.reducePow];omega)
  have tB:(ZF k b).take (3+b.length)=wN k b:=by unfold ZF;rw [List.take_left' hB]
  have dB:(ZF k b).drop (3+b.length)=tail (wN k b):=by unfold ZF;rw [List.drop_left' hB]
  unfold Zc
  rw [hn,hL,if_neg (by omega),if_neg (by omega),if_neg (by omega),dB,tB,if_neg (fun h=>h (List.take_of_length_le (Nat.le_of_eq (Zr _)))),if_neg (by omega),t1,d3,List.take_left' rfl]
theorem zfj {s:List UInt8} (h:(Zc s).2.2=0) : ∃k b,k≤255∧b.length≤600∧s=ZF k b∧Zc s=((k:Int),b,0):=by
  unfold Zc at h ⊢
  split at h
  · cases h
  rename_i h7
  split at h
  · cases h
  rename_i h6
  split at h
  · cases h
  rename_i hs
  split at h
  · cases h
  rename_i ht
  split at h
  · cases h
  rename_i hm
  rw [if_neg h7,if_neg h6,if_neg hs,if_neg ht,if_neg hm]
  have hm':s.length=yK s+7:=Decidable.not_not.1 hm
  have ht':=Decidable.not_not.1 ht
  have hk:num (s.take 1)<256:=by
    have:=zrb (s.take 1)
    rw [List.length_take,show min 1 s.length=1 by omega] at this
    exact this
  have hb:((s.drop 3).take (yK s)).length=yK s:=by rw [List.length_take,List.length_drop];omega
  refine ⟨num (s.take 1),(s.drop 3).take (yK s),by omega,by rw [hb];omega,?_,rfl⟩
  have e1:be 1 (num (s.take 1))=s.take 1:=by
    have:=zAe (s.take 1)
    rwa [List.length_take,show min 1 s.length=1 by omega] at this
  have e2:be 2 (yK s)=(s.drop 1).take 2:=by
    have:=zAe ((s.drop 1).take 2)
    rwa [List.length_take,List.length_drop,show min 2 (s.length - 1)=2 by omega] at this
  have eB:wN (num (s.take 1)) ((s.drop 3).take (yK s))=s.take (3+yK s):=by
    rw [znN (by omega) (by rw [hb];omega),hb,e1,e2,show 3+yK s=1+(2+yK s) by omega,List.take_add,List.take_add,List.drop_drop]
  unfold ZF
  rw [eB,← ht']
  rw [List.take_of_length_le (l:=s.drop (3+yK s)) (by rw [List.length_drop];omega),List.take_append_drop]
end Go.Proofs.R9
namespace Go.Proofs.R9
open Go Go.AE Go.Plain
set_option maxRecDepth 100000
abbrev VD:=(Int×Int)×List UInt8
abbrev SV:=Int×(Int×Int)×List UInt8×VD×(Int×Int)×List UInt8
def noS:SV:=(0,(0,0),[],((0,0),[]),(0,0),[])
def Zf:SV→Int:=fun (k,(va,vb),d,((aa,ab),ad),(ba,bb),bd) =>
  if k=0 then (if ¬J6 va vb then 3 else if d.length≠128 then 12 else if ¬((aa=0∧ab=0∧ad=[])∧ba=0∧bb=0∧bd=[]) then 4 else 0)
  else if k=1 then (if zm3 0 aa ab ad ba bb bd≠0 then zm3 0 aa ab ad ba bb bd else if va≠aa∨vb≠bb∨d≠[] then 4 else 0)
  else 7
theorem zfk (k va vb:Int) (d:List UInt8) (aa ab:Int) (ad:List UInt8) (ba bb:Int) (bd:List UInt8) :
    JP (k,va,vb,d,aa,ab,ad,ba,bb,bd)=some (Zf (k,(va,vb),d,((aa,ab),ad),(ba,bb),bd)):=by
  unfold Zf
  simp only [JP,zoi,zcq,zlp,zdD]
  by_cases h0:k=0
  · rw [zp h0,cond_true,if_pos h0]
    simp only [zc,Sum.elim_inl,zgZ,zpk,Wp,JT,Wl,Jd,zyZ]
    by_cases hv:J6 va vb
    · rw [zp hv,if_neg (fun h=>h hv)]
      simp only [Bool.not_true,cond_false,Yo]
      by_cases hd:d.length=128
      · rw [zp (show (d.length:Int)=128 by omega),if_neg (fun h=>h hd)]
        simp only [Bool.not_true,cond_false]
        by_cases hn:(aa=0∧ab=0∧ad=[])∧ba=0∧bb=0∧bd=[]
        · rw [if_neg (fun h=>h hn)]
          obtain ⟨⟨rfl,rfl,rfl⟩,rfl,rfl,rfl⟩:=hn
          rfl
        · rw [if_pos hn]
          have:(bif !(aa == 0&&(ab == 0&&true)&&(ad == []&&true)) then some true else some (!(ba == 0&&(bb == 0&&true)&&(bd == []&&true))):Option Bool)=some true:=by
            by_cases h1:aa=0∧ab=0∧ad=[]
            · obtain ⟨rfl,rfl,rfl⟩:=h1
              have h2 : ¬(ba=0∧bb=0∧bd=[]):=fun h=>hn ⟨⟨rfl,rfl,rfl⟩,h⟩
              have:(ba == 0&&(bb == 0&&true)&&(bd == []&&true))=false:=by
                rw [Bool.eq_false_iff];intro h;simp at h;exact h2 ⟨h.1.1,h.1.2,h.2⟩
              rw [this];rfl
            · have:(aa == 0&&(ab == 0&&true)&&(ad == []&&true))=false:=by
                rw [Bool.eq_false_iff];intro h;simp at h;exact h1 ⟨h.1.1,h.1.2,h.2⟩
              rw [this];rfl
          first | rw [this] | (simp only [zdD] at this;rw [this])
          rfl
      · rw [zq (show ¬(d.length:Int)=128 by omega),if_pos hd];rfl
    · rw [zq hv,if_pos hv];rfl
  rw [zq h0,cond_false,if_neg h0]
  by_cases h1:k=1
  · rw [zp h1,cond_true,if_pos h1]
    simp only [zc,Sum.elim_inr,Sum.elim_inl,zjd,zqB,Wm,Jv,zRC,Yo]
    by_cases hp:zm3 0 aa ab ad ba bb bd=0
    · rw [zp hp,if_neg (fun h=>h hp)]
      simp only [Bool.not_true,cond_false]
      by_cases hv:va=aa∧vb=bb∧d=[]
      · obtain ⟨rfl,rfl,rfl⟩:=hv
        rw [if_neg (by simp)]
        simp
        rfl
      · have:(bif !(va == aa&&(vb == bb&&true)) then some true else some (!d == []):Option Bool)=some true:=by
          by_cases h2:va=aa∧vb=bb
          · have h3:(d == [])=false:=by rw [beq_eq_false_iff_ne];exact fun h=>hv ⟨h2.1,h2.2,h⟩
            rw [h2.1,h2.2,h3];simp
          · have:(va == aa&&(vb == bb&&true))=false:=by
              rw [Bool.eq_false_iff];intro h;simp at h;exact h2 h
            rw [this];rfl
        have hv':va≠aa∨vb≠bb∨d≠[]:=by
          by_cases h2:va=aa
          · by_cases h3:vb=bb
            · exact .inr (.inr fun h=>hv ⟨h2,h3,h⟩)
            · exact .inr (.inl h3)
          · exact .inl h2
        rw [if_pos hv']
        first | rw [this] | (simp only [zdD] at this;rw [this])
        rfl
    · rw [zq hp,if_pos hp];rfl
  · rw [zq h1,cond_false,if_neg h1];rfl
def zdI (t:List UInt8) (x:VD):List UInt8:=zO (zO t x.1.1 7) x.1.2 7++x.2
def yF:SV→List UInt8:=fun (k,v,d,a,b)=>if k=0 then zdI (zO [] k 1) (v,d) else zdI (zdI (zO [] k 1) a) b
def zG3 (s:SV):List UInt8×Int:=if Zf s≠0 then ([],Zf s) else (yF s,0)
theorem zjG (t:List UInt8) (x:VD):(zdI t x).length≤t.length+14+x.2.length:=by
  unfold zdI
  have h1:=Zh t x.1.1 7
  have h2:=Zh (zO t x.1.1 7) x.1.2 7
  rw [List.length_append];omega
theorem zvG {s:SV} (h:Zf s=0):s.2.2.1.length≤128∧s.2.2.2.1.2.length≤128∧s.2.2.2.2.2.length≤128∧InI s.1∧InI s.2.1.1∧InI s.2.1.2∧InI s.2.2.2.1.1.1∧InI s.2.2.2.1.1.2∧InI s.2.2.2.2.1.1∧InI s.2.2.2.2.1.2:=by
  obtain ⟨k,⟨va,vb⟩,d,⟨⟨aa,ab⟩,ad⟩,⟨ba,bb⟩,bd⟩:=s
  unfold Zf at h
  dsimp only at h ⊢
  by_cases h0:k=0
  · rw [if_pos h0] at h
    split at h
    · cases h
    rename_i hv
    split at h
    · cases h
    rename_i hd
    split at h
    · cases h
    rename_i hn
    have hv:=Decidable.not_not.1 hv
    obtain ⟨⟨rfl,rfl,rfl⟩,rfl,rfl,rfl⟩:=Decidable.not_not.1 hn
    have hd:=Decidable.not_not.1 hd
    unfold J6 at hv
    unfold InI
    simp only [List.length_nil]
    omega
  · rw [if_neg h0] at h
    by_cases h1:k=1
    · rw [if_pos h1] at h
      split at h
      · rename_i hp;exact absurd h hp
      rename_i hp
      split at h
      · cases h
      rename_i hv
      obtain ⟨_,ha,hb,hx,hy⟩:=zvN (Decidable.not_not.1 hp)
      have hv1:va=aa:=Decidable.byContradiction fun h=>hv (.inl h)
      have hv2:vb=bb:=Decidable.byContradiction fun h=>hv (.inr (.inl h))
      have hv3:d=[]:=Decidable.byContradiction fun h=>hv (.inr (.inr h))
      subst hv1 hv2 hv3
      unfold J6 at ha hb
      unfold InI
      simp only [List.length_nil]
      omega
    · rw [if_neg h1] at h;cases h
theorem zpL {s:SV} (h:Zf s=0):(yF s).length≤285:=by
  obtain ⟨h1,h2,h3,_⟩:=zvG h
  obtain ⟨k,v,d,a,b⟩:=s
  have h0:=Zh [] k 1
  simp only [List.length_nil] at h0
  unfold yF
  dsimp only at h1 h2 h3 ⊢
  by_cases hk:k=0
  · rw [if_pos hk]
    have:=zjG (zO [] k 1) (v,d)
    dsimp only at this
    omega
  · rw [if_neg hk]
    have:=zjG (zO [] k 1) a
    have:=zjG (zdI (zO [] k 1) a) b
    omega
theorem zmo (t:List UInt8) (x:VD) (ht:t.length≤1000) (hx:x.2.length≤1000):zaP (t,x.1.1,x.1.2,x.2)=some (zdI t x):=by
  have h1:=Zh t x.1.1 7
  have h2:=Zh (zO t x.1.1 7) x.1.2 7
  simp only [zaP,zoQ,zS5 t x.1.1 x.1.2 (by omega),zc,Zl (show (zO (zO t x.1.1 7) x.1.2 7).length+x.2.length≤9223372036854775807 by omega),cond_true]
  rfl
theorem zP7 (k va vb:Int) (d:List UInt8) (aa ab:Int) (ad:List UInt8) (ba bb:Int) (bd:List UInt8) :
    zej (k,va,vb,d,aa,ab,ad,ba,bb,bd)=some (zG3 (k,(va,vb),d,((aa,ab),ad),(ba,bb),bd)):=by
  unfold zG3
  simp only [zej,zrp,zfk,zc,Yo]
  by_cases hc:Zf (k,(va,vb),d,((aa,ab),ad),(ba,bb),bd)=0
  · obtain ⟨h1,h2,h3,_⟩:=zvG hc
    dsimp only at h1 h2 h3
    have h0:=Zh [] k 1
    simp only [List.length_nil] at h0
    have ef:Zt ([],k,1)=some (zO [] k 1):=yo [] k 1 (by omega) (by simp)
    rw [zp hc,if_neg (fun h=>h hc)]
    simp only [Bool.not_true,cond_false,ef,zc,zdD]
    unfold yF
    by_cases hk:k=0
    · have e1:=zmo (zO [] k 1) ((va,vb),d) (by omega) (by dsimp only;omega)
      dsimp only at e1
      rw [zp hk,cond_true]
      simp only [zi9,zqn,zcq,zlp,zdD,zp hk,cond_true,zc,Sum.elim_inl,zhX,zpx,unP,e1,if_pos hk]
    · have e1:=zmo (zO [] k 1) ((aa,ab),ad) (by omega) (by dsimp only;omega)
      have e2:=zjG (zO [] k 1) ((aa,ab),ad)
      dsimp only at e1 e2
      have e3:=zmo (zdI (zO [] k 1) ((aa,ab),ad)) ((ba,bb),bd) (by omega) (by dsimp only;omega)
      dsimp only at e3
      rw [zq hk,cond_false]
      simp only [e1,e3,zc,if_neg hk]
  · rw [zq hc,if_pos hc];rfl
end Go.Proofs.R9
namespace Go.Proofs.R9
open Go Go.AE Go.Plain
set_option maxRecDepth 100000
def rdV (r:List UInt8) (e:Int):VD×List UInt8×Int :=
  (((((num (rdB 7 r e).1:Nat):Int),((num (rdB 7 (rdB 7 r e).2.1 (rdB 7 r e).2.2).1:Nat):Int)),(rdB 128 (rdB 7 (rdB 7 r e).2.1 (rdB 7 r e).2.2).2.1 (rdB 7 (rdB 7 r e).2.1 (rdB 7 r e).2.2).2.2).1),
    (rdB 128 (rdB 7 (rdB 7 r e).2.1 (rdB 7 r e).2.2).2.1 (rdB 7 (rdB 7 r e).2.1 (rdB 7 r e).2.2).2.2).2.1,(rdB 128 (rdB 7 (rdB 7 r e).2.1 (rdB 7 r e).2.2).2.1 (rdB 7 (rdB 7 r e).2.1 (rdB 7 r e).2.2).2.2).2.2)
theorem zT0 (r:List UInt8) (e:Int):(rdV r e).2.1.length≤r.length:=by
  have h1:=zaO 7 r e
  have h2:=zaO 7 (rdB 7 r e).2.1 (rdB 7 r e).2.2
  have h3:=zaO 128 (rdB 7 (rdB 7 r e).2.1 (rdB 7 r e).2.2).2.1 (rdB 7 (rdB 7 r e).2.1 (rdB 7 r e).2.2).2.2
  exact Nat.le_trans h3 (Nat.le_trans h2 h1)
theorem zo9 (r:List UInt8) (e:Int) (hl:r.length≤1000000000000) :
    za0 (r,e)=some ((rdV r e).1.1.1,(rdV r e).1.1.2,(rdV r e).1.2,(rdV r e).2.1,(rdV r e).2.2):=by
  have h1:=zaO 7 r e
  have h2:=zaO 7 (rdB 7 r e).2.1 (rdB 7 r e).2.2
  have e1:=zbW 7 r e (by omega) hl
  have e2:=zbW 7 (rdB 7 r e).2.1 (rdB 7 r e).2.2 (by omega) (by omega)
  have e3:=zb4 128 (rdB 7 (rdB 7 r e).2.1 (rdB 7 r e).2.2).2.1 (rdB 7 (rdB 7 r e).2.1 (rdB 7 r e).2.2).2.2 (by omega)
  simp only [Int.cast_ofNat_Int] at e1 e2 e3
  simp only [za0,zoT,e1,e2,e3,zc,unP]
  rfl
def zI4:SV×Int→Int×Int×Int×List UInt8×Int×Int×List UInt8×Int×Int×List UInt8×Int:=fun ((k,(va,vb),d,((aa,ab),ad),(ba,bb),bd),e)=>(k,va,vb,d,aa,ab,ad,ba,bb,bd,e)
def zbj (s:SV) (e:Int):SV×Int:=if (if e=0 then Zf s else e)≠0 then (noS,if e=0 then Zf s else e) else (s,0)
def jc (t:List UInt8):SV×Int :=
  if ((num (rdB 1 t 0).1:Nat):Int)=0 then zbj (((num (rdB 1 t 0).1:Nat):Int),(rdV (rdB 1 t 0).2.1 (rdB 1 t 0).2.2).1.1,(rdV (rdB 1 t 0).2.1 (rdB 1 t 0).2.2).1.2,((0,0),[]),(0,0),[]) (rdE (rdV (rdB 1 t 0).2.1 (rdB 1 t 0).2.2).2.1 (rdV (rdB 1 t 0).2.1 (rdB 1 t 0).2.2).2.2)
  else if ((num (rdB 1 t 0).1:Nat):Int)=1 then
    zbj (((num (rdB 1 t 0).1:Nat):Int),((rdV (rdB 1 t 0).2.1 (rdB 1 t 0).2.2).1.1.1,(rdV (rdV (rdB 1 t 0).2.1 (rdB 1 t 0).2.2).2.1 (rdV (rdB 1 t 0).2.1 (rdB 1 t 0).2.2).2.2).1.1.2),[],(rdV (rdB 1 t 0).2.1 (rdB 1 t 0).2.2).1,(rdV (rdV (rdB 1 t 0).2.1 (rdB 1 t 0).2.2).2.1 (rdV (rdB 1 t 0).2.1 (rdB 1 t 0).2.2).2.2).1)
      (rdE (rdV (rdV (rdB 1 t 0).2.1 (rdB 1 t 0).2.2).2.1 (rdV (rdB 1 t 0).2.1 (rdB 1 t 0).2.2).2.2).2.1 (rdV (rdV (rdB 1 t 0).2.1 (rdB 1 t 0).2.2).2.1 (rdV (rdB 1 t 0).2.1 (rdB 1 t 0).2.2).2.2).2.2)
  else (noS,7)
theorem zy7 (k va vb:Int) (d:List UInt8) (aa ab:Int) (ad:List UInt8) (ba bb:Int) (bd:List UInt8) (e:Int) (c:Int) (hc:c=Zf (k,(va,vb),d,((aa,ab),ad),(ba,bb),bd)) :
    (za (bif e == 0 then some c else some e:Option Int) fun t7=>bif t7 != 0 then some (0,0,0,[],0,0,[],0,0,[],t7) else some (k,va,vb,d,aa,ab,ad,ba,bb,bd,0)) =
      some (zI4 (zbj (k,(va,vb),d,((aa,ab),ad),(ba,bb),bd) e)):=by
  subst hc
  unfold zbj
  by_cases he:e=0
  · subst he
    simp only [beq_self_eq_true,cond_true,zc,if_pos rfl,if_true]
    by_cases hz:Zf (k,(va,vb),d,((aa,ab),ad),(ba,bb),bd)=0
    · rw [if_neg (fun h=>h hz),hz];rfl
    · have:(Zf (k,(va,vb),d,((aa,ab),ad),(ba,bb),bd) != 0)=true:=by simpa using hz
      rw [if_pos hz,this];rfl
  · have h1:(e == 0)=false:=by simpa using he
    have h2:(e != 0)=true:=by simpa using he
    rw [h1,if_neg he,if_pos he]
    simp only [cond_false,zc,h2,cond_true]
    rfl
theorem zzq (t:List UInt8) (hl:t.length≤1000000000000):ze6 t=some (zI4 (jc t)):=by
  have e1:=zbW 1 t 0 (by omega) hl
  have l1:=zaO 1 t 0
  simp only [Int.cast_ofNat_Int] at e1
  unfold jc
  simp only [ze6,zpY,w8,zbi,zc,e1,unP,WA,JM,Wk,j6,zfk,zdD]
  generalize (rdB 1 t 0)=q at l1 ⊢
  obtain ⟨b,r,e⟩:=q
  dsimp only at l1 ⊢
  generalize ((num b:Nat):Int)=k
  have v1:=zo9 r e (by omega)
  have l2:=zT0 r e
  have v2:=zo9 (rdV r e).2.1 (rdV r e).2.2 (by omega)
  by_cases h0:k=0
  · rw [zp h0,cond_true,if_pos h0]
    simp only [v1,zc,unP,Sum.elim_inl,zgn]
    exact zy7 k (rdV r e).1.1.1 (rdV r e).1.1.2 (rdV r e).1.2 0 0 [] 0 0 [] _ _ rfl
  · rw [zq h0,cond_false,if_neg h0]
    by_cases h1:k=1
    · rw [zp h1,cond_true,if_pos h1]
      simp only [v1,v2,zc,unP,Sum.elim_inl,zgn]
      exact zy7 k (rdV r e).1.1.1 (rdV (rdV r e).2.1 (rdV r e).2.2).1.1.2 [] (rdV r e).1.1.1 (rdV r e).1.1.2 (rdV r e).1.2 (rdV (rdV r e).2.1 (rdV r e).2.2).1.1.1 (rdV (rdV r e).2.1 (rdV r e).2.2).1.1.2 (rdV (rdV r e).2.1 (rdV r e).2.2).1.2 _ _ rfl
    · rw [zq h1,cond_false,if_neg h1]
      rfl
theorem yH {n:Int} {k:Nat} (t:List UInt8) (h:0≤n∧n<((256 ^ k:Nat):Int)):zO t n k=t++be k n.toNat:=by unfold zO;rw [if_pos h]
theorem zBp (k n:Nat) (r:List UInt8):rdB k (be k n++r) 0=(be k n,r,0):=by
  rw [YN (by rw [List.length_append,zT];omega),List.take_left' (zT ..),List.drop_left' (zT ..)]
theorem zTE {a:Int} (h:0≤a∧a≤1125899906842624):((num (be 7 a.toNat):Nat):Int)=a:=by
  rw [zck,Nat.mod_eq_of_lt (by simp only [Nat.reducePow];omega)];omega
theorem ztH {a b:Int} {x r:List UInt8} (h:J6 a b) (hx:x.length=128):rdV (be 7 a.toNat++(be 7 b.toNat++(x++r))) 0=(((a,b),x),r,0):=by
  unfold rdV
  simp only [zBp]
  rw [YN (by rw [List.length_append];omega),List.take_left' hx,List.drop_left' hx,zTE h.1,zTE h.2]
theorem znT {a b:Int} {x:List UInt8} (t:List UInt8) (h:J6 a b):zdI t ((a,b),x)=t++(be 7 a.toNat++(be 7 b.toNat++x)):=by
  obtain ⟨ha,hb⟩:=h
  unfold zdI
  dsimp only
  rw [yH t ⟨ha.1,by simp only [Nat.reducePow];omega⟩,yH _ ⟨hb.1,by simp only [Nat.reducePow];omega⟩,List.append_assoc,List.append_assoc]
theorem zDd {s:SV} (h:Zf s=0):jc (yF s)=(s,0):=by
  have hc:=h
  obtain ⟨k,⟨va,vb⟩,d,⟨⟨aa,ab⟩,ad⟩,⟨ba,bb⟩,bd⟩:=s
  unfold Zf at h
  dsimp only at h
  by_cases h0:k=0
  · rw [if_pos h0] at h
    split at h
    · cases h
    rename_i hv
    split at h
    · cases h
    rename_i hd
    split at h
    · cases h
    rename_i hn
    have hv:=Decidable.not_not.1 hv
    obtain ⟨⟨rfl,rfl,rfl⟩,rfl,rfl,rfl⟩:=Decidable.not_not.1 hn
    have hd:=Decidable.not_not.1 hd
    subst h0
    have eb:yF (0,(va,vb),d,((0,0),[]),(0,0),[])=be 1 0++(be 7 va.toNat++(be 7 vb.toNat++(d++[]))):=by
      unfold yF
      dsimp only
      rw [if_pos rfl,znT _ hv,yH [] (by decide),List.nil_append,List.append_nil];rfl
    unfold jc
    rw [eb,zBp]
    dsimp only
    rw [ztH hv hd]
    have hz:((num (be 1 0):Nat):Int)=0:=by decide
    rw [hz,if_pos rfl]
    unfold zbj rdE
    dsimp only
    rw [if_pos rfl,if_pos rfl,if_pos rfl,hc]
    rfl
  · rw [if_neg h0] at h
    by_cases h1:k=1
    · rw [if_pos h1] at h
      split at h
      · rename_i hp;exact absurd h hp
      rename_i hp
      split at h
      · cases h
      rename_i hv
      obtain ⟨_,ha,hb,hx,hy⟩:=zvN (Decidable.not_not.1 hp)
      have hv1:va=aa:=Decidable.byContradiction fun h=>hv (.inl h)
      have hv2:vb=bb:=Decidable.byContradiction fun h=>hv (.inr (.inl h))
      have hv3:d=[]:=Decidable.byContradiction fun h=>hv (.inr (.inr h))
      subst hv1 hv2 hv3 h1
      have eb:yF (1,(va,vb),[],((va,ab),ad),(ba,vb),bd)=be 1 1++(be 7 va.toNat++(be 7 ab.toNat++(ad++(be 7 ba.toNat++(be 7 vb.toNat++(bd++[])))))):=by
        unfold yF
        dsimp only
        rw [if_neg (by decide),znT _ ha,znT _ hb,yH [] (by decide),List.nil_append,List.append_nil]
        simp only [List.append_assoc]
        rfl
      unfold jc
      rw [eb,zBp]
      dsimp only
      rw [ztH ha hx]
      dsimp only
      rw [ztH hb hy]
      have hz:((num (be 1 1):Nat):Int)=1:=by decide
      rw [hz,if_neg (by decide),if_pos rfl]
      unfold zbj rdE
      dsimp only
      rw [if_pos rfl,if_pos rfl,if_pos rfl,hc]
      rfl
    · rw [if_neg h1] at h;cases h
theorem zME {t:List UInt8} (h:(jc t).2=0):Zf (jc t).1=0:=by
  have key : ∀(s:SV) (e:Int),(zbj s e).2=0→Zf (zbj s e).1=0:=by
    intro s e h
    unfold zbj at h ⊢
    by_cases hz:(if e=0 then Zf s else e)=0
    · rw [if_neg (fun h=>h hz)]
      by_cases he:e=0
      · rw [if_pos he] at hz;exact hz
      · rw [if_neg he] at hz;exact absurd hz he
    · rw [if_pos hz] at h;exact absurd h hz
  unfold jc at h ⊢
  split
  · rename_i h0;rw [if_pos h0] at h;exact key _ _ h
  · rename_i h0
    rw [if_neg h0] at h
    split
    · rename_i h1;rw [if_pos h1] at h;exact key _ _ h
    · rename_i h1;rw [if_neg h1] at h;cases h
end Go.Proofs.R9
namespace Go.Plain
open Go Go.AE
def fnz:List Int→Int
  | []=>0
  | e::r=>if e≠0 then e else fnz r
theorem zfQ : ∀(a b:List Int),fnz (a++b)=if fnz a≠0 then fnz a else fnz b
  | [],b=>by simp [fnz]
  | e::r,b=>by
    rw [List.cons_append,fnz,fnz,zfQ r b]
    by_cases h:e=0
    · subst h;rfl
    · rw [if_pos h,if_pos h,if_pos h]
theorem zAa {α:Type} {l:List α} {j:Nat} {x:α} (h:l[j]? = some x):l=l.take j++x::l.drop (j+1):=by
  have hj:j<l.length:=by
    apply Decidable.byContradiction;intro hn;rw [List.getElem?_eq_none (by omega)] at h;cases h
  have hx:l[j]=x:=by rw [List.getElem?_eq_getElem hj] at h;exact Option.some.inj h
  rw [← hx]
  conv=>lhs;rw [← List.take_append_drop j l]
  rw [List.drop_eq_getElem_cons hj]
theorem zEG {α:Type} {l:List α} {j:Nat} {x:α} (h:l[j]? = some x):l.drop j=x::l.drop (j+1):=by
  have hj:j<l.length:=by
    apply Decidable.byContradiction;intro hn;rw [List.getElem?_eq_none (by omega)] at h;cases h
  rw [List.getElem?_eq_getElem hj] at h
  rw [List.drop_eq_getElem_cons hj,Option.some.inj h]
theorem zjO {α:Type} {l:List α} {j:Nat} {x:α} (h:l[j]? = some x):l.take (j+1)=l.take j++[x]:=by
  rw [List.take_add_one,h];rfl
theorem zNK {α:Type} {f:α→Int} {l:List α} {j:Nat} {x:α} (h0:fnz ((l.take j).map f)=0) (h:l[j]? = some x) (hx:f x≠0):fnz (l.map f)=f x:=by
  rw [zAa h,List.map_append,zfQ,if_neg (fun h=>h h0),List.map_cons,fnz,if_pos hx]
theorem zCT {α:Type} {f:α→Int} {l:List α} {j:Nat} {x:α} (h0:fnz ((l.take j).map f)=0) (h:l[j]? = some x) (hx:f x=0):fnz ((l.take (j+1)).map f)=0:=by
  rw [zjO h,List.map_append,zfQ,if_neg (fun h=>h h0),List.map_cons,List.map_nil,fnz,if_neg (fun h=>h hx)];rfl
theorem zzR {l:List Int} (h:fnz l=0) : ∀x ∈ l,x=0:=by
  induction l with
  | nil=>intro x hx;cases hx
  | cons e r ih =>
    rw [fnz] at h
    by_cases he:e=0
    · rw [if_neg (fun h=>h he)] at h
      intro x hx
      rcases List.mem_cons.1 hx with rfl | hx
      · exact he
      · exact ih h x hx
    · rw [if_pos he] at h;exact absurd h he
theorem zS8 {l:List Int} (h : ∀x ∈ l,x=0):fnz l=0:=by
  induction l with
  | nil=>rfl
  | cons e r ih=>rw [fnz,if_neg (fun h'=>h' (h e (List.mem_cons_self ..)))];exact ih fun x hx=>h x (List.mem_cons_of_mem _ hx)
def zba {α:Type} (p:Nat→α→Bool):Nat→List α→Bool
  | _,[]=>true
  | i,x::r=>p i x&&zba p (i+1) r
theorem znF {α:Type} {p:Nat→α→Bool} : ∀{l:List α} {i:Nat},zba p i l=true ↔ ∀j x,l[j]? = some x→p (i+j) x=true
  | [],i=>by simp [zba]
  | x::r,i=>by
    rw [zba,Bool.and_eq_true,znF]
    constructor
    · rintro ⟨h1,h2⟩ j y hy
      cases j with
      | zero=>cases hy;exact h1
      | succ j=>have:=h2 j y hy;rwa [show i+(j+1)=i+1+j by omega]
    · intro h
      exact ⟨h 0 x rfl,fun j y hy=>by have:=h (j+1) y hy;rwa [show i+(j+1)=i+1+j by omega] at this⟩
theorem zRD {α Y:Type} (l:List α) (p:Nat→α→Bool) (f:Int→Option (Int ⊕ Y)) (bad good:Y)
    (hs : ∀(j:Nat) x,l[j]? = some x→f (j:Int)=some (if p j x=true then .inl ((j+1:Nat):Int) else .inr bad)) (he:f (l.length:Int)=some (.inr good)) (hl:l.length≤18446744073709551000) :
    zZ f Zo 0=some (if zba p 0 l=true then good else bad):=by
  have key : ∃y,zZ f Zo ((0:Nat):Int)=some y∧y=if zba p 0 l=true then good else bad:=by
    refine Qj l (fun j (_:Unit)=>(j:Int)) (fun j _=>zba p 0 l=zba p j (l.drop j)) _ ?_ ?_ (s0:=()) (by rw [List.drop_zero]) hl
    · intro j x _ hj _ hi
      rw [zEG hj,zba] at hi
      cases hp:p j x with
      | true =>
        refine .inl ⟨(),by rw [hs j x hj,if_pos hp],?_⟩
        rw [hi,hp,Bool.true_and]
      | false =>
        refine .inr ⟨bad,by rw [hs j x hj,if_neg (by rw [hp];decide)],?_⟩
        rw [hi,hp,Bool.false_and,if_neg (by decide)]
    · intro _ hi
      refine ⟨good,he,?_⟩
      rw [hi,List.drop_length,zba,if_pos rfl]
  obtain ⟨y,hy,rfl⟩:=key
  exact hy
def WY {α β:Type} (g:Nat→α→Option β):Nat→List α→Option (List β)
  | _,[]=>some []
  | i,x::r=>match g i x with
    | none=>none
    | some b=>match WY g (i+1) r with
      | none=>none
      | some bs=>some (b::bs)
theorem zB4 {α β:Type} {g:Nat→α→Option β} : ∀{l:List α} {i:Nat} {bs:List β},WY g i l=some bs→bs.length=l.length
  | [],i,bs,h=>by cases h;rfl
  | x::r,i,bs,h=>by
    rw [WY] at h
    split at h
    · cases h
    · split at h
      · cases h
      · rename_i h2;cases h;rw [List.length_cons,List.length_cons,zB4 h2]
theorem zCl {α β:Type} {g:Nat→α→Option β} : ∀{l:List α} {i:Nat} {bs:List β},WY g i l=some bs → ∀(j:Nat) (x:α),l[j]? = some x → ∃b,bs[j]? = some b∧g (i+j) x=some b
  | [],i,bs,h,j,x,hj=>by cases hj
  | y::r,i,bs,h,j,x,hj=>by
    rw [WY] at h
    split at h
    · cases h
    · rename_i b hb
      split at h
      · cases h
      · rename_i bs' h2
        cases h
        cases j with
        | zero=>cases hj;exact ⟨b,rfl,hb⟩
        | succ j =>
          obtain ⟨b',h3,h4⟩:=zCl h2 j x hj
          exact ⟨b',h3,by rwa [show i+(j+1)=i+1+j by omega]⟩
theorem zLr {α β V Y:Type} (l:List α) (g:Nat→α→Option β) (enc:Nat→List β→V) (f:V→Option (V ⊕ Y)) (bad:Y) (good:List β→Y)
    (hs : ∀(j:Nat) x acc,l[j]? = some x→acc.length=j→f (enc j acc)=some (match g j x with | none => .inr bad | some b => .inl (enc (j+1) (acc++[b]))))
    (he : ∀acc,acc.length=l.length→f (enc l.length acc)=some (.inr (good acc))) (hl:l.length≤18446744073709551000) :
    zZ f Zo (enc 0 [])=some (match WY g 0 l with | none=>bad | some bs=>good bs):=by
  have key : ∃y,zZ f Zo (enc 0 [])=some y∧y=(match WY g 0 l with | none=>bad | some bs=>good bs):=by
    refine Qj l enc (fun j acc=>acc.length=j∧WY g 0 l=(WY g j (l.drop j)).map (acc ++ ·)) _ ?_ ?_ (s0:=[]) ⟨rfl,by rw [List.drop_zero];cases WY g 0 l <;> rfl⟩ hl
    · rintro j x acc hj _ ⟨ha,hi⟩
      rw [zEG hj,WY] at hi
      cases hg:g j x with
      | none =>
        refine .inr ⟨bad,by rw [hs j x acc hj ha,hg],?_⟩
        rw [hi,hg];rfl
      | some b =>
        refine .inl ⟨acc++[b],by rw [hs j x acc hj ha,hg],by rw [List.length_append,ha];rfl,?_⟩
        rw [hi,hg]
        dsimp only
        cases WY g (j+1) (l.drop (j+1)) <;> simp
    · rintro acc ⟨ha,hi⟩
      refine ⟨good acc,he acc ha,?_⟩
      rw [hi,List.drop_length,WY];simp
  obtain ⟨y,hy,rfl⟩:=key
  exact hy
end Go.Plain
namespace Go.Proofs.R9
open Go Go.AE Go.Plain
set_option maxRecDepth 100000
theorem zvL (x:SV):JP (x.fst,x.snd.fst.fst,x.snd.fst.snd,x.snd.snd.fst,x.snd.snd.snd.fst.fst.fst,x.snd.snd.snd.fst.fst.snd,x.snd.snd.snd.fst.snd,x.snd.snd.snd.snd.fst.fst,x.snd.snd.snd.snd.fst.snd,x.snd.snd.snd.snd.snd)=some (Zf x):=zfk ..
def zaB (l:List SV):Nat:=l.countP fun x=>decide (x.1=1)
def wY (n r b c x s l:Int) (ss:List SV) (cs:List Bool):Int :=
  if zhR n r b c x s l≠0 then zhR n r b c x s l else if (ss.length:Int)≠x∨(cs.length:Int)≠x then 12
  else if fnz (ss.map Zf)≠0 then fnz (ss.map Zf) else if (zaB ss:Int)>s then 16 else 0
theorem zL3 {l:List SV} {j:Nat} {x:SV} (h:l[j]? = some x):zaB (l.take (j+1))=zaB (l.take j)+if x.1=1 then 1 else 0:=by
  unfold zaB
  rw [zjO h,List.countP_append,List.countP_cons,List.countP_nil]
  by_cases hx:x.1=1 <;> simp [hx]
theorem zM1 (l:List SV):zaB l≤l.length:=List.countP_le_length
theorem zPN (a b x:Int):(bif a != x then some true else some (b != x):Option Bool)=some (decide (a≠x∨b≠x)):=by
  by_cases h1:a=x
  · by_cases h2:b=x
    · rw [zq (by simp [h1,h2]),Yo,Yo,zp h1,zp h2];rfl
    · rw [zp (.inr h2),Yo,Yo,zp h1,zq h2];rfl
  · rw [zp (.inl h1),Yo,zq h1];rfl
theorem zTc (a s:Int):(bif decide (a>s) then some (16:Int) else some 0)=some (if a>s then 16 else 0):=by
  by_cases h:a>s
  · rw [zp h,if_pos h];rfl
  · rw [zq h,if_neg h];rfl
theorem zhY (n r b c x s l:Int) (ss:List SV) (cs:List Bool):zfh (n,r,b,c,x,s,l,ss,cs)=some (wY n r b c x s l ss cs):=by
  unfold wY
  simp only [zfh,zzX,zvU,zc,Yo]
  by_cases h0:zhR n r b c x s l=0
  · rw [zp h0,if_neg (fun h=>h h0)]
    simp only [Bool.not_true,cond_false,qQ,zaR,zPN,zc]
    by_cases h1:(ss.length:Int)≠x∨(cs.length:Int)≠x
    · rw [zp h1,if_pos h1];rfl
    rw [zq h1,if_neg h1,cond_false]
    have hx:ss.length≤24:=by
      have h2:(ss.length:Int)=x:=Decidable.byContradiction fun h=>h1 (.inl h)
      unfold zhR at h0
      by_cases hm:zfW n r b c x s l
      · have:=hm.1.1;omega
      · rw [if_neg hm] at h0;cases h0
    have key : ∃y,zZ (yN (ss,(ss.length:Int),n,r,b,c,x,s,l,ss,cs)) Zo ((zaB (ss.take 0):Int),((0:Nat):Int))=some y ∧
        y=(if fnz (ss.map Zf)≠0 then .inl (fnz (ss.map Zf)) else .inr (zaB ss:Int)):=by
      refine Qj ss (fun j (_:Unit)=>((zaB (ss.take j):Int),(j:Int))) (fun j _=>fnz ((ss.take j).map Zf)=0) _ ?_ ?_ (s0:=()) rfl (by omega)
      · intro j y _ hj hlt hi
        have hc:=zM1 (ss.take j)
        rw [List.length_take] at hc
        by_cases hy:Zf y=0
        · left
          refine ⟨(),?_,zCT hi hj hy⟩
          simp only [yN,qG,wV,js,zp (show (j:Int)<(ss.length:Int) by omega),cond_true,zaG hj,zc,zvL,Yo,zdD,zp hy,Bool.not_true,cond_false,zL3 hj]
          rw [ZG (n:=j) (by omega)]
          by_cases h1:y.1=1
          · rw [zp h1,if_pos h1,ZG (by omega)];rfl
          · rw [zq h1,if_neg h1];rfl
        · right
          refine ⟨.inl (Zf y),?_,?_⟩
          · simp only [yN,qG,wV,js,zp (show (j:Int)<(ss.length:Int) by omega),cond_true,zaG hj,zc,zvL,Yo,zq hy]
            rfl
          · rw [zNK hi hj hy,if_pos hy]
      · intro _ hi
        rw [List.take_length] at hi ⊢
        refine ⟨_,?_,rfl⟩
        simp only [yN,qG,zq (show ¬(ss.length:Int)<(ss.length:Int) by omega),cond_false]
        rw [if_neg (fun h=>h hi)]
    obtain ⟨y,hy,rfl⟩:=key
    have hy':zZ (yN (ss,(ss.length:Int),n,r,b,c,x,s,l,ss,cs)) Zo (0,0)=_:=hy
    rw [hy',zc]
    by_cases hz:fnz (ss.map Zf)=0
    · rw [if_neg (fun h=>h hz),if_neg (fun h=>h hz),Sum.elim_inr,zTc]
    · rw [if_pos hz,if_pos hz,Sum.elim_inl]
  · rw [zq h0,if_pos h0];rfl
def W5 (c:Bool):Int:=if c=true then 1 else 0
def ZE (i:Int) (x:SV) (c:Bool):List UInt8:=zO (zO [] i 1) (W5 c) 1++yF x
theorem zQJ (c:Bool):0≤W5 c∧W5 c≤1:=by cases c <;> decide
theorem J4 {i:Int} {x:SV} {c:Bool} (h:Zf x=0):(ZE i x c).length≤287:=by
  have h1:=Zh [] i 1
  have h2:=Zh (zO [] i 1) (W5 c) 1
  have h3:=zpL h
  simp only [List.length_nil] at h1
  unfold ZE
  rw [List.length_append];omega
theorem zvQ (i k va vb:Int) (d:List UInt8) (aa ab:Int) (ad:List UInt8) (ba bb:Int) (bd:List UInt8) (ch:Bool) :
    zaT (i,k,va,vb,d,aa,ab,ad,ba,bb,bd,ch)=some (if Zf (k,(va,vb),d,((aa,ab),ad),(ba,bb),bd)≠0 then ([],Zf (k,(va,vb),d,((aa,ab),ad),(ba,bb),bd)) else (ZE i (k,(va,vb),d,((aa,ab),ad),(ba,bb),bd) ch,0)):=by
  simp only [zaT,zrK,zP7,zc,Yo]
  unfold zG3
  by_cases h:Zf (k,(va,vb),d,((aa,ab),ad),(ba,bb),bd)=0
  · have hb:=zpL h
    have h1:=Zh [] i 1
    have h2:=Zh (zO [] i 1) (W5 ch) 1
    simp only [List.length_nil] at h1
    have e1:Zt ([],i,1)=some (zO [] i 1):=yo [] i 1 (by omega) (by simp)
    have e2:Zt (zO [] i 1,W5 ch,1)=some (zO (zO [] i 1) (W5 ch) 1):=yo _ (W5 ch) 1 (by omega) (by omega)
    have em:(wg (i,yF (k,(va,vb),d,((aa,ab),ad),(ba,bb),bd),ch))=some (W5 ch):=by
      simp only [wg,JA];cases ch <;> rfl
    rw [if_neg (fun h'=>h' h),if_neg (fun h'=>h' h)]
    simp only [unP,zp,Bool.not_true,cond_false,em,zc,e1,e2,Zl (show (zO (zO [] i 1) (W5 ch) 1).length+(yF (k,(va,vb),d,((aa,ab),ad),(ba,bb),bd)).length≤9223372036854775807 by omega),cond_true]
    rfl
  · rw [if_pos h,if_pos h]
    simp only [unP,zq h]
    rfl
def QU (l:List (List UInt8)):List UInt8:=zO [] (l.length:Int) 2++tail l.flatten
theorem zPo (l:List (List UInt8)):Lib.join l []=l.flatten:=by
  unfold Lib.join
  induction l with
  | nil=>rfl
  | cons x r ih =>
    cases r with
    | nil=>simp [List.intercalate]
    | cons y r =>
      have:([]:List UInt8).intercalate (x::y::r)=x++([]++([]:List UInt8).intercalate (y::r)):=by simp [List.intercalate,List.intersperse]
      rw [this,ih];rfl
theorem zpN (l:List (List UInt8)) (h1:l.length≤100000) (h2:l.flatten.length≤1000000000):zcr l=some (QU l):=by
  have hp:=Zh [] (l.length:Int) 2
  simp only [List.length_nil] at hp
  have e1:Zt ([],(l.length:Int),2)=some (zO [] (l.length:Int) 2):=yo [] _ 2 (by omega) (by simp)
  have e2:Y0 (l,[])=some l.flatten:=by
    unfold Y0
    dsimp only
    rw [zPo,Zl (by omega),Zl (by omega)];rfl
  simp only [zcr,zoW,e1,zc,e2,wD _ (show l.flatten.length≤1000000000000 by omega),Zr,Zl (show (zO [] (l.length:Int) 2).length+4≤9223372036854775807 by omega),cond_true]
  rfl
end Go.Proofs.R9
namespace Go.Proofs.R9
open Go Go.AE Go.Plain
set_option maxRecDepth 100000
def WX (l:List (List UInt8)):Int:=fnz (l.map fun s=>(Zc s).2.2)
def z7 (l:List (List UInt8)):List Int:=l.map fun s=>(Zc s).1
def zU (l:List (List UInt8)):List (List UInt8):=l.map fun s=>(Zc s).2.1
def yU (n i:Nat):Int:=if i=0 then 20 else if i+1=n then 22 else 21
def kOk (ks:List Int):Bool:=zba (fun i x=>decide (x=yU ks.length i)) 0 ks
def Fit (l:List (List UInt8)):Prop:=l.length≤1000 ∧ ∀s ∈ l,s.length≤100000
theorem Fit.at {l:List (List UInt8)} (h:Fit l) {j:Nat} {x:List UInt8} (hj:l[j]? = some x):x.length≤100000:=h.2 x (List.mem_of_getElem? hj)
theorem zEO : ∀(l:List (List UInt8)),(∀s ∈ l,s.length≤100000)→l.flatten.length≤100000*l.length
  | [],_=>by simp
  | x::r,h=>by
    rw [List.flatten_cons,List.length_append,List.length_cons]
    have h1:=h x (List.mem_cons_self ..)
    have h2:=zEO r fun s hs=>h s (List.mem_cons_of_mem _ hs)
    omega
theorem Fit.take {l:List (List UInt8)} (h:Fit l) (k:Nat):Fit (l.take k):=⟨by rw [List.length_take];have:=h.1;omega,fun s hs=>h.2 s (List.mem_of_mem_take hs)⟩
theorem Fit.flat {l:List (List UInt8)} (h:Fit l):l.flatten.length≤1000000000:=by have:=zEO l h.2;have:=h.1;omega
theorem zRm {l:List (List UInt8)} (h:Fit l):Fit (zU l):=by
  refine ⟨by rw [zU,List.length_map];exact h.1,fun s hs => ?_⟩
  rw [zU,List.mem_map] at hs
  obtain ⟨t,ht,rfl⟩:=hs
  have:=h.2 t ht
  unfold Zc
  split
  · exact Nat.zero_le _
  split
  · exact Nat.zero_le _
  split
  · exact Nat.zero_le _
  split
  · exact Nat.zero_le _
  split
  · exact Nat.zero_le _
  · show ((t.drop 3).take (yK t)).length≤_
    rw [List.length_take,List.length_drop];omega
theorem zMN (l:List (List UInt8)) (hf:Fit l) (f:Int×List Int×List (List UInt8)→Option ((Int×List Int×List (List UInt8)) ⊕ (Int ⊕ (List Int×List (List UInt8)))))
    (hs : ∀(j:Nat) x,l[j]? = some x→f ((j:Int),z7 (l.take j),zU (l.take j))=some (if (Zc x).2.2≠0 then .inr (.inl (Zc x).2.2) else .inl (((j+1:Nat):Int),z7 (l.take j)++[(Zc x).1],zU (l.take j)++[(Zc x).2.1])))
    (he:f ((l.length:Int),z7 l,zU l)=some (.inr (.inr (z7 l,zU l)))) :
    zZ f Zo (0,[],[])=some (if WX l≠0 then .inl (WX l) else .inr (z7 l,zU l)):=by
  have key : ∃y,zZ f Zo (((0:Nat):Int),z7 (l.take 0),zU (l.take 0))=some y∧y=(if WX l≠0 then .inl (WX l) else .inr (z7 l,zU l)):=by
    refine Qj l (fun j (_:Unit)=>((j:Int),z7 (l.take j),zU (l.take j))) (fun j _=>WX (l.take j)=0) _ ?_ ?_ (s0:=()) rfl (by have:=hf.1;omega)
    · intro j x _ hj hlt hi
      have h:=hs j x hj
      by_cases hx:(Zc x).2.2=0
      · left
        refine ⟨(),?_,zCT (f:=fun s=>(Zc s).2.2) hi hj hx⟩
        rw [h,if_neg (fun h'=>h' hx)]
        unfold z7 zU
        rw [zjO hj,List.map_append,List.map_append];rfl
      · right
        refine ⟨.inl (Zc x).2.2,by rw [h,if_pos hx],?_⟩
        have:=zNK (f:=fun s=>(Zc s).2.2) hi hj hx
        unfold WX
        rw [this,if_pos hx]
    · intro _ hi
      rw [List.take_length] at hi ⊢
      exact ⟨_,he,by rw [if_neg (fun h=>h hi)]⟩
  obtain ⟨y,hy,rfl⟩:=key
  exact hy
theorem zBO (l:List (List UInt8)) (hf:Fit l) (h2:2≤l.length) :
    zel l=some (if WX l≠0 then (WX l,[]) else if kOk (z7 l)=true then (0,zU l) else (7,[])):=by
  have hlen:=hf.1
  have h1:=zMN l hf (Yc (l,(l.length:Int)))
    (fun j x hj=>by
      have hlt:j<l.length:=by apply Decidable.byContradiction;intro hn;rw [List.getElem?_eq_none (by omega)] at hj;cases hj
      have hk:(z7 (l.take j)).length=j:=by rw [z7,List.length_map,List.length_take];omega
      have hb:(zU (l.take j)).length=j:=by rw [zU,List.length_map,List.length_take];omega
      have hx:=hf.at hj
      simp only [Yc,QQ,zp (show (j:Int)<(l.length:Int) by omega),cond_true,zaG hj,zc,zIP x (by omega),unP,Yo,hk,hb,List.length_singleton]
      by_cases hz:(Zc x).2.2=0
      · rw [zp hz,if_neg (fun h=>h hz),Zl (by omega),Zl (by omega),ZG (by omega)];rfl
      · rw [zq hz,if_pos hz];rfl)
    (by simp only [Yc,QQ,zq (show ¬(l.length:Int)<(l.length:Int) by omega),cond_false])
  simp only [zel,zoX,h1,zc]
  by_cases he:WX l=0
  · rw [if_neg (fun h=>h he),if_neg (fun h=>h he),Sum.elim_inr]
    have hk:(z7 l).length=l.length:=by rw [z7,List.length_map]
    have h3:=zRD (z7 l) (fun i x=>decide (x=yU (z7 l).length i)) (Yd (((z7 l).length:Int),z7 l,zU l)) (.inl ()) (.inr ())
      (fun j x hj=>by
        have hlt:j<(z7 l).length:=by apply Decidable.byContradiction;intro hn;rw [List.getElem?_eq_none (by omega)] at hj;cases hj
        have hw:wd (x,((z7 l).length:Int),(j:Int),(j:Int),z7 l,zU l)=some (yU (z7 l).length j):=by
          simp only [wd,JB,zdD]
          unfold yU
          rw [yz (x:=((z7 l).length:Int) - 1) (by omega) (by omega)]
          by_cases h0:j=0
          · rw [zp (show (j:Int)=0 by omega),if_pos h0];rfl
          · rw [zq (show ¬(j:Int)=0 by omega),if_neg h0]
            by_cases h1:j+1=(z7 l).length
            · rw [zp (show (j:Int)=((z7 l).length:Int) - 1 by omega),if_pos h1];rfl
            · rw [zq (show ¬(j:Int)=((z7 l).length:Int) - 1 by omega),if_neg h1];rfl
        simp only [Yd,QK,Ws,jT,zp (show (j:Int)<((z7 l).length:Int) by omega),cond_true,Zw (show (0:Int)≤(j:Int)∧(j:Int)<((z7 l).length:Int) by omega),Int.toNat_natCast,hj,zc,hw,Yo]
        by_cases hx:x=yU (z7 l).length j
        · rw [zp hx,if_pos rfl,ZG (by omega)];rfl
        · rw [zq hx,if_neg (by decide)];rfl)
      (by simp only [Yd,QK,zq (show ¬((z7 l).length:Int)<((z7 l).length:Int) by omega),cond_false])
      (by omega)
    simp only [unP,h3,zc]
    unfold kOk
    cases zba (fun i x=>decide (x=yU (z7 l).length i)) 0 (z7 l) <;> rfl
  · rw [if_pos he,if_pos he,Sum.elim_inl]
def mkB (b:List UInt8):Bool:=decide (((num ((b.drop 1).take 1):Nat):Int)=1)
def jh (i:Nat) (b:List UInt8):Option (SV×Bool) :=
  if b.length<2 then none else if (jc (b.drop 2)).2≠0 then none else if ZE (i:Int) (jc (b.drop 2)).1 (mkB b)=b then some ((jc (b.drop 2)).1,mkB b) else none
theorem zDg (i:Nat) (b:List UInt8) (n r bt c x s l:Int) (o1:List SV) (o2:List Bool) (hb:b.length≤100000) (h1:o1.length≤1000) (h2:o2.length≤1000) :
    zb3 ((i:Int),b,n,r,bt,c,x,s,l,o1,o2)=some (match jh i b with | none=>(4,o1,o2) | some q=>(0,o1++[q.1],o2++[q.2])):=by
  have e1:=zbW 1 b 0 (by omega) (by omega)
  have l1:=zaO 1 b 0
  have e2:=zbW 1 (rdB 1 b 0).2.1 (rdB 1 b 0).2.2 (by omega) (by omega)
  have l2:=zaO 1 (rdB 1 b 0).2.1 (rdB 1 b 0).2.2
  have e3:=zb4 (rdB 1 (rdB 1 b 0).2.1 (rdB 1 b 0).2.2).2.1.length (rdB 1 (rdB 1 b 0).2.1 (rdB 1 b 0).2.2).2.1 (rdB 1 (rdB 1 b 0).2.1 (rdB 1 b 0).2.2).2.2 (by omega)
  simp only [Int.cast_ofNat_Int] at e1 e2
  unfold jh
  by_cases hs:b.length<2
  · rw [if_pos hs]
    have hd:(rdB (rdB 1 (rdB 1 b 0).2.1 (rdB 1 b 0).2.2).2.1.length (rdB 1 (rdB 1 b 0).2.1 (rdB 1 b 0).2.2).2.1 (rdB 1 (rdB 1 b 0).2.1 (rdB 1 b 0).2.2).2.2).1=[]:=by
      match b,hs with
      | [],_=>rfl
      | [a],_=>rfl
      | a::c::r,h=>simp only [List.length_cons] at h;omega
    simp only [zb3,zlr,w8,zbi,zc,e1,e2,unP,zaV,zfD,e3,hd,zzq [] (by simp)]
    rfl
  · have hE:rdB 1 b 0=(b.take 1,b.drop 1,0):=YN (by omega)
    have hE2:rdB 1 (b.drop 1) 0=((b.drop 1).take 1,b.drop 2,0):=by rw [YN (by rw [List.length_drop];omega),List.drop_drop]
    have hE3:rdB (b.drop 2).length (b.drop 2) 0=(b.drop 2,[],0):=by rw [YN (Nat.le_refl _),List.take_length,List.drop_length]
    rw [if_neg hs]
    rw [hE] at e1 e2 e3
    dsimp only at e1 e2 e3
    rw [hE2] at e2 e3
    dsimp only at e2 e3
    rw [hE3] at e3
    have hg := @zME (b.drop 2)
    have em : ∀z:Int,(z == 1)=decide (z=1):=fun _=>rfl
    simp only [zb3,zlr,w8,zbi,zc,e1,e2,unP,zaV,zfD,e3,zzq (b.drop 2) (by rw [List.length_drop];omega),em]
    have emk:decide (((num ((b.drop 1).take 1):Nat):Int)=1)=mkB b:=rfl
    rw [emk]
    generalize jc (b.drop 2)=g at hg
    obtain ⟨⟨k,⟨va,vb⟩,d,⟨⟨aa,ab⟩,ad⟩,⟨ba,bb⟩,bd⟩,e⟩:=g
    simp only [zI4,unP,Yo] at hg ⊢
    by_cases he:e=0
    · rw [zp he,if_neg (fun h=>h he)]
      simp only [Bool.not_true,cond_false,zvQ,zc]
      rw [if_neg (fun h=>h (hg he))]
      simp only [WT,Jo,Wt,wO,unP,List.length_singleton,emk]
      by_cases hq:ZE (i:Int) (k,(va,vb),d,((aa,ab),ad),(ba,bb),bd) (mkB b)=b
      · rw [if_pos hq,hq,beq_self_eq_true,Zl (show (o1.length+1)*104≤140737488355328 by omega),Zl (show (o2.length+1)*1≤140737488355328 by omega)]
        rfl
      · have hn:(ZE (i:Int) (k,(va,vb),d,((aa,ab),ad),(ba,bb),bd) (mkB b) == b)=false:=by rw [beq_eq_false_iff_ne];exact hq
        rw [if_neg hq,hn];rfl
    · rw [zq he,if_pos he];rfl
abbrev Im:=Int×Int×Int×Int×Int×Int×Int×Int×List SV×List Bool
def noI (e:Int):Im:=(0,0,0,0,0,0,0,e,[],[])
def zrh (l:List (List UInt8)) (n r b c x s lg e:Int):Im :=
  if e≠0∨x≠(l.length:Int) - 2 then noI 4 else
  match WY jh 0 (((zU l).drop 1).take (l.length - 2)) with
  | none=>noI 4
  | some q=>if (zU l)[l.length - 1]? ≠ some (QU (l.take (l.length - 1))) then noI 5 else
    if wY n r b c x s lg (q.map (·.1)) (q.map (·.2))≠0 then noI (wY n r b c x s lg (q.map (·.1)) (q.map (·.2))) else (n,r,b,c,x,s,lg,0,q.map (·.1),q.map (·.2))
def Yz (l:List (List UInt8)):Im :=
  if l.length<2 then noI 1 else if WX l≠0 then noI (WX l) else if ¬kOk (z7 l)=true then noI 7 else
  zrh l (qE ((zU l).headD [])).1 (qE ((zU l).headD [])).2.1 (qE ((zU l).headD [])).2.2.1 (qE ((zU l).headD [])).2.2.2.1 (qE ((zU l).headD [])).2.2.2.2.1 (qE ((zU l).headD [])).2.2.2.2.2.1 (qE ((zU l).headD [])).2.2.2.2.2.2.1 (qE ((zU l).headD [])).2.2.2.2.2.2.2
theorem zUd {l:List (List UInt8)} {k j:Nat} {x:List UInt8} (h:((l.drop 1).take k)[j]? = some x):l[1+j]? = some x∧j<k:=by
  have hj:j<k:=by
    apply Decidable.byContradiction;intro hn
    rw [List.getElem?_eq_none (by rw [List.length_take];omega)] at h;cases h
  rw [List.getElem?_take_of_lt hj,List.getElem?_drop] at h
  exact ⟨h,hj⟩
theorem zge (l:List (List UInt8)) (hf:Fit l):zc6 l=some (Yz l):=by
  have hlen:=hf.1
  unfold Yz
  simp only [zc6,zzz]
  by_cases h2:l.length<2
  · rw [if_pos h2,zp (show (l.length:Int)<2 by omega)];rfl
  rw [if_neg h2,zq (show ¬(l.length:Int)<2 by omega),cond_false,zBO l hf (by omega)]
  by_cases he:WX l=0
  rotate_left
  · rw [if_pos he,if_pos he]
    have:(WX l != 0)=true:=by simpa using he
    simp only [zc,unP,this,cond_true]
    rfl
  have he' : ¬(WX l≠0):=fun h=>h he
  rw [if_neg he',if_neg he']
  by_cases hk:kOk (z7 l)=true
  rotate_left
  · rw [if_neg hk,if_pos hk];rfl
  have hk' : ¬¬kOk (z7 l)=true:=fun h=>h hk
  rw [if_pos hk,if_neg hk']
  have hb:=zRm hf
  have hbl:(zU l).length=l.length:=by rw [zU,List.length_map]
  obtain ⟨b0,hb0⟩ : ∃b0,(zU l)[0]? = some b0:=⟨_,List.getElem?_eq_getElem (by omega)⟩
  have hh:(zU l).headD []=b0:=by
    cases hq:zU l with
    | nil=>rw [hq] at hbl;simp at hbl;omega
    | cons y r=>rw [hq] at hb0;cases hb0;rfl
  have hw1:IntKind.wrap .i64 (((zU l).length:Int) - 1)=((l.length - 1:Nat):Int):=by rw [hbl,yz (by omega) (by omega)];omega
  rw [hh]
  simp only [zc,unP,bne_self_eq_false,cond_false,Zw (show (0:Int)≤0∧(0:Int)<((zU l).length:Int) by omega),cond_true,Int.toNat_zero,hb0,zTb b0 (by have:=hb.at hb0;omega),hw1]
  generalize qE b0=g
  obtain ⟨n,r,b,c,x,s,lg,e⟩:=g
  unfold zrh
  simp only [unP,qU,za1]
  have hw2:IntKind.wrap .i64 (((l.length - 1:Nat):Int) - 1)=(l.length:Int) - 2:=by rw [yz (by omega) (by omega)];omega
  have hc:(bif e != 0 then some true else some (x != IntKind.wrap .i64 (((l.length - 1:Nat):Int) - 1)):Option Bool)=some (decide (e≠0∨x≠(l.length:Int) - 2)):=by
    rw [hw2]
    by_cases h1:e=0
    · by_cases h3:x=(l.length:Int) - 2
      · rw [zq (by simp [h1,h3]),Yo,Yo,zp h1,zp h3];rfl
      · rw [zp (.inr h3),Yo,Yo,zp h1,zq h3];rfl
    · rw [zp (.inl h1),Yo,zq h1];rfl
  rw [hc,zc]
  by_cases hbad:e≠0∨x≠(l.length:Int) - 2
  · rw [zp hbad,if_pos hbad];rfl
  rw [zq hbad,if_neg hbad,cond_false,Int.toNat_natCast,Zw (show (0:Int)≤((l.length - 1:Nat):Int)∧((l.length - 1:Nat):Int)<(((zU l).length+1:Nat):Int) by omega),
    Zw (show (0:Int)≤1∧(1:Int)<((l.length - 1+1:Nat):Int) by omega)]
  have hM:(((zU l).drop 1).take (l.length - 2)).length=l.length - 2:=by rw [List.length_take,List.length_drop];omega
  have hloop:=zLr (((zU l).drop 1).take (l.length - 2)) jh (fun j acc=>((j:Int),acc.map (·.1),acc.map (·.2)))
    (Ya (l,((l.length - 1:Nat):Int),l.length - 1 - 1,((l.length - 1 - 1:Nat):Int),n,r,b,c,x,s,lg,zU l)) (.inl 4) (fun q => .inr (q.map (·.1),q.map (·.2)))
    (fun j y acc hj ha=>by
      obtain ⟨hj1,hlt⟩:=zUd hj
      have hy:=hb.at hj1
      simp only [Ya,jx,zp (show (j:Int)<((l.length - 1 - 1:Nat):Int) by omega),cond_true,Zw (show (0:Int)≤(j:Int)∧(j:Int)<((l.length - 1 - 1:Nat):Int) by omega),Int.toNat_natCast,hj1,zc,
        zDg j y n r b c x s lg (acc.map (·.1)) (acc.map (·.2)) (by omega) (by rw [List.length_map];omega) (by rw [List.length_map];omega),ZG (n:=j) (by omega)]
      cases jh j y with
      | none=>rfl
      | some q=>simp only [unP,bne_self_eq_false,cond_false,List.map_append,List.map_cons,List.map_nil])
    (fun acc ha=>by
      simp only [Ya,jx,hM,zq (show ¬((l.length - 2:Nat):Int)<((l.length - 1 - 1:Nat):Int) by omega),cond_false])
    (by omega)
  have hloop':zZ (Ya (l,((l.length - 1:Nat):Int),l.length - 1 - 1,((l.length - 1 - 1:Nat):Int),n,r,b,c,x,s,lg,zU l)) Zo (0,[],[])=_:=hloop
  simp only [Bool.and_self,cond_true,hloop',zc]
  cases WY jh 0 (((zU l).drop 1).take (l.length - 2)) with
  | none=>rfl
  | some q =>
    dsimp only
    obtain ⟨z,hz⟩ : ∃z,(zU l)[l.length - 1]? = some z:=⟨_,List.getElem?_eq_getElem (by omega)⟩
    have hft:=hf.take (l.length - 1)
    simp only [Sum.elim_inr,unP,Zw (show (0:Int)≤((l.length - 1:Nat):Int)∧((l.length - 1:Nat):Int)<((zU l).length:Int) by omega),cond_true,hz,zc,
      Zw (show (0:Int)≤((l.length - 1:Nat):Int)∧((l.length - 1:Nat):Int)<((l.length+1:Nat):Int) by omega),zpN (l.take (l.length - 1)) (by have:=hft.1;omega) hft.flat,zhY]
    by_cases hze:z=QU (l.take (l.length - 1))
    · rw [if_neg (fun h=>h (by rw [hze])),hze,beq_self_eq_true]
      simp only [Bool.not_true,cond_false,Yo]
      by_cases hci:wY n r b c x s lg (q.map (·.1)) (q.map (·.2))=0
      · rw [zp hci,if_neg (fun h=>h hci)];rfl
      · rw [zq hci,if_pos hci];rfl
    · have hn:(z == QU (l.take (l.length - 1)))=false:=by rw [beq_eq_false_iff_ne];exact hze
      rw [if_pos (fun h=>hze (Option.some.inj h)),hn];rfl
end Go.Proofs.R9
namespace Go.Proofs.R9
open Go Go.AE Go.Plain
set_option maxRecDepth 100000
end Go.Proofs.R9
namespace Go.Proofs.R9
open Go Go.AE Go.Plain
set_option maxRecDepth 100000
def zcl (l:List (SV×Bool)):List (List UInt8):=(l.zipIdx).map fun q=>ZF 21 (ZE (q.2:Int) q.1.1 q.1.2)
def Z6 (n r b c x s lg:Int) (l:List (SV×Bool)):List (List UInt8):=ZF 20 (ZR n r b c x s lg)::zcl l
def Zi (n r b c x s lg:Int) (l:List (SV×Bool)):List (List UInt8):=Z6 n r b c x s lg l++[ZF 22 (QU (Z6 n r b c x s lg l))]
def za7 (n r b c x s lg:Int) (ss:List SV) (cs:List Bool):Int×List (List UInt8) :=
  if wY n r b c x s lg ss cs≠0 then (wY n r b c x s lg ss cs,[]) else (0,Zi n r b c x s lg (ss.zip cs))
theorem qA (l:List (SV×Bool)):(zcl l).length=l.length:=by simp [zcl]
theorem zTp {l:List (SV×Bool)} {j:Nat} {q:SV×Bool} (h:l[j]? = some q):zcl (l.take (j+1))=zcl (l.take j)++[ZF 21 (ZE (j:Int) q.1 q.2)]:=by
  have hj:j<l.length:=by apply Decidable.byContradiction;intro hn;rw [List.getElem?_eq_none (by omega)] at h;cases h
  unfold zcl
  rw [zjO h,List.zipIdx_append,List.map_append,List.length_take,show 0+min j l.length=j by omega]
  rfl
theorem zCu {l:List (SV×Bool)} {j:Nat} {q:SV×Bool} (h:l[j]? = some q):(zcl l)[j]? = some (ZF 21 (ZE (j:Int) q.1 q.2)):=by
  unfold zcl
  rw [List.getElem?_map,List.getElem?_zipIdx,h]
  simp
theorem zbs {n r b c x s lg:Int} {ss:List SV} {cs:List Bool} (h:wY n r b c x s lg ss cs=0) :
    zfW n r b c x s lg∧(ss.length:Int)=x∧(cs.length:Int)=x∧(∀y ∈ ss,Zf y=0):=by
  unfold wY at h
  split at h
  · rename_i h0;exact absurd h h0
  rename_i h0
  split at h
  · cases h
  rename_i h1
  split at h
  · rename_i h2;exact absurd h h2
  rename_i h2
  refine ⟨?_,Decidable.byContradiction fun h=>h1 (.inl h),Decidable.byContradiction fun h=>h1 (.inr h),fun y hy=>zzR (Decidable.not_not.1 h2) _ (List.mem_map_of_mem hy)⟩
  have h0:=Decidable.not_not.1 h0
  unfold zhR at h0
  by_cases hm:zfW n r b c x s lg
  · exact hm
  · rw [if_neg hm] at h0;cases h0
theorem jj (n r b c x s lg:Int):(ZR n r b c x s lg).length≤600:=by
  unfold ZR
  have h1:=zR2 (ZT n r b c x s lg++tail (ZT n r b c x s lg))
  have h2:=zC5 n r b c x s lg
  rw [List.length_append,Zr] at h1
  omega
theorem zk7 (l:List (List UInt8)):(QU l).length≤600:=by
  unfold QU
  have:=Zh [] (l.length:Int) 2
  simp only [List.length_nil] at this
  rw [List.length_append,Zr];omega
theorem zVg {ss:List SV} {cs:List Bool} {j:Nat} {y:SV} {ch:Bool} (h1:ss[j]? = some y) (h2:cs[j]? = some ch):(ss.zip cs)[j]? = some (y,ch):=by
  rw [List.getElem?_zip_eq_some];exact ⟨h1,h2⟩
def zan (n r b c x s lg:Int) (ss:List SV) (cs:List Bool) (j:Nat):List (List UInt8):=Z6 n r b c x s lg ((ss.zip cs).take j)
theorem zN6 {n r b c x s lg:Int} {ss:List SV} {cs:List Bool} {j:Nat}:(zan n r b c x s lg ss cs j).length≤j+1:=by
  unfold zan Z6
  rw [List.length_cons,qA,List.length_take];omega
theorem zPM {n r b c x s lg:Int} {ss:List SV} {cs:List Bool} {j:Nat} {y:SV} {ch:Bool} (h1:ss[j]? = some y) (h2:cs[j]? = some ch) :
    zan n r b c x s lg ss cs (j+1)=zan n r b c x s lg ss cs j++[ZF 21 (ZE (j:Int) y ch)]:=by
  unfold zan Z6
  rw [zTp (zVg h1 h2)]
  rfl
theorem zRX (i:Int) (x:SV) (ch:Bool) (h:Zf x=0):zaT (i,x.fst,x.snd.fst.fst,x.snd.fst.snd,x.snd.snd.fst,x.snd.snd.snd.fst.fst.fst,x.snd.snd.snd.fst.fst.snd,x.snd.snd.snd.fst.snd,x.snd.snd.snd.snd.fst.fst,x.snd.snd.snd.snd.fst.snd,x.snd.snd.snd.snd.snd,ch)=some (ZE i x ch,0):=by
  have:=zvQ i x.fst x.snd.fst.fst x.snd.fst.snd x.snd.snd.fst x.snd.snd.snd.fst.fst.fst x.snd.snd.snd.fst.fst.snd x.snd.snd.snd.fst.snd x.snd.snd.snd.snd.fst.fst x.snd.snd.snd.snd.fst.snd x.snd.snd.snd.snd.snd ch
  rw [this]
  show some (if Zf x≠0 then ([],Zf x) else (ZE i x ch,0))=_
  rw [if_neg (fun h'=>h' h)]
theorem zzv (k:Nat) (t:List UInt8) (o:List (List UInt8)) (hk:k≤255) (ht:t.length≤600) (ho:o.length≤1000):zaF ((k:Int),t,0,0,o)=some (true,0,o++[ZF k t]):=by
  simp only [zaF,zrd,zHw k t hk ht,zc,unP,List.length_singleton,Zl (show (o.length+1)*16≤140737488355328 by omega)]
  rfl
theorem zvM {n r b c x s lg:Int} {l:List (SV×Bool)} (hl:l.length≤24) (hc : ∀q ∈ l,Zf q.1=0):Fit (Z6 n r b c x s lg l):=by
  refine ⟨by unfold Z6;rw [List.length_cons,qA];omega,fun t ht => ?_⟩
  unfold Z6 at ht
  rcases List.mem_cons.1 ht with ht | ht
  · have e:=jy (k:=20) (by omega) (jj n r b c x s lg)
    have:=jj n r b c x s lg
    rw [← ht] at e
    omega
  · unfold zcl at ht
    rw [List.mem_map] at ht
    obtain ⟨⟨q,i⟩,hq,rfl⟩:=ht
    have hm:q ∈ l:=by have:=List.mem_zipIdx hq;obtain ⟨_,_,h⟩:=this;rw [h];exact List.getElem_mem _
    have:=J4 (i:=(i:Int)) (c:=q.2) (hc q hm)
    have e:=jy (k:=21) (b:=ZE (i:Int) q.1 q.2) (by omega) (by omega)
    dsimp only
    omega
theorem zRj {n r b c x s lg:Int} {l:List (SV×Bool)} (hl:l.length≤24) (hc : ∀q ∈ l,Zf q.1=0):Fit (Zi n r b c x s lg l):=by
  have h:=zvM (n:=n) (r:=r) (b:=b) (c:=c) (x:=x) (s:=s) (lg:=lg) hl hc
  refine ⟨by unfold Zi Z6;rw [List.length_append,List.length_cons,qA,List.length_singleton];omega,fun t ht => ?_⟩
  unfold Zi at ht
  rcases List.mem_append.1 ht with ht | ht
  · exact h.2 t ht
  · have ht:=List.mem_singleton.1 ht
    have:=zk7 (Z6 n r b c x s lg l)
    have e:=jy (k:=22) (by omega) this
    rw [← ht] at e
    omega
theorem zJK (n r b c x s lg:Int) (ss:List SV) (cs:List Bool):zj7 (n,r,b,c,x,s,lg,ss,cs)=some (.inl (za7 n r b c x s lg ss cs)):=by
  unfold za7
  simp only [zj7,zyX,zhY,zc,Yo]
  by_cases h:wY n r b c x s lg ss cs=0
  rotate_left
  · rw [zq h,if_pos h];rfl
  have hN : ¬(wY n r b c x s lg ss cs≠0):=fun h'=>h' h
  rw [zp h,if_neg hN]
  obtain ⟨hm,h1,h2,h3⟩:=zbs h
  have hx:=hm.1.1
  have hlz:(ss.zip cs).length=ss.length:=by rw [List.length_zip];omega
  have hp:zhA n r b c x s lg=(ZR n r b c x s lg,0):=by unfold zhA;rw [if_pos hm]
  have ha:=zzv 20 (ZR n r b c x s lg) [] (by omega) (jj ..) (by simp)
  have key : ∃y,zZ (yI (ss,(ss.length:Int),n,r,b,c,x,s,lg,ss,cs)) Zo (((0:Nat):Int),0,zan n r b c x s lg ss cs 0)=some y∧y = .inr (0,Z6 n r b c x s lg (ss.zip cs)):=by
    refine Qj ss (fun j (_:Unit)=>((j:Int),(0:Int),zan n r b c x s lg ss cs j)) (fun _ _=>True) _ ?_ ?_ (s0:=()) trivial (by omega)
    · intro j y _ hj hlt _
      left
      obtain ⟨ch,hch⟩ : ∃ch,cs[j]? = some ch:=⟨_,List.getElem?_eq_getElem (by omega)⟩
      have hy:=h3 y (List.mem_of_getElem? hj)
      have hle:=J4 (i:=(j:Int)) (c:=ch) hy
      have hso := @zN6 n r b c x s lg ss cs j
      have ha:=zzv 21 (ZE (j:Int) y ch) (zan n r b c x s lg ss cs j) (by omega) (by omega) (by omega)
      simp only [Int.cast_ofNat_Int] at ha
      refine ⟨(),?_,trivial⟩
      simp only [yI,Qy,zp (show (j:Int)<(ss.length:Int) by omega),cond_true,zaG hj,zaG hch,zc,zRX (j:Int) y ch hy,unP,ha,Bool.not_true,cond_false,zPM hj hch,ZG (n:=j) (by omega)]
    · intro _ _
      refine ⟨_,?_,rfl⟩
      have:zan n r b c x s lg ss cs ss.length=Z6 n r b c x s lg (ss.zip cs):=by unfold zan;rw [List.take_of_length_le (by omega)]
      simp only [yI,Qy,zq (show ¬(ss.length:Int)<(ss.length:Int) by omega),cond_false,this]
  obtain ⟨y,hy,rfl⟩:=key
  have hy':zZ (yI (ss,(ss.length:Int),n,r,b,c,x,s,lg,ss,cs)) Zo (0,0,[]++[ZF 20 (ZR n r b c x s lg)])=_:=hy
  have hcz : ∀q ∈ ss.zip cs,Zf q.1=0:=fun q hq=>h3 q.1 (List.of_mem_zip (a:=q.1) (b:=q.2) hq).1
  have hfit:=zvM (n:=n) (r:=r) (b:=b) (c:=c) (x:=x) (s:=s) (lg:=lg) (l:=ss.zip cs) (by omega) hcz
  have hlast:=zzv 22 (QU (Z6 n r b c x s lg (ss.zip cs))) (Z6 n r b c x s lg (ss.zip cs)) (by omega) (zk7 _) hfit.1
  simp only [Int.cast_ofNat_Int] at ha hlast
  have hfl:=hfit.1
  simp only [Bool.not_true,cond_false,zhl,zod,zc,zgY,zrW,zGB,hp,unP,ha,hy',Sum.elim_inr,Qq,zaK,beq_self_eq_true,cond_true,
    zpN _ (show (Z6 n r b c x s lg (ss.zip cs)).length≤100000 by omega) hfit.flat,hlast,bne_self_eq_false]
  rfl
end Go.Proofs.R9
namespace Go.Proofs.R9
open Go Go.AE Go.Plain
set_option maxRecDepth 100000
instance decVD:DecidableEq VD:=instDecidableEqProd
instance decP2:DecidableEq ((Int×Int)×List UInt8):=instDecidableEqProd
instance decP3:DecidableEq (VD×(Int×Int)×List UInt8):=instDecidableEqProd
instance decP4:DecidableEq (List UInt8×VD×(Int×Int)×List UInt8):=instDecidableEqProd
instance decP5:DecidableEq ((Int×Int)×List UInt8×VD×(Int×Int)×List UInt8):=instDecidableEqProd
instance decSV:DecidableEq SV:=instDecidableEqProd
instance decSVs:DecidableEq (List SV):=instDecidableEqList
theorem zdB {i:Nat} (hi:i<256) (x:SV) (ch:Bool):ZE (i:Int) x ch=be 1 i++(be 1 (W5 ch).toNat++yF x):=by
  have hm:=zQJ ch
  unfold ZE
  rw [yH [] ⟨by omega,by simp only [Nat.reducePow];omega⟩,yH _ ⟨hm.1,by simp only [Nat.reducePow];omega⟩,List.nil_append,List.append_assoc,Int.toNat_natCast]
theorem zQZ (ch:Bool):decide (((num (be 1 (W5 ch).toNat):Nat):Int)=1)=ch:=by cases ch <;> decide
theorem zKy {i:Nat} (hi:i<256) {x:SV} {ch:Bool} (h:Zf x=0):jh i (ZE (i:Int) x ch)=some (x,ch):=by
  have e:=zdB hi x ch
  have hl:(be 1 i).length=1:=zT ..
  have hl2:(be 1 (W5 ch).toNat).length=1:=zT ..
  have d1:(ZE (i:Int) x ch).drop 1=be 1 (W5 ch).toNat++yF x:=by rw [e,List.drop_left' hl]
  have d2:(ZE (i:Int) x ch).drop 2=yF x:=by rw [show 2=1+1 from rfl,← List.drop_drop,d1,List.drop_left' hl2]
  have hlen : ¬(ZE (i:Int) x ch).length<2:=by rw [e,List.length_append,List.length_append];omega
  have hm:mkB (ZE (i:Int) x ch)=ch:=by unfold mkB;rw [d1,List.take_left' hl2];exact zQZ ch
  unfold jh
  rw [if_neg hlen,d2,zDd h,hm,if_neg (fun h=>h rfl),if_pos rfl]
theorem zrx : ∀(l:List (SV×Bool)) (i:Nat),i+l.length≤256→(∀q ∈ l,Zf q.1=0)→WY jh i ((l.zipIdx i).map fun q=>ZE (q.2:Int) q.1.1 q.1.2)=some l
  | [],i,_,_=>rfl
  | q::r,i,h,hc=>by
    rw [List.length_cons] at h
    rw [List.zipIdx_cons,List.map_cons,WY]
    dsimp only
    rw [zKy (by omega) (hc q (List.mem_cons_self ..))]
    dsimp only
    rw [zrx r (i+1) (by omega) fun q hq=>hc q (List.mem_cons_of_mem _ hq)]
theorem zDY {n r b c x s lg:Int} (h:zfW n r b c x s lg) :
    ZR n r b c x s lg=[83]++(be 1 n.toNat++(be 1 r.toNat++(be 4 b.toNat++(be 1 c.toNat++(be 1 x.toNat++(be 1 s.toNat++(be 2 lg.toNat++(tail (ZT n r b c x s lg)++List.replicate 48 0)))))))) ∧
      ZT n r b c x s lg=[83]++(be 1 n.toNat++(be 1 r.toNat++(be 4 b.toNat++(be 1 c.toNat++(be 1 x.toNat++(be 1 s.toNat++be 2 lg.toNat)))))):=by
  obtain ⟨⟨hx,hs,hl⟩,hn,hr,hb,hc⟩:=h
  have e:ZT n r b c x s lg=[83]++(be 1 n.toNat++(be 1 r.toNat++(be 4 b.toNat++(be 1 c.toNat++(be 1 x.toNat++(be 1 s.toNat++be 2 lg.toNat)))))):=by
    unfold ZT zne zbp
    rw [yH [83] ⟨hn.1,by simp only [Nat.reducePow];omega⟩,yH _ ⟨hr.1,by simp only [Nat.reducePow];omega⟩,yH _ ⟨hb.1,by simp only [Nat.reducePow];omega⟩,yH _ ⟨hc.1,by simp only [Nat.reducePow];omega⟩,
      yH _ ⟨by omega,by simp only [Nat.reducePow];omega⟩,yH _ ⟨by omega,by simp only [Nat.reducePow];omega⟩,yH _ ⟨by omega,by simp only [Nat.reducePow];omega⟩]
    simp only [List.append_assoc]
  refine ⟨?_,e⟩
  have hlen:(ZT n r b c x s lg).length=12:=by rw [e];simp only [List.length_append,zT,List.length_cons,List.length_nil]
  unfold ZR
  rw [Jb (by omega),hlen]
  conv=>lhs;lhs;lhs;rw [e]
  simp only [List.append_assoc]
theorem qx {k:Nat} {a:Int} (h:0≤a∧a<((256 ^ k:Nat):Int)):((num (be k a.toNat):Nat):Int)=a:=by
  rw [zck,Nat.mod_eq_of_lt (by omega)];omega
theorem zgS {n r b c x s lg:Int} (h:zfW n r b c x s lg):qE (ZR n r b c x s lg)=(n,r,b,c,x,s,lg,0):=by
  obtain ⟨e,eb⟩:=zDY h
  have hp:zhA n r b c x s lg=(ZR n r b c x s lg,0):=by unfold zhA;rw [if_pos h]
  obtain ⟨⟨hx,hs,hl⟩,hn,hr,hb,hc⟩:=h
  have htl:=Zr (ZT n r b c x s lg)
  have hlen:(ZR n r b c x s lg).length=64:=by rw [e];simp only [List.length_append,zT,List.length_cons,List.length_nil,htl,List.length_replicate]
  have hbl:(ZT n r b c x s lg).length=12:=by rw [eb];simp only [List.length_append,zT,List.length_cons,List.length_nil]
  have d1:(ZR n r b c x s lg).drop 1=be 1 n.toNat++(be 1 r.toNat++(be 4 b.toNat++(be 1 c.toNat++(be 1 x.toNat++(be 1 s.toNat++(be 2 lg.toNat++(tail (ZT n r b c x s lg)++List.replicate 48 0))))))):=by rw [e];rfl
  have d2:(ZR n r b c x s lg).drop 2=be 1 r.toNat++(be 4 b.toNat++(be 1 c.toNat++(be 1 x.toNat++(be 1 s.toNat++(be 2 lg.toNat++(tail (ZT n r b c x s lg)++List.replicate 48 0)))))):=by rw [show 2=1+1 from rfl,← List.drop_drop,d1,List.drop_left' (zT ..)]
  have d3:(ZR n r b c x s lg).drop 3=be 4 b.toNat++(be 1 c.toNat++(be 1 x.toNat++(be 1 s.toNat++(be 2 lg.toNat++(tail (ZT n r b c x s lg)++List.replicate 48 0))))):=by rw [show 3=2+1 from rfl,← List.drop_drop,d2,List.drop_left' (zT ..)]
  have d7:(ZR n r b c x s lg).drop 7=be 1 c.toNat++(be 1 x.toNat++(be 1 s.toNat++(be 2 lg.toNat++(tail (ZT n r b c x s lg)++List.replicate 48 0)))):=by rw [show 7=3+4 from rfl,← List.drop_drop,d3,List.drop_left' (zT ..)]
  have d8:(ZR n r b c x s lg).drop 8=be 1 x.toNat++(be 1 s.toNat++(be 2 lg.toNat++(tail (ZT n r b c x s lg)++List.replicate 48 0))):=by rw [show 8=7+1 from rfl,← List.drop_drop,d7,List.drop_left' (zT ..)]
  have d9:(ZR n r b c x s lg).drop 9=be 1 s.toNat++(be 2 lg.toNat++(tail (ZT n r b c x s lg)++List.replicate 48 0)):=by rw [show 9=8+1 from rfl,← List.drop_drop,d8,List.drop_left' (zT ..)]
  have d10:(ZR n r b c x s lg).drop 10=be 2 lg.toNat++(tail (ZT n r b c x s lg)++List.replicate 48 0):=by rw [show 10=9+1 from rfl,← List.drop_drop,d9,List.drop_left' (zT ..)]
  have d12:(ZR n r b c x s lg).drop 12=tail (ZT n r b c x s lg)++List.replicate 48 0:=by rw [show 12=10+2 from rfl,← List.drop_drop,d10,List.drop_left' (zT ..)]
  have t12:(ZR n r b c x s lg).take 12=ZT n r b c x s lg:=by
    have:ZR n r b c x s lg=ZT n r b c x s lg++(tail (ZT n r b c x s lg)++List.replicate 48 0):=by rw [e,eb];simp only [List.append_assoc]
    rw [this,List.take_left' hbl]
  have t1:(ZR n r b c x s lg).take 1=[83]:=by rw [e];rfl
  unfold qE
  rw [if_neg (fun h=>h hlen),t1,if_neg (fun h=>h rfl),d12,t12,List.take_left' htl,if_neg (fun h=>h rfl)]
  unfold nS
  rw [d1,d2,d3,d7,d8,d9,d10]
  simp only [List.take_left' (zT _ _)]
  rw [qx ⟨hn.1,by simp only [Nat.reducePow];omega⟩,qx ⟨hr.1,by simp only [Nat.reducePow];omega⟩,qx ⟨hb.1,by simp only [Nat.reducePow];omega⟩,qx ⟨hc.1,by simp only [Nat.reducePow];omega⟩,
    qx ⟨by omega,by simp only [Nat.reducePow];omega⟩,qx ⟨by omega,by simp only [Nat.reducePow];omega⟩,qx ⟨by omega,by simp only [Nat.reducePow];omega⟩]
  unfold ztn
  rw [hp,if_pos rfl]
end Go.Proofs.R9
namespace Go.Proofs.R9
open Go Go.AE Go.Plain
set_option maxRecDepth 100000
theorem zyI (n r b c x s lg:Int) (l:List (SV×Bool)):(Zi n r b c x s lg l).length=l.length+2:=by
  unfold Zi Z6
  rw [List.length_append,List.length_cons,qA,List.length_singleton]
theorem zIy {l:List (SV×Bool)} {q:(SV×Bool)×Nat} (h:q ∈ l.zipIdx):q.1 ∈ l∧q.2<l.length:=by
  obtain ⟨p,i⟩:=q
  obtain ⟨_,h2,h3⟩:=List.mem_zipIdx h
  exact ⟨by dsimp only;rw [h3];exact List.getElem_mem _,by dsimp only;omega⟩
theorem zJf {n r b c x s lg:Int} {l:List (SV×Bool)} (hc : ∀q ∈ l,Zf q.1=0) :
    (Zi n r b c x s lg l).map Zc=(20,ZR n r b c x s lg,0)::(l.zipIdx.map fun q=>(21,ZE (q.2:Int) q.1.1 q.1.2,0))++[(22,QU (Z6 n r b c x s lg l),0)]:=by
  have e0:=Yg (k:=20) (by omega) (jj n r b c x s lg)
  have e2:=Yg (k:=22) (by omega) (zk7 (Z6 n r b c x s lg l))
  simp only [Int.cast_ofNat_Int] at e0 e2
  have hmid:(zcl l).map Zc=l.zipIdx.map fun q=>(21,ZE (q.2:Int) q.1.1 q.1.2,0):=by
    unfold zcl
    rw [List.map_map]
    refine List.map_congr_left fun q hq => ?_
    have hm:=zIy hq
    have hle:=J4 (i:=(q.2:Int)) (c:=q.1.2) (hc q.1 hm.1)
    have e1:=Yg (k:=21) (b:=ZE (q.2:Int) q.1.1 q.1.2) (by omega) (by omega)
    simp only [Int.cast_ofNat_Int] at e1
    rw [Function.comp_apply,e1]
  have hall:(Z6 n r b c x s lg l).map Zc=(20,ZR n r b c x s lg,0)::(l.zipIdx.map fun q=>(21,ZE (q.2:Int) q.1.1 q.1.2,0)):=by
    unfold Z6
    rw [List.map_cons,e0,hmid]
  unfold Zi
  rw [List.map_append,List.map_singleton,e2,hall]
theorem zPg (n:Nat):kOk (20::(List.replicate n 21++[22]))=true:=by
  unfold kOk
  rw [znF]
  intro j x hj
  rw [decide_eq_true_eq,Nat.zero_add]
  have hlen:(20::(List.replicate n (21:Int)++[22])).length=n+2:=by simp
  rw [hlen]
  unfold yU
  cases j with
  | zero=>cases hj;rw [if_pos rfl]
  | succ i =>
    rw [List.getElem?_cons_succ] at hj
    rw [if_neg (by omega)]
    by_cases h:i<n
    · rw [List.getElem?_append_left (by simpa using h),List.getElem?_replicate,if_pos h] at hj
      cases hj
      rw [if_neg (by omega)]
    · rw [List.getElem?_append_right (by simpa using h),List.length_replicate] at hj
      by_cases h2:i=n
      · subst h2
        rw [Nat.sub_self] at hj
        cases hj
        rw [if_pos (by omega)]
      · rw [List.getElem?_eq_none (by simp;omega)] at hj
        cases hj
theorem zKT {n r b c x s lg:Int} {ss:List SV} {cs:List Bool} (h:wY n r b c x s lg ss cs=0):Yz (Zi n r b c x s lg (ss.zip cs))=(n,r,b,c,x,s,lg,0,ss,cs):=by
  obtain ⟨hm,h1,h2,h3⟩:=zbs h
  have hx:=hm.1.1
  have hlz:(ss.zip cs).length=ss.length:=by rw [List.length_zip];omega
  have hcz : ∀q ∈ ss.zip cs,Zf q.1=0:=fun q hq=>h3 q.1 (List.of_mem_zip (a:=q.1) (b:=q.2) hq).1
  have hf:(ss.zip cs).map (·.1)=ss:=List.map_fst_zip (by omega)
  have hs:(ss.zip cs).map (·.2)=cs:=List.map_snd_zip (by omega)
  generalize ss.zip cs=l at hlz hcz hf hs
  have hsl:=zJf (n:=n) (r:=r) (b:=b) (c:=c) (x:=x) (s:=s) (lg:=lg) hcz
  have hlen:=zyI n r b c x s lg l
  have hE:WX (Zi n r b c x s lg l)=0:=by
    unfold WX
    have:((Zi n r b c x s lg l).map fun t=>(Zc t).2.2)=((Zi n r b c x s lg l).map Zc).map (·.2.2):=by rw [List.map_map];rfl
    rw [this,hsl]
    refine zS8 fun y hy => ?_
    rw [List.mem_map] at hy
    obtain ⟨t,ht,rfl⟩:=hy
    rcases List.mem_append.1 ht with ht | ht
    · rcases List.mem_cons.1 ht with ht | ht
      · rw [ht]
      · rw [List.mem_map] at ht
        obtain ⟨q,_,rfl⟩:=ht
        rfl
    · rw [List.mem_singleton.1 ht]
  have hK:z7 (Zi n r b c x s lg l)=20::(List.replicate l.length 21++[22]):=by
    unfold z7
    have:((Zi n r b c x s lg l).map fun t=>(Zc t).1)=((Zi n r b c x s lg l).map Zc).map (·.1):=by rw [List.map_map];rfl
    have hrep:List.map ((fun x:Int×List UInt8×Int=>x.1)∘fun q:(SV×Bool)×Nat=>((21:Int),ZE (q.2:Int) q.1.1 q.1.2,(0:Int))) l.zipIdx=List.replicate l.length 21:=by
      rw [List.eq_replicate_iff]
      exact ⟨by simp,fun b hb=>by rw [List.mem_map] at hb;obtain ⟨q,_,rfl⟩:=hb;rfl⟩
    rw [this,hsl,List.map_append,List.map_cons,List.map_map,List.map_singleton,List.cons_append,hrep]
  have hB:zU (Zi n r b c x s lg l)=ZR n r b c x s lg::((l.zipIdx.map fun q=>ZE (q.2:Int) q.1.1 q.1.2)++[QU (Z6 n r b c x s lg l)]):=by
    unfold zU
    have:((Zi n r b c x s lg l).map fun t=>(Zc t).2.1)=((Zi n r b c x s lg l).map Zc).map (·.2.1):=by rw [List.map_map];rfl
    rw [this,hsl,List.map_append,List.map_cons,List.map_map,List.map_singleton,List.cons_append]
    rfl
  have hmid:(((zU (Zi n r b c x s lg l)).drop 1).take ((Zi n r b c x s lg l).length - 2))=l.zipIdx.map fun q=>ZE (q.2:Int) q.1.1 q.1.2:=by
    rw [hB,hlen]
    show ((l.zipIdx.map fun q=>ZE (q.2:Int) q.1.1 q.1.2)++[QU (Z6 n r b c x s lg l)]).take (l.length+2 - 2)=_
    rw [List.take_left' (by simp)]
  have hlast:(zU (Zi n r b c x s lg l))[(Zi n r b c x s lg l).length - 1]? = some (QU ((Zi n r b c x s lg l).take ((Zi n r b c x s lg l).length - 1))):=by
    have ha:(Z6 n r b c x s lg l).length=l.length+1:=by unfold Z6;rw [List.length_cons,qA]
    have ht:(Zi n r b c x s lg l).take ((Zi n r b c x s lg l).length - 1)=Z6 n r b c x s lg l:=by
      rw [hlen];unfold Zi;rw [List.take_left' (by omega)]
    rw [ht,hB,hlen,show l.length+2 - 1=l.length+1 by omega,List.getElem?_cons_succ,List.getElem?_append_right (by simp)]
    simp
  unfold Yz
  have hE' : ¬(WX (Zi n r b c x s lg l)≠0):=fun h=>h hE
  have hK' : ¬¬kOk (z7 (Zi n r b c x s lg l))=true:=fun h=>h (by rw [hK];exact zPg _)
  have hh:(zU (Zi n r b c x s lg l)).headD []=ZR n r b c x s lg:=by rw [hB];rfl
  rw [if_neg (by omega),if_neg hE',if_neg hK',hh,zgS hm]
  dsimp only
  unfold zrh
  have hn : ¬((0:Int)≠0∨x≠(((Zi n r b c x s lg l).length:Nat):Int) - 2):=by
    rintro (h | h)
    · exact h rfl
    · exact h (by rw [hlen];omega)
  rw [if_neg hn,hmid,zrx l 0 (by omega) hcz]
  dsimp only
  have hl' : ¬((zU (Zi n r b c x s lg l))[(Zi n r b c x s lg l).length - 1]? ≠ some (QU ((Zi n r b c x s lg l).take ((Zi n r b c x s lg l).length - 1)))):=fun h=>h hlast
  rw [if_neg hl',hf,hs]
  have hq : ¬(wY n r b c x s lg ss cs≠0):=fun h'=>h' h
  rw [if_neg hq]
theorem zTh {t:List UInt8} {n r b c x s lg:Int} (h:qE t=(n,r,b,c,x,s,lg,0)):t=ZR n r b c x s lg:=by
  unfold qE at h
  split at h
  · cases h
  split at h
  · cases h
  split at h
  · cases h
  unfold ztn at h
  split at h
  · rename_i hp
    cases h
    unfold zhA at hp
    split at hp
    · exact (congrArg Prod.fst hp).symm
    · have:=congrArg Prod.snd hp;cases this
  · cases h
theorem zQm {i:Nat} {b:List UInt8} {q:SV×Bool} (h:jh i b=some q):b=ZE (i:Int) q.1 q.2:=by
  unfold jh at h
  split at h
  · cases h
  split at h
  · cases h
  split at h
  · rename_i hq;cases h;exact hq.symm
  · cases h
theorem zB0 : ∀q:List (SV×Bool),(q.map (·.1)).zip (q.map (·.2))=q
  | []=>rfl
  | (a,b)::r=>by rw [List.map_cons,List.map_cons,List.zip_cons_cons,zB0 r]
theorem zTy {l:List (List UInt8)} {n r b c x s lg:Int} {ss:List SV} {cs:List Bool} (h:Yz l=(n,r,b,c,x,s,lg,0,ss,cs)):za7 n r b c x s lg ss cs=(0,l):=by
  unfold Yz at h
  split at h
  · cases h
  rename_i h2
  split at h
  · rename_i he;have:=congrArg (fun p:Im=>p.2.2.2.2.2.2.2.1) h;exact absurd this he
  rename_i he
  split at h
  · cases h
  rename_i hk
  unfold zrh at h
  generalize hg:qE ((zU l).headD [])=g at h
  obtain ⟨n',r',b',c',x',s',lg',e⟩:=g
  dsimp only at h
  split at h
  · cases h
  rename_i hbad
  split at h
  · cases h
  rename_i q hq
  split at h
  · cases h
  rename_i hlast
  split at h
  · rename_i hc;have:=congrArg (fun p:Im=>p.2.2.2.2.2.2.2.1) h;exact absurd this hc
  rename_i hc
  cases h
  obtain rfl:e=0:=Decidable.byContradiction fun h=>hbad (.inl h)
  have hxl:x=(l.length:Int) - 2:=Decidable.byContradiction fun h=>hbad (.inr h)
  have hsect:=zTh hg
  have hbl:(zU l).length=l.length:=by rw [zU,List.length_map]
  have hkl:(z7 l).length=l.length:=by rw [z7,List.length_map]
  have hM:(((zU l).drop 1).take (l.length - 2)).length=l.length - 2:=by rw [List.length_take,List.length_drop];omega
  have hql:q.length=l.length - 2:=by rw [zB4 hq,hM]
  have hkk:kOk (z7 l)=true:=Decidable.not_not.1 hk
  unfold kOk at hkk
  rw [znF] at hkk
  -- each line is sealed
  have each : ∀(j:Nat) (t:List UInt8),l[j]? = some t → ∃bd,(zU l)[j]? = some bd∧((yU l.length j=20→t=ZF 20 bd)∧(yU l.length j=21→t=ZF 21 bd)∧(yU l.length j=22→t=ZF 22 bd)):=by
    intro j t hj
    have h0:(Zc t).2.2=0:=zzR (Decidable.not_not.1 he) _ (List.mem_map.2 ⟨t,List.mem_of_getElem? hj,rfl⟩)
    obtain ⟨k,bd,hk1,hk2,ht,hgs⟩:=zfj h0
    have hb:(zU l)[j]? = some bd:=by unfold zU;rw [List.getElem?_map,hj,Option.map_some,hgs]
    have hkj:(z7 l)[j]? = some (k:Int):=by unfold z7;rw [List.getElem?_map,hj,Option.map_some,hgs]
    have:=hkk j _ hkj
    rw [decide_eq_true_eq,Nat.zero_add,hkl] at this
    refine ⟨bd,hb,fun hw => ?_,fun hw => ?_,fun hw => ?_⟩
    · rw [ht,show k=20 by omega]
    · rw [ht,show k=21 by omega]
    · rw [ht,show k=22 by omega]
  have hall:l.take (l.length - 1)=Z6 n r b c x s lg q:=by
    refine List.ext_getElem? fun j => ?_
    by_cases hj:j<l.length - 1
    · rw [List.getElem?_take_of_lt hj]
      obtain ⟨t,ht⟩ : ∃t,l[j]? = some t:=⟨_,List.getElem?_eq_getElem (by omega)⟩
      obtain ⟨bd,hb,w0,w1,w2⟩:=each j t ht
      rw [ht]
      unfold Z6
      cases j with
      | zero =>
        rw [List.getElem?_cons_zero]
        have hbd:bd=(zU l).headD []:=by
          cases hq:zU l with
          | nil=>rw [hq] at hb;cases hb
          | cons y r=>rw [hq] at hb;cases hb;rfl
        rw [w0 (by unfold yU;rw [if_pos rfl]),hbd,hsect]
      | succ i =>
        rw [List.getElem?_cons_succ]
        have hmi:(((zU l).drop 1).take (l.length - 2))[i]? = some bd:=by
          rw [List.getElem?_take_of_lt (by omega),List.getElem?_drop,show 1+i=i+1 by omega];exact hb
        obtain ⟨q',hq1,hq2⟩:=zCl hq i bd hmi
        rw [Nat.zero_add] at hq2
        rw [zCu hq1,w1 (by unfold yU;rw [if_neg (by omega),if_neg (by omega)]),zQm hq2]
    · rw [List.getElem?_eq_none (by rw [List.length_take];omega),List.getElem?_eq_none (by unfold Z6;rw [List.length_cons,qA];omega)]
  have hfull:l=Zi n r b c x s lg q:=by
    obtain ⟨t,ht⟩ : ∃t,l[l.length - 1]? = some t:=⟨_,List.getElem?_eq_getElem (by omega)⟩
    obtain ⟨bd,hb,w0,w1,w2⟩:=each _ t ht
    have hbe:bd=QU (l.take (l.length - 1)):=Option.some.inj (hb.symm.trans (Decidable.not_not.1 hlast))
    have h3:=zAa ht
    rw [List.drop_eq_nil_of_le (by omega),hall,w2 (by unfold yU;rw [if_neg (by omega),if_pos (by omega)]),hbe,hall] at h3
    exact h3
  unfold za7
  rw [if_neg hc,zB0,← hfull]
end Go.Proofs.R9
namespace Go.Proofs.R9
open Go Go.AE
noncomputable def ym:Env:=[(49,.func zvo),(92,.pure zJv),(91,.func zJo),(50,.func zmw),(51,.func znZ),(96,.func zIE),(139,.func Fq0),(179,.pure Fq5),(140,.func Fq2),(141,.func Fq3),(93,.pure Fq1),(52,.pure Fq4),(55,.func zJ7),(90,.pure zPD),(48,.pure zPd),(19,.func zQn),(106,.pure zPA),(68,.pure zRh),(69,.pure zQI),(34,.pure zKv),(98,.pure zRY),(57,.pure ziN),(94,.pure zP9),(53,.pure zKF),(20,.pure zRP),(95,.func zPB),(70,.func zHB),(246,.pure zP4),(224,.pure zKD),(311,.pure zQN),(263,.pure zRA),(251,.pure zP8),(233,.pure zRJ),(312,.pure zPl),(35,.pure zAp),(54,.pure zPX),(181,.pure zR3),(182,.pure zQz),(143,.pure zR6),(180,.pure zQV),(142,.pure zPQ),(97,.pure zPt),(56,.pure zKr),(22,.pure zIF),(14,.pure Fq6),(29,.pure zRz),(75,.pure W2),(58,.pure je),(101,.func (orF jQ wR)),(144,.func qn),(100240,.iter (zfK .str) (zb7 .str))]
theorem ZA:zd Tryz.prog ym:=zd.cons zeF (zd.cons zup (zd.cons zsO (zd.cons zbH (zd.cons zbJ (zd.cons ztp (zd.cons zOc (zd.cons zNc (zd.cons zN2 (zd.cons zNt (zd.cons zMY (zd.cons zeo (zd.cons zsq (zd.cons zF8 (zd.cons zGH (zd.cons zEM (zd.cons zEN (zd.cons zEw (zd.cons zFn (zd.cons zsm (zd.cons zGi (zd.cons zae (zd.cons zFd (zd.cons zu7 (zd.cons zFa (zd.cons zEQ (zd.cons zsR (zd.cons zGD (zd.cons ztN (zd.cons zFp (zd.cons zEJ (zd.cons zFz (zd.cons zE2 (zd.cons zF5 (zd.cons zka (zd.cons zF2 (zd.cons zFf (zd.cons zGb (zd.cons zE7 (zd.cons zGX (zd.cons zGq (zd.cons zGf (zd.cons zts (zd.cons zr3 (zd.cons zCD (zd.cons zGs (zd.cons za4 (zd.cons zb1 (zd.cons (zM ziL zcZ) (zd.cons zfc (zd.cons (zxH ▸ zzA) (zd.nil)))))))))))))))))))))))))))))))))))))))))))))))))))
def zUZ:List ZH:=[
  ⟨7,false,[(0,[0,2,4,5,6,8,51,52,53])]⟩,
  ⟨9,false,[]⟩,
  ⟨10,true,[(0,[2,3,5]),(2,[2,3,6])]⟩,
  ⟨17,false,[]⟩,
  ⟨18,false,[(0,[0,2,4,5,20,21])]⟩,
  ⟨21,false,[]⟩,
  ⟨28,false,[]⟩,
  ⟨30,false,[]⟩,
  ⟨40,false,[]⟩,
  ⟨41,true,[]⟩,
  ⟨42,false,[]⟩,
  ⟨43,false,[]⟩,
  ⟨44,false,[]⟩,
  ⟨45,false,[]⟩,
  ⟨46,false,[]⟩,
  ⟨47,false,[]⟩,
  ⟨66,false,[(0,[0,1,21,22,23])]⟩,
  ⟨74,false,[(0,[7,8])]⟩,
  ⟨76,true,[]⟩,
  ⟨77,false,[(0,[5,8,10,13,79,80])]⟩,
  ⟨78,false,[]⟩,
  ⟨79,false,[]⟩,
  ⟨80,false,[]⟩,
  ⟨81,false,[]⟩,
  ⟨82,false,[]⟩,
  ⟨83,false,[]⟩,
  ⟨84,false,[]⟩,
  ⟨85,false,[]⟩,
  ⟨86,false,[]⟩,
  ⟨87,false,[]⟩,
  ⟨88,false,[]⟩,
  ⟨89,true,[]⟩,
  ⟨99,false,[]⟩,
  ⟨100,false,[]⟩,
  ⟨108,true,[]⟩,
  ⟨109,true,[]⟩,
  ⟨110,false,[]⟩,
  ⟨111,false,[]⟩,
  ⟨112,false,[(0,[7,9,26]),(2,[7,9,44,45])]⟩,
  ⟨113,true,[]⟩,
  ⟨114,false,[(0,[8,28,29,30])]⟩,
  ⟨115,false,[]⟩,
  ⟨117,false,[(0,[0,4,6])]⟩,
  ⟨118,false,[]⟩,
  ⟨119,false,[]⟩,
  ⟨120,false,[]⟩,
  ⟨121,false,[]⟩,
  ⟨122,false,[(0,[0,15,16])]⟩,
  ⟨123,false,[]⟩,
  ⟨124,false,[]⟩,
  ⟨125,false,[]⟩,
  ⟨126,false,[]⟩,
  ⟨127,true,[]⟩,
  ⟨128,false,[]⟩,
  ⟨129,false,[]⟩,
  ⟨130,true,[]⟩,
  ⟨131,false,[]⟩,
  ⟨132,false,[]⟩,
  ⟨133,false,[]⟩,
  ⟨134,false,[]⟩,
  ⟨135,false,[]⟩,
  ⟨136,true,[]⟩,
  ⟨137,false,[(0,[0,1,8,18,19])]⟩,
  ⟨138,false,[]⟩,
  ⟨145,false,[]⟩,
  ⟨147,true,[]⟩,
  ⟨148,true,[]⟩,
  ⟨149,true,[]⟩,
  ⟨150,false,[]⟩,
  ⟨151,false,[(0,[0,8,19,20,21])]⟩,
  ⟨152,false,[]⟩,
  ⟨153,false,[]⟩,
  ⟨154,false,[]⟩,
  ⟨155,false,[]⟩,
  ⟨156,false,[(0,[0,27,28,29]),(2,[0,6,27,28,29,34,35,36])]⟩,
  ⟨157,false,[]⟩,
  ⟨158,false,[(0,[2,3,4,24,79])]⟩,
  ⟨159,false,[]⟩,
  ⟨160,false,[]⟩,
  ⟨161,false,[]⟩,
  ⟨162,false,[]⟩,
  ⟨163,false,[]⟩,
  ⟨164,true,[(0,[4,8,9])]⟩,
  ⟨165,true,[]⟩,
  ⟨166,false,[]⟩,
  ⟨167,false,[]⟩,
  ⟨168,false,[]⟩,
  ⟨169,false,[]⟩,
  ⟨170,false,[(0,[0,1,2,26,27])]⟩,
  ⟨171,false,[]⟩,
  ⟨172,false,[]⟩,
  ⟨173,false,[]⟩,
  ⟨174,false,[(0,[0,6,7,8])]⟩,
  ⟨175,true,[(0,[0,2,4,5,6,21])]⟩,
  ⟨176,true,[]⟩,
  ⟨177,true,[]⟩,
  ⟨178,true,[]⟩,
  ⟨185,false,[]⟩,
  ⟨186,false,[]⟩,
  ⟨187,false,[(1,[2,9,10])]⟩,
  ⟨188,false,[]⟩,
  ⟨190,true,[]⟩,
  ⟨191,false,[]⟩,
  ⟨192,false,[(1,[0,1,8,24,25])]⟩,
  ⟨193,true,[(0,[4,6,7,14,15,16])]⟩,
  ⟨194,false,[]⟩,
  ⟨195,false,[]⟩,
  ⟨196,false,[]⟩,
  ⟨197,false,[]⟩,
  ⟨198,false,[(0,[1,12,23])]⟩,
  ⟨199,false,[]⟩,
  ⟨200,false,[]⟩,
  ⟨201,false,[]⟩,
  ⟨202,false,[(0,[0,2,3,17,104])]⟩,
  ⟨203,true,[]⟩,
  ⟨204,false,[]⟩,
  ⟨205,false,[]⟩,
  ⟨206,false,[(0,[3,4,10,16])]⟩,
  ⟨207,true,[]⟩,
  ⟨208,true,[]⟩,
  ⟨209,true,[]⟩,
  ⟨210,true,[]⟩,
  ⟨215,true,[]⟩,
  ⟨216,true,[]⟩,
  ⟨217,false,[(0,[0])]⟩,
  ⟨218,false,[]⟩,
  ⟨219,false,[]⟩,
  ⟨220,false,[]⟩,
  ⟨221,false,[]⟩,
  ⟨222,true,[(0,[7,8,27,28,29])]⟩,
  ⟨223,false,[(1,[7,9,10])]⟩,
  ⟨225,true,[(0,[0,1,7,8])]⟩,
  ⟨226,true,[(0,[0,1])]⟩,
  ⟨227,true,[(0,[0,1])]⟩,
  ⟨228,false,[(0,[0,2,4])]⟩,
  ⟨229,false,[(0,[0,1])]⟩,
  ⟨230,false,[(0,[0,1])]⟩,
  ⟨231,true,[(0,[0,1])]⟩,
  ⟨232,true,[(0,[0,1])]⟩,
  ⟨237,true,[]⟩,
  ⟨238,false,[]⟩,
  ⟨239,false,[]⟩,
  ⟨242,true,[(1,[0,13,14,15])]⟩,
  ⟨243,true,[]⟩,
  ⟨244,false,[]⟩,
  ⟨245,false,[]⟩,
  ⟨247,false,[]⟩,
  ⟨248,true,[]⟩,
  ⟨249,true,[]⟩,
  ⟨250,true,[(0,[0,4,5,6])]⟩,
  ⟨252,false,[]⟩,
  ⟨253,false,[(0,[0,1,8,12,13])]⟩,
  ⟨254,true,[]⟩,
  ⟨255,false,[(0,[0,5,6,8,10,51,52]),(2,[0,8,10,11,77,78])]⟩,
  ⟨258,false,[]⟩,
  ⟨259,false,[]⟩,
  ⟨260,true,[]⟩,
  ⟨261,true,[(9,[175])]⟩,
  ⟨262,true,[]⟩,
  ⟨275,false,[(0,[0,1,7,8])]⟩,
  ⟨276,true,[]⟩,
  ⟨277,true,[]⟩,
  ⟨278,true,[]⟩,
  ⟨286,true,[]⟩]
def zUM:List ZH:=[⟨116,false,[(0,[0,21,22,23])]⟩]
end Go.Proofs.R9
