/- What the functions that DumpPutsCardSaid reaches compute: part 4. -/
import Derived.Test.YthfoooplgceaoaaGreatDoorOwnDumpPutsCardSaid3
set_option linter.unusedVariables false
set_option linter.unusedSimpArgs false
namespace Go.Proofs.R9
open Go Go.AE
set_option maxRecDepth 100000
--@ ref43_Get
--@ dump_bodies
noncomputable def z1t:Env:=[]
theorem z4o:zf Tryz.prog z1t:=zf.nil
noncomputable def Zay:Code:=Tryz.f30.body.getD .skip
noncomputable def z06:Ann := .none
theorem zYJ:zq Tryz.prog 4 Zay z06:=(zb _ _ _)
abbrev zf2:=(Int)×(Int)×(Int)×(Int)×(Int)×(Int)×(Int)×(List (Int×(Int×Int)×List UInt8×((Int×Int)×List UInt8)×(Int×Int)×List UInt8))×(List Bool)
abbrev zXl:=Unit
def zsu {β:Type}:zf2→(zXl→Option β)→Option β:=fun (a0_0,a0_1,a0_2,a0_3,a0_4,a0_5,a0_6,a0_7,a0_8) exit=>(exit ())
def zjm (a:zf2):Option zXl:=zsu a some
theorem zZP (a:zf2) (k:zXl→Ans):zsu a k=za (zjm a) k:=by
  obtain ⟨a0_0,a0_1,a0_2,a0_3,a0_4,a0_5,a0_6,a0_7,a0_8⟩:=a
  simp only [zjm,zsu,zj,zh,zl,zc,zi,zm,zg]
def zpx:zf2→List AV×List AE.Obj:=fun (a0_0,a0_1,a0_2,a0_3,a0_4,a0_5,a0_6,a0_7,a0_8)=>([.agg [.int .i64 a0_0,.int .i64 a0_1,.int .i64 a0_2,.int .i64 a0_3,.int .i64 a0_4,.int .i64 a0_5,.int .i64 a0_6,.ro (.st (.pair (.int .i64) (.pair (.pair (.int .i64) (.int .i64)) (.pair .str (.pair (.pair (.pair (.int .i64) (.int .i64)) .str) (.pair (.pair (.int .i64) (.int .i64)) .str)))))) a0_7,.ro .bool a0_8]],[])
def zL2 (l:List AV) (H:List AE.Obj):Option {a:zf2 // (l,H)=zpx a}:=match l,H with
  | [.agg [.int .i64 a0_0,.int .i64 a0_1,.int .i64 a0_2,.int .i64 a0_3,.int .i64 a0_4,.int .i64 a0_5,.int .i64 a0_6,.ro (.st (.pair (.int .i64) (.pair (.pair (.int .i64) (.int .i64)) (.pair .str (.pair (.pair (.pair (.int .i64) (.int .i64)) .str) (.pair (.pair (.int .i64) (.int .i64)) .str)))))) a0_7,.ro .bool a0_8]],[]=>some ⟨(a0_0,a0_1,a0_2,a0_3,a0_4,a0_5,a0_6,a0_7,a0_8),rfl⟩
  | _,_=>none
def zPE (l:List AV) (H:List AE.Obj):Option zf2:=pk (zL2 l H)
theorem zUy (l:List AV) (H:List AE.Obj) (a:zf2) (h:zPE l H=some a):(l,H)=zpx a:=zt (o:=zL2 l H) h
def z2P:zf2→(AV→List AE.Obj→Ans)→zXl→Ans:=fun (a0_0,a0_1,a0_2,a0_3,a0_4,a0_5,a0_6,a0_7,a0_8) K=>fun _=>K (.fn (Fn.func 66) [] [.ptr 0 0]) [.cells [.int .i64 a0_0,.int .i64 a0_1,.int .i64 a0_2,.int .i64 a0_3,.int .i64 a0_4,.int .i64 a0_5,.int .i64 a0_6,.ro (.st (.pair (.int .i64) (.pair (.pair (.int .i64) (.int .i64)) (.pair .str (.pair (.pair (.pair (.int .i64) (.int .i64)) .str) (.pair (.pair (.int .i64) (.int .i64)) .str)))))) a0_7,.ro .bool a0_8]]
theorem z3T (a:zf2) (K:AV→List AE.Obj→Ans):fnE Tryz.tab z1t zd 0 70 30 Tryz.f30.ntmps Tryz.f30.results.toList z06 Zay (zpx a).1 (zpx a).2 K=zsu a (z2P a K):=by kernel_rfl
def ZbR (a:zf2) (K:AV→List AE.Obj→Ans):Ans:=za (zjm a) fun y=>z2P a K y
def Za5:List AV→List AE.Obj→(AV→List AE.Obj→Ans)→Ans:=fun l H K=>za (zPE l H) fun a=>ZbR a K
theorem z9n:zO Tryz.prog 30 Za5:=ZK (hint:=zd) (d:=0) (n:=70) mixed tabOk z4o Tryz.func30 (zC (by kernel_rfl)) (by decide +kernel) zYJ zUy z3T zZP
--@ seal_Put
noncomputable def zgk:Env:=[(52,.pure Fq4),(57,.pure zjN)]
theorem zsc:zf Tryz.prog zgk:=zf.cons zhd (zf.cons zbo (zf.nil))
noncomputable def zTe:Code:=Tryz.f29.body.getD .skip
noncomputable def zo0:Code:=zF [1,0,0,0] zTe
noncomputable def zui:Ann := .none
theorem zEM:zq Tryz.prog 29 zo0 zui:=(zb _ _ _)
abbrev jE:=(Int)×(List UInt8)
abbrev znO:=(Bool)
def zzQ:jE→St:=fun (t0,t1)=>{ env:=[(0,.int .i64 t0),(1,.str t1)],stk:=[[]],H:=[],blk:=118784 }
def zvO (s:St):Option {x:jE // s=zzQ x}:=match s with
  | { env:=[(0,.int .i64 t0),(1,.str t1)],stk:=[[]],H:=[],blk:=118784 }=>some ⟨(t0,t1),rfl⟩
  | _=>none
def zmq (s:St):Option jE:=pk (zvO s)
theorem zJG (s:St) (x:jE) (h:zmq s=some x):s=zzQ x:=zt (o:=zvO s) h
def zl3:jE→(Ex→St→Ans)→znO→Ans:=fun (t0,t1) K=>fun t7_y=>K (Ex.norm) { env:=[(0,.int .i64 t0),(1,.str t1),(7,.bool t7_y)],stk:=[[]],H:=[],blk:=118784 }
def zao {β:Type}:jE→(znO→Option β)→Option β:=fun (t0,t1) exit=>(bif decide (t0<(0:Int)) then (exit (true)) else (exit (decide (t0>(255:Int)))))
def WC (i:jE):Option znO:=zao i some
theorem zyr (i:jE) (k:znO→Ans):zao i k=za (WC i) k:=by
  obtain ⟨t0,t1⟩:=i
  simp only [WC,zao,zj,zh,zl,zc,zi,zm,zg]
theorem zF7 (i:jE) (K:Ex→St→Ans):zx Tryz.tab zgk zd (zy Tryz.tab zgk zd 0 64) 70 29 zui zo0 (zD 0 (exk [0,1,7] [4,5] []) K) (zzQ i)=zao i (zl3 i K):=by kernel_rfl
theorem zNA:zw Tryz.prog 29 zo0 (zH zmq WC zl3):=zE mixed tabOk zsc 0 (exk [0,1,7] [4,5] []) zEM zJG zF7 zyr
noncomputable def zQS:(Ex→St→Ans)→St→Ans:=(zH zmq WC zl3)
theorem zTr:zw Tryz.prog 29 zo0 zQS:=zNA
noncomputable def znK:Code:=zF [1,0] zTe
noncomputable def zsQ:Ann:=(.block (.seq (.cut 0 [0,1] zQS) .none))
theorem zDR:zq Tryz.prog 29 znK zsQ:=⟨zTr,(zb _ _ _)⟩
abbrev jl:=(Int)×(List UInt8)
abbrev zoV:=((Int)) ⊕ (Unit)
def zyO:jl→St:=fun (t0,t1)=>{ env:=[(0,.int .i64 t0),(1,.str t1)],stk:=[[]],H:=[],blk:=118784 }
def ztJ (s:St):Option {x:jl // s=zyO x}:=match s with
  | { env:=[(0,.int .i64 t0),(1,.str t1)],stk:=[[]],H:=[],blk:=118784 }=>some ⟨(t0,t1),rfl⟩
  | _=>none
def zla (s:St):Option jl:=pk (ztJ s)
theorem zLp (s:St) (x:jl) (h:zla s=some x):s=zyO x:=zt (o:=ztJ s) h
def zjk:jl→(Ex→St→Ans)→zoV→Ans:=fun (t0,t1) K=>(Sum.elim (fun t5_y=>K (Ex.ret) { env:=[(4,.str ([])),(5,.int .i64 t5_y)],stk:=[[]],H:=[],blk:=118784 }) (fun _=>K (Ex.norm) { env:=[(0,.int .i64 t0),(1,.str t1)],stk:=[[]],H:=[],blk:=118784 }))
def zaH {β:Type}:jl→(zoV→Option β)→Option β:=fun (t0,t1) exit=>(za (WC (t0,t1)) fun t7=>(bif t7 then (exit (Sum.inl ((7:Int)))) else (bif decide ((↑(List.length t1):Int)>(600:Int)) then (exit (Sum.inl ((11:Int)))) else (exit (Sum.inr ())))))
def qq (i:jl):Option zoV:=zaH i some
theorem zxR (i:jl) (k:zoV→Ans):zaH i k=za (qq i) k:=by
  obtain ⟨t0,t1⟩:=i
  simp only [qq,zaH,zj,zh,zl,zc,zi,zm,zg]
theorem zEl (i:jl) (K:Ex→St→Ans):zx Tryz.tab zgk zd (zy Tryz.tab zgk zd 0 64) 70 29 zsQ znK (zD 0 (exk [0,1] [4,5] []) K) (zyO i)=zaH i (zjk i K):=by kernel_rfl
theorem zOr:zw Tryz.prog 29 znK (zH zla qq zjk):=zE mixed tabOk zsc 0 (exk [0,1] [4,5] []) zDR zLp zEl zxR
noncomputable def zP4:(Ex→St→Ans)→St→Ans:=(zH zla qq zjk)
theorem zSW:zw Tryz.prog 29 znK zP4:=zOr
noncomputable def z3K:Ann:=(.seq .none (.seq (.cut 0 [0,1] zP4) .none))
theorem zZF:zq Tryz.prog 29 zTe z3K:=⟨(zb _ _ _),⟨zSW,(zb _ _ _)⟩⟩
abbrev zd9:=(Int)×(List UInt8)
abbrev zJz:=(List UInt8)×(Int)
def zus {β:Type}:zd9→(zJz→Option β)→Option β:=fun (a0,a1) exit=>(za (qq (a0,a1)) (Sum.elim (fun t5=>(exit ([],t5))) (fun _=>(za (Zz ([],a0,(1:Int))) fun r=>(za (Zz (r,(↑(List.length a1):Int),(2:Int))) fun r_2=>(bif Nat.ble (List.length r_2+List.length a1) (9223372036854775807:Nat) then (za (zbX (r_2++a1)) fun r_3=>(bif Nat.ble (List.length (r_2++a1)+List.length r_3) (9223372036854775807:Nat) then (exit (r_2++a1++r_3,(0:Int))) else none)) else none))))))
def zgv (a:zd9):Option zJz:=zus a some
theorem zYE (a:zd9) (k:zJz→Ans):zus a k=za (zgv a) k:=by
  obtain ⟨a0,a1⟩:=a
  simp only [zgv,zus,zj,zh,zl,zc,zi,zm,zg]
def zxS:zd9→List AV:=fun (a0,a1)=>[.int .i64 a0,.str a1]
def zHM (l:List AV):Option {a:zd9 // l=zxS a}:=match l with
  | [.int .i64 a0,.str a1]=>some ⟨(a0,a1),rfl⟩
  | _=>none
def zR3 (l:List AV):Option zd9:=pk (zHM l)
theorem zSM (l:List AV) (a:zd9) (h:zR3 l=some a):l=zxS a:=zt (o:=zHM l) h
def zBJ:zd9→zJz→AV:=fun (a0,a1)=>unP fun r_0_y r_1_y => .tup [.str r_0_y,.int .i64 r_1_y]
theorem zUZ : ∀(a:zd9) (y:zJz),(zBJ a y).closed1=true:=by
  rintro ⟨a0,a1⟩ y <;> first | rfl | exact Empty.elim y
theorem z34 (a:zd9):fnE Tryz.tab zgk zd 0 70 29 Tryz.f29.ntmps Tryz.f29.results.toList z3K zTe (zxS a) [] (fun v _=>some (v,[]))=zus a (fun y=>some (zBJ a y,[])):=by kernel_rfl
def Zcz (a:zd9) (K:AV→Ans):Ans:=za (zgv a) fun y=>K (zBJ a y)
def z49:List AV→(AV→Ans)→Ans:=fun l K=>za (zR3 l) fun a=>Zcz a K
theorem zPX:zM Tryz.prog 29 z49:=zL (hint:=zd) (d:=0) (n:=70) mixed tabOk zsc Tryz.func29 (zC (by kernel_rfl)) (by decide +kernel) zZF zSM z34 zYE zUZ
--@ dump_Put_1
noncomputable def z23:Env:=[(29,.pure z49)]
theorem z5i:zf Tryz.prog z23:=zf.cons zPX (zf.nil)
noncomputable def ZaS:Code:=Tryz.f28.body.getD .skip
noncomputable def zYk:Ann := .none
theorem z1a:zq Tryz.prog 26 ZaS zYk:=(zb _ _ _)
abbrev zfz:=(Int)×(List UInt8)×(Int)×(Int)×(List (List UInt8))
abbrev zVu:=(Bool)×(Int)×(List (List UInt8))
def ztg {β:Type}:zfz→(zVu→Option β)→Option β:=fun (a0,a1,a2,o0_0,o2) exit=>(za (zgv (a0,a1)) (unP fun r_0 r_1=>(bif (if r_1>a2 then r_1 else a2) != (0:Int) then (exit (false,if r_1>a2 then r_1 else a2,o2)) else (bif Nat.ble ((List.length o2+List.length [r_0])*(16:Nat)) (140737488355328:Nat) then (exit (true,if r_1>a2 then r_1 else a2,o2++[r_0])) else none))))
def zb7 (a:zfz):Option zVu:=ztg a some
theorem z0Q (a:zfz) (k:zVu→Ans):ztg a k=za (zb7 a) k:=by
  obtain ⟨a0,a1,a2,o0_0,o2⟩:=a
  simp only [zb7,ztg,zj,zh,zl,zc,zi,zm,zg]
def zqg:zfz→List AV×List AE.Obj:=fun (a0,a1,a2,o0_0,o2)=>([.int .i64 a0,.str a1,.int .i64 a2,.ptr 0 0,.ptr 1 0],[.cells [.int .i64 o0_0],.cells [.own 2],.arr .str o2])
def zKg (l:List AV) (H:List AE.Obj):Option {a:zfz // (l,H)=zqg a}:=match l,H with
  | [.int .i64 a0,.str a1,.int .i64 a2,.ptr 0 0,.ptr 1 0],[.cells [.int .i64 o0_0],.cells [.own 2],.arr .str o2]=>some ⟨(a0,a1,a2,o0_0,o2),rfl⟩
  | _,_=>none
def zQl (l:List AV) (H:List AE.Obj):Option zfz:=pk (zKg l H)
theorem zVI (l:List AV) (H:List AE.Obj) (a:zfz) (h:zQl l H=some a):(l,H)=zqg a:=zt (o:=zKg l H) h
def z2w:zfz→(AV→List AE.Obj→Ans)→zVu→Ans:=fun (a0,a1,a2,o0_0,o2) K=>unP fun r_y=>unP fun o0_0_y o2_y=>K (.bool r_y) [.cells [.int .i64 o0_0_y],.cells [.own 2],.arr .str o2_y]
theorem z6g (a:zfz) (K:AV→List AE.Obj→Ans):fnE Tryz.tab z23 zd 0 70 28 Tryz.f28.ntmps Tryz.f28.results.toList zYk ZaS (zqg a).1 (zqg a).2 K=ztg a (z2w a K):=by kernel_rfl
def ZbS (a:zfz) (K:AV→List AE.Obj→Ans):Ans:=za (zb7 a) fun y=>z2w a K y
def z67:List AV→List AE.Obj→(AV→List AE.Obj→Ans)→Ans:=fun l H K=>za (zQl l H) fun a=>ZbS a K
theorem zQg:zO Tryz.prog 28 z67:=ZK (hint:=zd) (d:=0) (n:=70) mixed tabOk z5i Tryz.func28 (zC (by kernel_rfl)) (by decide +kernel) z1a zVI z6g z0Q
--@ dump_bodies_1
noncomputable def zgC:Env:=[(53,.pure zT1),(56,.pure zTl),(28,.func z67)]
theorem zIg:zf Tryz.prog zgC:=zf.cons zCj (zf.cons zyy (zf.cons zQg (zf.nil)))
noncomputable def z5I:Code:=Tryz.f66.body.getD .skip
noncomputable def zhb:Code:=zF [1,1,1,0,0] z5I
noncomputable def zi3:Ann := .at 4 [0,1,21,22,23] (.loop .none)
theorem zGF:zq Tryz.prog 45 (.loop zhb) zi3:=Zp (zb _ _ _)
abbrev QD:=(List (Int×(Int×Int)×List UInt8×((Int×Int)×List UInt8)×(Int×Int)×List UInt8))×(Int)×(Int)×(Int)×(Int)×(Int)×(Int)×(Int)×(Int)×(List (Int×(Int×Int)×List UInt8×((Int×Int)×List UInt8)×(Int×Int)×List UInt8))×(List Bool)
abbrev zp1:=((Int)×(List (List UInt8))) ⊕ ((Int)×(List (List UInt8)))
abbrev w5:=(Int)×(Int)×(List (List UInt8))
def zqm:QD→w5→St:=fun (t21,t22,o2_0,o2_1,o2_2,o2_3,o2_4,o2_5,o2_6,o2_7,o2_8) (t23,o0_0,o3)=>{ env:=[(0,.fn (Fn.func 28) [] [.ptr 0 0,.ptr 1 0]),(1,.ptr 2 0),(21,.ro (.st (.pair (.int .i64) (.pair (.pair (.int .i64) (.int .i64)) (.pair .str (.pair (.pair (.pair (.int .i64) (.int .i64)) .str) (.pair (.pair (.int .i64) (.int .i64)) .str)))))) t21),(22,.int .i64 t22),(23,.int .i64 t23)],stk:=[[(0,.ptr 0 0),(1,.ptr 1 0),(2,.ptr 2 0)]],H:=[.cells [.int .i64 o0_0],.cells [.own 3],.cells [.int .i64 o2_0,.int .i64 o2_1,.int .i64 o2_2,.int .i64 o2_3,.int .i64 o2_4,.int .i64 o2_5,.int .i64 o2_6,.ro (.st (.pair (.int .i64) (.pair (.pair (.int .i64) (.int .i64)) (.pair .str (.pair (.pair (.pair (.int .i64) (.int .i64)) .str) (.pair (.pair (.int .i64) (.int .i64)) .str)))))) o2_7,.ro .bool o2_8],.arr .str o3],blk:=270336 }
def zvf (s:St):Option {x:QD×w5 // s=zqm x.1 x.2}:=match s with
  | { env:=[(0,.fn (Fn.func 28) [] [.ptr 0 0,.ptr 1 0]),(1,.ptr 2 0),(21,.ro (.st (.pair (.int .i64) (.pair (.pair (.int .i64) (.int .i64)) (.pair .str (.pair (.pair (.pair (.int .i64) (.int .i64)) .str) (.pair (.pair (.int .i64) (.int .i64)) .str)))))) t21),(22,.int .i64 t22),(23,.int .i64 t23)],stk:=[[(0,.ptr 0 0),(1,.ptr 1 0),(2,.ptr 2 0)]],H:=[.cells [.int .i64 o0_0],.cells [.own 3],.cells [.int .i64 o2_0,.int .i64 o2_1,.int .i64 o2_2,.int .i64 o2_3,.int .i64 o2_4,.int .i64 o2_5,.int .i64 o2_6,.ro (.st (.pair (.int .i64) (.pair (.pair (.int .i64) (.int .i64)) (.pair .str (.pair (.pair (.pair (.int .i64) (.int .i64)) .str) (.pair (.pair (.int .i64) (.int .i64)) .str)))))) o2_7,.ro .bool o2_8],.arr .str o3],blk:=270336 }=>some ⟨((t21,t22,o2_0,o2_1,o2_2,o2_3,o2_4,o2_5,o2_6,o2_7,o2_8),(t23,o0_0,o3)),rfl⟩
  | _=>none
def zl0 (s:St):Option (QD×w5):=pk (zvf s)
theorem zKJ (s:St) (x:QD×w5) (h:zl0 s=some x):s=zqm x.1 x.2:=zt (o:=zvf s) h
def zk0:QD→(Ex→St→Ans)→zp1→Ans:=fun (t21,t22,o2_0,o2_1,o2_2,o2_3,o2_4,o2_5,o2_6,o2_7,o2_8) K=>(Sum.elim (unP fun o0_0_y o3_y=>K (Ex.ret) { env:=[],stk:=[[(0,.ptr 0 0),(1,.ptr 1 0),(2,.ptr 2 0)]],H:=[.cells [.int .i64 o0_0_y],.cells [.own 3],.cells [.int .i64 o2_0,.int .i64 o2_1,.int .i64 o2_2,.int .i64 o2_3,.int .i64 o2_4,.int .i64 o2_5,.int .i64 o2_6,.ro (.st (.pair (.int .i64) (.pair (.pair (.int .i64) (.int .i64)) (.pair .str (.pair (.pair (.pair (.int .i64) (.int .i64)) .str) (.pair (.pair (.int .i64) (.int .i64)) .str)))))) o2_7,.ro .bool o2_8],.arr .str o3_y],blk:=270337 }) (unP fun o0_0_y o3_y=>K (Ex.exit 0) { env:=[],stk:=[[(0,.ptr 0 0),(1,.ptr 1 0),(2,.ptr 2 0)]],H:=[.cells [.int .i64 o0_0_y],.cells [.own 3],.cells [.int .i64 o2_0,.int .i64 o2_1,.int .i64 o2_2,.int .i64 o2_3,.int .i64 o2_4,.int .i64 o2_5,.int .i64 o2_6,.ro (.st (.pair (.int .i64) (.pair (.pair (.int .i64) (.int .i64)) (.pair .str (.pair (.pair (.pair (.int .i64) (.int .i64)) .str) (.pair (.pair (.int .i64) (.int .i64)) .str)))))) o2_7,.ro .bool o2_8],.arr .str o3_y],blk:=270336 }))
def Qf {β:Type}:QD→w5→(w5→Option β)→(zp1→Option β)→Option β:=fun (t21,t22,o2_0,o2_1,o2_2,o2_3,o2_4,o2_5,o2_6,o2_7,o2_8) (t23,o0_0,o3) next exit=>(bif decide (t23<t22) then (za (nth t21 t23) fun x=>(za (nth o2_8 t23) fun x_2=>(za (zb0 (t23,x.fst,x.snd.fst.fst,x.snd.fst.snd,x.snd.snd.fst,x.snd.snd.snd.fst.fst.fst,x.snd.snd.snd.fst.fst.snd,x.snd.snd.snd.fst.snd,x.snd.snd.snd.snd.fst.fst,x.snd.snd.snd.snd.fst.snd,x.snd.snd.snd.snd.snd,x_2)) (unP fun r_0 r_1=>(za (zb7 ((21:Int),r_0,r_1,o0_0,o3)) (unP fun r=>unP fun o0_0_2 o2=>(bif !r then (exit (Sum.inl (o0_0_2,o2))) else (next (IntKind.wrap .i64 (t23+(1:Int)),o0_0_2,o2))))))))) else (exit (Sum.inr (o0_0,o3))))
def yV (i:QD) (v:w5):Option (w5 ⊕ zp1):=Qf i v (fun v=>some (.inl v)) (fun y=>some (.inr y))
theorem zyP (i:QD) (v:w5) (next:w5→Ans) (exit:zp1→Ans):Qf i v next exit=za (yV i v) (Sum.elim next exit):=by
  obtain ⟨t21,t22,o2_0,o2_1,o2_2,o2_3,o2_4,o2_5,o2_6,o2_7,o2_8⟩:=i
  obtain ⟨t23,o0_0,o3⟩:=v
  simp only [yV,Qf,zj,zh,zl,zc,zi,zm,zg,Sum.elim_inl,Sum.elim_inr]
theorem zFC (n:Nat) (i:QD) (v:w5) (K:Ex→St→Ans):zx Tryz.tab zgC zd (zy Tryz.tab zgC zd 0 64) (n+1) 45 zi3 (.loop zhb) (zD 4 (exk [] [] [(0,[])]) K) (zqm i v)=Qf i v (fun v'=>zx Tryz.tab zgC zd (zy Tryz.tab zgC zd 0 64) n 45 zi3 (.loop zhb) (zD 4 (exk [] [] [(0,[])]) K) (zqm i v')) (fun y=>zk0 i K y):=by kernel_rfl
theorem zO6:zw Tryz.prog 45 (.loop zhb) (Zr zl0 yV zk0):=Zj mixed tabOk zIg 4 (exk [] [] [(0,[])]) zGF zKJ zFC zyP
noncomputable def zPk:(Ex→St→Ans)→St→Ans:=(Zr zl0 yV zk0)
theorem zS5:zw Tryz.prog 45 (.loop zhb) zPk:=zO6
noncomputable def z2K:Ann:=(.seq .none (.seq .none (.seq .none (.block (.cut 4 [0,1,21,22,23] zPk)))))
theorem z3t:zq Tryz.prog 45 z5I z2K:=⟨(zb _ _ _),⟨(zb _ _ _),⟨(zb _ _ _),zS5⟩⟩⟩
abbrev zf1:=(Int)×(Int)×(Int)×(Int)×(Int)×(Int)×(Int)×(Int)×(List (Int×(Int×Int)×List UInt8×((Int×Int)×List UInt8)×(Int×Int)×List UInt8))×(List Bool)×(List (List UInt8))
abbrev zXv:=(Int)×(List (List UInt8))
def zv5 {β:Type}:zf1→(zXv→Option β)→Option β:=fun (o0_0,o2_0,o2_1,o2_2,o2_3,o2_4,o2_5,o2_6,o2_7,o2_8,o3) exit=>(za (ze1 (o2_0,o2_1,o2_2,o2_3,o2_4,o2_5,o2_6)) (unP fun r_0 r_1=>(za (zb7 ((20:Int),r_0,r_1,o0_0,o3)) (unP fun r=>unP fun o0_0_2 o2=>(bif !r then (exit (o0_0_2,o2)) else (za (zP (yV (o2_7,(↑(List.length o2_7):Int),o2_0,o2_1,o2_2,o2_3,o2_4,o2_5,o2_6,o2_7,o2_8)) zZ ((0:Int),o0_0_2,o2)) (Sum.elim (unP fun o0_0_3 o3_2=>(exit (o0_0_3,o3_2))) (unP fun o0_0_3 o3_2=>(exit (o0_0_3,o3_2))))))))))
def zlH (a:zf1):Option zXv:=zv5 a some
theorem z1B (a:zf1) (k:zXv→Ans):zv5 a k=za (zlH a) k:=by
  obtain ⟨o0_0,o2_0,o2_1,o2_2,o2_3,o2_4,o2_5,o2_6,o2_7,o2_8,o3⟩:=a
  simp only [zlH,zv5,zj,zh,zl,zc,zi,zm,zg]
def zp7:zf1→List AV×List AE.Obj:=fun (o0_0,o2_0,o2_1,o2_2,o2_3,o2_4,o2_5,o2_6,o2_7,o2_8,o3)=>([.fn (Fn.func 28) [] [.ptr 0 0,.ptr 1 0],.ptr 2 0],[.cells [.int .i64 o0_0],.cells [.own 3],.cells [.int .i64 o2_0,.int .i64 o2_1,.int .i64 o2_2,.int .i64 o2_3,.int .i64 o2_4,.int .i64 o2_5,.int .i64 o2_6,.ro (.st (.pair (.int .i64) (.pair (.pair (.int .i64) (.int .i64)) (.pair .str (.pair (.pair (.pair (.int .i64) (.int .i64)) .str) (.pair (.pair (.int .i64) (.int .i64)) .str)))))) o2_7,.ro .bool o2_8],.arr .str o3])
def zLz (l:List AV) (H:List AE.Obj):Option {a:zf1 // (l,H)=zp7 a}:=match l,H with
  | [.fn (Fn.func 28) [] [.ptr 0 0,.ptr 1 0],.ptr 2 0],[.cells [.int .i64 o0_0],.cells [.own 3],.cells [.int .i64 o2_0,.int .i64 o2_1,.int .i64 o2_2,.int .i64 o2_3,.int .i64 o2_4,.int .i64 o2_5,.int .i64 o2_6,.ro (.st (.pair (.int .i64) (.pair (.pair (.int .i64) (.int .i64)) (.pair .str (.pair (.pair (.pair (.int .i64) (.int .i64)) .str) (.pair (.pair (.int .i64) (.int .i64)) .str)))))) o2_7,.ro .bool o2_8],.arr .str o3]=>some ⟨(o0_0,o2_0,o2_1,o2_2,o2_3,o2_4,o2_5,o2_6,o2_7,o2_8,o3),rfl⟩
  | _,_=>none
def zQR (l:List AV) (H:List AE.Obj):Option zf1:=pk (zLz l H)
theorem zXT (l:List AV) (H:List AE.Obj) (a:zf1) (h:zQR l H=some a):(l,H)=zp7 a:=zt (o:=zLz l H) h
def z0G:zf1→(AV→List AE.Obj→Ans)→zXv→Ans:=fun (o0_0,o2_0,o2_1,o2_2,o2_3,o2_4,o2_5,o2_6,o2_7,o2_8,o3) K=>unP fun o0_0_y o3_y=>K (.tup []) [.cells [.int .i64 o0_0_y],.cells [.own 3],.cells [.int .i64 o2_0,.int .i64 o2_1,.int .i64 o2_2,.int .i64 o2_3,.int .i64 o2_4,.int .i64 o2_5,.int .i64 o2_6,.ro (.st (.pair (.int .i64) (.pair (.pair (.int .i64) (.int .i64)) (.pair .str (.pair (.pair (.pair (.int .i64) (.int .i64)) .str) (.pair (.pair (.int .i64) (.int .i64)) .str)))))) o2_7,.ro .bool o2_8],.arr .str o3_y]
theorem z4C (a:zf1) (K:AV→List AE.Obj→Ans):fnE Tryz.tab zgC zd 0 70 66 Tryz.f66.ntmps Tryz.f66.results.toList z2K z5I (zp7 a).1 (zp7 a).2 K=zv5 a (z0G a K):=by kernel_rfl
def Zco (a:zf1) (K:AV→List AE.Obj→Ans):Ans:=za (zlH a) fun y=>z0G a K y
def z91:List AV→List AE.Obj→(AV→List AE.Obj→Ans)→Ans:=fun l H K=>za (zQR l H) fun a=>Zco a K
theorem z8A:zO Tryz.prog 66 z91:=ZK (hint:=zd) (d:=0) (n:=70) mixed tabOk zIg Tryz.func66 (zC (by kernel_rfl)) (by decide +kernel) z3t zXT z4C z1B
--@ dump_Put
noncomputable def zG8:Env:=[(22,.pure zTm),(14,.pure Fq6),(30,.func Za5),(28,.func z67),(66,.func z91)]
theorem zQ8:zf Tryz.prog zG8:=zf.cons zCO (zf.cons zwW (zf.cons z9n (zf.cons zQg (zf.cons z8A (zf.nil)))))
noncomputable def bq9:Code:=Tryz.f9.body.getD .skip
noncomputable def zwK:Code:=zF [1,1,1,1,1,1,0,1] bq9
noncomputable def zC0:Ann := .none
theorem zKX:zq Tryz.prog 28 zwK zC0:=(zb _ _ _)
abbrev za1:=(Bool)×(Int)×(List (List UInt8))
abbrev zuG:=(Int)×(List (List UInt8))
def zHo:za1→St:=fun (t19,o1_0,o2)=>{ env:=[(5,.ptr 0 0),(6,.ptr 1 0),(7,.fn (Fn.func 28) [] [.ptr 1 0,.ptr 0 0]),(19,.bool t19)],stk:=[[]],H:=[.cells [.own 2],.cells [.int .i64 o1_0],.arr .str o2],blk:=36864 }
def zDb (s:St):Option {x:za1 // s=zHo x}:=match s with
  | { env:=[(5,.ptr 0 0),(6,.ptr 1 0),(7,.fn (Fn.func 28) [] [.ptr 1 0,.ptr 0 0]),(19,.bool t19)],stk:=[[]],H:=[.cells [.own 2],.cells [.int .i64 o1_0],.arr .str o2],blk:=36864 }=>some ⟨(t19,o1_0,o2),rfl⟩
  | _=>none
def zq1 (s:St):Option za1:=pk (zDb s)
theorem zND (s:St) (x:za1) (h:zq1 s=some x):s=zHo x:=zt (o:=zDb s) h
def zq3:za1→(Ex→St→Ans)→zuG→Ans:=fun (t19,o1_0,o2) K=>unP fun o1_0_y o2_y=>K (Ex.norm) { env:=[(5,.ptr 0 0),(6,.ptr 1 0)],stk:=[[]],H:=[.cells [.own 2],.cells [.int .i64 o1_0_y],.arr .str o2_y],blk:=36864 }
def zch {β:Type}:za1→(zuG→Option β)→Option β:=fun (t19,o1_0,o2) exit=>(bif t19 then (za (zds (o2)) fun r=>(za (zb7 ((22:Int),r,(0:Int),o1_0,o2)) (unP fun r_2=>unP fun o0_0 o2_2=>(exit (o0_0,o2_2))))) else (exit (o1_0,o2)))
def QV (i:za1):Option zuG:=zch i some
theorem zF2 (i:za1) (k:zuG→Ans):zch i k=za (QV i) k:=by
  obtain ⟨t19,o1_0,o2⟩:=i
  simp only [QV,zch,zj,zh,zl,zc,zi,zm,zg]
theorem zH0 (i:za1) (K:Ex→St→Ans):zx Tryz.tab zG8 zd (zy Tryz.tab zG8 zd 0 64) 70 28 zC0 zwK (zD 0 (exk [5,6] [2,3] []) K) (zHo i)=zch i (zq3 i K):=by kernel_rfl
theorem zUo:zw Tryz.prog 28 zwK (zH zq1 QV zq3):=zE mixed tabOk zQ8 0 (exk [5,6] [2,3] []) zKX zND zH0 zF2
noncomputable def z18:(Ex→St→Ans)→St→Ans:=(zH zq1 QV zq3)
theorem z2U:zw Tryz.prog 28 zwK z18:=zUo
noncomputable def z7Z:Ann:=(.seq .none (.seq .none (.seq .none (.seq .none (.seq .none (.seq .none (.seq (.seq .none (.cut 0 [5,6,7,19] z18)) .none)))))))
theorem z5E:zq Tryz.prog 28 bq9 z7Z:=⟨(zb _ _ _),⟨(zb _ _ _),⟨(zb _ _ _),⟨(zb _ _ _),⟨(zb _ _ _),⟨(zb _ _ _),⟨⟨(zb _ _ _),z2U⟩,(zb _ _ _)⟩⟩⟩⟩⟩⟩⟩
abbrev Aq9:=(Int)×(Int)×(Int)×(Int)×(Int)×(Int)×(Int)×(List (Int×(Int×Int)×List UInt8×((Int×Int)×List UInt8)×(Int×Int)×List UInt8))×(List Bool)
abbrev Yq9:=((Int)×(List (List UInt8))) ⊕ ((Int))
def zKW {β:Type}:Aq9→(Yq9→Option β)→Option β:=fun (a0_0,a0_1,a0_2,a0_3,a0_4,a0_5,a0_6,a0_7,a0_8) exit=>(za (zc9 (a0_0,a0_1,a0_2,a0_3,a0_4,a0_5,a0_6,a0_7,a0_8)) fun r=>(bif r != (0:Int) then (exit (Sum.inl (r,[]))) else (za (zjm (a0_0,a0_1,a0_2,a0_3,a0_4,a0_5,a0_6,a0_7,a0_8)) fun _=>(za (zlH ((0:Int),a0_0,a0_1,a0_2,a0_3,a0_4,a0_5,a0_6,a0_7,a0_8,[])) (unP fun o0_0 o3=>(za (QV (o0_0 == (0:Int),o0_0,o3)) (unP fun o1_0 o2=>(bif o1_0 != (0:Int) then (exit (Sum.inr (o1_0))) else (exit (Sum.inl ((0:Int),o2)))))))))))
def zoY (a:Aq9):Option Yq9:=zKW a some
theorem z7u (a:Aq9) (k:Yq9→Ans):zKW a k=za (zoY a) k:=by
  obtain ⟨a0_0,a0_1,a0_2,a0_3,a0_4,a0_5,a0_6,a0_7,a0_8⟩:=a
  simp only [zoY,zKW,zj,zh,zl,zc,zi,zm,zg]
def zuT:Aq9→List AV×List AE.Obj:=fun (a0_0,a0_1,a0_2,a0_3,a0_4,a0_5,a0_6,a0_7,a0_8)=>([.agg [.int .i64 a0_0,.int .i64 a0_1,.int .i64 a0_2,.int .i64 a0_3,.int .i64 a0_4,.int .i64 a0_5,.int .i64 a0_6,.ro (.st (.pair (.int .i64) (.pair (.pair (.int .i64) (.int .i64)) (.pair .str (.pair (.pair (.pair (.int .i64) (.int .i64)) .str) (.pair (.pair (.int .i64) (.int .i64)) .str)))))) a0_7,.ro .bool a0_8]],[])
def zP8 (l:List AV) (H:List AE.Obj):Option {a:Aq9 // (l,H)=zuT a}:=match l,H with
  | [.agg [.int .i64 a0_0,.int .i64 a0_1,.int .i64 a0_2,.int .i64 a0_3,.int .i64 a0_4,.int .i64 a0_5,.int .i64 a0_6,.ro (.st (.pair (.int .i64) (.pair (.pair (.int .i64) (.int .i64)) (.pair .str (.pair (.pair (.pair (.int .i64) (.int .i64)) .str) (.pair (.pair (.int .i64) (.int .i64)) .str)))))) a0_7,.ro .bool a0_8]],[]=>some ⟨(a0_0,a0_1,a0_2,a0_3,a0_4,a0_5,a0_6,a0_7,a0_8),rfl⟩
  | _,_=>none
def zY5 (l:List AV) (H:List AE.Obj):Option Aq9:=pk (zP8 l H)
theorem zY2 (l:List AV) (H:List AE.Obj) (a:Aq9) (h:zY5 l H=some a):(l,H)=zuT a:=zt (o:=zP8 l H) h
def z7F:Aq9→(AV→List AE.Obj→Ans)→Yq9→Ans:=fun (a0_0,a0_1,a0_2,a0_3,a0_4,a0_5,a0_6,a0_7,a0_8) K=>(Sum.elim (unP fun r_1_y o0_y=>K (.tup [.own 0,.int .i64 r_1_y]) [.arr .str o0_y]) (fun r_1_y=>K (.tup [.nils,.int .i64 r_1_y]) []))
theorem z83 (a:Aq9) (K:AV→List AE.Obj→Ans):fnE Tryz.tab zG8 zd 0 70 9 Tryz.f9.ntmps Tryz.f9.results.toList z7Z bq9 (zuT a).1 (zuT a).2 K=zKW a (z7F a K):=by kernel_rfl
def Zc1 (a:Aq9) (K:AV→List AE.Obj→Ans):Ans:=za (zoY a) fun y=>z7F a K y
def Fq9:List AV→List AE.Obj→(AV→List AE.Obj→Ans)→Ans:=fun l H K=>za (zY5 l H) fun a=>Zc1 a K
theorem ZaF:zO Tryz.prog 9 Fq9:=ZK (hint:=zd) (d:=0) (n:=70) mixed tabOk zQ8 Tryz.func9 (zC (by kernel_rfl)) (by decide +kernel) z5E zY2 z83 z7u
--@ ref43_Same
noncomputable def Wr:Env:=[]
theorem ziw:zf Tryz.prog Wr:=zf.nil
noncomputable def zKb:Code:=Tryz.f10.body.getD .skip
noncomputable def zgg:Code:=zF [1,1,1,0,1,0,0] zKb
noncomputable def zis:Ann := .at 0 [2,3,6] (.loop .none)
theorem zDP:zq Tryz.prog 66 (.loop zgg) zis:=Zp (zb _ _ _)
abbrev QI:=(Int)×(Int)×(Int)×(Int)×(Int)×(Int)×(Int)×(List (Int×(Int×Int)×List UInt8×((Int×Int)×List UInt8)×(Int×Int)×List UInt8))×(List Bool)×(Int)×(Int)×(Int)×(Int)×(Int)×(Int)×(Int)×(List (Int×(Int×Int)×List UInt8×((Int×Int)×List UInt8)×(Int×Int)×List UInt8))×(List Bool)
abbrev zoq:=(Unit) ⊕ (Unit)
abbrev wL:=(Int)
def zn7:QI→wL→St:=fun (o0_0,o0_1,o0_2,o0_3,o0_4,o0_5,o0_6,o0_7,o0_8,o1_0,o1_1,o1_2,o1_3,o1_4,o1_5,o1_6,o1_7,o1_8) t6=>{ env:=[(2,.ptr 0 0),(3,.ptr 1 0),(6,.int .i64 t6)],stk:=[[]],H:=[.cells [.int .i64 o0_0,.int .i64 o0_1,.int .i64 o0_2,.int .i64 o0_3,.int .i64 o0_4,.int .i64 o0_5,.int .i64 o0_6,.ro (.st (.pair (.int .i64) (.pair (.pair (.int .i64) (.int .i64)) (.pair .str (.pair (.pair (.pair (.int .i64) (.int .i64)) .str) (.pair (.pair (.int .i64) (.int .i64)) .str)))))) o0_7,.ro .bool o0_8],.cells [.int .i64 o1_0,.int .i64 o1_1,.int .i64 o1_2,.int .i64 o1_3,.int .i64 o1_4,.int .i64 o1_5,.int .i64 o1_6,.ro (.st (.pair (.int .i64) (.pair (.pair (.int .i64) (.int .i64)) (.pair .str (.pair (.pair (.pair (.int .i64) (.int .i64)) .str) (.pair (.pair (.int .i64) (.int .i64)) .str)))))) o1_7,.ro .bool o1_8]],blk:=40962 }
def zxh (s:St):Option {x:QI×wL // s=zn7 x.1 x.2}:=match s with
  | { env:=[(2,.ptr 0 0),(3,.ptr 1 0),(6,.int .i64 t6)],stk:=[[]],H:=[.cells [.int .i64 o0_0,.int .i64 o0_1,.int .i64 o0_2,.int .i64 o0_3,.int .i64 o0_4,.int .i64 o0_5,.int .i64 o0_6,.ro (.st (.pair (.int .i64) (.pair (.pair (.int .i64) (.int .i64)) (.pair .str (.pair (.pair (.pair (.int .i64) (.int .i64)) .str) (.pair (.pair (.int .i64) (.int .i64)) .str)))))) o0_7,.ro .bool o0_8],.cells [.int .i64 o1_0,.int .i64 o1_1,.int .i64 o1_2,.int .i64 o1_3,.int .i64 o1_4,.int .i64 o1_5,.int .i64 o1_6,.ro (.st (.pair (.int .i64) (.pair (.pair (.int .i64) (.int .i64)) (.pair .str (.pair (.pair (.pair (.int .i64) (.int .i64)) .str) (.pair (.pair (.int .i64) (.int .i64)) .str)))))) o1_7,.ro .bool o1_8]],blk:=40962 }=>some ⟨((o0_0,o0_1,o0_2,o0_3,o0_4,o0_5,o0_6,o0_7,o0_8,o1_0,o1_1,o1_2,o1_3,o1_4,o1_5,o1_6,o1_7,o1_8),t6),rfl⟩
  | _=>none
def zjj (s:St):Option (QI×wL):=pk (zxh s)
theorem zLP (s:St) (x:QI×wL) (h:zjj s=some x):s=zn7 x.1 x.2:=zt (o:=zxh s) h
def zkK:QI→(Ex→St→Ans)→zoq→Ans:=fun (o0_0,o0_1,o0_2,o0_3,o0_4,o0_5,o0_6,o0_7,o0_8,o1_0,o1_1,o1_2,o1_3,o1_4,o1_5,o1_6,o1_7,o1_8) K=>(Sum.elim (fun _=>K (Ex.ret) { env:=[(4,.bool (false))],stk:=[[]],H:=[],blk:=40963 }) (fun _=>K (Ex.exit 2) { env:=[],stk:=[[]],H:=[],blk:=40962 }))
def Qa {β:Type}:QI→wL→(wL→Option β)→(zoq→Option β)→Option β:=fun (o0_0,o0_1,o0_2,o0_3,o0_4,o0_5,o0_6,o0_7,o0_8,o1_0,o1_1,o1_2,o1_3,o1_4,o1_5,o1_6,o1_7,o1_8) t6 next exit=>(bif decide (t6<(↑(List.length o0_8):Int)) then (za (nth o0_8 t6) fun x=>(za (nth o1_8 t6) fun x_2=>(bif !x == x_2 then (exit (Sum.inl ())) else (next (IntKind.wrap .i64 (t6+(1:Int))))))) else (exit (Sum.inr ())))
def Yt (i:QI) (v:wL):Option (wL ⊕ zoq):=Qa i v (fun v=>some (.inl v)) (fun y=>some (.inr y))
theorem zBH (i:QI) (v:wL) (next:wL→Ans) (exit:zoq→Ans):Qa i v next exit=za (Yt i v) (Sum.elim next exit):=by
  obtain ⟨o0_0,o0_1,o0_2,o0_3,o0_4,o0_5,o0_6,o0_7,o0_8,o1_0,o1_1,o1_2,o1_3,o1_4,o1_5,o1_6,o1_7,o1_8⟩:=i
  obtain z:=v
  simp only [Yt,Qa,zj,zh,zl,zc,zi,zm,zg,Sum.elim_inl,Sum.elim_inr]
theorem zEb (n:Nat) (i:QI) (v:wL) (K:Ex→St→Ans):zx Tryz.tab Wr zd (zy Tryz.tab Wr zd 0 64) (n+1) 66 zis (.loop zgg) (zD 0 (exk [] [4] [(2,[])]) K) (zn7 i v)=Qa i v (fun v'=>zx Tryz.tab Wr zd (zy Tryz.tab Wr zd 0 64) n 66 zis (.loop zgg) (zD 0 (exk [] [4] [(2,[])]) K) (zn7 i v')) (fun y=>zkK i K y):=by kernel_rfl
theorem zNe:zw Tryz.prog 66 (.loop zgg) (Zr zjj Yt zkK):=Zj mixed tabOk ziw 0 (exk [] [4] [(2,[])]) zDP zLP zEb zBH
noncomputable def zQh:(Ex→St→Ans)→St→Ans:=(Zr zjj Yt zkK)
theorem zUs:zw Tryz.prog 66 (.loop zgg) zQh:=zNe
noncomputable def zgo:Code:=zF [1,1,0,1,0,0] zKb
noncomputable def zhV:Ann := .at 0 [2,3,5] (.loop .none)
theorem zEH:zq Tryz.prog 66 (.loop zgo) zhV:=Zp (zb _ _ _)
abbrev jL:=(Int)×(Int)×(Int)×(Int)×(Int)×(Int)×(Int)×(List (Int×(Int×Int)×List UInt8×((Int×Int)×List UInt8)×(Int×Int)×List UInt8))×(List Bool)×(Int)×(Int)×(Int)×(Int)×(Int)×(Int)×(Int)×(List (Int×(Int×Int)×List UInt8×((Int×Int)×List UInt8)×(Int×Int)×List UInt8))×(List Bool)
abbrev zqi:=(Unit) ⊕ (Unit)
abbrev wB:=(Int)
def znd:jL→wB→St:=fun (o0_0,o0_1,o0_2,o0_3,o0_4,o0_5,o0_6,o0_7,o0_8,o1_0,o1_1,o1_2,o1_3,o1_4,o1_5,o1_6,o1_7,o1_8) t5=>{ env:=[(2,.ptr 0 0),(3,.ptr 1 0),(5,.int .i64 t5)],stk:=[[]],H:=[.cells [.int .i64 o0_0,.int .i64 o0_1,.int .i64 o0_2,.int .i64 o0_3,.int .i64 o0_4,.int .i64 o0_5,.int .i64 o0_6,.ro (.st (.pair (.int .i64) (.pair (.pair (.int .i64) (.int .i64)) (.pair .str (.pair (.pair (.pair (.int .i64) (.int .i64)) .str) (.pair (.pair (.int .i64) (.int .i64)) .str)))))) o0_7,.ro .bool o0_8],.cells [.int .i64 o1_0,.int .i64 o1_1,.int .i64 o1_2,.int .i64 o1_3,.int .i64 o1_4,.int .i64 o1_5,.int .i64 o1_6,.ro (.st (.pair (.int .i64) (.pair (.pair (.int .i64) (.int .i64)) (.pair .str (.pair (.pair (.pair (.int .i64) (.int .i64)) .str) (.pair (.pair (.int .i64) (.int .i64)) .str)))))) o1_7,.ro .bool o1_8]],blk:=40960 }
def zwy (s:St):Option {x:jL×wB // s=znd x.1 x.2}:=match s with
  | { env:=[(2,.ptr 0 0),(3,.ptr 1 0),(5,.int .i64 t5)],stk:=[[]],H:=[.cells [.int .i64 o0_0,.int .i64 o0_1,.int .i64 o0_2,.int .i64 o0_3,.int .i64 o0_4,.int .i64 o0_5,.int .i64 o0_6,.ro (.st (.pair (.int .i64) (.pair (.pair (.int .i64) (.int .i64)) (.pair .str (.pair (.pair (.pair (.int .i64) (.int .i64)) .str) (.pair (.pair (.int .i64) (.int .i64)) .str)))))) o0_7,.ro .bool o0_8],.cells [.int .i64 o1_0,.int .i64 o1_1,.int .i64 o1_2,.int .i64 o1_3,.int .i64 o1_4,.int .i64 o1_5,.int .i64 o1_6,.ro (.st (.pair (.int .i64) (.pair (.pair (.int .i64) (.int .i64)) (.pair .str (.pair (.pair (.pair (.int .i64) (.int .i64)) .str) (.pair (.pair (.int .i64) (.int .i64)) .str)))))) o1_7,.ro .bool o1_8]],blk:=40960 }=>some ⟨((o0_0,o0_1,o0_2,o0_3,o0_4,o0_5,o0_6,o0_7,o0_8,o1_0,o1_1,o1_2,o1_3,o1_4,o1_5,o1_6,o1_7,o1_8),t5),rfl⟩
  | _=>none
def zkS (s:St):Option (jL×wB):=pk (zwy s)
theorem zKL (s:St) (x:jL×wB) (h:zkS s=some x):s=znd x.1 x.2:=zt (o:=zwy s) h
def zkU:jL→(Ex→St→Ans)→zqi→Ans:=fun (o0_0,o0_1,o0_2,o0_3,o0_4,o0_5,o0_6,o0_7,o0_8,o1_0,o1_1,o1_2,o1_3,o1_4,o1_5,o1_6,o1_7,o1_8) K=>(Sum.elim (fun _=>K (Ex.ret) { env:=[(4,.bool (false))],stk:=[[]],H:=[],blk:=40961 }) (fun _=>K (Ex.exit 0) { env:=[(2,.ptr 0 0),(3,.ptr 1 0)],stk:=[[]],H:=[.cells [.int .i64 o0_0,.int .i64 o0_1,.int .i64 o0_2,.int .i64 o0_3,.int .i64 o0_4,.int .i64 o0_5,.int .i64 o0_6,.ro (.st (.pair (.int .i64) (.pair (.pair (.int .i64) (.int .i64)) (.pair .str (.pair (.pair (.pair (.int .i64) (.int .i64)) .str) (.pair (.pair (.int .i64) (.int .i64)) .str)))))) o0_7,.ro .bool o0_8],.cells [.int .i64 o1_0,.int .i64 o1_1,.int .i64 o1_2,.int .i64 o1_3,.int .i64 o1_4,.int .i64 o1_5,.int .i64 o1_6,.ro (.st (.pair (.int .i64) (.pair (.pair (.int .i64) (.int .i64)) (.pair .str (.pair (.pair (.pair (.int .i64) (.int .i64)) .str) (.pair (.pair (.int .i64) (.int .i64)) .str)))))) o1_7,.ro .bool o1_8]],blk:=40960 }))
def QM {β:Type}:jL→wB→(wB→Option β)→(zqi→Option β)→Option β:=fun (o0_0,o0_1,o0_2,o0_3,o0_4,o0_5,o0_6,o0_7,o0_8,o1_0,o1_1,o1_2,o1_3,o1_4,o1_5,o1_6,o1_7,o1_8) t5 next exit=>(bif decide (t5<(↑(List.length o0_7):Int)) then (za (nth o0_7 t5) fun x=>(za (nth o1_7 t5) fun x_2=>(bif !(x.fst == x_2.fst&&(x.snd.fst.fst == x_2.snd.fst.fst&&(x.snd.fst.snd == x_2.snd.fst.snd&&true)&&(x.snd.snd.fst == x_2.snd.snd.fst&&(x.snd.snd.snd.fst.fst.fst == x_2.snd.snd.snd.fst.fst.fst&&(x.snd.snd.snd.fst.fst.snd == x_2.snd.snd.snd.fst.fst.snd&&true)&&(x.snd.snd.snd.fst.snd == x_2.snd.snd.snd.fst.snd&&true)&&(x.snd.snd.snd.snd.fst.fst == x_2.snd.snd.snd.snd.fst.fst&&(x.snd.snd.snd.snd.fst.snd == x_2.snd.snd.snd.snd.fst.snd&&true)&&(x.snd.snd.snd.snd.snd == x_2.snd.snd.snd.snd.snd&&true)&&true))))) then (exit (Sum.inl ())) else (next (IntKind.wrap .i64 (t5+(1:Int))))))) else (exit (Sum.inr ())))
def Yl (i:jL) (v:wB):Option (wB ⊕ zqi):=QM i v (fun v=>some (.inl v)) (fun y=>some (.inr y))
theorem zA9 (i:jL) (v:wB) (next:wB→Ans) (exit:zqi→Ans):QM i v next exit=za (Yl i v) (Sum.elim next exit):=by
  obtain ⟨o0_0,o0_1,o0_2,o0_3,o0_4,o0_5,o0_6,o0_7,o0_8,o1_0,o1_1,o1_2,o1_3,o1_4,o1_5,o1_6,o1_7,o1_8⟩:=i
  obtain z:=v
  simp only [Yl,QM,zj,zh,zl,zc,zi,zm,zg,Sum.elim_inl,Sum.elim_inr]
theorem zFz (n:Nat) (i:jL) (v:wB) (K:Ex→St→Ans):zx Tryz.tab Wr zd (zy Tryz.tab Wr zd 0 64) (n+1) 66 zhV (.loop zgo) (zD 0 (exk [2,3] [4] [(0,[2,3])]) K) (znd i v)=QM i v (fun v'=>zx Tryz.tab Wr zd (zy Tryz.tab Wr zd 0 64) n 66 zhV (.loop zgo) (zD 0 (exk [2,3] [4] [(0,[2,3])]) K) (znd i v')) (fun y=>zkU i K y):=by kernel_rfl
theorem zOa:zw Tryz.prog 66 (.loop zgo) (Zr zkS Yl zkU):=Zj mixed tabOk ziw 0 (exk [2,3] [4] [(0,[2,3])]) zEH zKL zFz zA9
noncomputable def zPY:(Ex→St→Ans)→St→Ans:=(Zr zkS Yl zkU)
theorem zWS:zw Tryz.prog 66 (.loop zgo) zPY:=zOa
noncomputable def zps:Code:=zF [1,0,0] zKb
noncomputable def zu7:Ann := .none
theorem zEx:zq Tryz.prog 66 zps zu7:=(zb _ _ _)
abbrev Qp:=(Int)×(Int)×(Int)×(Int)×(Int)×(Int)×(Int)×(List (Int×(Int×Int)×List UInt8×((Int×Int)×List UInt8)×(Int×Int)×List UInt8))×(List Bool)×(Int)×(Int)×(Int)×(Int)×(Int)×(Int)×(Int)×(List (Int×(Int×Int)×List UInt8×((Int×Int)×List UInt8)×(Int×Int)×List UInt8))×(List Bool)
abbrev zov:=(Bool)
def zCw:Qp→St:=fun (o0_0,o0_1,o0_2,o0_3,o0_4,o0_5,o0_6,o0_7,o0_8,o1_0,o1_1,o1_2,o1_3,o1_4,o1_5,o1_6,o1_7,o1_8)=>{ env:=[(2,.ptr 0 0),(3,.ptr 1 0)],stk:=[[]],H:=[.cells [.int .i64 o0_0,.int .i64 o0_1,.int .i64 o0_2,.int .i64 o0_3,.int .i64 o0_4,.int .i64 o0_5,.int .i64 o0_6,.ro (.st (.pair (.int .i64) (.pair (.pair (.int .i64) (.int .i64)) (.pair .str (.pair (.pair (.pair (.int .i64) (.int .i64)) .str) (.pair (.pair (.int .i64) (.int .i64)) .str)))))) o0_7,.ro .bool o0_8],.cells [.int .i64 o1_0,.int .i64 o1_1,.int .i64 o1_2,.int .i64 o1_3,.int .i64 o1_4,.int .i64 o1_5,.int .i64 o1_6,.ro (.st (.pair (.int .i64) (.pair (.pair (.int .i64) (.int .i64)) (.pair .str (.pair (.pair (.pair (.int .i64) (.int .i64)) .str) (.pair (.pair (.int .i64) (.int .i64)) .str)))))) o1_7,.ro .bool o1_8]],blk:=40960 }
def zvp (s:St):Option {x:Qp // s=zCw x}:=match s with
  | { env:=[(2,.ptr 0 0),(3,.ptr 1 0)],stk:=[[]],H:=[.cells [.int .i64 o0_0,.int .i64 o0_1,.int .i64 o0_2,.int .i64 o0_3,.int .i64 o0_4,.int .i64 o0_5,.int .i64 o0_6,.ro (.st (.pair (.int .i64) (.pair (.pair (.int .i64) (.int .i64)) (.pair .str (.pair (.pair (.pair (.int .i64) (.int .i64)) .str) (.pair (.pair (.int .i64) (.int .i64)) .str)))))) o0_7,.ro .bool o0_8],.cells [.int .i64 o1_0,.int .i64 o1_1,.int .i64 o1_2,.int .i64 o1_3,.int .i64 o1_4,.int .i64 o1_5,.int .i64 o1_6,.ro (.st (.pair (.int .i64) (.pair (.pair (.int .i64) (.int .i64)) (.pair .str (.pair (.pair (.pair (.int .i64) (.int .i64)) .str) (.pair (.pair (.int .i64) (.int .i64)) .str)))))) o1_7,.ro .bool o1_8]],blk:=40960 }=>some ⟨(o0_0,o0_1,o0_2,o0_3,o0_4,o0_5,o0_6,o0_7,o0_8,o1_0,o1_1,o1_2,o1_3,o1_4,o1_5,o1_6,o1_7,o1_8),rfl⟩
  | _=>none
def zjD (s:St):Option Qp:=pk (zvp s)
theorem zH7 (s:St) (x:Qp) (h:zjD s=some x):s=zCw x:=zt (o:=zvp s) h
def zk9:Qp→(Ex→St→Ans)→zov→Ans:=fun (o0_0,o0_1,o0_2,o0_3,o0_4,o0_5,o0_6,o0_7,o0_8,o1_0,o1_1,o1_2,o1_3,o1_4,o1_5,o1_6,o1_7,o1_8) K=>fun t29_y=>K (Ex.norm) { env:=[(2,.ptr 0 0),(3,.ptr 1 0),(29,.bool t29_y)],stk:=[[]],H:=[.cells [.int .i64 o0_0,.int .i64 o0_1,.int .i64 o0_2,.int .i64 o0_3,.int .i64 o0_4,.int .i64 o0_5,.int .i64 o0_6,.ro (.st (.pair (.int .i64) (.pair (.pair (.int .i64) (.int .i64)) (.pair .str (.pair (.pair (.pair (.int .i64) (.int .i64)) .str) (.pair (.pair (.int .i64) (.int .i64)) .str)))))) o0_7,.ro .bool o0_8],.cells [.int .i64 o1_0,.int .i64 o1_1,.int .i64 o1_2,.int .i64 o1_3,.int .i64 o1_4,.int .i64 o1_5,.int .i64 o1_6,.ro (.st (.pair (.int .i64) (.pair (.pair (.int .i64) (.int .i64)) (.pair .str (.pair (.pair (.pair (.int .i64) (.int .i64)) .str) (.pair (.pair (.int .i64) (.int .i64)) .str)))))) o1_7,.ro .bool o1_8]],blk:=40960 }
def zbb {β:Type}:Qp→(zov→Option β)→Option β:=fun (o0_0,o0_1,o0_2,o0_3,o0_4,o0_5,o0_6,o0_7,o0_8,o1_0,o1_1,o1_2,o1_3,o1_4,o1_5,o1_6,o1_7,o1_8) exit=>(bif !(o0_0 == o1_0&&(o0_1 == o1_1&&(o0_2 == o1_2&&(o0_3 == o1_3&&(o0_4 == o1_4&&(o0_5 == o1_5&&(o0_6 == o1_6&&true))&&true))))) then (exit (true)) else (bif (↑(List.length o0_7):Int) != (↑(List.length o1_7):Int) then (exit (true)) else (exit ((↑(List.length o0_8):Int) != (↑(List.length o1_8):Int)))))
def WO (i:Qp):Option zov:=zbb i some
theorem zCn (i:Qp) (k:zov→Ans):zbb i k=za (WO i) k:=by
  obtain ⟨o0_0,o0_1,o0_2,o0_3,o0_4,o0_5,o0_6,o0_7,o0_8,o1_0,o1_1,o1_2,o1_3,o1_4,o1_5,o1_6,o1_7,o1_8⟩:=i
  simp only [WO,zbb,zj,zh,zl,zc,zi,zm,zg]
theorem zD1 (i:Qp) (K:Ex→St→Ans):zx Tryz.tab Wr zd (zy Tryz.tab Wr zd 0 64) 70 66 zu7 zps (zD 0 (exk [2,3,29] [4] []) K) (zCw i)=zbb i (zk9 i K):=by kernel_rfl
theorem zNB:zw Tryz.prog 66 zps (zH zjD WO zk9):=zE mixed tabOk ziw 0 (exk [2,3,29] [4] []) zEx zH7 zD1 zCn
noncomputable def zP3:(Ex→St→Ans)→St→Ans:=(zH zjD WO zk9)
theorem zVU:zw Tryz.prog 66 zps zP3:=zNB
noncomputable def zX4:Ann:=(.seq .none (.seq (.seq (.cut 0 [2,3] zP3) .none) (.seq (.seq .none (.block (.cut 0 [2,3,5] zPY))) (.seq (.seq .none (.block (.cut 0 [2,3,6] zQh))) .none))))
theorem z0V:zq Tryz.prog 66 zKb zX4:=⟨(zb _ _ _),⟨⟨zVU,(zb _ _ _)⟩,⟨⟨(zb _ _ _),zWS⟩,⟨⟨(zb _ _ _),zUs⟩,(zb _ _ _)⟩⟩⟩⟩
abbrev zeh:=(Int)×(Int)×(Int)×(Int)×(Int)×(Int)×(Int)×(List (Int×(Int×Int)×List UInt8×((Int×Int)×List UInt8)×(Int×Int)×List UInt8))×(List Bool)×(Int)×(Int)×(Int)×(Int)×(Int)×(Int)×(Int)×(List (Int×(Int×Int)×List UInt8×((Int×Int)×List UInt8)×(Int×Int)×List UInt8))×(List Bool)
abbrev zIj:=(Bool)
def zxf {β:Type}:zeh→(zIj→Option β)→Option β:=fun (a0_0,a0_1,a0_2,a0_3,a0_4,a0_5,a0_6,a0_7,a0_8,a1_0,a1_1,a1_2,a1_3,a1_4,a1_5,a1_6,a1_7,a1_8) exit=>(za (WO (a0_0,a0_1,a0_2,a0_3,a0_4,a0_5,a0_6,a0_7,a0_8,a1_0,a1_1,a1_2,a1_3,a1_4,a1_5,a1_6,a1_7,a1_8)) fun t29=>(bif t29 then (exit (false)) else (za (zP (Yl (a0_0,a0_1,a0_2,a0_3,a0_4,a0_5,a0_6,a0_7,a0_8,a1_0,a1_1,a1_2,a1_3,a1_4,a1_5,a1_6,a1_7,a1_8)) zZ ((0:Int))) (Sum.elim (fun _=>(exit (false))) (fun _=>(za (zP (Yt (a0_0,a0_1,a0_2,a0_3,a0_4,a0_5,a0_6,a0_7,a0_8,a1_0,a1_1,a1_2,a1_3,a1_4,a1_5,a1_6,a1_7,a1_8)) zZ ((0:Int))) (Sum.elim (fun _=>(exit (false))) (fun _=>(exit (true))))))))))
def j3 (a:zeh):Option zIj:=zxf a some
theorem zYu (a:zeh) (k:zIj→Ans):zxf a k=za (j3 a) k:=by
  obtain ⟨a0_0,a0_1,a0_2,a0_3,a0_4,a0_5,a0_6,a0_7,a0_8,a1_0,a1_1,a1_2,a1_3,a1_4,a1_5,a1_6,a1_7,a1_8⟩:=a
  simp only [j3,zxf,zj,zh,zl,zc,zi,zm,zg]
def zzV:zeh→List AV:=fun (a0_0,a0_1,a0_2,a0_3,a0_4,a0_5,a0_6,a0_7,a0_8,a1_0,a1_1,a1_2,a1_3,a1_4,a1_5,a1_6,a1_7,a1_8)=>[.agg [.int .i64 a0_0,.int .i64 a0_1,.int .i64 a0_2,.int .i64 a0_3,.int .i64 a0_4,.int .i64 a0_5,.int .i64 a0_6,.ro (.st (.pair (.int .i64) (.pair (.pair (.int .i64) (.int .i64)) (.pair .str (.pair (.pair (.pair (.int .i64) (.int .i64)) .str) (.pair (.pair (.int .i64) (.int .i64)) .str)))))) a0_7,.ro .bool a0_8],.agg [.int .i64 a1_0,.int .i64 a1_1,.int .i64 a1_2,.int .i64 a1_3,.int .i64 a1_4,.int .i64 a1_5,.int .i64 a1_6,.ro (.st (.pair (.int .i64) (.pair (.pair (.int .i64) (.int .i64)) (.pair .str (.pair (.pair (.pair (.int .i64) (.int .i64)) .str) (.pair (.pair (.int .i64) (.int .i64)) .str)))))) a1_7,.ro .bool a1_8]]
def zKO (l:List AV):Option {a:zeh // l=zzV a}:=match l with
  | [.agg [.int .i64 a0_0,.int .i64 a0_1,.int .i64 a0_2,.int .i64 a0_3,.int .i64 a0_4,.int .i64 a0_5,.int .i64 a0_6,.ro (.st (.pair (.int .i64) (.pair (.pair (.int .i64) (.int .i64)) (.pair .str (.pair (.pair (.pair (.int .i64) (.int .i64)) .str) (.pair (.pair (.int .i64) (.int .i64)) .str)))))) a0_7,.ro .bool a0_8],.agg [.int .i64 a1_0,.int .i64 a1_1,.int .i64 a1_2,.int .i64 a1_3,.int .i64 a1_4,.int .i64 a1_5,.int .i64 a1_6,.ro (.st (.pair (.int .i64) (.pair (.pair (.int .i64) (.int .i64)) (.pair .str (.pair (.pair (.pair (.int .i64) (.int .i64)) .str) (.pair (.pair (.int .i64) (.int .i64)) .str)))))) a1_7,.ro .bool a1_8]]=>some ⟨(a0_0,a0_1,a0_2,a0_3,a0_4,a0_5,a0_6,a0_7,a0_8,a1_0,a1_1,a1_2,a1_3,a1_4,a1_5,a1_6,a1_7,a1_8),rfl⟩
  | _=>none
def zRU (l:List AV):Option zeh:=pk (zKO l)
theorem zTN (l:List AV) (a:zeh) (h:zRU l=some a):l=zzV a:=zt (o:=zKO l) h
def zCH:zeh→zIj→AV:=fun (a0_0,a0_1,a0_2,a0_3,a0_4,a0_5,a0_6,a0_7,a0_8,a1_0,a1_1,a1_2,a1_3,a1_4,a1_5,a1_6,a1_7,a1_8)=>fun r_y => .bool r_y
theorem zWl : ∀(a:zeh) (y:zIj),(zCH a y).closed1=true:=by
  rintro ⟨a0_0,a0_1,a0_2,a0_3,a0_4,a0_5,a0_6,a0_7,a0_8,a1_0,a1_1,a1_2,a1_3,a1_4,a1_5,a1_6,a1_7,a1_8⟩ y <;> first | rfl | exact Empty.elim y
theorem z5h (a:zeh):fnE Tryz.tab Wr zd 0 70 10 Tryz.f10.ntmps Tryz.f10.results.toList zX4 zKb (zzV a) [] (fun v _=>some (v,[]))=zxf a (fun y=>some (zCH a y,[])):=by kernel_rfl
def Zb1 (a:zeh) (K:AV→Ans):Ans:=za (j3 a) fun y=>K (zCH a y)
def Zaq:List AV→(AV→Ans)→Ans:=fun l K=>za (zRU l) fun a=>Zb1 a K
theorem z9g:zM Tryz.prog 10 Zaq:=zL (hint:=zd) (d:=0) (n:=70) mixed tabOk ziw Tryz.func10 (zC (by kernel_rfl)) (by decide +kernel) z0V zTN z5h zYu zWl
end Go.Proofs.R9
namespace Go.Proofs.R9
open Go Go.AE Go.Plain
theorem zf6 {m:Nat} (h:m<4294967296):IntKind.wrap .u32 (m:Int)=(m:Int):=by
  simp [IntKind.wrap,IntKind.bits,IntKind.signed];omega
theorem zd8 (m:Nat):IntKind.wrap .u8 (m:Int)=((m % 256:Nat):Int):=by
  simp [IntKind.wrap,IntKind.bits,IntKind.signed]
theorem zlY {m:Nat} (h:m<4294967296):Int.toNat ((m:Int) % 4294967296)=m:=by omega
theorem zqc {m:Nat} (h:m<9223372036854775808):Int.toNat ((m:Int) % 18446744073709551616)=m:=by omega
theorem zbf {m:Nat} (h:m≤9223372036854775807):IntKind.wrap .i64 (m:Int)=(m:Int):=YS (by omega) (by omega)
theorem ziH (m p:Nat):Int.fdiv (m:Int) (p:Int)=((m / p:Nat):Int):=by rw [Int.fdiv_eq_ediv_of_nonneg _ (by omega)];rfl
theorem z47 (m p:Nat):Int.tdiv (m:Int) (p:Int)=((m / p:Nat):Int):=rfl
theorem zW9 {n:Nat} (h:n<4294967296):IntKind.wrap .u32 (((Int.toNat (Int.fdiv (n:Int) 2 % 4294967296) ^^^ Int.toNat (IntKind.wrap .u32 (((3988292384 &&&
    Int.toNat (IntKind.wrap .u32 ((0:Int) - IntKind.wrap .u32 (((Int.toNat ((n:Int) % 4294967296) &&& 1:Nat)):Int)) % 4294967296):Nat)):Int) % 4294967296):Nat)):Int)=((Z9 n:Nat):Int):=by
  have e1:Int.fdiv (n:Int) 2=((n / 2:Nat):Int):=ziH n 2
  rw [e1,zlY (m:=n / 2) (by omega),zlY h,Nat.and_one_is_mod]
  have hlt:=JU (n:=n) (by omega)
  unfold Z9 at hlt ⊢
  have hn:n % 2=0∨n % 2=1:=by omega
  rcases hn with hn | hn <;> rw [hn] at hlt ⊢
  · have:Int.toNat (IntKind.wrap .u32 (((3988292384 &&& Int.toNat (IntKind.wrap .u32 ((0:Int) - IntKind.wrap .u32 ((0:Nat):Int)) % 4294967296):Nat)):Int) % 4294967296)=0:=by decide
    rw [this]
    exact zf6 hlt
  · have:Int.toNat (IntKind.wrap .u32 (((3988292384 &&& Int.toNat (IntKind.wrap .u32 ((0:Int) - IntKind.wrap .u32 ((1:Nat):Int)) % 4294967296):Nat)):Int) % 4294967296)=zyH:=by decide
    rw [this]
    exact zf6 hlt
theorem zDq (k n:Nat):ya (k+1) n=Z9 (ya k n):=by rw [← zr2 k 1];rfl
theorem zCu {n c:Nat} (hn:n<4294967296) (hc:c<256):zpJ ((n:Int),(c:Int))=some ((y8 n c:Nat):Int):=by
  have hx:n ^^^ c<4294967296:=Nat.xor_lt_two_pow (n:=32) hn (by omega)
  have key : ∃y,zP (Y0 ()) zZ (((n ^^^ c:Nat):Int),(0:Int))=some y∧y=((y8 n c:Nat):Int):=by
    refine YY (fun j v=>j≤8∧v=(((ya j (n ^^^ c):Nat):Int),(j:Int))) 8 _ ?_ ⟨by omega,rfl⟩ (by omega)
    rintro j v ⟨hj,rfl⟩
    have hb:=zpF j (n:=n ^^^ c) hx
    by_cases h8:j<8
    · left
      refine ⟨_,?_,h8,by omega,rfl⟩
      simp only [Y0,JG,zo (show (j:Int)<8 by omega),cond_true]
      rw [zW9 hb,Zd (by omega),zDq]
    · right
      obtain rfl:j=8:=by omega
      refine ⟨_,?_,rfl⟩
      simp only [Y0,JG,zn (show ¬((8:Nat):Int)<8 by omega),cond_false]
      rfl
  obtain ⟨y,hy,rfl⟩:=key
  have e:IntKind.wrap .u32 (((Int.toNat ((n:Int) % 4294967296) ^^^ Int.toNat (IntKind.wrap .u32 (c:Int) % 4294967296):Nat)):Int)=((n ^^^ c:Nat):Int):=by
    rw [zlY hn,zf6 (m:=c) (by omega),zlY (m:=c) (by omega),zf6 hx]
  simp only [zpJ,zHL]
  rw [e,hy]
  rfl
theorem zJY (m:Nat) {s:List UInt8} {j:Nat} {c:UInt8} (h:s[j]? = some c):Y9 m (s.take (j+1))=y8 (Y9 m (s.take j)) c.toNat:=by
  rw [List.take_add_one,h,Qb];rfl
theorem z8I {n:Nat} (hn:n<4294967296):IntKind.wrap .u32 (((Int.toNat ((n:Int) % 4294967296) ^^^ 4294967295:Nat)):Int)=((n ^^^ yf:Nat):Int):=by
  rw [zlY hn,zf6 (Nat.xor_lt_two_pow (n:=32) hn (by decide))]
  rfl
theorem zMG (s:List UInt8) (hs:s.length≤1000000000000):znz s=some ((crc s:Nat):Int):=by
  have key : ∃y,zP (Yc (s,(s.length:Int),0)) zZ (((yf:Nat):Int),((0:Nat):Int))=some y∧y=((Y9 yf s:Nat):Int):=by
    refine y0 s (fun j (_:Unit)=>(((Y9 yf (s.take j):Nat):Int),(j:Int))) (fun _ _=>True) _ ?_ ?_ (s0:=()) trivial (by omega)
    · intro j c _ hj hlt _
      left
      refine ⟨(),?_,trivial⟩
      have hr:=zaB (s.take j) (n:=yf) (by decide)
      simp only [Yc,Ju,zo (show (j:Int)<(s.length:Int) by omega),cond_true,Z6 hj,zc,Zd (show j<9223372036854775807 by omega),zCu hr c.toNat_lt,zJY yf hj]
    · intro _ _
      simp only [Yc,Ju,zn (show ¬(s.length:Int)<(s.length:Int) by omega),cond_false]
      exact ⟨_,rfl,by rw [List.take_length]⟩
  obtain ⟨y,hy,rfl⟩:=key
  have hr:=zaB s (n:=yf) (by decide)
  have hc:Y9 yf s ^^^ yf<4294967296:=zse s
  have h0:IntKind.wrap .u32 (((Int.toNat ((0:Int) % 4294967296) ^^^ 4294967295:Nat)):Int)=((yf:Nat):Int):=by decide
  simp only [znz,zJ1,zwY,zME,zuR,zJU,zs8,zNa,zc]
  have hy':zP (Yc (s,(s.length:Int),0)) zZ (((yf:Nat):Int),0)=_:=hy
  rw [h0,hy']
  simp only [zc]
  rw [z8I hr,zbf (by omega)]
  rfl
theorem zG1 (n p:Nat):UInt8.ofNat (Int.toNat (IntKind.wrap .u8 (Int.fdiv (n:Int) (p:Int))))=UInt8.ofNat (n / p % 256):=by
  rw [ziH,zd8]
  rfl
theorem wD (s:List UInt8) (hs:s.length≤1000000000000):zbX s=some (tail s):=by
  simp only [zbX,zLD,zMG s hs,zc,Qg,zb6,Q6,zce,wH,Jf,wy,Ja,wt,j1,wx,Jb,unP]
  have b0:=zG1 (crc s) 1
  have b1:=zG1 (crc s) 256
  have b2:=zG1 (crc s) 65536
  have b3:=zG1 (crc s) 16777216
  simp only [Int.cast_ofNat_Int] at b0 b1 b2 b3
  unfold Zl tail le4
  simp only [List.map_cons,List.map_nil]
  rw [b0,b1,b2,b3,Nat.div_one]
theorem zZz (t0:List UInt8) {n:Nat} (t4 t5:Int) (h:n<4294967296):wl (t0,(n:Int),t4,t5)=some ((Z9 n:Nat):Int):=by
  simp only [wl,zax]
  have e1:Int.tmod (n:Int) 2=((n % 2:Nat):Int):=rfl
  have e2:Int.tdiv (n:Int) 2=((n / 2:Nat):Int):=rfl
  have hlt:=JU (n:=n) (by omega)
  rw [e1,e2,zbf (m:=n / 2) (by omega),zqc (m:=n / 2) (by omega)]
  change (bif (((n % 2:Nat):Int) == 1) then some (IntKind.wrap .i64 ((n / 2 ^^^ zyH:Nat):Int)) else some ((n / 2:Nat):Int))=_
  unfold Z9 at hlt ⊢
  by_cases hn:n % 2=1
  · rw [if_pos hn] at hlt ⊢
    have:(((n % 2:Nat):Int) == 1)=true:=by rw [hn];rfl
    rw [this,cond_true,zbf (by omega)]
  · rw [if_neg hn] at hlt ⊢
    have:(((n % 2:Nat):Int) == 1)=false:=by rw [beq_eq_false_iff_ne];omega
    rw [this,cond_false,Nat.xor_zero]
theorem zNI (s:List UInt8) (hs:s.length≤1000000000000):zhx s=some ((crc s:Nat):Int):=by
  have inner : ∀(t4:Int) {n:Nat},n<4294967296→zP (yR (s,t4)) zZ ((n:Int),0)=some ((ya 8 n:Nat):Int):=by
    intro t4 n hn
    have key : ∃y,zP (yR (s,t4)) zZ ((n:Int),((0:Nat):Int))=some y∧y=((ya 8 n:Nat):Int):=by
      refine YY (fun j v=>j≤8∧v=(((ya j n:Nat):Int),(j:Int))) 8 _ ?_ ⟨by omega,rfl⟩ (by omega)
      rintro j v ⟨hj,rfl⟩
      by_cases h8:j<8
      · left
        refine ⟨_,?_,h8,by omega,rfl⟩
        simp only [yR,je,zo (show (j:Int)<8 by omega),cond_true,zZz _ _ _ (zpF j hn),zc,Zd (show j<9223372036854775807 by omega),zDq]
      · right
        obtain rfl:j=8:=by omega
        simp only [yR,je,zn (show ¬((8:Nat):Int)<8 by omega),cond_false]
        exact ⟨_,rfl,rfl⟩
    obtain ⟨y,hy,rfl⟩:=key
    exact hy
  have key : ∃y,zP (y1 s) zZ (((yf:Nat):Int),((0:Nat):Int))=some y∧y=((Y9 yf s:Nat):Int):=by
    refine y0 s (fun j (_:Unit)=>(((Y9 yf (s.take j):Nat):Int),(j:Int))) (fun _ _=>True) _ ?_ ?_ (s0:=()) trivial (by omega)
    · intro j c _ hj hlt _
      left
      refine ⟨(),?_,trivial⟩
      have hr:=zaB (s.take j) (n:=yf) (by decide)
      have hc:c.toNat<256:=c.toNat_lt
      have hx:Y9 yf (s.take j) ^^^ c.toNat<4294967296:=Nat.xor_lt_two_pow (n:=32) hr (by omega)
      simp only [y1,jk,zo (show (j:Int)<(s.length:Int) by omega),cond_true,Z6 hj,zc,Zd (show j<9223372036854775807 by omega),zJY yf hj]
      rw [zbf (m:=c.toNat) (by omega),zqc (m:=Y9 yf (s.take j)) (by omega),zqc (m:=c.toNat) (by omega),zbf (by omega),inner _ hx]
      rfl
    · intro _ _
      simp only [y1,jk,zn (show ¬(s.length:Int)<(s.length:Int) by omega),cond_false]
      exact ⟨_,rfl,by rw [List.take_length]⟩
  obtain ⟨y,hy,rfl⟩:=key
  have hy':zP (y1 s) zZ ((4294967295:Int),0)=_:=hy
  have hr:=zaB s (n:=yf) (by decide)
  have hc:=zse s
  simp only [zhx,zw9,hy',zc]
  rw [zqc (m:=Y9 yf s) (by omega)]
  change some (IntKind.wrap .i64 ((crc s:Nat):Int))=_
  rw [zbf (by omega)]
theorem zcJ (s:List UInt8) (hs:s.length≤1000000000000):zcr s=some (tail s):=by
  simp only [zcr,zw2,zNI s hs,zc]
  have hc:=zse s
  have e : ∀p:Nat,p≤16777216→IntKind.wrap .i64 (Int.tdiv ((crc s:Nat):Int) (p:Int))=((crc s / p:Nat):Int):=fun p _=>by
    rw [z47,zbf]
    have:=Nat.div_le_self (crc s) p
    omega
  have e1:=e 256 (by omega)
  have e2:=e 65536 (by omega)
  have e3:=e 16777216 (by omega)
  simp only [Int.cast_ofNat_Int] at e1 e2 e3
  rw [e1,e2,e3]
  have m : ∀n:Nat,Int.tmod (n:Int) 256=((n % 256:Nat):Int):=fun n=>rfl
  rw [m,m,m,m,zd8,zd8,zd8,zd8]
  unfold Zl tail le4
  simp only [List.map_cons,List.map_nil,Int.toNat_natCast,Nat.mod_mod]
theorem zqB : ∀n:Nat,Lib.repeatL [0] n=List.replicate n 0
  | 0=>rfl
  | n+1=>by rw [Lib.repeatL,zqB n,List.replicate_succ];rfl
theorem zGt (s:List UInt8) (hs:s.length≤1000000000000):zhc s=some (Jg s):=by
  have e:Int.tmod (s.length:Int) 64=((s.length % 64:Nat):Int):=rfl
  simp only [zhc,zw1,e]
  by_cases h:s.length % 64=0
  · rw [zn (by omega),cond_false,Jg,h]
    simp
  · have e2:IntKind.wrap .i64 ((64:Int) - ((s.length % 64:Nat):Int))=((64 - s.length % 64:Nat):Int):=by rw [YS (by omega) (by omega)];omega
    rw [zo (by omega),cond_true,e2]
    have:Ya ([0],((64 - s.length % 64:Nat):Int))=some (List.replicate (64 - s.length % 64) 0):=by
      unfold Ya
      rw [zqB]
      simp only [Int.toNat_natCast,List.length_cons,List.length_nil]
      rw [zo (by omega),zo (by omega),Zf (by omega)]
      rfl
    rw [this]
    simp only [zc]
    rw [Zf (by rw [List.length_replicate];omega),cond_true,Jg,show (64 - s.length % 64) % 64=64 - s.length % 64 by omega]
theorem zIH (s:List UInt8) (hs:s.length≤1000000000000):zga s=some (Jg s):=by
  have key : ∃y,zP (we ()) zZ s=some y∧y=Jg s:=by
    refine YY (fun j v=>j≤(64 - s.length % 64) % 64∧v=s++List.replicate j 0) ((64 - s.length % 64) % 64) _ ?_ ⟨by omega,by simp⟩ (by omega)
    rintro j v ⟨hj,rfl⟩
    have hl:(s++List.replicate j (0:UInt8)).length=s.length+j:=by simp
    have e:Int.tmod ((s.length+j:Nat):Int) 64=(((s.length+j) % 64:Nat):Int):=rfl
    simp only [we,zaZ,hl,e]
    by_cases hlt:j<(64 - s.length % 64) % 64
    · left
      have e1:((((s.length+j) % 64:Nat):Int) != 0)=true:=by rw [bne_iff_ne];omega
      rw [e1,cond_true,Zf (by omega),cond_true]
      exact ⟨_,rfl,hlt,by omega,by rw [List.append_assoc,List.replicate_succ']⟩
    · right
      have e1:((((s.length+j) % 64:Nat):Int) != 0)=false:=by rw [bne_eq_false_iff_eq];omega
      rw [e1,cond_false]
      exact ⟨_,rfl,by rw [Jg,show j=(64 - s.length % 64) % 64 by omega]⟩
  obtain ⟨y,hy,rfl⟩:=key
  simp only [zga,ztY,hy,zc]
theorem zYt (k:Nat):(2:Nat) ^ (8*k)=256 ^ k:=by rw [Nat.pow_mul]
theorem zGs (n:Int) (k:Nat) (hk:1≤k∧k≤7):zgM (n,(k:Int))=some (decide (0≤n∧n<((256 ^ k:Nat):Int))):=by
  have w:IntKind.wrap .i64 ((8:Int)*(k:Int))=((8*k:Nat):Int):=by rw [YS (by omega) (by omega)];omega
  simp only [zgM,zwd,qp,zbc,zct,ziV,Yq,Wm,zc]
  rw [zo (show (k:Int)≥1 by omega),zo (show (k:Int)≤7 by omega),cond_true]
  simp only [zc,cond_true]
  by_cases h0:n≥0
  · rw [zo h0,cond_true,w,zn (by omega),cond_false]
    simp only [zc]
    obtain ⟨m,rfl⟩:=Int.eq_ofNat_of_zero_le h0
    have:min (Int.toNat ((8*k:Nat):Int)) 64=8*k:=by simp only [Int.toNat_natCast];omega
    rw [this]
    have:(2:Int) ^ (8*k)=((2 ^ (8*k):Nat):Int):=by simp
    rw [this,ziH,zYt]
    have hp:0<256 ^ k:=Nat.pow_pos (by omega)
    congr 1
    rw [Bool.eq_iff_iff,beq_iff_eq,decide_eq_true_eq]
    have:m / 256 ^ k=0↔m<256 ^ k:=Nat.div_eq_zero_iff_lt hp
    omega
  · rw [zn h0,cond_false]
    simp only [zc]
    rw [zn (by omega)]
def zG (s:List UInt8) (n:Int) (k:Nat):List UInt8:=if 0≤n∧n<((256 ^ k:Nat):Int) then s++be k n.toNat else s
theorem zX (s:List UInt8) (n:Int) (k:Nat):(zG s n k).length≤s.length+k:=by
  unfold zG;split
  · rw [List.length_append,zW];omega
  · omega
theorem zW2 (s:List UInt8):Zl (Zg s)=s:=by
  unfold Zl Zg
  rw [List.map_map]
  conv=>rhs;rw [← List.map_id s]
  refine List.map_congr_left fun c _ => ?_
  simp
theorem yx (s:List UInt8) (n:Int) (k:Nat) (hk:1≤k∧k≤7) (hs:s.length≤1000000000000):Zz (s,n,(k:Int))=some (zG s n k):=by
  simp only [Zz,zuN,zGs n k hk,zc]
  unfold zG
  by_cases hf:0≤n∧n<((256 ^ k:Nat):Int)
  · rw [if_pos hf,zo hf]
    obtain ⟨m,rfl⟩:=Int.eq_ofNat_of_zero_le hf.1
    simp only [Bool.not_true,cond_false,Int.toNat_natCast]
    rw [zo (show (0:Int)≤k by omega),zo (show (k:Int)≤k by omega),zo (show (1:Int)*k≤281474976710656 by omega),zo (show (k:Int)≤9223372036854775807 by omega)]
    simp only [Bool.and_self,cond_true,List.length_replicate]
    have key : ∃y,zP (yX (s,(m:Int),(k:Int),(k:Int))) zZ (((0:Nat):Int),List.replicate k (0:Int))=some y∧y=Zg (be k m):=by
      refine YY (fun j v=>j≤k∧v=((j:Int),(Zg (be k m)).take j++List.replicate (k - j) 0)) k _ ?_ ⟨by omega,by simp⟩ (by omega)
      rintro j v ⟨hj,rfl⟩
      by_cases hlt:j<k
      · left
        refine ⟨_,?_,hlt,by omega,rfl⟩
        have w1:IntKind.wrap .i64 ((k:Int) - 1)=((k - 1:Nat):Int):=by rw [YS (by omega) (by omega)];omega
        have w2:IntKind.wrap .i64 (((k - 1:Nat):Int) - (j:Int))=((k - 1 - j:Nat):Int):=by rw [YS (by omega) (by omega)];omega
        have w3:IntKind.wrap .i64 ((8:Int)*((k - 1 - j:Nat):Int))=((8*(k - 1 - j):Nat):Int):=by rw [YS (by omega) (by omega)];omega
        have hlen:((Zg (be k m)).take j++List.replicate (k - j) (0:Int)).length=k:=by simp [Zg,zW];omega
        have hget:((Zg (be k m)).take j++List.replicate (k - j) (0:Int))[j]? = some 0:=by
          rw [List.getElem?_append_right (by simp [Zg,zW];omega),List.getElem?_replicate,if_pos (by simp [Zg,zW];omega)]
        simp only [yX,jV,zo (show (j:Int)<(k:Int) by omega),cond_true,w1,w2,w3,zn (show ¬((8*(k - 1 - j):Nat):Int)<0 by omega),cond_false,hlen,
          yL (show (0:Int)≤(j:Int)∧(j:Int)<(k:Int) by omega),Int.toNat_natCast,hget,zc,Zd (show j<9223372036854775807 by omega)]
        have hm:min (8*(k - 1 - j)) 64=8*(k - 1 - j):=by omega
        have hp:(2:Int) ^ (8*(k - 1 - j))=((256 ^ (k - 1 - j):Nat):Int):=by rw [← zYt];simp
        rw [hm,hp,ziH,zd8]
        have hb:=zYP k m j hlt
        have hi:(Zg (be k m))[j]? = some ((m / 256 ^ (k - 1 - j) % 256:Nat):Int):=by
          unfold Zg
          rw [List.getElem?_map,hb]
          simp [zCS]
        congr 3
        apply List.ext_getElem?
        intro i
        have h1:(Zg (be k m)).length=k:=by simp [Zg,zW]
        rw [List.getElem?_set]
        by_cases hij:j=i
        · subst hij
          rw [if_pos rfl,if_pos (by rw [hlen];omega),List.getElem?_append_left (by rw [List.length_take];omega),List.getElem?_take_of_lt (by omega),hi]
        · rw [if_neg hij]
          by_cases hij2:i<j
          · rw [List.getElem?_append_left (by rw [List.length_take];omega),List.getElem?_append_left (by rw [List.length_take];omega),List.getElem?_take_of_lt hij2,List.getElem?_take_of_lt (by omega)]
          · rw [List.getElem?_append_right (by rw [List.length_take];omega),List.getElem?_append_right (by rw [List.length_take];omega),List.getElem?_replicate,List.getElem?_replicate,List.length_take,List.length_take]
            split <;> split <;> first | rfl | omega
      · right
        obtain rfl:j=k:=by omega
        simp only [yX,jV,zn (show ¬(j:Int)<(j:Int) by omega),cond_false]
        refine ⟨_,rfl,?_⟩
        rw [Nat.sub_self,List.replicate_zero,List.append_nil,List.take_of_length_le (by simp [Zg,zW])]
    obtain ⟨y,hy,rfl⟩:=key
    have hy':zP (yX (s,(m:Int),(k:Int),(k:Int))) zZ (0,List.replicate k (0:Int))=_:=hy
    rw [hy']
    simp only [zc,zW2,zW]
    rw [Zf (by omega),cond_true]
  · rw [if_neg hf,zn hf]
    rfl
theorem zE3 (n:Int) (k:Nat) (hk:1≤k∧k≤7) (hn : -9223372036854775808≤n∧n≤9223372036854775807):zg6 (n,(k:Int))=some (decide (0≤n∧n<((256 ^ k:Nat):Int))):=by
  simp only [zg6,zwe,WE,JP,zc]
  rw [zn (show ¬(k:Int)<1 by omega),zn (show ¬(k:Int)>7 by omega),cond_false,cond_false]
  simp only [zc]
  by_cases h0:n<0
  · rw [zo h0,cond_true,zn (by omega)]
  · rw [zn h0,cond_false]
    obtain ⟨m,rfl⟩:=Int.eq_ofNat_of_zero_le (show 0≤n by omega)
    have key : ∃y,zP (yT (k:Int)) zZ ((m:Int),((0:Nat):Int))=some y∧y=((m / 256 ^ k:Nat):Int):=by
      refine YY (fun j v=>j≤k∧v=(((m / 256 ^ j:Nat):Int),(j:Int))) k _ ?_ ⟨by omega,by simp⟩ (by omega)
      rintro j v ⟨hj,rfl⟩
      by_cases hlt:j<k
      · left
        refine ⟨_,?_,hlt,by omega,rfl⟩
        have e:Int.tdiv ((m / 256 ^ j:Nat):Int) 256=((m / 256 ^ (j+1):Nat):Int):=by
          rw [Nat.pow_succ,← Nat.div_div_eq_div_mul];rfl
        have hle:=Nat.div_le_self m (256 ^ (j+1))
        simp only [yT,QO,zo (show (j:Int)<(k:Int) by omega),cond_true,e,zbf (show m / 256 ^ (j+1)≤9223372036854775807 by omega),Zd (show j<9223372036854775807 by omega)]
      · right
        obtain rfl:j=k:=by omega
        simp only [yT,QO,zn (show ¬(j:Int)<(j:Int) by omega),cond_false]
        exact ⟨_,rfl,rfl⟩
    obtain ⟨y,hy,rfl⟩:=key
    have hy':zP (yT (k:Int)) zZ ((m:Int),0)=_:=hy
    rw [hy']
    simp only [zc]
    have hp:0<256 ^ k:=Nat.pow_pos (by omega)
    congr 1
    rw [Bool.eq_iff_iff,beq_iff_eq,decide_eq_true_eq,Int.natCast_eq_zero,Nat.div_eq_zero_iff_lt hp]
    omega
theorem yr (s:List UInt8) (n:Int) (k:Nat) (hk:1≤k∧k≤7) (hn : -9223372036854775808≤n∧n≤9223372036854775807) (hs:s.length≤1000000000000):Zw (s,n,(k:Int))=some (zG s n k):=by
  simp only [Zw,zsY,zE3 n k hk hn,zc]
  unfold zG
  by_cases hf:0≤n∧n<((256 ^ k:Nat):Int)
  · rw [if_pos hf,zo hf]
    obtain ⟨m,rfl⟩:=Int.eq_ofNat_of_zero_le hf.1
    simp only [Bool.not_true,cond_false,Int.toNat_natCast]
    have key : ∃y,zP (yW (s,(k:Int))) zZ ((m:Int),([]:List UInt8),((0:Nat):Int))=some y∧y=be k m:=by
      refine YY (fun j v=>j≤k∧v=(((m / 256 ^ j:Nat):Int),be j m,(j:Int))) k _ ?_ ⟨by omega,by simp [be]⟩ (by omega)
      rintro j v ⟨hj,rfl⟩
      by_cases hlt:j<k
      · left
        refine ⟨_,?_,hlt,by omega,rfl⟩
        have e:Int.tdiv ((m / 256 ^ j:Nat):Int) 256=((m / 256 ^ (j+1):Nat):Int):=by
          rw [Nat.pow_succ,← Nat.div_div_eq_div_mul];rfl
        have hle:=Nat.div_le_self m (256 ^ (j+1))
        have e2:IntKind.wrap .u8 (Int.tmod ((m / 256 ^ j:Nat):Int) 256)=((m / 256 ^ j % 256:Nat):Int):=by
          rw [show Int.tmod ((m / 256 ^ j:Nat):Int) 256=((m / 256 ^ j % 256:Nat):Int) from rfl,zd8,Nat.mod_mod]
        simp only [yW,Q7,zo (show (j:Int)<(k:Int) by omega),cond_true,e,e2,zbf (show m / 256 ^ (j+1)≤9223372036854775807 by omega),Zd (show j<9223372036854775807 by omega)]
        have e3:Zl [((m / 256 ^ j % 256:Nat):Int)]=[UInt8.ofNat (m / 256 ^ j % 256)]:=rfl
        rw [e3,List.length_singleton,zW,Zf (by omega),cond_true,be]
        rfl
      · right
        obtain rfl:j=k:=by omega
        simp only [yW,Q7,zn (show ¬(j:Int)<(j:Int) by omega),cond_false]
        exact ⟨_,rfl,rfl⟩
    obtain ⟨y,hy,rfl⟩:=key
    have hy':zP (yW (s,(k:Int))) zZ ((m:Int),[],0)=_:=hy
    rw [hy']
    simp only [zc,zW]
    rw [Zf (by omega),cond_true]
  · rw [if_neg hf,zn hf]
    rfl
end Go.Proofs.R9
namespace Go.Proofs.R9
open Go Go.AE Go.Plain
theorem qC (n:Nat) (r:List UInt8) (h:n≤r.length) (hl:r.length≤1000000000000):yK ((n:Int),r,0)=some (r.take n,r.drop n,0):=by
  simp only [yK,zhD,Ym,Wh]
  rw [zn (show ¬(n:Int)<0 by omega),cond_false,zn (show ¬(n:Int)>(r.length:Int) by omega),cond_false]
  simp only [zc]
  rw [yL (show (0:Int)≤(n:Int)∧(n:Int)<((r.length+1:Nat):Int) by omega)]
  rfl
theorem z8P (n c:Nat) (hc:c<256):(n*256) ||| c=256*n+c:=by
  have:=Nat.shiftLeft_add_eq_or_of_lt (i:=8) (b:=c) (by omega) n
  rw [Nat.shiftLeft_eq] at this
  simp only [show (2:Nat) ^ 8=256 from rfl] at this
  omega
theorem yF (k:Nat) (r:List UInt8) (hk:1≤k∧k≤7) (h:k≤r.length) (hl:r.length≤1000000000000):Z5 ((k:Int),r,0)=some (((num (r.take k):Nat):Int),r.drop k,0):=by
  simp only [Z5,zoC,zct,ziV,Yq,Wm,zc]
  rw [zo (show (k:Int)≥1 by omega),zo (show (k:Int)≤7 by omega),cond_true]
  simp only [zc,Bool.not_true,cond_false,qC k r h hl,unP]
  have hlen:(r.take k).length=k:=by rw [List.length_take];omega
  have hil:(Zg (r.take k)).length=k:=by rw [Zg,List.length_map,hlen]
  rw [Zf (by omega),cond_true,hil]
  have key : ∃y,zP (yY ((k:Int),r.drop k,0,Zg (r.take k))) zZ ((0:Int),((0:Nat):Int))=some y∧y=((num (r.take k):Nat):Int):=by
    refine YY (fun j v=>j≤k∧v=(((num (r.take j):Nat):Int),(j:Int))) k _ ?_ ⟨by omega,by simp [num]⟩ (by omega)
    rintro j v ⟨hj,rfl⟩
    by_cases hlt:j<k
    · left
      refine ⟨_,?_,hlt,by omega,rfl⟩
      have hget:r[j]? = some r[j]:=List.getElem?_eq_getElem (by omega)
      generalize r[j]=c at hget
      have hi:(Zg (r.take k))[j]? = some ((c.toNat:Nat):Int):=by
        rw [Zg,List.getElem?_map,List.getElem?_take_of_lt hlt,hget];rfl
      have hn:=zZA (r.take j)
      have hp:256 ^ (r.take j).length≤256 ^ 6:=Nat.pow_le_pow_right (by omega) (by rw [List.length_take];omega)
      have hc:c.toNat<256:=c.toNat_lt
      have e1:IntKind.wrap .i64 (((num (r.take j):Nat):Int)*256)=((num (r.take j)*256:Nat):Int):=by rw [YS (by omega) (by omega)];omega
      have e2:num (r.take (j+1))=256*num (r.take j)+c.toNat:=by rw [List.take_add_one,hget];exact z5O _ _
      simp only [yY,Qo,zo (show (j:Int)<(k:Int) by omega),cond_true,hil,yL (show (0:Int)≤(j:Int)∧(j:Int)<(k:Int) by omega),Int.toNat_natCast,hi,zc,e1,
        zbf (m:=c.toNat) (show c.toNat≤9223372036854775807 by omega),zqc (m:=num (r.take j)*256) (show num (r.take j)*256<9223372036854775808 by omega),zqc (m:=c.toNat) (show c.toNat<9223372036854775808 by omega),z8P _ _ hc,
        zbf (m:=256*num (r.take j)+c.toNat) (show 256*num (r.take j)+c.toNat≤9223372036854775807 by omega),Zd (show j<9223372036854775807 by omega),e2]
    · right
      obtain rfl:j=k:=by omega
      simp only [yY,Qo,zn (show ¬(j:Int)<(j:Int) by omega),cond_false]
      exact ⟨_,rfl,rfl⟩
  obtain ⟨y,hy,rfl⟩:=key
  have hy':zP (yY ((k:Int),r.drop k,0,Zg (r.take k))) zZ (0,0)=_:=hy
  rw [hy']
  rfl
end Go.Proofs.R9
namespace Go.Proofs.R9
open Go Go.AE Go.Plain
abbrev zrx (x s l:Int):Prop:=(1≤x∧x≤24)∧(1≤s∧s≤8)∧24≤l∧l≤200
abbrev zfQ (n r b c x s l:Int):Prop:=zrx x s l∧(0≤n∧n≤1)∧(0≤r∧r≤1)∧(0≤b∧b≤16777216)∧0≤c∧c<x
theorem zUz (n a b:Int):zcf (n,a,b)=some (decide (a≤n∧n≤b)):=by
  simp only [zcf,zwD,WM,JY]
  by_cases h:n≥a <;> simp [h,zc,show a≤n↔n≥a from Iff.rfl]
theorem z3a (x s l:Int):zgw (x,s,l)=some (if zrx x s l then 0 else 3):=by
  simp only [zgw,zvT,WZ,zaO,zUz,zc]
  unfold zrx
  by_cases h1:1≤x∧x≤24
  · by_cases h2:1≤s∧s≤8
    · by_cases h3:24≤l∧l≤200
      · rw [zo h1,zo h2,zo h3,if_pos ⟨h1,h2,h3⟩];rfl
      · rw [zo h1,zo h2,zn h3,if_neg (fun h=>h3 h.2.2)];rfl
    · rw [zo h1,zn h2,if_neg (fun h=>h2 h.2.1)];rfl
  · rw [zn h1,if_neg (fun h=>h1 h.1)];rfl
theorem zVf (n b:Int):JO (n,b)=some (decide (0≤n∧n≤b)):=by
  simp only [JO,zss,qo,JV]
  by_cases h:n≥0 <;> simp [h,zc,show 0≤n↔n≥0 from Iff.rfl]
def zbH (n r b c x s l:Int):Int:=if zfQ n r b c x s l then 0 else 3
theorem zCW (n r b c x s l:Int):zd5 (n,r,b,c,x,s,l)=some (zbH n r b c x s l):=by
  simp only [zd5,zsD,qj,zbn,zVf,z3a,zc]
  unfold zbH
  by_cases h0:zrx x s l
  · rw [if_pos h0,YS (show -9223372036854775808≤x - 1 by omega) (by omega)]
    by_cases h1:0≤n∧n≤1
    · by_cases h2:0≤r∧r≤1
      · by_cases h3:0≤b∧b≤16777216
        · by_cases h4:0≤c∧c≤x - 1
          · rw [zo h1,zo h2,zo h3,zo h4,if_pos ⟨h0,h1,h2,h3,by omega⟩];rfl
          · rw [zo h1,zo h2,zo h3,zn h4,if_neg (fun h=>h4 (by have:=h.2.2.2.2;omega))];rfl
        · rw [zo h1,zo h2,zn h3,if_neg (fun h=>h3 h.2.2.2.1)];rfl
      · rw [zo h1,zn h2,if_neg (fun h=>h2 h.2.2.1)];rfl
    · rw [zn h1,if_neg (fun h=>h1 h.2.1)];rfl
  · rw [if_neg h0,if_neg (fun h=>h0 h.1)];rfl
def Wf (n r b:Int):List UInt8:=zG (zG (zG [83] n 1) r 1) b 4
def zib (n r b c x s:Int):List UInt8:=zG (zG (zG (Wf n r b) c 1) x 1) s 1
def ZF (n r b c x s l:Int):List UInt8:=zG (zib n r b c x s) l 2
def ZO (n r b c x s l:Int):List UInt8:=Jg (ZF n r b c x s l++tail (ZF n r b c x s l))
def zdr (n r b c x s l:Int):List UInt8×Int:=if zfQ n r b c x s l then (ZO n r b c x s l,0) else ([],3)
theorem zr3 (n r b:Int):(Wf n r b).length≤7:=by
  unfold Wf
  have h1:=zX [83] n 1
  have h2:=zX (zG [83] n 1) r 1
  have h3:=zX (zG (zG [83] n 1) r 1) b 4
  simp only [List.length_cons,List.length_nil] at h1
  omega
theorem zAz (n r b c x s:Int):(zib n r b c x s).length≤10:=by
  unfold zib
  have h0:=zr3 n r b
  have h1:=zX (Wf n r b) c 1
  have h2:=zX (zG (Wf n r b) c 1) x 1
  have h3:=zX (zG (zG (Wf n r b) c 1) x 1) s 1
  omega
theorem zra (n r b c x s l:Int):(ZF n r b c x s l).length≤12:=by
  unfold ZF
  have h0:=zAz n r b c x s
  have h1:=zX (zib n r b c x s) l 2
  omega
theorem z4k (t:List UInt8) (n:Int) (k:Nat) (hk:1≤k∧k≤7) (ht:t.length≤100) {m:Int} (hm:m=(k:Int)):Zz (t,n,m)=some (zG t n k):=by
  subst hm;exact yx t n k hk (by omega)
theorem f1 (t:List UInt8) (n:Int) (ht:t.length≤100):Zz (t,n,1)=some (zG t n 1):=z4k t n 1 (by omega) ht rfl
theorem f2 (t:List UInt8) (n:Int) (ht:t.length≤100):Zz (t,n,2)=some (zG t n 2):=z4k t n 2 (by omega) ht rfl
theorem f4 (t:List UInt8) (n:Int) (ht:t.length≤100):Zz (t,n,4)=some (zG t n 4):=z4k t n 4 (by omega) ht rfl
theorem zVT (n r b c x s l:Int) (h:List UInt8) (hh:h.length≤10):zP (ZQ (3,n,r,b,c,x,s,l,[c,x,s])) zZ (h,0)=some (zG (zG (zG h c 1) x 1) s 1):=by
  have h1:=zX h c 1
  have h2:=zX (zG h c 1) x 1
  refine zi2 4 zZ _ _ (by unfold zZ;omega) ?_
  have st : ∀(j:Nat) (p:List UInt8) (v:Int),p.length≤100→j<3→[c,x,s][j]? = some v→ZQ (3,n,r,b,c,x,s,l,[c,x,s]) (p,(j:Int))=some (.inl (zG p v 1,((j+1:Nat):Int))):=by
    intro j p v hp hj hv
    simp only [ZQ,J8,zo (show (j:Int)<3 by omega),cond_true,yL (show (0:Int)≤(j:Int)∧(j:Int)<(([c,x,s].length:Nat):Int) by simp only [List.length_cons,List.length_nil];omega),Int.toNat_natCast,hv,zc,f1 p v hp]
    rw [Zd (by omega)]
  have s0:ZQ (3,n,r,b,c,x,s,l,[c,x,s]) (h,0)=some (.inl (zG h c 1,1)):=st 0 h c (by omega) (by omega) rfl
  have s1:ZQ (3,n,r,b,c,x,s,l,[c,x,s]) (zG h c 1,1)=some (.inl (zG (zG h c 1) x 1,2)):=st 1 _ x (by omega) (by omega) rfl
  have s2:ZQ (3,n,r,b,c,x,s,l,[c,x,s]) (zG (zG h c 1) x 1,2)=some (.inl (zG (zG (zG h c 1) x 1) s 1,3)):=st 2 _ s (by omega) (by omega) rfl
  have s3 : ∀t,ZQ (3,n,r,b,c,x,s,l,[c,x,s]) (t,3)=some (.inr t):=fun t=>rfl
  rw [zP,s0,zc,Sum.elim_inl,zP,s1,zc,Sum.elim_inl,zP,s2,zc,Sum.elim_inl,zP,s3,zc,Sum.elim_inr]
theorem zPQ (n r b c x s l:Int):ze1 (n,r,b,c,x,s,l)=some (zdr n r b c x s l):=by
  simp only [ze1,zt8,zCW,zc]
  unfold zdr zbH
  by_cases h:zfQ n r b c x s l
  · rw [if_pos h,if_pos h]
    have l1:=zX [83] n 1
    have l2:=zX (zG [83] n 1) r 1
    simp only [List.length_cons,List.length_nil] at l1
    have l3:=zr3 n r b
    have l4:=zAz n r b c x s
    have hb:=zra n r b c x s l
    have e3:Zz (zG (zG [83] n 1) r 1,b,4)=some (Wf n r b):=f4 _ b (by omega)
    have e5:Zz (zib n r b c x s,l,2)=some (ZF n r b c x s l):=f2 _ l (by omega)
    have lp:zP (ZQ (((([c,x,s]:List Int).length:Nat):Int),n,r,b,c,x,s,l,[c,x,s])) zZ (Wf n r b,0)=some (zib n r b c x s):=zVT n r b c x s l _ (by omega)
    simp only [bne_self_eq_false,cond_false,f1 [83] n (by simp),f1 (zG [83] n 1) r (by omega),e3,zc,lp,e5,
      wD _ (show (ZF n r b c x s l).length≤1000000000000 by omega),Zk,Zf (show (ZF n r b c x s l).length+4≤9223372036854775807 by omega),cond_true,
      zGt _ (show (ZF n r b c x s l++tail (ZF n r b c x s l)).length≤1000000000000 by rw [List.length_append,Zk];omega)]
    rfl
  · rw [if_neg h,if_neg h];rfl
end Go.Proofs.R9
namespace Go.Proofs.R9
open Go Go.AE Go.Plain
abbrev S8:=Int×Int×Int×Int×Int×Int×Int×Int
abbrev nS (t:List UInt8) (i k:Nat):Int:=((num ((t.drop i).take k):Nat):Int)
def zJa (p:List UInt8×Int) (t:List UInt8) (n r b c x s l:Int):S8:=if p=(t,0) then (n,r,b,c,x,s,l,0) else (0,0,0,0,0,0,0,4)
def zbJ (t:List UInt8):S8 :=
  if t.length≠64 then (0,0,0,0,0,0,0,12) else if t.take 1≠[83] then (0,0,0,0,0,0,0,4) else if (t.drop 12).take 4≠tail (t.take 12) then (0,0,0,0,0,0,0,5) else
    zJa (zdr (nS t 1 1) (nS t 2 1) (nS t 3 4) (nS t 7 1) (nS t 8 1) (nS t 9 1) (nS t 10 2)) t (nS t 1 1) (nS t 2 1) (nS t 3 4) (nS t 7 1) (nS t 8 1) (nS t 9 1) (nS t 10 2)
theorem z9i (p:List UInt8×Int) (t:List UInt8) (n r b c x s l:Int) :
    (za (bif p.2 != 0 then some true else some (!p.1 == t):Option Bool) fun w=>bif w then some ((0,0,0,0,0,0,0,4):S8) else some (n,r,b,c,x,s,l,0))=some (zJa p t n r b c x s l):=by
  obtain ⟨u,e⟩:=p
  unfold zJa
  by_cases he:e=0
  · subst he
    by_cases hs:u=t
    · subst hs;simp [zc]
    · have:(u == t)=false:=by simpa using hs
      simp [hs,this,zc]
  · have:(e != 0)=true:=by simpa using he
    simp [this,he,zc]
theorem zZm (t:List UInt8) (pp:List UInt8×Int) (n r b c x s l:Int) :
    (unP (fun r_0 r_1=>za (wg (t,r_0,r_1,n,r,b,c,x,s,l)) fun w=>bif w then some ((0,0,0,0,0,0,0,4):S8) else some (n,r,b,c,x,s,l,0)) pp:Option S8)=some (zJa pp t n r b c x s l):=by
  obtain ⟨u,e⟩:=pp
  simp only [unP,wg,zbl]
  exact z9i (u,e) t n r b c x s l
theorem z8n (t:List UInt8) (hl:t.length≤1000000000000):zge t=some (zbJ t):=by
  unfold zbJ
  simp only [zge,zvx]
  by_cases h64:t.length=64
  · have e1:((t.length:Int) != 64)=false:=by rw [h64];rfl
    rw [if_neg (by simpa using h64),e1,cond_false]
    simp only [Ws,zcU,zc]
    have b1:=qC 1 t (by omega) hl
    simp only [Int.cast_ofNat_Int] at b1
    rw [b1]
    simp only [zc,unP]
    by_cases hm:t.take 1=[83]
    · rw [if_neg (by simpa using hm),hm]
      have n1:=yF 1 (t.drop 1) (by omega) (by rw [List.length_drop];omega) (by rw [List.length_drop];omega)
      have n2:=yF 1 (t.drop 2) (by omega) (by rw [List.length_drop];omega) (by rw [List.length_drop];omega)
      have n3:=yF 4 (t.drop 3) (by omega) (by rw [List.length_drop];omega) (by rw [List.length_drop];omega)
      have n4:=yF 1 (t.drop 7) (by omega) (by rw [List.length_drop];omega) (by rw [List.length_drop];omega)
      have n5:=yF 1 (t.drop 8) (by omega) (by rw [List.length_drop];omega) (by rw [List.length_drop];omega)
      have n6:=yF 1 (t.drop 9) (by omega) (by rw [List.length_drop];omega) (by rw [List.length_drop];omega)
      have n7:=yF 2 (t.drop 10) (by omega) (by rw [List.length_drop];omega) (by rw [List.length_drop];omega)
      have b4:=qC 4 (t.drop 12) (by rw [List.length_drop];omega) (by rw [List.length_drop];omega)
      simp only [Int.cast_ofNat_Int,List.drop_drop,Nat.reduceAdd] at n1 n2 n3 n4 n5 n6 n7 b4
      simp only [beq_self_eq_true,Bool.not_true,cond_false,n1,n2,n3,n4,n5,n6,n7,zc,unP]
      rw [yL (show (0:Int)≤12∧(12:Int)<((t.length+1:Nat):Int) by omega),cond_true]
      simp only [wD _ (show (t.take 12).length≤1000000000000 by rw [List.length_take];omega),zc,Zk,Int.cast_ofNat_Int]
      rw [b4]
      simp only [zc,unP]
      generalize tail (t.take 12)=tl
      by_cases ht:(t.drop 12).take 4=tl
      · rw [if_neg (fun h=>h ht),ht,beq_self_eq_true,Bool.not_true,cond_false]
        rw [zPQ (nS t 1 1) (nS t 2 1) (nS t 3 4) (nS t 7 1) (nS t 8 1) (nS t 9 1) (nS t 10 2),zc]
        exact zZm t _ _ _ _ _ _ _ _
      · have:((t.drop 12).take 4 == tl)=false:=beq_eq_false_iff_ne.2 ht
        rw [if_pos ht,this]
        rfl
    · have:(t.take 1 == [83])=false:=by simpa using hm
      rw [if_pos (by simpa using hm),this]
      rfl
  · have e1:((t.length:Int) != 64)=true:=by rw [bne_iff_ne];omega
    rw [if_pos (by simpa using h64),e1]
    rfl
end Go.Proofs.R9
namespace Go.Proofs.R9
open Go Go.AE Go.Plain
abbrev zTx (n:Int):Prop := -9223372036854775808≤n∧n≤9223372036854775807
theorem z3q (x s l:Int):zht (x,s,l)=some (if zrx x s l then 0 else 3):=by
  simp only [zht,zwr,W7,JT]
  unfold zrx
  by_cases h1:x<1
  · rw [zo h1,if_neg (fun h=>by omega)];rfl
  rw [zn h1]
  by_cases h2:x>24
  · rw [zo h2,if_neg (fun h=>by omega)];rfl
  rw [zn h2]
  by_cases h3:s<1
  · rw [zo h3,if_neg (fun h=>by omega)];rfl
  rw [zn h3]
  by_cases h4:s>8
  · rw [zo h4,if_neg (fun h=>by omega)];rfl
  rw [zn h4]
  by_cases h5:l<24
  · rw [zo h5,if_neg (fun h=>by omega)];rfl
  rw [zn h5]
  by_cases h6:l>200
  · rw [zo h6,if_neg (fun h=>by omega)];rfl
  rw [zn h6,if_pos (by omega)];rfl
theorem zwX (n r b c x s l:Int):zdF (n,r,b,c,x,s,l)=some (zbH n r b c x s l):=by
  simp only [zdF,ztu,W9,JK,z3q,zc]
  unfold zbH
  by_cases h0:zrx x s l
  · rw [if_pos h0]
    by_cases h1:n<0
    · rw [zo h1,if_neg (fun h=>by have:=h.2.1;omega)];rfl
    rw [zn h1]
    by_cases h2:n>1
    · rw [zo h2,if_neg (fun h=>by have:=h.2.1;omega)];rfl
    rw [zn h2]
    by_cases h3:r<0
    · rw [zo h3,if_neg (fun h=>by have:=h.2.2.1;omega)];rfl
    rw [zn h3]
    by_cases h4:r>1
    · rw [zo h4,if_neg (fun h=>by have:=h.2.2.1;omega)];rfl
    rw [zn h4]
    by_cases h5:b<0
    · rw [zo h5,if_neg (fun h=>by have:=h.2.2.2.1;omega)];rfl
    rw [zn h5]
    by_cases h6:b>16777216
    · rw [zo h6,if_neg (fun h=>by have:=h.2.2.2.1;omega)];rfl
    rw [zn h6]
    by_cases h7:c<0
    · rw [zo h7,if_neg (fun h=>by have:=h.2.2.2.2;omega)];rfl
    rw [zn h7]
    by_cases h8:c≥x
    · rw [zo h8,if_neg (fun h=>by have:=h.2.2.2.2;omega)];rfl
    rw [zn h8,if_pos ⟨h0,by omega,by omega,by omega,by omega⟩];rfl
  · rw [if_neg h0,if_neg (fun h=>h0 h.1)];rfl
theorem z50 (t:List UInt8) (n:Int) (k:Nat) (hk:1≤k∧k≤7) (hn:zTx n) (ht:t.length≤100) {m:Int} (hm:m=(k:Int)):Zw (t,n,m)=some (zG t n k):=by
  subst hm;exact yr t n k hk hn (by omega)
theorem r1 (t:List UInt8) (n:Int) (hn:zTx n) (ht:t.length≤100):Zw (t,n,1)=some (zG t n 1):=z50 t n 1 (by omega) hn ht rfl
theorem r2 (t:List UInt8) (n:Int) (hn:zTx n) (ht:t.length≤100):Zw (t,n,2)=some (zG t n 2):=z50 t n 2 (by omega) hn ht rfl
theorem r4 (t:List UInt8) (n:Int) (hn:zTx n) (ht:t.length≤100):Zw (t,n,4)=some (zG t n 4):=z50 t n 4 (by omega) hn ht rfl
theorem z4A (n r b c x s l:Int):zf8 (n,r,b,c,x,s,l)=some (zdr n r b c x s l):=by
  simp only [zf8,ztv,zwX,zc]
  unfold zdr zbH
  by_cases h:zfQ n r b c x s l
  · rw [if_pos h,if_pos h]
    obtain ⟨hc,hn,hr,hb',hc'⟩:=h
    have l1:=zX [83] n 1
    have l2:=zX (zG [83] n 1) r 1
    simp only [List.length_cons,List.length_nil] at l1
    have l3:=zr3 n r b
    have l4:=zX (Wf n r b) c 1
    have l5:=zX (zG (Wf n r b) c 1) x 1
    have l6:=zAz n r b c x s
    have hb:=zra n r b c x s l
    have e3:Zw (zG (zG [83] n 1) r 1,b,4)=some (Wf n r b):=r4 _ b (by omega) (by omega)
    have e4:Zw (zG (zG (Wf n r b) c 1) x 1,s,1)=some (zib n r b c x s):=r1 _ s (by omega) (by omega)
    have e5:Zw (zib n r b c x s,l,2)=some (ZF n r b c x s l):=r2 _ l (by omega) (by omega)
    simp only [bne_self_eq_false,cond_false,r1 [83] n (by omega) (by simp),r1 (zG [83] n 1) r (by omega) (by omega),e3,zc,r1 (Wf n r b) c (by omega) (by omega),r1 (zG (Wf n r b) c 1) x (by omega) (by omega),e4,e5,
      zcJ _ (show (ZF n r b c x s l).length≤1000000000000 by omega),Zk,Zf (show (ZF n r b c x s l).length+4≤9223372036854775807 by omega),cond_true,
      zIH _ (show (ZF n r b c x s l++tail (ZF n r b c x s l)).length≤1000000000000 by rw [List.length_append,Zk];omega)]
    rfl
  · rw [if_neg h,if_neg h];rfl
end Go.Proofs.R9
namespace Go.Proofs.R9
open Go Go.AE Go.Plain
abbrev qU (a b:Int):Prop:=(0≤a∧a≤1125899906842624)∧(0≤b∧b≤1125899906842624)
abbrev InI (n:Int):Prop := -9223372036854775808≤n∧n≤9223372036854775807
theorem z1m (n b:Int):zeX (n,b)=some (decide (0≤n∧n≤b)):=by
  simp only [zeX,zwN,WX,zak]
  by_cases h:n≥0 <;> simp [h,zc,show 0≤n↔n≥0 from Iff.rfl]
theorem zM1 (a b:Int):zcy (a,b)=some (decide (qU a b)):=by
  simp only [zcy,zud,W6,J1,z1m,zc]
  by_cases h1:0≤a∧a≤1125899906842624
  · rw [zo h1,cond_true]
    show some _=some _
    congr 1
    rw [decide_eq_decide]
    exact ⟨fun h=>⟨h1,h⟩,fun h=>h.2⟩
  · rw [zn h1,cond_false,zn (fun h=>h1 h.1)]
    rfl
theorem zqV (a b:Int):zck (a,b)=some (decide (qU a b)):=by
  simp only [zck,ztQ,WW,zal]
  by_cases h1:a≥0 <;> by_cases h2:a≤1125899906842624 <;> by_cases h3:b≥0 <;>
    simp [h1,h2,h3,zc,show 0≤a↔a≥0 from Iff.rfl,show 0≤b↔b≥0 from Iff.rfl]
theorem z1Z (a b c d:Int):zel (a,b,c,d)=some (decide (c≤a∧d≤b)):=by
  simp only [zel,zt1,WY,za6]
  by_cases h:a≥c
  · rw [zo h,cond_true,zc]
    exact congrArg some (decide_eq_decide.2 ⟨fun h2=>⟨h,h2⟩,fun h2=>h2.2⟩)
  · rw [zn h,cond_false,zc,zn (fun h2=>h h2.1)]
theorem zMr (a b c d:Int):za9 (a,b,c,d)=some (decide (c≤a∧d≤b)):=by
  simp only [za9,zva,qr,zad]
  by_cases h:a≥c
  · rw [zo h,cond_true,zc]
    exact congrArg some (decide_eq_decide.2 ⟨fun h2=>⟨h,h2⟩,fun h2=>h2.2⟩)
  · rw [zn h,cond_false,zc,zn (fun h2=>h h2.1)]
def ziD (a b c d:Int):Int:=if c≤a∧d≤b then (if a≤c∧b≤d then 0 else 1) else if a≤c∧b≤d then 2 else 3
theorem zVO (a b c d:Int):zf5 (a,b,c,d)=some (ziD a b c d):=by
  simp only [zf5,zt7,z1Z,zc,WR,zaM,WS,zab]
  unfold ziD
  by_cases h1:c≤a∧d≤b
  · rw [zo h1,if_pos h1]
    by_cases h2:a≤c∧b≤d
    · rw [zo h2,if_pos h2];rfl
    · rw [zn h2,if_neg h2];rfl
  · rw [zn h1,if_neg h1]
    by_cases h2:a≤c∧b≤d
    · rw [zo h2,if_pos h2];rfl
    · rw [zn h2,if_neg h2];rfl
theorem zGG (a b c d:Int):zgj (a,b,c,d)=some (ziD a b c d):=by
  simp only [zgj,zvH,zMr,zc,qm,zaw,WG,zaL]
  unfold ziD
  by_cases h1:c≤a∧d≤b
  · rw [zo h1,if_pos h1]
    by_cases h2:a≤c∧b≤d
    · rw [zo h2,if_pos h2];rfl
    · rw [zn h2,if_neg h2];rfl
  · rw [zn h1,if_neg h1]
    by_cases h2:a≤c∧b≤d
    · rw [zo h2,if_pos h2];rfl
    · rw [zn h2,if_neg h2];rfl
theorem zTq {a b c d:Int} (h:ziD a b c d=3):a≠c:=by
  unfold ziD at h
  intro e
  subst e
  by_cases h1:d≤b
  · rw [if_pos ⟨Int.le_refl _,h1⟩] at h
    split at h <;> omega
  · rw [if_neg (by omega),if_pos (by omega)] at h
    omega
def zfN (e a1 a2:Int) (x:List UInt8) (b1 b2:Int) (y:List UInt8):Int :=
  if e<0 then 3 else if e≥24 then 3 else if ¬qU a1 a2 then 3 else if ¬qU b1 b2 then 3 else if x.length≠128 then 12 else if y.length≠128 then 12
  else if ziD a1 a2 b1 b2≠3 then 10 else if a1<b1 then 10 else 0
theorem z5F (e a1 a2:Int) (x:List UInt8) (b1 b2:Int) (y:List UInt8):zgY (e,a1,a2,x,b1,b2,y)=some (zfN e a1 a2 x b1 b2 y):=by
  simp only [zgY,zsH,WN,zaf,WA,zat,WT,za2,WQ,JR,qh,zbi,zM1,zVO,zc,Z1]
  unfold zfN
  by_cases c1:e<0
  · rw [zo c1,if_pos c1];rfl
  rw [zn c1,if_neg c1]
  by_cases c2:e≥24
  · rw [zo c2,if_pos c2];rfl
  rw [zn c2,if_neg c2]
  by_cases c3:qU a1 a2
  · rw [zo c3,if_neg (fun h=>h c3)]
    by_cases c4:qU b1 b2
    · rw [zo c4,if_neg (fun h=>h c4)]
      by_cases c5:x.length=128
      · rw [zo (show (x.length:Int)=128 by omega),if_neg (by simpa using c5)]
        by_cases c6:y.length=128
        · rw [zo (show (y.length:Int)=128 by omega),if_neg (by simpa using c6)]
          by_cases c7:ziD a1 a2 b1 b2=3
          · rw [zo c7,if_neg (by simpa using c7)]
            by_cases c8:a1<b1
            · rw [zo c8,if_pos c8];rfl
            · rw [zn c8,if_neg c8];rfl
          · rw [zn c7,if_pos c7];rfl
        · rw [zn (show ¬(y.length:Int)=128 by omega),if_pos c6];rfl
      · rw [zn (show ¬(x.length:Int)=128 by omega),if_pos c5];rfl
    · rw [zn c4,if_pos c4];rfl
  · rw [zn c3,if_pos c3];rfl
theorem zO4 (e a1 a2:Int) (x:List UInt8) (b1 b2:Int) (y:List UInt8):zg2 (e,a1,a2,x,b1,b2,y)=some (zfN e a1 a2 x b1 b2 y):=by
  simp only [zg2,ztz,WH,zac,qn,zaz,W2,zaU,qu,za8,zqV,zGG,zc,Z1]
  unfold zfN
  by_cases c1:e<0
  · rw [zo c1,if_pos c1];rfl
  rw [zn c1,if_neg c1]
  by_cases c2:e≥24
  · rw [zo c2,if_pos c2];rfl
  rw [zn c2,if_neg c2]
  by_cases c3:qU a1 a2
  · rw [zo c3,if_neg (fun h=>h c3)]
    by_cases c4:qU b1 b2
    · rw [zo c4,if_neg (fun h=>h c4)]
      by_cases c5:x.length=128
      · rw [zo (show (x.length:Int)=128 by omega),if_neg (by simpa using c5)]
        by_cases c6:y.length=128
        · rw [zo (show (y.length:Int)=128 by omega),if_neg (by simpa using c6)]
          by_cases c7:ziD a1 a2 b1 b2=3
          · rw [zo c7,if_neg (by simpa using c7)]
            have hne:=zTq c7
            by_cases c8:a1<b1
            · rw [zo (show a1≤b1 by omega),if_pos c8];rfl
            · rw [zn (show ¬a1≤b1 by omega),if_neg c8];rfl
          · rw [zn c7,if_pos c7];rfl
        · rw [zn (show ¬(y.length:Int)=128 by omega),if_pos c6];rfl
      · rw [zn (show ¬(x.length:Int)=128 by omega),if_pos c5];rfl
    · rw [zn c4,if_pos c4];rfl
  · rw [zn c3,if_pos c3];rfl
theorem zCZ {e a1 a2:Int} {x:List UInt8} {b1 b2:Int} {y:List UInt8} (h:zfN e a1 a2 x b1 b2 y=0):(0≤e∧e<24)∧qU a1 a2∧qU b1 b2∧x.length=128∧y.length=128:=by
  unfold zfN at h
  split at h
  · omega
  split at h
  · omega
  split at h
  · omega
  split at h
  · omega
  split at h
  · omega
  split at h
  · omega
  rename_i h1 h2 h3 h4 h5 h6
  exact ⟨by omega,Classical.not_not.1 h3,Classical.not_not.1 h4,Classical.not_not.1 h5,Classical.not_not.1 h6⟩
theorem z8N (s:List UInt8) (a b:Int) (hs:s.length≤100000):zgF (s,a,b)=some (zG (zG s a 7) b 7):=by
  have h1:=zX s a 7
  have e1:=yx s a 7 (by omega) (by omega)
  have e2:=yx (zG s a 7) b 7 (by omega) (by omega)
  simp only [Int.cast_ofNat_Int] at e1 e2
  simp only [zgF,zsf,e1,e2,zc]
theorem ziq (s:List UInt8) (a b:Int) (ha:InI a) (hb:InI b) (hs:s.length≤100000):zcv (s,a,b)=some (zG (zG s a 7) b 7):=by
  have h1:=zX s a 7
  have e1:=yr s a 7 (by omega) ha (by omega)
  have e2:=yr (zG s a 7) b 7 (by omega) hb (by omega)
  simp only [Int.cast_ofNat_Int] at e1 e2
  simp only [zcv,ztR,e1,e2,zc]
theorem z3U (s:List UInt8):(Jg s).length≤s.length+64:=by simp [Jg];omega
end Go.Proofs.R9
namespace Go.Proofs.R9
open Go Go.AE Go.Plain
def rdB (n:Nat) (r:List UInt8) (e:Int):List UInt8×List UInt8×Int:=if e≠0 then ([],r,e) else if r.length<n then ([],r,1) else (r.take n,r.drop n,0)
theorem zoy {e:Int} (n:Nat) (r:List UInt8) (h:e≠0):rdB n r e=([],r,e):=by unfold rdB;rw [if_pos h]
theorem JC {n:Nat} {r:List UInt8} (h:r.length<n):rdB n r 0=([],r,1):=by unfold rdB;rw [if_neg (by simp),if_pos h]
theorem YW {n:Nat} {r:List UInt8} (h:n≤r.length):rdB n r 0=(r.take n,r.drop n,0):=by unfold rdB;rw [if_neg (by simp),if_neg (by omega)]
theorem zcD (n:Nat) (r:List UInt8) (e:Int):(rdB n r e).2.1.length≤r.length:=by
  by_cases h:e=0
  · subst h
    by_cases h1:r.length<n
    · rw [JC h1];exact Nat.le_refl _
    · rw [YW (by omega)];show (r.drop n).length≤_;rw [List.length_drop];omega
  · rw [zoy n r h];exact Nat.le_refl _
def rdE (r:List UInt8) (e:Int):Int:=if e=0 then (if r=[] then 0 else 2) else e
theorem zQ0 (a:Int) (r:List UInt8) (e:Int):zb2 (a,r,e)=some (if e=0 then a else e):=by
  simp only [zb2,ztl,JX]
  by_cases h:e=0
  · rw [zo h,if_pos h];rfl
  · rw [zn h,if_neg h];rfl
theorem zeu (n:Nat) (r:List UInt8) (e:Int) (hl:r.length≤1000000000000):yK ((n:Int),r,e)=some (rdB n r e):=by
  by_cases h:e=0
  · subst h
    by_cases h1:r.length<n
    · rw [JC h1]
      simp only [yK,zhD,Ym,Wh,zn (show ¬(n:Int)<0 by omega),cond_false,zo (show (n:Int)>(r.length:Int) by omega),cond_true,zQ0,zc]
      rfl
    · rw [YW (by omega)]
      exact qC n r (by omega) hl
  · rw [zoy n r h]
    have hb:(e != 0)=true:=by simpa using h
    simp only [yK,zhD,Ym,Wh,zn (show ¬(n:Int)<0 by omega),cond_false,zQ0,if_neg h]
    cases decide ((n:Int)>(r.length:Int)) <;> simp only [cond_true,cond_false,zc,hb]
theorem zdW (k:Nat) (r:List UInt8) (e:Int) (hk:1≤k∧k≤7) (hl:r.length≤1000000000000) :
    Z5 ((k:Int),r,e)=some (((num (rdB k r e).1:Nat):Int),(rdB k r e).2.1,(rdB k r e).2.2):=by
  by_cases h:e=0∧k≤r.length
  · obtain ⟨rfl,h1⟩:=h
    rw [YW h1]
    exact yF k r hk h1 hl
  · have he : ∃q,rdB k r e=([],r,q):=by
      by_cases h0:e=0
      · subst h0;exact ⟨1,JC (by omega)⟩
      · exact ⟨e,zoy k r h0⟩
    obtain ⟨q,hq⟩:=he
    have hB:=zeu k r e hl
    rw [hq] at hB ⊢
    simp only [Z5,zoC,zct,ziV,Yq,Wm,zc]
    rw [zo (show (k:Int)≥1 by omega),zo (show (k:Int)≤7 by omega),cond_true]
    simp only [zc,Bool.not_true,cond_false,hB,unP]
    rfl
theorem zhR (r:List UInt8) (e:Int):zdy (r,e)=some (rdE r e):=by
  unfold rdE
  simp only [zdy,zvb,qi,zau,W8,JW,JX]
  by_cases h:e=0
  · subst h
    rw [zo rfl,if_pos rfl]
    cases r <;> rfl
  · rw [zn h,if_neg h];rfl
end Go.Proofs.R9
namespace Go.Proofs.R9
open Go Go.AE
set_option maxRecDepth 100000
--@ law01_Same
noncomputable def zcz:Env:=[]
theorem zrX:zf Tryz.prog zcz:=zf.nil
noncomputable def zWq:Code:=Tryz.f11.body.getD .skip
noncomputable def znU:Code:=zF [1,1,0,1,0,0,0,0] zWq
noncomputable def ztr:Ann := .none
theorem zDy:zq Tryz.prog 32 znU ztr:=(zb _ _ _)
abbrev jh:=(List (List UInt8))×(List (List UInt8))×(Int)
abbrev zqd:=(Bool)
def zx8:jh→St:=fun (t0,t1,t5)=>{ env:=[(0,.ro .str t0),(1,.ro .str t1),(5,.int .i64 t5)],stk:=[[]],H:=[],blk:=45056 }
def zsn (s:St):Option {x:jh // s=zx8 x}:=match s with
  | { env:=[(0,.ro .str t0),(1,.ro .str t1),(5,.int .i64 t5)],stk:=[[]],H:=[],blk:=45056 }=>some ⟨(t0,t1,t5),rfl⟩
  | _=>none
def zm0 (s:St):Option jh:=pk (zsn s)
theorem zHi (s:St) (x:jh) (h:zm0 s=some x):s=zx8 x:=zt (o:=zsn s) h
def zlk:jh→(Ex→St→Ans)→zqd→Ans:=fun (t0,t1,t5) K=>fun t20_y=>K (Ex.norm) { env:=[(0,.ro .str t0),(1,.ro .str t1),(5,.int .i64 t5),(20,.bool t20_y)],stk:=[[]],H:=[],blk:=45056 }
def QK {β:Type}:jh→(zqd→Option β)→Option β:=fun (t0,t1,t5) exit=>(bif decide (t5<(↑(List.length t0):Int)) then (exit (decide (t5<(↑(List.length t1):Int)))) else (exit (false)))
def wc (i:jh):Option zqd:=QK i some
theorem zyv (i:jh) (k:zqd→Ans):QK i k=za (wc i) k:=by
  obtain ⟨t0,t1,t5⟩:=i
  simp only [wc,QK,zj,zh,zl,zc,zi,zm,zg]
theorem zGo (i:jh) (K:Ex→St→Ans):zx Tryz.tab zcz zd (zy Tryz.tab zcz zd 0 64) 70 32 ztr znU (zD 0 (exk [0,1,5,20] [4] []) K) (zx8 i)=QK i (zlk i K):=by kernel_rfl
theorem zO1:zw Tryz.prog 32 znU (zH zm0 wc zlk):=zE mixed tabOk zrX 0 (exk [0,1,5,20] [4] []) zDy zHi zGo zyv
noncomputable def zSD:(Ex→St→Ans)→St→Ans:=(zH zm0 wc zlk)
theorem zUR:zw Tryz.prog 32 znU zSD:=zO1
noncomputable def zgU:Code:=zF [1,1,0,1,0,0] zWq
noncomputable def ziu:Ann := .at 0 [0,1,5] (.loop (.seq (.seq (.cut 0 [0,1,5] zSD) .none) .none))
theorem zGm:zq Tryz.prog 32 (.loop zgU) ziu:=Zp ⟨⟨zUR,(zb _ _ _)⟩,(zb _ _ _)⟩
abbrev jM:=(List (List UInt8))×(List (List UInt8))
abbrev zm9:=(Unit) ⊕ (Unit)
abbrev wO:=(Int)
def znn:jM→wO→St:=fun (t0,t1) t5=>{ env:=[(0,.ro .str t0),(1,.ro .str t1),(5,.int .i64 t5)],stk:=[[]],H:=[],blk:=45056 }
def zu2 (s:St):Option {x:jM×wO // s=znn x.1 x.2}:=match s with
  | { env:=[(0,.ro .str t0),(1,.ro .str t1),(5,.int .i64 t5)],stk:=[[]],H:=[],blk:=45056 }=>some ⟨((t0,t1),t5),rfl⟩
  | _=>none
def zjq (s:St):Option (jM×wO):=pk (zu2 s)
theorem zMk (s:St) (x:jM×wO) (h:zjq s=some x):s=znn x.1 x.2:=zt (o:=zu2 s) h
def zjx:jM→(Ex→St→Ans)→zm9→Ans:=fun (t0,t1) K=>(Sum.elim (fun _=>K (Ex.ret) { env:=[(4,.bool (false))],stk:=[[]],H:=[],blk:=45057 }) (fun _=>K (Ex.exit 0) { env:=[],stk:=[[]],H:=[],blk:=45056 }))
def jT {β:Type}:jM→wO→(wO→Option β)→(zm9→Option β)→Option β:=fun (t0,t1) t5 next exit=>(za (wc (t0,t1,t5)) fun t20=>(bif t20 then (za (nth t0 t5) fun x=>(za (nth t1 t5) fun x_2=>(bif !x == x_2 then (exit (Sum.inl ())) else (next (IntKind.wrap .i64 (t5+(1:Int))))))) else (exit (Sum.inr ()))))
def Ys (i:jM) (v:wO):Option (wO ⊕ zm9):=jT i v (fun v=>some (.inl v)) (fun y=>some (.inr y))
theorem zx7 (i:jM) (v:wO) (next:wO→Ans) (exit:zm9→Ans):jT i v next exit=za (Ys i v) (Sum.elim next exit):=by
  obtain ⟨t0,t1⟩:=i
  obtain z:=v
  simp only [Ys,jT,zj,zh,zl,zc,zi,zm,zg,Sum.elim_inl,Sum.elim_inr]
theorem zGk (n:Nat) (i:jM) (v:wO) (K:Ex→St→Ans):zx Tryz.tab zcz zd (zy Tryz.tab zcz zd 0 64) (n+1) 32 ziu (.loop zgU) (zD 0 (exk [] [4] [(0,[])]) K) (znn i v)=jT i v (fun v'=>zx Tryz.tab zcz zd (zy Tryz.tab zcz zd 0 64) n 32 ziu (.loop zgU) (zD 0 (exk [] [4] [(0,[])]) K) (znn i v')) (fun y=>zjx i K y):=by kernel_rfl
theorem zOQ:zw Tryz.prog 32 (.loop zgU) (Zr zjq Ys zjx):=Zj mixed tabOk zrX 0 (exk [] [4] [(0,[])]) zGm zMk zGk zx7
noncomputable def zQG:(Ex→St→Ans)→St→Ans:=(Zr zjq Ys zjx)
theorem zUG:zw Tryz.prog 32 (.loop zgU) zQG:=zOQ
noncomputable def z2L:Ann:=(.seq .none (.seq .none (.seq (.seq .none (.block (.cut 0 [0,1,5] zQG))) .none)))
theorem z1q:zq Tryz.prog 32 zWq z2L:=⟨(zb _ _ _),⟨(zb _ _ _),⟨⟨(zb _ _ _),zUG⟩,(zb _ _ _)⟩⟩⟩
abbrev zeG:=(List (List UInt8))×(List (List UInt8))
abbrev zLn:=(Bool)
def zs0 {β:Type}:zeG→(zLn→Option β)→Option β:=fun (a0,a1) exit=>(bif (↑(List.length a0):Int) != (↑(List.length a1):Int) then (exit (false)) else (za (zP (Ys (a0,a1)) zZ ((0:Int))) (Sum.elim (fun _=>(exit (false))) (fun _=>(exit (true))))))
def zgG (a:zeG):Option zLn:=zs0 a some
theorem zX5 (a:zeG) (k:zLn→Ans):zs0 a k=za (zgG a) k:=by
  obtain ⟨a0,a1⟩:=a
  simp only [zgG,zs0,zj,zh,zl,zc,zi,zm,zg]
def zBr:zeG→List AV:=fun (a0,a1)=>[.ro .str a0,.ro .str a1]
def zKR (l:List AV):Option {a:zeG // l=zBr a}:=match l with
  | [.ro .str a0,.ro .str a1]=>some ⟨(a0,a1),rfl⟩
  | _=>none
def zze (l:List AV):Option zeG:=pk (zKR l)
theorem zXw (l:List AV) (a:zeG) (h:zze l=some a):l=zBr a:=zt (o:=zKR l) h
def zBx:zeG→zLn→AV:=fun (a0,a1)=>fun r_y => .bool r_y
theorem zVr : ∀(a:zeG) (y:zLn),(zBx a y).closed1=true:=by
  rintro ⟨a0,a1⟩ y <;> first | rfl | exact Empty.elim y
theorem z63 (a:zeG):fnE Tryz.tab zcz zd 0 70 11 Tryz.f11.ntmps Tryz.f11.results.toList z2L zWq (zBr a) [] (fun v _=>some (v,[]))=zs0 a (fun y=>some (zBx a y,[])):=by kernel_rfl
def z7V (a:zeG) (K:AV→Ans):Ans:=za (zgG a) fun y=>K (zBx a y)
def Zc0:List AV→(AV→Ans)→Ans:=fun l K=>za (zze l) fun a=>z7V a K
theorem z9o:zM Tryz.prog 11 Zc0:=zL (hint:=zd) (d:=0) (n:=70) mixed tabOk zrX Tryz.func11 (zC (by kernel_rfl)) (by decide +kernel) z1q zXw z63 zX5 zVr
--@ law01_Same_2
--@ law23_Great
noncomputable def zta:Env:=[]
theorem zML:zf Tryz.prog zta:=zf.nil
noncomputable def z5J:Code:=Tryz.f31.body.getD .skip
noncomputable def znM:Code:=zF [1,0] z5J
noncomputable def ztF:Ann := .none
theorem zFa:zq Tryz.prog 21 znM ztF:=(zb _ _ _)
abbrev QL:=(Int)×(Int)×(Int)×(List UInt8)×(Int)×(Int)×(List UInt8)×(Int)×(Int)×(List UInt8)
abbrev zob:=(Bool)
def zCd:QL→St:=fun (o0_0,o0_1,o0_2,o0_3,o0_4,o0_5,o0_6,o0_7,o0_8,o0_9)=>{ env:=[(1,.ptr 0 0)],stk:=[[]],H:=[.cells [.int .i64 o0_0,.int .i64 o0_1,.int .i64 o0_2,.str o0_3,.int .i64 o0_4,.int .i64 o0_5,.str o0_6,.int .i64 o0_7,.int .i64 o0_8,.str o0_9]],blk:=126976 }
def ztE (s:St):Option {x:QL // s=zCd x}:=match s with
  | { env:=[(1,.ptr 0 0)],stk:=[[]],H:=[.cells [.int .i64 o0_0,.int .i64 o0_1,.int .i64 o0_2,.str o0_3,.int .i64 o0_4,.int .i64 o0_5,.str o0_6,.int .i64 o0_7,.int .i64 o0_8,.str o0_9]],blk:=126976 }=>some ⟨(o0_0,o0_1,o0_2,o0_3,o0_4,o0_5,o0_6,o0_7,o0_8,o0_9),rfl⟩
  | _=>none
def zmy (s:St):Option QL:=pk (ztE s)
theorem zKA (s:St) (x:QL) (h:zmy s=some x):s=zCd x:=zt (o:=ztE s) h
def zj9:QL→(Ex→St→Ans)→zob→Ans:=fun (o0_0,o0_1,o0_2,o0_3,o0_4,o0_5,o0_6,o0_7,o0_8,o0_9) K=>fun t2_y=>K (Ex.norm) { env:=[(2,.bool t2_y)],stk:=[[]],H:=[],blk:=126976 }
def zaD {β:Type}:QL→(zob→Option β)→Option β:=fun (o0_0,o0_1,o0_2,o0_3,o0_4,o0_5,o0_6,o0_7,o0_8,o0_9) exit=>(bif decide ((↑(List.length o0_3):Int)>(1000:Int)) then (exit (true)) else (bif decide ((↑(List.length o0_6):Int)>(1000:Int)) then (exit (true)) else (exit (decide ((↑(List.length o0_9):Int)>(1000:Int))))))
def WD (i:QL):Option zob:=zaD i some
theorem zAB (i:QL) (k:zob→Ans):zaD i k=za (WD i) k:=by
  obtain ⟨o0_0,o0_1,o0_2,o0_3,o0_4,o0_5,o0_6,o0_7,o0_8,o0_9⟩:=i
  simp only [WD,zaD,zj,zh,zl,zc,zi,zm,zg]
theorem zGO (i:QL) (K:Ex→St→Ans):zx Tryz.tab zta zd (zy Tryz.tab zta zd 0 64) 70 21 ztF znM (zD 0 (exk [2] [2] []) K) (zCd i)=zaD i (zj9 i K):=by kernel_rfl
theorem zNT:zw Tryz.prog 21 znM (zH zmy WD zj9):=zE mixed tabOk zML 0 (exk [2] [2] []) zFa zKA zGO zAB
noncomputable def zPJ:(Ex→St→Ans)→St→Ans:=(zH zmy WD zj9)
theorem zWJ:zw Tryz.prog 21 znM zPJ:=zNT
noncomputable def z3F:Ann:=(.seq .none (.seq (.cut 0 [1] zPJ) .none))
theorem zY4:zq Tryz.prog 21 z5J z3F:=⟨(zb _ _ _),⟨zWJ,(zb _ _ _)⟩⟩
abbrev zej:=(Int)×(Int)×(Int)×(List UInt8)×(Int)×(Int)×(List UInt8)×(Int)×(Int)×(List UInt8)
abbrev zLY:=(Bool)
def zt5 {β:Type}:zej→(zLY→Option β)→Option β:=fun (a0_0,a0_1,a0_2,a0_3,a0_4,a0_5,a0_6,a0_7,a0_8,a0_9) exit=>(za (WD (a0_0,a0_1,a0_2,a0_3,a0_4,a0_5,a0_6,a0_7,a0_8,a0_9)) fun t2=>(exit (t2)))
def zf9 (a:zej):Option zLY:=zt5 a some
theorem z0I (a:zej) (k:zLY→Ans):zt5 a k=za (zf9 a) k:=by
  obtain ⟨a0_0,a0_1,a0_2,a0_3,a0_4,a0_5,a0_6,a0_7,a0_8,a0_9⟩:=a
  simp only [zf9,zt5,zj,zh,zl,zc,zi,zm,zg]
def zBu:zej→List AV:=fun (a0_0,a0_1,a0_2,a0_3,a0_4,a0_5,a0_6,a0_7,a0_8,a0_9)=>[.agg [.int .i64 a0_0,.int .i64 a0_1,.int .i64 a0_2,.str a0_3,.int .i64 a0_4,.int .i64 a0_5,.str a0_6,.int .i64 a0_7,.int .i64 a0_8,.str a0_9]]
def zIV (l:List AV):Option {a:zej // l=zBu a}:=match l with
  | [.agg [.int .i64 a0_0,.int .i64 a0_1,.int .i64 a0_2,.str a0_3,.int .i64 a0_4,.int .i64 a0_5,.str a0_6,.int .i64 a0_7,.int .i64 a0_8,.str a0_9]]=>some ⟨(a0_0,a0_1,a0_2,a0_3,a0_4,a0_5,a0_6,a0_7,a0_8,a0_9),rfl⟩
  | _=>none
def zQ2 (l:List AV):Option zej:=pk (zIV l)
theorem zTT (l:List AV) (a:zej) (h:zQ2 l=some a):l=zBu a:=zt (o:=zIV l) h
def zxv:zej→zLY→AV:=fun (a0_0,a0_1,a0_2,a0_3,a0_4,a0_5,a0_6,a0_7,a0_8,a0_9)=>fun r_y => .bool r_y
theorem zUi : ∀(a:zej) (y:zLY),(zxv a y).closed1=true:=by
  rintro ⟨a0_0,a0_1,a0_2,a0_3,a0_4,a0_5,a0_6,a0_7,a0_8,a0_9⟩ y <;> first | rfl | exact Empty.elim y
theorem z6I (a:zej):fnE Tryz.tab zta zd 0 70 31 Tryz.f31.ntmps Tryz.f31.results.toList z3F z5J (zBu a) [] (fun v _=>some (v,[]))=zt5 a (fun y=>some (zxv a y,[])):=by kernel_rfl
def ZcQ (a:zej) (K:AV→Ans):Ans:=za (zf9 a) fun y=>K (zxv a y)
def Za7:List AV→(AV→Ans)→Ans:=fun l K=>za (zQ2 l) fun a=>ZcQ a K
theorem z8y:zM Tryz.prog 31 Za7:=zL (hint:=zd) (d:=0) (n:=70) mixed tabOk zML Tryz.func31 (zC (by kernel_rfl)) (by decide +kernel) zY4 zTT z6I z0I zUi
--@ law43_great
noncomputable def Jc:Env:=[(31,.pure Za7)]
theorem ziK:zf Tryz.prog Jc:=zf.cons z8y (zf.nil)
noncomputable def zLf:Code:=Tryz.f12.body.getD .skip
noncomputable def zoe:Code:=zF [1,0,1,0,0,1,0,0,0] zLf
noncomputable def zuC:Ann := .none
theorem zE9:zq Tryz.prog 25 zoe zuC:=(zb _ _ _)
abbrev jU:=(Int)×(Int)×(Int)×(Int)×(Int)×(Int)×(Int)×(Int)×(List (Int×(Int×Int)×List UInt8×((Int×Int)×List UInt8)×(Int×Int)×List UInt8))×(List Bool)
abbrev zoJ:=(Bool)
def zxs:jU→St:=fun (t3,o0_0,o0_1,o0_2,o0_3,o0_4,o0_5,o0_6,o0_7,o0_8)=>{ env:=[(1,.ptr 0 0),(3,.int .i64 t3)],stk:=[[]],H:=[.cells [.int .i64 o0_0,.int .i64 o0_1,.int .i64 o0_2,.int .i64 o0_3,.int .i64 o0_4,.int .i64 o0_5,.int .i64 o0_6,.ro (.st (.pair (.int .i64) (.pair (.pair (.int .i64) (.int .i64)) (.pair .str (.pair (.pair (.pair (.int .i64) (.int .i64)) .str) (.pair (.pair (.int .i64) (.int .i64)) .str)))))) o0_7,.ro .bool o0_8]],blk:=49153 }
def zwO (s:St):Option {x:jU // s=zxs x}:=match s with
  | { env:=[(1,.ptr 0 0),(3,.int .i64 t3)],stk:=[[]],H:=[.cells [.int .i64 o0_0,.int .i64 o0_1,.int .i64 o0_2,.int .i64 o0_3,.int .i64 o0_4,.int .i64 o0_5,.int .i64 o0_6,.ro (.st (.pair (.int .i64) (.pair (.pair (.int .i64) (.int .i64)) (.pair .str (.pair (.pair (.pair (.int .i64) (.int .i64)) .str) (.pair (.pair (.int .i64) (.int .i64)) .str)))))) o0_7,.ro .bool o0_8]],blk:=49153 }=>some ⟨(t3,o0_0,o0_1,o0_2,o0_3,o0_4,o0_5,o0_6,o0_7,o0_8),rfl⟩
  | _=>none
def zlB (s:St):Option jU:=pk (zwO s)
theorem zIW (s:St) (x:jU) (h:zlB s=some x):s=zxs x:=zt (o:=zwO s) h
def zjY:jU→(Ex→St→Ans)→zoJ→Ans:=fun (t3,o0_0,o0_1,o0_2,o0_3,o0_4,o0_5,o0_6,o0_7,o0_8) K=>fun t20_y=>K (Ex.norm) { env:=[(1,.ptr 0 0),(3,.int .i64 t3),(20,.bool t20_y)],stk:=[[]],H:=[.cells [.int .i64 o0_0,.int .i64 o0_1,.int .i64 o0_2,.int .i64 o0_3,.int .i64 o0_4,.int .i64 o0_5,.int .i64 o0_6,.ro (.st (.pair (.int .i64) (.pair (.pair (.int .i64) (.int .i64)) (.pair .str (.pair (.pair (.pair (.int .i64) (.int .i64)) .str) (.pair (.pair (.int .i64) (.int .i64)) .str)))))) o0_7,.ro .bool o0_8]],blk:=49153 }
def zaK {β:Type}:jU→(zoJ→Option β)→Option β:=fun (t3,o0_0,o0_1,o0_2,o0_3,o0_4,o0_5,o0_6,o0_7,o0_8) exit=>(bif decide (t3≥(30:Int)) then (exit (true)) else (za (nth o0_7 t3) fun x=>(za (zf9 (x.fst,x.snd.fst.fst,x.snd.fst.snd,x.snd.snd.fst,x.snd.snd.snd.fst.fst.fst,x.snd.snd.snd.fst.fst.snd,x.snd.snd.snd.fst.snd,x.snd.snd.snd.snd.fst.fst,x.snd.snd.snd.snd.fst.snd,x.snd.snd.snd.snd.snd)) fun r=>(exit (r)))))
def WV (i:jU):Option zoJ:=zaK i some
theorem zz8 (i:jU) (k:zoJ→Ans):zaK i k=za (WV i) k:=by
  obtain ⟨t3,o0_0,o0_1,o0_2,o0_3,o0_4,o0_5,o0_6,o0_7,o0_8⟩:=i
  simp only [WV,zaK,zj,zh,zl,zc,zi,zm,zg]
theorem zEd (i:jU) (K:Ex→St→Ans):zx Tryz.tab Jc zd (zy Tryz.tab Jc zd 0 64) 70 25 zuC zoe (zD 0 (exk [1,3,20] [2] []) K) (zxs i)=zaK i (zjY i K):=by kernel_rfl
theorem zOJ:zw Tryz.prog 25 zoe (zH zlB WV zjY):=zE mixed tabOk ziK 0 (exk [1,3,20] [2] []) zE9 zIW zEd zz8
noncomputable def zRi:(Ex→St→Ans)→St→Ans:=(zH zlB WV zjY)
theorem zUE:zw Tryz.prog 25 zoe zRi:=zOJ
noncomputable def zn4:Code:=zF [1,0,1,0,0,1,0] zLf
noncomputable def zwx:Ann:=(.block (.seq (.cut 0 [1,3] zRi) .none))
theorem zF4:zq Tryz.prog 25 zn4 zwx:=⟨zUE,(zb _ _ _)⟩
abbrev Qk:=(Int)×(Int)×(Int)×(Int)×(Int)×(Int)×(Int)×(Int)×(List (Int×(Int×Int)×List UInt8×((Int×Int)×List UInt8)×(Int×Int)×List UInt8))×(List Bool)
abbrev zot:=(Unit) ⊕ (Unit)
def zxD:Qk→St:=fun (t3,o0_0,o0_1,o0_2,o0_3,o0_4,o0_5,o0_6,o0_7,o0_8)=>{ env:=[(1,.ptr 0 0),(3,.int .i64 t3)],stk:=[[]],H:=[.cells [.int .i64 o0_0,.int .i64 o0_1,.int .i64 o0_2,.int .i64 o0_3,.int .i64 o0_4,.int .i64 o0_5,.int .i64 o0_6,.ro (.st (.pair (.int .i64) (.pair (.pair (.int .i64) (.int .i64)) (.pair .str (.pair (.pair (.pair (.int .i64) (.int .i64)) .str) (.pair (.pair (.int .i64) (.int .i64)) .str)))))) o0_7,.ro .bool o0_8]],blk:=49152 }
def zw3 (s:St):Option {x:Qk // s=zxD x}:=match s with
  | { env:=[(1,.ptr 0 0),(3,.int .i64 t3)],stk:=[[]],H:=[.cells [.int .i64 o0_0,.int .i64 o0_1,.int .i64 o0_2,.int .i64 o0_3,.int .i64 o0_4,.int .i64 o0_5,.int .i64 o0_6,.ro (.st (.pair (.int .i64) (.pair (.pair (.int .i64) (.int .i64)) (.pair .str (.pair (.pair (.pair (.int .i64) (.int .i64)) .str) (.pair (.pair (.int .i64) (.int .i64)) .str)))))) o0_7,.ro .bool o0_8]],blk:=49152 }=>some ⟨(t3,o0_0,o0_1,o0_2,o0_3,o0_4,o0_5,o0_6,o0_7,o0_8),rfl⟩
  | _=>none
def zkp (s:St):Option Qk:=pk (zw3 s)
theorem zHm (s:St) (x:Qk) (h:zkp s=some x):s=zxD x:=zt (o:=zw3 s) h
def zkc:Qk→(Ex→St→Ans)→zot→Ans:=fun (t3,o0_0,o0_1,o0_2,o0_3,o0_4,o0_5,o0_6,o0_7,o0_8) K=>(Sum.elim (fun _=>K (Ex.ret) { env:=[(2,.bool (true))],stk:=[[]],H:=[],blk:=49153 }) (fun _=>K (Ex.norm) { env:=[(1,.ptr 0 0),(3,.int .i64 t3)],stk:=[[]],H:=[.cells [.int .i64 o0_0,.int .i64 o0_1,.int .i64 o0_2,.int .i64 o0_3,.int .i64 o0_4,.int .i64 o0_5,.int .i64 o0_6,.ro (.st (.pair (.int .i64) (.pair (.pair (.int .i64) (.int .i64)) (.pair .str (.pair (.pair (.pair (.int .i64) (.int .i64)) .str) (.pair (.pair (.int .i64) (.int .i64)) .str)))))) o0_7,.ro .bool o0_8]],blk:=49153 }))
def za4 {β:Type}:Qk→(zot→Option β)→Option β:=fun (t3,o0_0,o0_1,o0_2,o0_3,o0_4,o0_5,o0_6,o0_7,o0_8) exit=>(za (WV (t3,o0_0,o0_1,o0_2,o0_3,o0_4,o0_5,o0_6,o0_7,o0_8)) fun t20=>(bif t20 then (exit (Sum.inl ())) else (exit (Sum.inr ()))))
def WK (i:Qk):Option zot:=za4 i some
theorem zAX (i:Qk) (k:zot→Ans):za4 i k=za (WK i) k:=by
  obtain ⟨t3,o0_0,o0_1,o0_2,o0_3,o0_4,o0_5,o0_6,o0_7,o0_8⟩:=i
  simp only [WK,za4,zj,zh,zl,zc,zi,zm,zg]
theorem zDU (i:Qk) (K:Ex→St→Ans):zx Tryz.tab Jc zd (zy Tryz.tab Jc zd 0 64) 70 25 zwx zn4 (zD 0 (exk [1,3] [2] []) K) (zxD i)=za4 i (zkc i K):=by kernel_rfl
theorem zNo:zw Tryz.prog 25 zn4 (zH zkp WK zkc):=zE mixed tabOk ziK 0 (exk [1,3] [2] []) zF4 zHm zDU zAX
noncomputable def zSq:(Ex→St→Ans)→St→Ans:=(zH zkp WK zkc)
theorem zVP:zw Tryz.prog 25 zn4 zSq:=zNo
noncomputable def zhk:Code:=zF [1,0,1,0,0] zLf
noncomputable def ziC:Ann := .at 0 [1,3] (.loop (.seq .none (.seq (.cut 0 [1,3] zSq) .none)))
theorem zF6:zq Tryz.prog 25 (.loop zhk) ziC:=Zp ⟨(zb _ _ _),⟨zVP,(zb _ _ _)⟩⟩
abbrev q6:=(Int)×(Int)×(Int)×(Int)×(Int)×(Int)×(Int)×(List (Int×(Int×Int)×List UInt8×((Int×Int)×List UInt8)×(Int×Int)×List UInt8))×(List Bool)
abbrev zp0:=(Unit) ⊕ (Unit)
abbrev wI:=(Int)
def zpB:q6→wI→St:=fun (o0_0,o0_1,o0_2,o0_3,o0_4,o0_5,o0_6,o0_7,o0_8) t3=>{ env:=[(1,.ptr 0 0),(3,.int .i64 t3)],stk:=[[]],H:=[.cells [.int .i64 o0_0,.int .i64 o0_1,.int .i64 o0_2,.int .i64 o0_3,.int .i64 o0_4,.int .i64 o0_5,.int .i64 o0_6,.ro (.st (.pair (.int .i64) (.pair (.pair (.int .i64) (.int .i64)) (.pair .str (.pair (.pair (.pair (.int .i64) (.int .i64)) .str) (.pair (.pair (.int .i64) (.int .i64)) .str)))))) o0_7,.ro .bool o0_8]],blk:=49152 }
def zsN (s:St):Option {x:q6×wI // s=zpB x.1 x.2}:=match s with
  | { env:=[(1,.ptr 0 0),(3,.int .i64 t3)],stk:=[[]],H:=[.cells [.int .i64 o0_0,.int .i64 o0_1,.int .i64 o0_2,.int .i64 o0_3,.int .i64 o0_4,.int .i64 o0_5,.int .i64 o0_6,.ro (.st (.pair (.int .i64) (.pair (.pair (.int .i64) (.int .i64)) (.pair .str (.pair (.pair (.pair (.int .i64) (.int .i64)) .str) (.pair (.pair (.int .i64) (.int .i64)) .str)))))) o0_7,.ro .bool o0_8]],blk:=49152 }=>some ⟨((o0_0,o0_1,o0_2,o0_3,o0_4,o0_5,o0_6,o0_7,o0_8),t3),rfl⟩
  | _=>none
def zkW (s:St):Option (q6×wI):=pk (zsN s)
theorem zMo (s:St) (x:q6×wI) (h:zkW s=some x):s=zpB x.1 x.2:=zt (o:=zsN s) h
def zmc:q6→(Ex→St→Ans)→zp0→Ans:=fun (o0_0,o0_1,o0_2,o0_3,o0_4,o0_5,o0_6,o0_7,o0_8) K=>(Sum.elim (fun _=>K (Ex.ret) { env:=[(2,.bool (true))],stk:=[[]],H:=[],blk:=49153 }) (fun _=>K (Ex.exit 0) { env:=[(1,.ptr 0 0)],stk:=[[]],H:=[.cells [.int .i64 o0_0,.int .i64 o0_1,.int .i64 o0_2,.int .i64 o0_3,.int .i64 o0_4,.int .i64 o0_5,.int .i64 o0_6,.ro (.st (.pair (.int .i64) (.pair (.pair (.int .i64) (.int .i64)) (.pair .str (.pair (.pair (.pair (.int .i64) (.int .i64)) .str) (.pair (.pair (.int .i64) (.int .i64)) .str)))))) o0_7,.ro .bool o0_8]],blk:=49152 }))
def Qy {β:Type}:q6→wI→(wI→Option β)→(zp0→Option β)→Option β:=fun (o0_0,o0_1,o0_2,o0_3,o0_4,o0_5,o0_6,o0_7,o0_8) t3 next exit=>(bif decide (t3<(↑(List.length o0_7):Int)) then (za (WK (t3,o0_0,o0_1,o0_2,o0_3,o0_4,o0_5,o0_6,o0_7,o0_8)) (Sum.elim (fun _=>(exit (Sum.inl ()))) (fun _=>(next (IntKind.wrap .i64 (t3+(1:Int))))))) else (exit (Sum.inr ())))
def yQ (i:q6) (v:wI):Option (wI ⊕ zp0):=Qy i v (fun v=>some (.inl v)) (fun y=>some (.inr y))
theorem zy7 (i:q6) (v:wI) (next:wI→Ans) (exit:zp0→Ans):Qy i v next exit=za (yQ i v) (Sum.elim next exit):=by
  obtain ⟨o0_0,o0_1,o0_2,o0_3,o0_4,o0_5,o0_6,o0_7,o0_8⟩:=i
  obtain z:=v
  simp only [yQ,Qy,zj,zh,zl,zc,zi,zm,zg,Sum.elim_inl,Sum.elim_inr]
theorem zGA (n:Nat) (i:q6) (v:wI) (K:Ex→St→Ans):zx Tryz.tab Jc zd (zy Tryz.tab Jc zd 0 64) (n+1) 25 ziC (.loop zhk) (zD 0 (exk [1] [2] [(0,[1])]) K) (zpB i v)=Qy i v (fun v'=>zx Tryz.tab Jc zd (zy Tryz.tab Jc zd 0 64) n 25 ziC (.loop zhk) (zD 0 (exk [1] [2] [(0,[1])]) K) (zpB i v')) (fun y=>zmc i K y):=by kernel_rfl
theorem zOx:zw Tryz.prog 25 (.loop zhk) (Zr zkW yQ zmc):=Zj mixed tabOk ziK 0 (exk [1] [2] [(0,[1])]) zF6 zMo zGA zy7
noncomputable def zPR:(Ex→St→Ans)→St→Ans:=(Zr zkW yQ zmc)
theorem zUf:zw Tryz.prog 25 (.loop zhk) zPR:=zOx
noncomputable def zZj:Ann:=(.seq .none (.seq (.seq .none (.block (.cut 0 [1,3] zPR))) .none))
theorem zYS:zq Tryz.prog 25 zLf zZj:=⟨(zb _ _ _),⟨⟨(zb _ _ _),zUf⟩,(zb _ _ _)⟩⟩
abbrev zeQ:=(Int)×(Int)×(Int)×(Int)×(Int)×(Int)×(Int)×(List (Int×(Int×Int)×List UInt8×((Int×Int)×List UInt8)×(Int×Int)×List UInt8))×(List Bool)
abbrev zKF:=(Bool)
def zsM {β:Type}:zeQ→(zKF→Option β)→Option β:=fun (a0_0,a0_1,a0_2,a0_3,a0_4,a0_5,a0_6,a0_7,a0_8) exit=>(za (zP (yQ (a0_0,a0_1,a0_2,a0_3,a0_4,a0_5,a0_6,a0_7,a0_8)) zZ ((0:Int))) (Sum.elim (fun _=>(exit (true))) (fun _=>(exit (decide ((↑(List.length a0_8):Int)>(100:Int)))))))
def zdL (a:zeQ):Option zKF:=zsM a some
theorem z2W (a:zeQ) (k:zKF→Ans):zsM a k=za (zdL a) k:=by
  obtain ⟨a0_0,a0_1,a0_2,a0_3,a0_4,a0_5,a0_6,a0_7,a0_8⟩:=a
  simp only [zdL,zsM,zj,zh,zl,zc,zi,zm,zg]
def zCC:zeQ→List AV:=fun (a0_0,a0_1,a0_2,a0_3,a0_4,a0_5,a0_6,a0_7,a0_8)=>[.agg [.int .i64 a0_0,.int .i64 a0_1,.int .i64 a0_2,.int .i64 a0_3,.int .i64 a0_4,.int .i64 a0_5,.int .i64 a0_6,.ro (.st (.pair (.int .i64) (.pair (.pair (.int .i64) (.int .i64)) (.pair .str (.pair (.pair (.pair (.int .i64) (.int .i64)) .str) (.pair (.pair (.int .i64) (.int .i64)) .str)))))) a0_7,.ro .bool a0_8]]
def zIR (l:List AV):Option {a:zeQ // l=zCC a}:=match l with
  | [.agg [.int .i64 a0_0,.int .i64 a0_1,.int .i64 a0_2,.int .i64 a0_3,.int .i64 a0_4,.int .i64 a0_5,.int .i64 a0_6,.ro (.st (.pair (.int .i64) (.pair (.pair (.int .i64) (.int .i64)) (.pair .str (.pair (.pair (.pair (.int .i64) (.int .i64)) .str) (.pair (.pair (.int .i64) (.int .i64)) .str)))))) a0_7,.ro .bool a0_8]]=>some ⟨(a0_0,a0_1,a0_2,a0_3,a0_4,a0_5,a0_6,a0_7,a0_8),rfl⟩
  | _=>none
def zPw (l:List AV):Option zeQ:=pk (zIR l)
theorem zUr (l:List AV) (a:zeQ) (h:zPw l=some a):l=zCC a:=zt (o:=zIR l) h
def zzS:zeQ→zKF→AV:=fun (a0_0,a0_1,a0_2,a0_3,a0_4,a0_5,a0_6,a0_7,a0_8)=>fun r_y => .bool r_y
theorem zVZ : ∀(a:zeQ) (y:zKF),(zzS a y).closed1=true:=by
  rintro ⟨a0_0,a0_1,a0_2,a0_3,a0_4,a0_5,a0_6,a0_7,a0_8⟩ y <;> first | rfl | exact Empty.elim y
theorem z6W (a:zeQ):fnE Tryz.tab Jc zd 0 70 12 Tryz.f12.ntmps Tryz.f12.results.toList zZj zLf (zCC a) [] (fun v _=>some (v,[]))=zsM a (fun y=>some (zzS a y,[])):=by kernel_rfl
def Zce (a:zeQ) (K:AV→Ans):Ans:=za (zdL a) fun y=>K (zzS a y)
def Zbi:List AV→(AV→Ans)→Ans:=fun l K=>za (zPw l) fun a=>Zce a K
theorem z8E:zM Tryz.prog 12 Zbi:=zL (hint:=zd) (d:=0) (n:=70) mixed tabOk ziK Tryz.func12 (zC (by kernel_rfl)) (by decide +kernel) zYS zUr z6W z2W zVZ
--@ ref04_Put
noncomputable def zgH:Env:=[(60,.pure zUI),(65,.pure zrN)]
theorem zr4:zf Tryz.prog zgH:=zf.cons zy4 (zf.cons zdi (zf.nil))
noncomputable def zXz:Code:=Tryz.f33.body.getD .skip
noncomputable def zoW:Code:=zF [1,0,0,0] zXz
noncomputable def zvJ:Ann := .none
theorem zEX:zq Tryz.prog 29 zoW zvJ:=(zb _ _ _)
abbrev jC:=(Int)×(List UInt8)
abbrev zo2:=(Bool)
def zAn:jC→St:=fun (t0,t1)=>{ env:=[(0,.int .i64 t0),(1,.str t1)],stk:=[[]],H:=[],blk:=135168 }
def zuA (s:St):Option {x:jC // s=zAn x}:=match s with
  | { env:=[(0,.int .i64 t0),(1,.str t1)],stk:=[[]],H:=[],blk:=135168 }=>some ⟨(t0,t1),rfl⟩
  | _=>none
def zjv (s:St):Option jC:=pk (zuA s)
theorem zIM (s:St) (x:jC) (h:zjv s=some x):s=zAn x:=zt (o:=zuA s) h
def zkE:jC→(Ex→St→Ans)→zo2→Ans:=fun (t0,t1) K=>fun t7_y=>K (Ex.norm) { env:=[(0,.int .i64 t0),(1,.str t1),(7,.bool t7_y)],stk:=[[]],H:=[],blk:=135168 }
def zar {β:Type}:jC→(zo2→Option β)→Option β:=fun (t0,t1) exit=>(bif decide (t0<(0:Int)) then (exit (true)) else (exit (decide (t0>(255:Int)))))
def qg (i:jC):Option zo2:=zar i some
theorem zzr (i:jC) (k:zo2→Ans):zar i k=za (qg i) k:=by
  obtain ⟨t0,t1⟩:=i
  simp only [qg,zar,zj,zh,zl,zc,zi,zm,zg]
theorem zF0 (i:jC) (K:Ex→St→Ans):zx Tryz.tab zgH zd (zy Tryz.tab zgH zd 0 64) 70 29 zvJ zoW (zD 0 (exk [0,1,7] [4,5] []) K) (zAn i)=zar i (zkE i K):=by kernel_rfl
theorem zOu:zw Tryz.prog 29 zoW (zH zjv qg zkE):=zE mixed tabOk zr4 0 (exk [0,1,7] [4,5] []) zEX zIM zF0 zzr
noncomputable def zQT:(Ex→St→Ans)→St→Ans:=(zH zjv qg zkE)
theorem zTR:zw Tryz.prog 29 zoW zQT:=zOu
noncomputable def zoS:Code:=zF [1,0] zXz
noncomputable def ztf:Ann:=(.block (.seq (.cut 0 [0,1] zQT) .none))
theorem zEg:zq Tryz.prog 29 zoS ztf:=⟨zTR,(zb _ _ _)⟩
abbrev Qs:=(Int)×(List UInt8)
abbrev zow:=((Int)) ⊕ (Unit)
def zCQ:Qs→St:=fun (t0,t1)=>{ env:=[(0,.int .i64 t0),(1,.str t1)],stk:=[[]],H:=[],blk:=135168 }
def ztD (s:St):Option {x:Qs // s=zCQ x}:=match s with
  | { env:=[(0,.int .i64 t0),(1,.str t1)],stk:=[[]],H:=[],blk:=135168 }=>some ⟨(t0,t1),rfl⟩
  | _=>none
def zkf (s:St):Option Qs:=pk (ztD s)
theorem zJi (s:St) (x:Qs) (h:zkf s=some x):s=zCQ x:=zt (o:=ztD s) h
def zkQ:Qs→(Ex→St→Ans)→zow→Ans:=fun (t0,t1) K=>(Sum.elim (fun t5_y=>K (Ex.ret) { env:=[(4,.str ([])),(5,.int .i64 t5_y)],stk:=[[]],H:=[],blk:=135168 }) (fun _=>K (Ex.norm) { env:=[(0,.int .i64 t0),(1,.str t1)],stk:=[[]],H:=[],blk:=135168 }))
def zan {β:Type}:Qs→(zow→Option β)→Option β:=fun (t0,t1) exit=>(za (qg (t0,t1)) fun t7=>(bif t7 then (exit (Sum.inl ((7:Int)))) else (bif decide ((↑(List.length t1):Int)>(600:Int)) then (exit (Sum.inl ((11:Int)))) else (exit (Sum.inr ())))))
def W5 (i:Qs):Option zow:=zan i some
theorem zyj (i:Qs) (k:zow→Ans):zan i k=za (W5 i) k:=by
  obtain ⟨t0,t1⟩:=i
  simp only [W5,zan,zj,zh,zl,zc,zi,zm,zg]
theorem zD5 (i:Qs) (K:Ex→St→Ans):zx Tryz.tab zgH zd (zy Tryz.tab zgH zd 0 64) 70 29 ztf zoS (zD 0 (exk [0,1] [4,5] []) K) (zCQ i)=zan i (zkQ i K):=by kernel_rfl
theorem zNV:zw Tryz.prog 29 zoS (zH zkf W5 zkQ):=zE mixed tabOk zr4 0 (exk [0,1] [4,5] []) zEg zJi zD5 zyj
noncomputable def zSd:(Ex→St→Ans)→St→Ans:=(zH zkf W5 zkQ)
theorem zXc:zw Tryz.prog 29 zoS zSd:=zNV
noncomputable def zYW:Ann:=(.seq .none (.seq (.cut 0 [0,1] zSd) .none))
theorem zYx:zq Tryz.prog 29 zXz zYW:=⟨(zb _ _ _),⟨zXc,(zb _ _ _)⟩⟩
abbrev ze0:=(Int)×(List UInt8)
abbrev zKx:=(List UInt8)×(Int)
def ztO {β:Type}:ze0→(zKx→Option β)→Option β:=fun (a0,a1) exit=>(za (W5 (a0,a1)) (Sum.elim (fun t5=>(exit ([],t5))) (fun _=>(za (Zw ([],a0,(1:Int))) fun r=>(za (Zw (r,(↑(List.length a1):Int),(2:Int))) fun r_2=>(bif Nat.ble (List.length r_2+List.length a1) (9223372036854775807:Nat) then (za (zcr (r_2++a1)) fun r_3=>(bif Nat.ble (List.length (r_2++a1)+List.length r_3) (9223372036854775807:Nat) then (exit (r_2++a1++r_3,(0:Int))) else none)) else none))))))
def zcx (a:ze0):Option zKx:=ztO a some
theorem zYl (a:ze0) (k:zKx→Ans):ztO a k=za (zcx a) k:=by
  obtain ⟨a0,a1⟩:=a
  simp only [zcx,ztO,zj,zh,zl,zc,zi,zm,zg]
def zCp:ze0→List AV:=fun (a0,a1)=>[.int .i64 a0,.str a1]
def zJF (l:List AV):Option {a:ze0 // l=zCp a}:=match l with
  | [.int .i64 a0,.str a1]=>some ⟨(a0,a1),rfl⟩
  | _=>none
def zQy (l:List AV):Option ze0:=pk (zJF l)
theorem zUw (l:List AV) (a:ze0) (h:zQy l=some a):l=zCp a:=zt (o:=zJF l) h
def zCA:ze0→zKx→AV:=fun (a0,a1)=>unP fun r_0_y r_1_y => .tup [.str r_0_y,.int .i64 r_1_y]
theorem zWi : ∀(a:ze0) (y:zKx),(zCA a y).closed1=true:=by
  rintro ⟨a0,a1⟩ y <;> first | rfl | exact Empty.elim y
theorem z7p (a:ze0):fnE Tryz.tab zgH zd 0 70 33 Tryz.f33.ntmps Tryz.f33.results.toList zYW zXz (zCp a) [] (fun v _=>some (v,[]))=ztO a (fun y=>some (zCA a y,[])):=by kernel_rfl
def Zb6 (a:ze0) (K:AV→Ans):Ans:=za (zcx a) fun y=>K (zCA a y)
def Za6:List AV→(AV→Ans)→Ans:=fun l K=>za (zQy l) fun a=>Zb6 a K
theorem z8p:zM Tryz.prog 33 Za6:=zL (hint:=zd) (d:=0) (n:=70) mixed tabOk zr4 Tryz.func33 (zC (by kernel_rfl)) (by decide +kernel) zYx zUw z7p zYl zWi
--@ ref43_Put
noncomputable def zhp:Env:=[(32,.pure Zaa),(26,.pure z9G),(27,.pure ZbA),(15,.pure z5x),(33,.pure Za6)]
theorem zHd:zf Tryz.prog zhp:=zf.cons z87 (zf.cons z84 (zf.cons z9s (zf.cons zQJ (zf.cons z8p (zf.nil)))))
noncomputable def z4n:Code:=Tryz.f13.body.getD .skip
noncomputable def zgW:Code:=zF [1,1,1,1,1,1,0,1,0,0] z4n
noncomputable def ziW:Ann := .at 0 [1,9,10] (.loop .none)
theorem zDB:zq Tryz.prog 70 (.loop zgW) ziW:=Zp (zb _ _ _)
abbrev Qj:=(Int)×(Int)×(Int)×(Int)×(Int)×(Int)×(Int)×(List (Int×(Int×Int)×List UInt8×((Int×Int)×List UInt8)×(Int×Int)×List UInt8))×(List Bool)
abbrev znb:=(List (List UInt8))
abbrev wR:=(Int)×(List (List UInt8))
def znw:Qj→wR→St:=fun (o0_0,o0_1,o0_2,o0_3,o0_4,o0_5,o0_6,o0_7,o0_8) (t10,o1)=>{ env:=[(1,.ptr 0 0),(9,.own 1),(10,.int .i64 t10)],stk:=[[]],H:=[.cells [.int .i64 o0_0,.int .i64 o0_1,.int .i64 o0_2,.int .i64 o0_3,.int .i64 o0_4,.int .i64 o0_5,.int .i64 o0_6,.ro (.st (.pair (.int .i64) (.pair (.pair (.int .i64) (.int .i64)) (.pair .str (.pair (.pair (.pair (.int .i64) (.int .i64)) .str) (.pair (.pair (.int .i64) (.int .i64)) .str)))))) o0_7,.ro .bool o0_8],.arr .str o1],blk:=53248 }
def zsg (s:St):Option {x:Qj×wR // s=znw x.1 x.2}:=match s with
  | { env:=[(1,.ptr 0 0),(9,.own 1),(10,.int .i64 t10)],stk:=[[]],H:=[.cells [.int .i64 o0_0,.int .i64 o0_1,.int .i64 o0_2,.int .i64 o0_3,.int .i64 o0_4,.int .i64 o0_5,.int .i64 o0_6,.ro (.st (.pair (.int .i64) (.pair (.pair (.int .i64) (.int .i64)) (.pair .str (.pair (.pair (.pair (.int .i64) (.int .i64)) .str) (.pair (.pair (.int .i64) (.int .i64)) .str)))))) o0_7,.ro .bool o0_8],.arr .str o1],blk:=53248 }=>some ⟨((o0_0,o0_1,o0_2,o0_3,o0_4,o0_5,o0_6,o0_7,o0_8),(t10,o1)),rfl⟩
  | _=>none
def zj5 (s:St):Option (Qj×wR):=pk (zsg s)
theorem zLX (s:St) (x:Qj×wR) (h:zj5 s=some x):s=znw x.1 x.2:=zt (o:=zsg s) h
def zju:Qj→(Ex→St→Ans)→znb→Ans:=fun (o0_0,o0_1,o0_2,o0_3,o0_4,o0_5,o0_6,o0_7,o0_8) K=>fun o0_y=>K (Ex.exit 0) { env:=[(9,.own 0)],stk:=[[]],H:=[.arr .str o0_y],blk:=53248 }
def Ql {β:Type}:Qj→wR→(wR→Option β)→(znb→Option β)→Option β:=fun (o0_0,o0_1,o0_2,o0_3,o0_4,o0_5,o0_6,o0_7,o0_8) (t10,o1) next exit=>(bif decide (t10<(↑(List.length o0_7):Int)) then (za (nth o0_7 t10) fun x=>(za (nth o0_8 t10) fun x_2=>(za (zdZ (t10,x.fst,x.snd.fst.fst,x.snd.fst.snd,x.snd.snd.fst,x.snd.snd.snd.fst.fst.fst,x.snd.snd.snd.fst.fst.snd,x.snd.snd.snd.fst.snd,x.snd.snd.snd.snd.fst.fst,x.snd.snd.snd.snd.fst.snd,x.snd.snd.snd.snd.snd,x_2)) fun r=>(za (zcx ((21:Int),r)) (unP fun r_0 r_1=>(bif Nat.ble ((List.length o1+List.length [r_0])*(16:Nat)) (140737488355328:Nat) then (next (IntKind.wrap .i64 (t10+(1:Int)),o1++[r_0])) else none)))))) else (exit (o1)))
def yZ (i:Qj) (v:wR):Option (wR ⊕ znb):=Ql i v (fun v=>some (.inl v)) (fun y=>some (.inr y))
theorem zxX (i:Qj) (v:wR) (next:wR→Ans) (exit:znb→Ans):Ql i v next exit=za (yZ i v) (Sum.elim next exit):=by
  obtain ⟨o0_0,o0_1,o0_2,o0_3,o0_4,o0_5,o0_6,o0_7,o0_8⟩:=i
  obtain ⟨t10,o1⟩:=v
  simp only [yZ,Ql,zj,zh,zl,zc,zi,zm,zg,Sum.elim_inl,Sum.elim_inr]
theorem zEk (n:Nat) (i:Qj) (v:wR) (K:Ex→St→Ans):zx Tryz.tab zhp zd (zy Tryz.tab zhp zd 0 64) (n+1) 70 ziW (.loop zgW) (zD 0 (exk [9] [2,3] [(0,[9])]) K) (znw i v)=Ql i v (fun v'=>zx Tryz.tab zhp zd (zy Tryz.tab zhp zd 0 64) n 70 ziW (.loop zgW) (zD 0 (exk [9] [2,3] [(0,[9])]) K) (znw i v')) (fun y=>zju i K y):=by kernel_rfl
theorem zNX:zw Tryz.prog 70 (.loop zgW) (Zr zj5 yZ zju):=Zj mixed tabOk zHd 0 (exk [9] [2,3] [(0,[9])]) zDB zLX zEk zxX
noncomputable def zRC:(Ex→St→Ans)→St→Ans:=(Zr zj5 yZ zju)
theorem zUA:zw Tryz.prog 70 (.loop zgW) zRC:=zNX
noncomputable def z2n:Ann:=(.seq .none (.seq .none (.seq .none (.seq .none (.seq .none (.seq .none (.seq (.seq .none (.block (.cut 0 [1,9,10] zRC))) .none)))))))
theorem z25:zq Tryz.prog 70 z4n z2n:=⟨(zb _ _ _),⟨(zb _ _ _),⟨(zb _ _ _),⟨(zb _ _ _),⟨(zb _ _ _),⟨(zb _ _ _),⟨⟨(zb _ _ _),zUA⟩,(zb _ _ _)⟩⟩⟩⟩⟩⟩⟩
abbrev zfD:=(Int)×(Int)×(Int)×(Int)×(Int)×(Int)×(Int)×(List (Int×(Int×Int)×List UInt8×((Int×Int)×List UInt8)×(Int×Int)×List UInt8))×(List Bool)
abbrev zV8:=(Int)×(List (List UInt8))
def zsv {β:Type}:zfD→(zV8→Option β)→Option β:=fun (a0_0,a0_1,a0_2,a0_3,a0_4,a0_5,a0_6,a0_7,a0_8) exit=>(za (zcB (a0_0,a0_1,a0_2,a0_3,a0_4,a0_5,a0_6,a0_7,a0_8)) fun r=>(bif r != (0:Int) then (exit (r,[])) else (za (zf8 (a0_0,a0_1,a0_2,a0_3,a0_4,a0_5,a0_6)) (unP fun r_0 r_1=>(za (zcx ((20:Int),r_0)) (unP fun r_0_2 r_1_2=>(za (zP (yZ (a0_0,a0_1,a0_2,a0_3,a0_4,a0_5,a0_6,a0_7,a0_8)) zZ ((0:Int),[r_0_2])) fun o0=>(za (zhu (o0)) fun r_2=>(za (zcx ((22:Int),r_2)) (unP fun r_0_3 r_1_3=>(bif Nat.ble ((List.length o0+List.length [r_0_3])*(16:Nat)) (140737488355328:Nat) then (exit ((0:Int),o0++[r_0_3])) else none)))))))))))
def zeZ (a:zfD):Option zV8:=zsv a some
theorem z2l (a:zfD) (k:zV8→Ans):zsv a k=za (zeZ a) k:=by
  obtain ⟨a0_0,a0_1,a0_2,a0_3,a0_4,a0_5,a0_6,a0_7,a0_8⟩:=a
  simp only [zeZ,zsv,zj,zh,zl,zc,zi,zm,zg]
def zp6:zfD→List AV×List AE.Obj:=fun (a0_0,a0_1,a0_2,a0_3,a0_4,a0_5,a0_6,a0_7,a0_8)=>([.agg [.int .i64 a0_0,.int .i64 a0_1,.int .i64 a0_2,.int .i64 a0_3,.int .i64 a0_4,.int .i64 a0_5,.int .i64 a0_6,.ro (.st (.pair (.int .i64) (.pair (.pair (.int .i64) (.int .i64)) (.pair .str (.pair (.pair (.pair (.int .i64) (.int .i64)) .str) (.pair (.pair (.int .i64) (.int .i64)) .str)))))) a0_7,.ro .bool a0_8]],[])
def zJs (l:List AV) (H:List AE.Obj):Option {a:zfD // (l,H)=zp6 a}:=match l,H with
  | [.agg [.int .i64 a0_0,.int .i64 a0_1,.int .i64 a0_2,.int .i64 a0_3,.int .i64 a0_4,.int .i64 a0_5,.int .i64 a0_6,.ro (.st (.pair (.int .i64) (.pair (.pair (.int .i64) (.int .i64)) (.pair .str (.pair (.pair (.pair (.int .i64) (.int .i64)) .str) (.pair (.pair (.int .i64) (.int .i64)) .str)))))) a0_7,.ro .bool a0_8]],[]=>some ⟨(a0_0,a0_1,a0_2,a0_3,a0_4,a0_5,a0_6,a0_7,a0_8),rfl⟩
  | _,_=>none
def zPy (l:List AV) (H:List AE.Obj):Option zfD:=pk (zJs l H)
theorem zWI (l:List AV) (H:List AE.Obj) (a:zfD) (h:zPy l H=some a):(l,H)=zp6 a:=zt (o:=zJs l H) h
def z2x:zfD→(AV→List AE.Obj→Ans)→zV8→Ans:=fun (a0_0,a0_1,a0_2,a0_3,a0_4,a0_5,a0_6,a0_7,a0_8) K=>unP fun r_1_y o0_y=>K (.tup [.own 0,.int .i64 r_1_y]) [.arr .str o0_y]
theorem z6T (a:zfD) (K:AV→List AE.Obj→Ans):fnE Tryz.tab zhp zd 0 70 13 Tryz.f13.ntmps Tryz.f13.results.toList z2n z4n (zp6 a).1 (zp6 a).2 K=zsv a (z2x a K):=by kernel_rfl
def ZcP (a:zfD) (K:AV→List AE.Obj→Ans):Ans:=za (zeZ a) fun y=>z2x a K y
def Zbw:List AV→List AE.Obj→(AV→List AE.Obj→Ans)→Ans:=fun l H K=>za (zPy l H) fun a=>ZcP a K
theorem z8o:zO Tryz.prog 13 Zbw:=ZK (hint:=zd) (d:=0) (n:=70) mixed tabOk zHd Tryz.func13 (zC (by kernel_rfl)) (by decide +kernel) z25 zWI z6T z2l
--@ slices_Equal_api_State_api_State
noncomputable def zgN:Env:=[]
theorem zLk:zf Tryz.prog zgN:=zf.nil
noncomputable def z7v:Code:=Tryz.f38.body.getD .skip
noncomputable def zho:Code:=zF [1,1,0,1,0,0] z7v
noncomputable def ziz:Ann := .at 0 [0,1,12,13] (.loop .none)
theorem zGr:zq Tryz.prog 26 (.loop zho) ziz:=Zp (zb _ _ _)
abbrev QB:=(List (Int×(Int×Int)×List UInt8×((Int×Int)×List UInt8)×(Int×Int)×List UInt8))×(List (Int×(Int×Int)×List UInt8×((Int×Int)×List UInt8)×(Int×Int)×List UInt8))×(Int)
abbrev zn5:=(Unit) ⊕ (Unit)
abbrev wC:=(Int)
def zoH:QB→wC→St:=fun (t0,t1,t12) t13=>{ env:=[(0,.ro (.st (.pair (.int .i64) (.pair (.pair (.int .i64) (.int .i64)) (.pair .str (.pair (.pair (.pair (.int .i64) (.int .i64)) .str) (.pair (.pair (.int .i64) (.int .i64)) .str)))))) t0),(1,.ro (.st (.pair (.int .i64) (.pair (.pair (.int .i64) (.int .i64)) (.pair .str (.pair (.pair (.pair (.int .i64) (.int .i64)) .str) (.pair (.pair (.int .i64) (.int .i64)) .str)))))) t1),(12,.int .i64 t12),(13,.int .i64 t13)],stk:=[[]],H:=[],blk:=155648 }
def zvg (s:St):Option {x:QB×wC // s=zoH x.1 x.2}:=match s with
  | { env:=[(0,.ro (.st (.pair (.int .i64) (.pair (.pair (.int .i64) (.int .i64)) (.pair .str (.pair (.pair (.pair (.int .i64) (.int .i64)) .str) (.pair (.pair (.int .i64) (.int .i64)) .str)))))) t0),(1,.ro (.st (.pair (.int .i64) (.pair (.pair (.int .i64) (.int .i64)) (.pair .str (.pair (.pair (.pair (.int .i64) (.int .i64)) .str) (.pair (.pair (.int .i64) (.int .i64)) .str)))))) t1),(12,.int .i64 t12),(13,.int .i64 t13)],stk:=[[]],H:=[],blk:=155648 }=>some ⟨((t0,t1,t12),t13),rfl⟩
  | _=>none
def zkB (s:St):Option (QB×wC):=pk (zvg s)
theorem zH5 (s:St) (x:QB×wC) (h:zkB s=some x):s=zoH x.1 x.2:=zt (o:=zvg s) h
def zmp:QB→(Ex→St→Ans)→zn5→Ans:=fun (t0,t1,t12) K=>(Sum.elim (fun _=>K (Ex.ret) { env:=[(4,.bool (false))],stk:=[[]],H:=[],blk:=155649 }) (fun _=>K (Ex.exit 0) { env:=[],stk:=[[]],H:=[],blk:=155648 }))
def jy {β:Type}:QB→wC→(wC→Option β)→(zn5→Option β)→Option β:=fun (t0,t1,t12) t13 next exit=>(bif decide (t13<t12) then (za (nth t0 t13) fun x=>(za (nth t1 t13) fun x_2=>(bif !(x.fst == x_2.fst&&(x.snd.fst.fst == x_2.snd.fst.fst&&(x.snd.fst.snd == x_2.snd.fst.snd&&true)&&(x.snd.snd.fst == x_2.snd.snd.fst&&(x.snd.snd.snd.fst.fst.fst == x_2.snd.snd.snd.fst.fst.fst&&(x.snd.snd.snd.fst.fst.snd == x_2.snd.snd.snd.fst.fst.snd&&true)&&(x.snd.snd.snd.fst.snd == x_2.snd.snd.snd.fst.snd&&true)&&(x.snd.snd.snd.snd.fst.fst == x_2.snd.snd.snd.snd.fst.fst&&(x.snd.snd.snd.snd.fst.snd == x_2.snd.snd.snd.snd.fst.snd&&true)&&(x.snd.snd.snd.snd.snd == x_2.snd.snd.snd.snd.snd&&true)&&true))))) then (exit (Sum.inl ())) else (next (IntKind.wrap .i64 (t13+(1:Int))))))) else (exit (Sum.inr ())))
def Yp (i:QB) (v:wC):Option (wC ⊕ zn5):=jy i v (fun v=>some (.inl v)) (fun y=>some (.inr y))
theorem zB9 (i:QB) (v:wC) (next:wC→Ans) (exit:zn5→Ans):jy i v next exit=za (Yp i v) (Sum.elim next exit):=by
  obtain ⟨t0,t1,t12⟩:=i
  obtain z:=v
  simp only [Yp,jy,zj,zh,zl,zc,zi,zm,zg,Sum.elim_inl,Sum.elim_inr]
theorem zE6 (n:Nat) (i:QB) (v:wC) (K:Ex→St→Ans):zx Tryz.tab zgN zd (zy Tryz.tab zgN zd 0 64) (n+1) 26 ziz (.loop zho) (zD 0 (exk [] [4] [(0,[])]) K) (zoH i v)=jy i v (fun v'=>zx Tryz.tab zgN zd (zy Tryz.tab zgN zd 0 64) n 26 ziz (.loop zho) (zD 0 (exk [] [4] [(0,[])]) K) (zoH i v')) (fun y=>zmp i K y):=by kernel_rfl
theorem zN9:zw Tryz.prog 26 (.loop zho) (Zr zkB Yp zmp):=Zj mixed tabOk zLk 0 (exk [] [4] [(0,[])]) zGr zH5 zE6 zB9
noncomputable def zPr:(Ex→St→Ans)→St→Ans:=(Zr zkB Yp zmp)
theorem zVE:zw Tryz.prog 26 (.loop zho) zPr:=zN9
noncomputable def z1z:Ann:=(.seq .none (.seq .none (.seq (.seq .none (.block (.cut 0 [0,1,12,13] zPr))) .none)))
theorem z2h:zq Tryz.prog 26 z7v z1z:=⟨(zb _ _ _),⟨(zb _ _ _),⟨⟨(zb _ _ _),zVE⟩,(zb _ _ _)⟩⟩⟩
abbrev ze3:=(List (Int×(Int×Int)×List UInt8×((Int×Int)×List UInt8)×(Int×Int)×List UInt8))×(List (Int×(Int×Int)×List UInt8×((Int×Int)×List UInt8)×(Int×Int)×List UInt8))
abbrev zMw:=(Bool)
def zsU {β:Type}:ze3→(zMw→Option β)→Option β:=fun (a0,a1) exit=>(bif (↑(List.length a0):Int) != (↑(List.length a1):Int) then (exit (false)) else (za (zP (Yp (a0,a1,(↑(List.length a0):Int))) zZ ((0:Int))) (Sum.elim (fun _=>(exit (false))) (fun _=>(exit (true))))))
def zgT (a:ze3):Option zMw:=zsU a some
theorem z3D (a:ze3) (k:zMw→Ans):zsU a k=za (zgT a) k:=by
  obtain ⟨a0,a1⟩:=a
  simp only [zgT,zsU,zj,zh,zl,zc,zi,zm,zg]
def zxI:ze3→List AV:=fun (a0,a1)=>[.ro (.st (.pair (.int .i64) (.pair (.pair (.int .i64) (.int .i64)) (.pair .str (.pair (.pair (.pair (.int .i64) (.int .i64)) .str) (.pair (.pair (.int .i64) (.int .i64)) .str)))))) a0,.ro (.st (.pair (.int .i64) (.pair (.pair (.int .i64) (.int .i64)) (.pair .str (.pair (.pair (.pair (.int .i64) (.int .i64)) .str) (.pair (.pair (.int .i64) (.int .i64)) .str)))))) a1]
def zIA (l:List AV):Option {a:ze3 // l=zxI a}:=match l with
  | [.ro (.st (.pair (.int .i64) (.pair (.pair (.int .i64) (.int .i64)) (.pair .str (.pair (.pair (.pair (.int .i64) (.int .i64)) .str) (.pair (.pair (.int .i64) (.int .i64)) .str)))))) a0,.ro (.st (.pair (.int .i64) (.pair (.pair (.int .i64) (.int .i64)) (.pair .str (.pair (.pair (.pair (.int .i64) (.int .i64)) .str) (.pair (.pair (.int .i64) (.int .i64)) .str)))))) a1]=>some ⟨(a0,a1),rfl⟩
  | _=>none
def zRx (l:List AV):Option ze3:=pk (zIA l)
theorem zTh (l:List AV) (a:ze3) (h:zRx l=some a):l=zxI a:=zt (o:=zIA l) h
def zyq:ze3→zMw→AV:=fun (a0,a1)=>fun r_y => .bool r_y
theorem zWZ : ∀(a:ze3) (y:zMw),(zyq a y).closed1=true:=by
  rintro ⟨a0,a1⟩ y <;> first | rfl | exact Empty.elim y
theorem z6z (a:ze3):fnE Tryz.tab zgN zd 0 70 38 Tryz.f38.ntmps Tryz.f38.results.toList z1z z7v (zxI a) [] (fun v _=>some (v,[]))=zsU a (fun y=>some (zyq a y,[])):=by kernel_rfl
def ZcI (a:ze3) (K:AV→Ans):Ans:=za (zgT a) fun y=>K (zyq a y)
def Zag:List AV→(AV→Ans)→Ans:=fun l K=>za (zRx l) fun a=>ZcI a K
theorem z8G:zM Tryz.prog 38 Zag:=zL (hint:=zd) (d:=0) (n:=70) mixed tabOk zLk Tryz.func38 (zC (by kernel_rfl)) (by decide +kernel) z2h zTh z6z z3D zWZ
--@ slices_Equal_bool_bool
noncomputable def zha:Env:=[]
theorem zHI:zf Tryz.prog zha:=zf.nil
noncomputable def z7E:Code:=Tryz.f39.body.getD .skip
noncomputable def zgm:Code:=zF [1,1,0,1,0,0] z7E
noncomputable def zh2:Ann := .at 0 [0,1,12,13] (.loop .none)
theorem zF9:zq Tryz.prog 26 (.loop zgm) zh2:=Zp (zb _ _ _)
abbrev q8:=(List Bool)×(List Bool)×(Int)
abbrev zo3:=(Unit) ⊕ (Unit)
abbrev ww:=(Int)
def zpG:q8→ww→St:=fun (t0,t1,t12) t13=>{ env:=[(0,.ro .bool t0),(1,.ro .bool t1),(12,.int .i64 t12),(13,.int .i64 t13)],stk:=[[]],H:=[],blk:=159744 }
def ztt (s:St):Option {x:q8×ww // s=zpG x.1 x.2}:=match s with
  | { env:=[(0,.ro .bool t0),(1,.ro .bool t1),(12,.int .i64 t12),(13,.int .i64 t13)],stk:=[[]],H:=[],blk:=159744 }=>some ⟨((t0,t1,t12),t13),rfl⟩
  | _=>none
def zmh (s:St):Option (q8×ww):=pk (ztt s)
theorem zJp (s:St) (x:q8×ww) (h:zmh s=some x):s=zpG x.1 x.2:=zt (o:=ztt s) h
def zme:q8→(Ex→St→Ans)→zo3→Ans:=fun (t0,t1,t12) K=>(Sum.elim (fun _=>K (Ex.ret) { env:=[(4,.bool (false))],stk:=[[]],H:=[],blk:=159745 }) (fun _=>K (Ex.exit 0) { env:=[],stk:=[[]],H:=[],blk:=159744 }))
def QY {β:Type}:q8→ww→(ww→Option β)→(zo3→Option β)→Option β:=fun (t0,t1,t12) t13 next exit=>(bif decide (t13<t12) then (za (nth t0 t13) fun x=>(za (nth t1 t13) fun x_2=>(bif !x == x_2 then (exit (Sum.inl ())) else (next (IntKind.wrap .i64 (t13+(1:Int))))))) else (exit (Sum.inr ())))
def Yo (i:q8) (v:ww):Option (ww ⊕ zo3):=QY i v (fun v=>some (.inl v)) (fun y=>some (.inr y))
theorem zy0 (i:q8) (v:ww) (next:ww→Ans) (exit:zo3→Ans):QY i v next exit=za (Yo i v) (Sum.elim next exit):=by
  obtain ⟨t0,t1,t12⟩:=i
  obtain z:=v
  simp only [Yo,QY,zj,zh,zl,zc,zi,zm,zg,Sum.elim_inl,Sum.elim_inr]
theorem zFc (n:Nat) (i:q8) (v:ww) (K:Ex→St→Ans):zx Tryz.tab zha zd (zy Tryz.tab zha zd 0 64) (n+1) 26 zh2 (.loop zgm) (zD 0 (exk [] [4] [(0,[])]) K) (zpG i v)=QY i v (fun v'=>zx Tryz.tab zha zd (zy Tryz.tab zha zd 0 64) n 26 zh2 (.loop zgm) (zD 0 (exk [] [4] [(0,[])]) K) (zpG i v')) (fun y=>zme i K y):=by kernel_rfl
theorem zOH:zw Tryz.prog 26 (.loop zgm) (Zr zmh Yo zme):=Zj mixed tabOk zHI 0 (exk [] [4] [(0,[])]) zF9 zJp zFc zy0
noncomputable def zSm:(Ex→St→Ans)→St→Ans:=(Zr zmh Yo zme)
theorem zVV:zw Tryz.prog 26 (.loop zgm) zSm:=zOH
noncomputable def zYw:Ann:=(.seq .none (.seq .none (.seq (.seq .none (.block (.cut 0 [0,1,12,13] zSm))) .none)))
theorem z09:zq Tryz.prog 26 z7E zYw:=⟨(zb _ _ _),⟨(zb _ _ _),⟨⟨(zb _ _ _),zVV⟩,(zb _ _ _)⟩⟩⟩
abbrev zeV:=(List Bool)×(List Bool)
abbrev zIf:=(Bool)
def zsW {β:Type}:zeV→(zIf→Option β)→Option β:=fun (a0,a1) exit=>(bif (↑(List.length a0):Int) != (↑(List.length a1):Int) then (exit (false)) else (za (zP (Yo (a0,a1,(↑(List.length a0):Int))) zZ ((0:Int))) (Sum.elim (fun _=>(exit (false))) (fun _=>(exit (true))))))
def zgK (a:zeV):Option zIf:=zsW a some
theorem z3u (a:zeV) (k:zIf→Ans):zsW a k=za (zgK a) k:=by
  obtain ⟨a0,a1⟩:=a
  simp only [zgK,zsW,zj,zh,zl,zc,zi,zm,zg]
def zxx:zeV→List AV:=fun (a0,a1)=>[.ro .bool a0,.ro .bool a1]
def zMC (l:List AV):Option {a:zeV // l=zxx a}:=match l with
  | [.ro .bool a0,.ro .bool a1]=>some ⟨(a0,a1),rfl⟩
  | _=>none
def zSk (l:List AV):Option zeV:=pk (zMC l)
theorem zT8 (l:List AV) (a:zeV) (h:zSk l=some a):l=zxx a:=zt (o:=zMC l) h
def zzO:zeV→zIf→AV:=fun (a0,a1)=>fun r_y => .bool r_y
theorem zXa : ∀(a:zeV) (y:zIf),(zzO a y).closed1=true:=by
  rintro ⟨a0,a1⟩ y <;> first | rfl | exact Empty.elim y
theorem z4t (a:zeV):fnE Tryz.tab zha zd 0 70 39 Tryz.f39.ntmps Tryz.f39.results.toList zYw z7E (zxx a) [] (fun v _=>some (v,[]))=zsW a (fun y=>some (zzO a y,[])):=by kernel_rfl
def ZbJ (a:zeV) (K:AV→Ans):Ans:=za (zgK a) fun y=>K (zzO a y)
def ZaC:List AV→(AV→Ans)→Ans:=fun l K=>za (zSk l) fun a=>ZbJ a K
theorem z88:zM Tryz.prog 39 ZaC:=zL (hint:=zd) (d:=0) (n:=70) mixed tabOk zHI Tryz.func39 (zC (by kernel_rfl)) (by decide +kernel) z09 zT8 z4t z3u zXa
--@ dump_Same
noncomputable def zsC:Env:=[(38,.pure Zag),(39,.pure ZaC)]
theorem zIL:zf Tryz.prog zsC:=zf.cons z8G (zf.cons z88 (zf.nil))
noncomputable def z4j:Code:=Tryz.f16.body.getD .skip
noncomputable def zm5:Code:=zF [1,0] z4j
noncomputable def zu0:Ann := .none
theorem zD9:zq Tryz.prog 24 zm5 zu0:=(zb _ _ _)
abbrev Qu:=(Int)×(Int)×(Int)×(Int)×(Int)×(Int)×(Int)×(List (Int×(Int×Int)×List UInt8×((Int×Int)×List UInt8)×(Int×Int)×List UInt8))×(List Bool)×(Int)×(Int)×(Int)×(Int)×(Int)×(Int)×(Int)×(List (Int×(Int×Int)×List UInt8×((Int×Int)×List UInt8)×(Int×Int)×List UInt8))×(List Bool)
abbrev zpi:=(Bool)
def zAk:Qu→St:=fun (o0_0,o0_1,o0_2,o0_3,o0_4,o0_5,o0_6,o0_7,o0_8,o1_0,o1_1,o1_2,o1_3,o1_4,o1_5,o1_6,o1_7,o1_8)=>{ env:=[(2,.ptr 0 0),(3,.ptr 1 0)],stk:=[[]],H:=[.cells [.int .i64 o0_0,.int .i64 o0_1,.int .i64 o0_2,.int .i64 o0_3,.int .i64 o0_4,.int .i64 o0_5,.int .i64 o0_6,.ro (.st (.pair (.int .i64) (.pair (.pair (.int .i64) (.int .i64)) (.pair .str (.pair (.pair (.pair (.int .i64) (.int .i64)) .str) (.pair (.pair (.int .i64) (.int .i64)) .str)))))) o0_7,.ro .bool o0_8],.cells [.int .i64 o1_0,.int .i64 o1_1,.int .i64 o1_2,.int .i64 o1_3,.int .i64 o1_4,.int .i64 o1_5,.int .i64 o1_6,.ro (.st (.pair (.int .i64) (.pair (.pair (.int .i64) (.int .i64)) (.pair .str (.pair (.pair (.pair (.int .i64) (.int .i64)) .str) (.pair (.pair (.int .i64) (.int .i64)) .str)))))) o1_7,.ro .bool o1_8]],blk:=65536 }
def zte (s:St):Option {x:Qu // s=zAk x}:=match s with
  | { env:=[(2,.ptr 0 0),(3,.ptr 1 0)],stk:=[[]],H:=[.cells [.int .i64 o0_0,.int .i64 o0_1,.int .i64 o0_2,.int .i64 o0_3,.int .i64 o0_4,.int .i64 o0_5,.int .i64 o0_6,.ro (.st (.pair (.int .i64) (.pair (.pair (.int .i64) (.int .i64)) (.pair .str (.pair (.pair (.pair (.int .i64) (.int .i64)) .str) (.pair (.pair (.int .i64) (.int .i64)) .str)))))) o0_7,.ro .bool o0_8],.cells [.int .i64 o1_0,.int .i64 o1_1,.int .i64 o1_2,.int .i64 o1_3,.int .i64 o1_4,.int .i64 o1_5,.int .i64 o1_6,.ro (.st (.pair (.int .i64) (.pair (.pair (.int .i64) (.int .i64)) (.pair .str (.pair (.pair (.pair (.int .i64) (.int .i64)) .str) (.pair (.pair (.int .i64) (.int .i64)) .str)))))) o1_7,.ro .bool o1_8]],blk:=65536 }=>some ⟨(o0_0,o0_1,o0_2,o0_3,o0_4,o0_5,o0_6,o0_7,o0_8,o1_0,o1_1,o1_2,o1_3,o1_4,o1_5,o1_6,o1_7,o1_8),rfl⟩
  | _=>none
def zjR (s:St):Option Qu:=pk (zte s)
theorem zLE (s:St) (x:Qu) (h:zjR s=some x):s=zAk x:=zt (o:=zte s) h
def zmi:Qu→(Ex→St→Ans)→zpi→Ans:=fun (o0_0,o0_1,o0_2,o0_3,o0_4,o0_5,o0_6,o0_7,o0_8,o1_0,o1_1,o1_2,o1_3,o1_4,o1_5,o1_6,o1_7,o1_8) K=>fun t4_y=>K (Ex.norm) { env:=[(4,.bool t4_y)],stk:=[[]],H:=[],blk:=65536 }
def J7 {β:Type}:Qu→(zpi→Option β)→Option β:=fun (o0_0,o0_1,o0_2,o0_3,o0_4,o0_5,o0_6,o0_7,o0_8,o1_0,o1_1,o1_2,o1_3,o1_4,o1_5,o1_6,o1_7,o1_8) exit=>(bif o0_0 == o1_0&&(o0_1 == o1_1&&(o0_2 == o1_2&&(o0_3 == o1_3&&(o0_4 == o1_4&&(o0_5 == o1_5&&(o0_6 == o1_6&&true))&&true)))) then (za (zgT (o0_7,o1_7)) fun r=>(bif r then (za (zgK (o0_8,o1_8)) fun r_2=>(exit (r_2))) else (exit (false)))) else (exit (false)))
def qb (i:Qu):Option zpi:=J7 i some
theorem zCM (i:Qu) (k:zpi→Ans):J7 i k=za (qb i) k:=by
  obtain ⟨o0_0,o0_1,o0_2,o0_3,o0_4,o0_5,o0_6,o0_7,o0_8,o1_0,o1_1,o1_2,o1_3,o1_4,o1_5,o1_6,o1_7,o1_8⟩:=i
  simp only [qb,J7,zj,zh,zl,zc,zi,zm,zg]
theorem zEA (i:Qu) (K:Ex→St→Ans):zx Tryz.tab zsC zd (zy Tryz.tab zsC zd 0 64) 70 24 zu0 zm5 (zD 0 (exk [4] [4] []) K) (zAk i)=J7 i (zmi i K):=by kernel_rfl
theorem zNG:zw Tryz.prog 24 zm5 (zH zjR qb zmi):=zE mixed tabOk zIL 0 (exk [4] [4] []) zD9 zLE zEA zCM
noncomputable def zSy:(Ex→St→Ans)→St→Ans:=(zH zjR qb zmi)
theorem zT5:zw Tryz.prog 24 zm5 zSy:=zNG
noncomputable def z3v:Ann:=(.seq .none (.seq (.cut 0 [2,3] zSy) .none))
theorem z0x:zq Tryz.prog 24 z4j z3v:=⟨(zb _ _ _),⟨zT5,(zb _ _ _)⟩⟩
abbrev ze4:=(Int)×(Int)×(Int)×(Int)×(Int)×(Int)×(Int)×(List (Int×(Int×Int)×List UInt8×((Int×Int)×List UInt8)×(Int×Int)×List UInt8))×(List Bool)×(Int)×(Int)×(Int)×(Int)×(Int)×(Int)×(Int)×(List (Int×(Int×Int)×List UInt8×((Int×Int)×List UInt8)×(Int×Int)×List UInt8))×(List Bool)
abbrev zHs:=(Bool)
def zvN {β:Type}:ze4→(zHs→Option β)→Option β:=fun (a0_0,a0_1,a0_2,a0_3,a0_4,a0_5,a0_6,a0_7,a0_8,a1_0,a1_1,a1_2,a1_3,a1_4,a1_5,a1_6,a1_7,a1_8) exit=>(za (qb (a0_0,a0_1,a0_2,a0_3,a0_4,a0_5,a0_6,a0_7,a0_8,a1_0,a1_1,a1_2,a1_3,a1_4,a1_5,a1_6,a1_7,a1_8)) fun t4=>(exit (t4)))
def zek (a:ze4):Option zHs:=zvN a some
theorem zX7 (a:ze4) (k:zHs→Ans):zvN a k=za (zek a) k:=by
  obtain ⟨a0_0,a0_1,a0_2,a0_3,a0_4,a0_5,a0_6,a0_7,a0_8,a1_0,a1_1,a1_2,a1_3,a1_4,a1_5,a1_6,a1_7,a1_8⟩:=a
  simp only [zek,zvN,zj,zh,zl,zc,zi,zm,zg]
def zBQ:ze4→List AV:=fun (a0_0,a0_1,a0_2,a0_3,a0_4,a0_5,a0_6,a0_7,a0_8,a1_0,a1_1,a1_2,a1_3,a1_4,a1_5,a1_6,a1_7,a1_8)=>[.agg [.int .i64 a0_0,.int .i64 a0_1,.int .i64 a0_2,.int .i64 a0_3,.int .i64 a0_4,.int .i64 a0_5,.int .i64 a0_6,.ro (.st (.pair (.int .i64) (.pair (.pair (.int .i64) (.int .i64)) (.pair .str (.pair (.pair (.pair (.int .i64) (.int .i64)) .str) (.pair (.pair (.int .i64) (.int .i64)) .str)))))) a0_7,.ro .bool a0_8],.agg [.int .i64 a1_0,.int .i64 a1_1,.int .i64 a1_2,.int .i64 a1_3,.int .i64 a1_4,.int .i64 a1_5,.int .i64 a1_6,.ro (.st (.pair (.int .i64) (.pair (.pair (.int .i64) (.int .i64)) (.pair .str (.pair (.pair (.pair (.int .i64) (.int .i64)) .str) (.pair (.pair (.int .i64) (.int .i64)) .str)))))) a1_7,.ro .bool a1_8]]
def zK4 (l:List AV):Option {a:ze4 // l=zBQ a}:=match l with
  | [.agg [.int .i64 a0_0,.int .i64 a0_1,.int .i64 a0_2,.int .i64 a0_3,.int .i64 a0_4,.int .i64 a0_5,.int .i64 a0_6,.ro (.st (.pair (.int .i64) (.pair (.pair (.int .i64) (.int .i64)) (.pair .str (.pair (.pair (.pair (.int .i64) (.int .i64)) .str) (.pair (.pair (.int .i64) (.int .i64)) .str)))))) a0_7,.ro .bool a0_8],.agg [.int .i64 a1_0,.int .i64 a1_1,.int .i64 a1_2,.int .i64 a1_3,.int .i64 a1_4,.int .i64 a1_5,.int .i64 a1_6,.ro (.st (.pair (.int .i64) (.pair (.pair (.int .i64) (.int .i64)) (.pair .str (.pair (.pair (.pair (.int .i64) (.int .i64)) .str) (.pair (.pair (.int .i64) (.int .i64)) .str)))))) a1_7,.ro .bool a1_8]]=>some ⟨(a0_0,a0_1,a0_2,a0_3,a0_4,a0_5,a0_6,a0_7,a0_8,a1_0,a1_1,a1_2,a1_3,a1_4,a1_5,a1_6,a1_7,a1_8),rfl⟩
  | _=>none
def zQD (l:List AV):Option ze4:=pk (zK4 l)
theorem zVM (l:List AV) (a:ze4) (h:zQD l=some a):l=zBQ a:=zt (o:=zK4 l) h
def zBd:ze4→zHs→AV:=fun (a0_0,a0_1,a0_2,a0_3,a0_4,a0_5,a0_6,a0_7,a0_8,a1_0,a1_1,a1_2,a1_3,a1_4,a1_5,a1_6,a1_7,a1_8)=>fun r_y => .bool r_y
theorem zUp : ∀(a:ze4) (y:zHs),(zBd a y).closed1=true:=by
  rintro ⟨a0_0,a0_1,a0_2,a0_3,a0_4,a0_5,a0_6,a0_7,a0_8,a1_0,a1_1,a1_2,a1_3,a1_4,a1_5,a1_6,a1_7,a1_8⟩ y <;> first | rfl | exact Empty.elim y
theorem z4N (a:ze4):fnE Tryz.tab zsC zd 0 70 16 Tryz.f16.ntmps Tryz.f16.results.toList z3v z4j (zBQ a) [] (fun v _=>some (v,[]))=zvN a (fun y=>some (zBd a y,[])):=by kernel_rfl
def Zb5 (a:ze4) (K:AV→Ans):Ans:=za (zek a) fun y=>K (zBd a y)
def ZaO:List AV→(AV→Ans)→Ans:=fun l K=>za (zQD l) fun a=>Zb5 a K
theorem z8Y:zM Tryz.prog 16 ZaO:=zL (hint:=zd) (d:=0) (n:=70) mixed tabOk zIL Tryz.func16 (zC (by kernel_rfl)) (by decide +kernel) z0x zVM z4N zX7 zUp
--@ dump_Get_2
noncomputable def z7U:Env:=[]
theorem z9v:zf Tryz.prog z7U:=zf.nil
noncomputable def bq8:Code:=Tryz.f7.body.getD .skip
noncomputable def z7S:Ann := .none
theorem z4s:zq Tryz.prog 83 bq8 z7S:=(zb _ _ _)
abbrev Aq8:=Unit
abbrev Yq8:=Unit
def zTV {β:Type}:Aq8→(Yq8→Option β)→Option β:=fun _ exit=>(exit ())
def zGY (a:Aq8):Option Yq8:=zTV a some
theorem z5k (a:Aq8) (k:Yq8→Ans):zTV a k=za (zGY a) k:=by
  obtain z:=a
  simp only [zGY,zTV,zj,zh,zl,zc,zi,zm,zg]
def ztV:Aq8→List AV×List AE.Obj:=fun _=>([.nils],[])
def zPp (l:List AV) (H:List AE.Obj):Option {a:Aq8 // (l,H)=ztV a}:=match l,H with
  | [.nils],[]=>some ⟨(),rfl⟩
  | _,_=>none
def zY9 (l:List AV) (H:List AE.Obj):Option Aq8:=pk (zPp l H)
theorem zZy (l:List AV) (H:List AE.Obj) (a:Aq8) (h:zY9 l H=some a):(l,H)=ztV a:=zt (o:=zPp l H) h
def z7J:Aq8→(AV→List AE.Obj→Ans)→Yq8→Ans:=fun _ K=>fun _=>K (.tup [.agg [.int .i64 (0),.int .i64 (0),.int .i64 (0),.int .i64 (0),.int .i64 (0),.int .i64 (0),.int .i64 (0),.own 0,.own 1],.int .i64 (1)]) [.arr (.st (.pair (.int .i64) (.pair (.pair (.int .i64) (.int .i64)) (.pair .str (.pair (.pair (.pair (.int .i64) (.int .i64)) .str) (.pair (.pair (.int .i64) (.int .i64)) .str)))))) ([]),.arr .bool ([])]
theorem z8C (a:Aq8) (K:AV→List AE.Obj→Ans):fnE Tryz.tab z7U zd 0 70 7 Tryz.f7.ntmps Tryz.f7.results.toList z7S bq8 (ztV a).1 (ztV a).2 K=zTV a (z7J a K):=by kernel_rfl
def Zc6 (a:Aq8) (K:AV→List AE.Obj→Ans):Ans:=za (zGY a) fun y=>z7J a K y
def Fq8:List AV→List AE.Obj→(AV→List AE.Obj→Ans)→Ans:=fun l H K=>za (zY9 l H) fun a=>Zc6 a K
theorem z9E:zO Tryz.prog 7 Fq8:=ZK (hint:=zd) (d:=0) (n:=70) mixed tabOk z9v Tryz.func7 (zC (by kernel_rfl)) (by decide +kernel) z4s zZy z8C z5k
--@ law01_Same_3
noncomputable def zcb:Env:=[]
theorem zrq:zf Tryz.prog zcb:=zf.nil
noncomputable def zUV:Code:=Tryz.f11.body.getD .skip
noncomputable def znI:Code:=zF [1,1,0,1,0,0,0,0] zUV
noncomputable def zsR:Ann := .none
theorem zFh:zq Tryz.prog 32 znI zsR:=(zb _ _ _)
abbrev jB:=(List (List UInt8))
abbrev zoG:=Unit
def zzo:jB→St:=fun t1=>{ env:=[(0,.nils),(1,.ro .str t1),(5,.int .i64 (0))],stk:=[[]],H:=[],blk:=45056 }
def zxb (s:St):Option {x:jB // s=zzo x}:=match s with
  | { env:=[(0,.nils),(1,.ro .str t1),(5,.int .i64 r1)],stk:=[[]],H:=[],blk:=45056 }=>if h1:r1=0 then some ⟨(t1),by subst h1;rfl⟩ else none
  | _=>none
def zmX (s:St):Option jB:=pk (zxb s)
theorem zIq (s:St) (x:jB) (h:zmX s=some x):s=zzo x:=zt (o:=zxb s) h
def zl5:jB→(Ex→St→Ans)→zoG→Ans:=fun t1 K=>fun _=>K (Ex.norm) { env:=[(0,.nils),(1,.ro .str t1),(5,.int .i64 (0)),(20,.bool (false))],stk:=[[]],H:=[],blk:=45056 }
def zdd {β:Type}:jB→(zoG→Option β)→Option β:=fun t1 exit=>(exit ())
def Je (i:jB):Option zoG:=zdd i some
theorem zyi (i:jB) (k:zoG→Ans):zdd i k=za (Je i) k:=by
  obtain z:=i
  simp only [Je,zdd,zj,zh,zl,zc,zi,zm,zg]
theorem zEQ (i:jB) (K:Ex→St→Ans):zx Tryz.tab zcb zd (zy Tryz.tab zcb zd 0 64) 70 32 zsR znI (zD 0 (exk [0,1,5,20] [4] []) K) (zzo i)=zdd i (zl5 i K):=by kernel_rfl
theorem zN1:zw Tryz.prog 32 znI (zH zmX Je zl5):=zE mixed tabOk zrq 0 (exk [0,1,5,20] [4] []) zFh zIq zEQ zyi
noncomputable def zRn:(Ex→St→Ans)→St→Ans:=(zH zmX Je zl5)
theorem zWs:zw Tryz.prog 32 znI zRn:=zN1
noncomputable def zgf:Code:=zF [1,1,0,1,0,0] zUV
noncomputable def zhT:Ann := .at 0 [0,1,5] (.loop (.seq (.seq (.cut 0 [0,1,5] zRn) .none) .none))
theorem zGp:zq Tryz.prog 32 (.loop zgf) zhT:=Zp ⟨⟨zWs,(zb _ _ _)⟩,(zb _ _ _)⟩
abbrev Qz:=(List (List UInt8))
abbrev zpN:=Unit
abbrev wU:=Unit
def zpA:Qz→wU→St:=fun t1 _=>{ env:=[(0,.nils),(1,.ro .str t1),(5,.int .i64 (0))],stk:=[[]],H:=[],blk:=45056 }
def zvq (s:St):Option {x:Qz×wU // s=zpA x.1 x.2}:=match s with
  | { env:=[(0,.nils),(1,.ro .str t1),(5,.int .i64 r1)],stk:=[[]],H:=[],blk:=45056 }=>if h1:r1=0 then some ⟨(t1,()),by subst h1;rfl⟩ else none
  | _=>none
def zlQ (s:St):Option (Qz×wU):=pk (zvq s)
theorem zIx (s:St) (x:Qz×wU) (h:zlQ s=some x):s=zpA x.1 x.2:=zt (o:=zvq s) h
def zk3:Qz→(Ex→St→Ans)→zpN→Ans:=fun t1 K=>fun _=>K (Ex.exit 0) { env:=[],stk:=[[]],H:=[],blk:=45056 }
def zc6 {β:Type}:Qz→wU→(wU→Option β)→(zpN→Option β)→Option β:=fun t1 _ next exit=>(za (Je (t1)) fun _=>(exit ()))
def Jd (i:Qz) (v:wU):Option (wU ⊕ zpN):=zc6 i v (fun v=>some (.inl v)) (fun y=>some (.inr y))
theorem zzv (i:Qz) (v:wU) (next:wU→Ans) (exit:zpN→Ans):zc6 i v next exit=za (Jd i v) (Sum.elim next exit):=by
  obtain z:=i
  obtain z:=v
  simp only [Jd,zc6,zj,zh,zl,zc,zi,zm,zg,Sum.elim_inl,Sum.elim_inr]
theorem zFW (n:Nat) (i:Qz) (v:wU) (K:Ex→St→Ans):zx Tryz.tab zcb zd (zy Tryz.tab zcb zd 0 64) (n+1) 32 zhT (.loop zgf) (zD 0 (exk [] [4] [(0,[])]) K) (zpA i v)=zc6 i v (fun v'=>zx Tryz.tab zcb zd (zy Tryz.tab zcb zd 0 64) n 32 zhT (.loop zgf) (zD 0 (exk [] [4] [(0,[])]) K) (zpA i v')) (fun y=>zk3 i K y):=by kernel_rfl
theorem zPc:zw Tryz.prog 32 (.loop zgf) (Zr zlQ Jd zk3):=Zj mixed tabOk zrq 0 (exk [] [4] [(0,[])]) zGp zIx zFW zzv
noncomputable def zQj:(Ex→St→Ans)→St→Ans:=(Zr zlQ Jd zk3)
theorem zTX:zw Tryz.prog 32 (.loop zgf) zQj:=zPc
noncomputable def z3f:Ann:=(.seq .none (.seq .none (.seq (.seq .none (.block (.cut 0 [0,1,5] zQj))) .none)))
theorem zY6:zq Tryz.prog 32 zUV z3f:=⟨(zb _ _ _),⟨(zb _ _ _),⟨⟨(zb _ _ _),zTX⟩,(zb _ _ _)⟩⟩⟩
abbrev zen:=(List (List UInt8))
abbrev zIe:=(Bool)
def zGW {β:Type}:zen→(zIe→Option β)→Option β:=fun a1 exit=>(bif (0:Int) != (↑(List.length a1):Int) then (exit (false)) else (za (zP (Jd (a1)) zZ ()) fun _=>(exit (true))))
def zvl (a:zen):Option zIe:=zGW a some
theorem z2Y (a:zen) (k:zIe→Ans):zGW a k=za (zvl a) k:=by
  obtain z:=a
  simp only [zvl,zGW,zj,zh,zl,zc,zi,zm,zg]
def zAG:zen→List AV:=fun a1=>[.nils,.ro .str a1]
def zKj (l:List AV):Option {a:zen // l=zAG a}:=match l with
  | [.nils,.ro .str a1]=>some ⟨(a1),rfl⟩
  | _=>none
def zQY (l:List AV):Option zen:=pk (zKj l)
theorem zSL (l:List AV) (a:zen) (h:zQY l=some a):l=zAG a:=zt (o:=zKj l) h
def zzE:zen→zIe→AV:=fun a1=>fun r_y => .bool r_y
theorem zXP : ∀(a:zen) (y:zIe),(zzE a y).closed1=true:=by
  rintro z y <;> first | rfl | exact Empty.elim y
theorem z7k (a:zen):fnE Tryz.tab zcb zd 0 70 11 Tryz.f11.ntmps Tryz.f11.results.toList z3f zUV (zAG a) [] (fun v _=>some (v,[]))=zGW a (fun y=>some (zzE a y,[])):=by kernel_rfl
def Zcc (a:zen) (K:AV→Ans):Ans:=za (zvl a) fun y=>K (zzE a y)
def ZbE:List AV→(AV→Ans)→Ans:=fun l K=>za (zQY l) fun a=>Zcc a K
theorem z8z:zM Tryz.prog 11 ZbE:=zL (hint:=zd) (d:=0) (n:=70) mixed tabOk zrq Tryz.func11 (zC (by kernel_rfl)) (by decide +kernel) zY6 zSL z7k z2Y zXP
end Go.Proofs.R9
namespace Go.Proofs.R9
open Go Go.AE Go.Plain
set_option maxRecDepth 100000
def wp (k:Nat) (b:List UInt8):List UInt8:=zG (zG [] (k:Int) 1) (b.length:Int) 2++b
def yB (k:Nat) (b:List UInt8):List UInt8:=wp k b++tail (wp k b)
theorem zJC {k:Nat} {b:List UInt8} (hk:k≤255) (hb:b.length≤600):wp k b=be 1 k++(be 2 b.length++b):=by
  unfold wp zG
  rw [if_pos ⟨by omega,by simp only [Nat.reducePow];omega⟩,if_pos ⟨by omega,by simp only [Nat.reducePow];omega⟩,Int.toNat_natCast,Int.toNat_natCast,List.nil_append,List.append_assoc]
theorem zfj {k:Nat} {b:List UInt8} (hk:k≤255) (hb:b.length≤600):(wp k b).length=3+b.length:=by
  rw [zJC hk hb,List.length_append,List.length_append,zW,zW];omega
theorem zfs {k:Nat} {b:List UInt8} (hk:k≤255) (hb:b.length≤600):(yB k b).length=7+b.length:=by
  unfold yB;rw [List.length_append,zfj hk hb,Zk];omega
theorem zXj (k:Nat) (b:List UInt8) (hk:k≤255) (hb:b.length≤600):zgv ((k:Int),b)=some (yB k b,0):=by
  have hl:=zfj hk hb
  have l1:=zX [] (k:Int) 1
  simp only [List.length_nil] at l1
  have e1:Zz ([],(k:Int),1)=some (zG [] (k:Int) 1):=yx [] (k:Int) 1 (by omega) (by simp)
  have e2:Zz (zG [] (k:Int) 1,(b.length:Int),2)=some (zG (zG [] (k:Int) 1) (b.length:Int) 2):=yx _ (b.length:Int) 2 (by omega) (by omega)
  have l2:=zX (zG [] (k:Int) 1) (b.length:Int) 2
  have hs:zG (zG [] (k:Int) 1) (b.length:Int) 2++b=wp k b:=rfl
  simp only [zgv,zus,qq,zaH,WC,zao,zn (show ¬(k:Int)<0 by omega),zn (show ¬(k:Int)>255 by omega),zn (show ¬(b.length:Int)>600 by omega),
    cond_false,zc,Sum.elim_inr,e1,e2,Zf (show (zG (zG [] (k:Int) 1) (b.length:Int) 2).length+b.length≤9223372036854775807 by omega),cond_true,hs,wD _ (show (wp k b).length≤1000000000000 by omega),
    Zk,Zf (show (wp k b).length+4≤9223372036854775807 by omega)]
  rfl
theorem zcH (k:Nat) (b:List UInt8) (hk:k≤255) (hb:b.length≤600):zcx ((k:Int),b)=some (yB k b,0):=by
  have hl:=zfj hk hb
  have l1:=zX [] (k:Int) 1
  simp only [List.length_nil] at l1
  have e1:Zw ([],(k:Int),1)=some (zG [] (k:Int) 1):=yr [] (k:Int) 1 (by omega) (by omega) (by simp)
  have e2:Zw (zG [] (k:Int) 1,(b.length:Int),2)=some (zG (zG [] (k:Int) 1) (b.length:Int) 2):=yr _ (b.length:Int) 2 (by omega) (by omega) (by omega)
  have l2:=zX (zG [] (k:Int) 1) (b.length:Int) 2
  have hs:zG (zG [] (k:Int) 1) (b.length:Int) 2++b=wp k b:=rfl
  simp only [zcx,ztO,W5,zan,qg,zar,zn (show ¬(k:Int)<0 by omega),zn (show ¬(k:Int)>255 by omega),zn (show ¬(b.length:Int)>600 by omega),
    cond_false,zc,Sum.elim_inr,e1,e2,Zf (show (zG (zG [] (k:Int) 1) (b.length:Int) 2).length+b.length≤9223372036854775807 by omega),cond_true,hs,zcJ _ (show (wp k b).length≤1000000000000 by omega),
    Zk,Zf (show (wp k b).length+4≤9223372036854775807 by omega)]
  rfl
def JQ (s:List UInt8):Nat:=num ((s.drop 1).take 2)
def Zy (s:List UInt8):Int×List UInt8×Int :=
  if s.length<7 then (0,[],1) else if 600<JQ s then (0,[],11) else if s.length<JQ s+7 then (0,[],1)
  else if (s.drop (3+JQ s)).take 4≠tail (s.take (3+JQ s)) then (0,[],5) else if s.length≠JQ s+7 then (0,[],2)
  else (((num (s.take 1):Nat):Int),(s.drop 3).take (JQ s),0)
theorem zUb (s:List UInt8) (hl:s.length≤1000000000000):zhj s=some (Zy s):=by
  unfold Zy
  simp only [zhj,ztq,zk4,zsL]
  by_cases h7:s.length<7
  · rw [if_pos h7,zo (show (s.length:Int)<7 by omega),cond_true];rfl
  rw [if_neg h7,zn (show ¬(s.length:Int)<7 by omega),cond_false]
  have e1:Z5 (1,s,0)=some (((num (s.take 1):Nat):Int),s.drop 1,0):=by have:=zdW 1 s 0 (by omega) hl;rw [YW (by omega)] at this;exact this
  have e2:Z5 (2,s.drop 1,0)=some (((JQ s:Nat):Int),s.drop 3,0):=by
    have:=zdW 2 (s.drop 1) 0 (by omega) (by rw [List.length_drop];omega);rw [YW (by rw [List.length_drop];omega),List.drop_drop] at this;exact this
  simp only [Ws,zcU,zc,e1,unP,e2]
  generalize JQ s=n
  by_cases h6:600<n
  · rw [if_pos h6,zo (show (n:Int)>600 by omega),cond_true];rfl
  rw [if_neg h6,zn (show ¬(n:Int)>600 by omega),cond_false,zeu n (s.drop 3) 0 (by rw [List.length_drop];omega)]
  by_cases hs:s.length<n+7
  · rw [if_pos hs]
    have e4 : ∃b r,rdB n (s.drop 3) 0=(b,r,(rdB n (s.drop 3) 0).2.2)∧rdB 4 r (rdB n (s.drop 3) 0).2.2=([],r,1)∧r.length≤s.length:=by
      by_cases hn:(s.drop 3).length<n
      · exact ⟨[],s.drop 3,by rw [JC hn],by rw [JC hn];exact zoy 4 _ (show (1:Int)≠0 by decide),by rw [List.length_drop];omega⟩
      · rw [YW (by omega)]
        exact ⟨_,_,rfl,JC (by rw [List.length_drop,List.length_drop] at *;omega),by rw [List.length_drop,List.length_drop];omega⟩
    obtain ⟨b,r,hb,h4,hr⟩:=e4
    rw [hb]
    have e5:=zeu 4 r (rdB n (s.drop 3) 0).2.2 (by omega)
    rw [h4] at e5
    have e5':yK (4,r,(rdB n (s.drop 3) 0).2.2)=some ([],r,1):=e5
    simp only [zc,unP,e5',zhR]
    rfl
  rw [if_neg hs,YW (by rw [List.length_drop];omega),List.drop_drop]
  have e5:yK (4,s.drop (3+n),0)=some ((s.drop (3+n)).take 4,s.drop (7+n),0):=by
    have:=zeu 4 (s.drop (3+n)) 0 (by rw [List.length_drop];omega)
    rw [YW (by rw [List.length_drop];omega),List.drop_drop,show 3+n+4=7+n by omega] at this
    exact this
  have e6:(bif rdE (s.drop (7+n)) 0 == 1 then (some (0,[],[],rdE (s.drop (7+n)) 0):Option (Int×List UInt8×List UInt8×Int)) else none)=none:=by
    unfold rdE
    rw [if_pos rfl]
    by_cases h:s.drop (7+n)=[]
    · rw [if_pos h];rfl
    · rw [if_neg h];rfl
  have e7:(rdE (s.drop (7+n)) 0 == 1)=false:=by
    unfold rdE
    rw [if_pos rfl]
    by_cases h:s.drop (7+n)=[]
    · rw [if_pos h];rfl
    · rw [if_neg h];rfl
  simp only [zc,unP,e5,zhR,e7,cond_false]
  rw [YS (x:=3+(n:Int)) (by omega) (by omega),yL (show (0:Int)≤3+(n:Int)∧3+(n:Int)<((s.length+1:Nat):Int) by omega),cond_true,show (3+(n:Int)).toNat=3+n by omega,
    wD _ (show (s.take (3+n)).length≤1000000000000 by rw [List.length_take];omega)]
  simp only [zc]
  by_cases ht:(s.drop (3+n)).take 4=tail (s.take (3+n))
  · rw [if_neg (fun h=>h ht),ht,beq_self_eq_true,Bool.not_true,cond_false]
    have e8:=zeu (s.drop (7+n)).length (s.drop (7+n)) 0 (by rw [List.length_drop];omega)
    rw [YW (Nat.le_refl _),List.take_length] at e8
    simp only [zcc,zh1,zc,e8,unP,WU,zaQ,beq_self_eq_true,cond_true]
    by_cases hm:s.length=n+7
    · rw [if_neg (fun h=>h hm),List.drop_eq_nil_of_le (show s.length≤7+n by omega)];rfl
    · have hne:(s.drop (7+n) == [])=false:=by
        rw [beq_eq_false_iff_ne];intro h;have:=List.drop_eq_nil_iff.1 h;omega
      rw [if_pos hm,hne];rfl
  · have hne:((s.drop (3+n)).take 4 == tail (s.take (3+n)))=false:=by rw [beq_eq_false_iff_ne];exact ht
    rw [if_pos ht,hne];rfl
theorem zfw {k:Nat} {b:List UInt8} (hk:k≤255) (hb:b.length≤600):Zy (yB k b)=((k:Int),b,0):=by
  have hL:=zfs hk hb
  have hB:=zfj hk hb
  have e:yB k b=be 1 k++(be 2 b.length++(b++tail (wp k b))):=by
    unfold yB
    conv=>lhs;lhs;rw [zJC hk hb]
    rw [List.append_assoc,List.append_assoc]
  have d1:(yB k b).drop 1=be 2 b.length++(b++tail (wp k b)):=by rw [e,List.drop_left' (zW ..)]
  have d3:(yB k b).drop 3=b++tail (wp k b):=by rw [show 3=1+2 from rfl,← List.drop_drop,d1,List.drop_left' (zW ..)]
  have hn:JQ (yB k b)=b.length:=by
    unfold JQ
    rw [d1,List.take_left' (zW ..),zl7]
    exact Nat.mod_eq_of_lt (by simp only [Nat.reducePow];omega)
  have t1:num ((yB k b).take 1)=k:=by
    rw [e,List.take_left' (zW ..),zl7]
    exact Nat.mod_eq_of_lt (by simp only [Nat.reducePow];omega)
  have tB:(yB k b).take (3+b.length)=wp k b:=by unfold yB;rw [List.take_left' hB]
  have dB:(yB k b).drop (3+b.length)=tail (wp k b):=by unfold yB;rw [List.drop_left' hB]
  unfold Zy
  rw [hn,hL,if_neg (by omega),if_neg (by omega),if_neg (by omega),dB,tB,if_neg (fun h=>h (List.take_of_length_le (Nat.le_of_eq (Zk _)))),if_neg (by omega),t1,d3,List.take_left' rfl]
end Go.Proofs.R9
namespace Go.Proofs.R9
open Go Go.AE Go.Plain
set_option maxRecDepth 100000
abbrev VD:=(Int×Int)×List UInt8
abbrev SV:=Int×(Int×Int)×List UInt8×VD×(Int×Int)×List UInt8
def noS:SV:=(0,(0,0),[],((0,0),[]),(0,0),[])
def Za:SV→Int:=fun (k,(va,vb),d,((aa,ab),ad),(ba,bb),bd) =>
  if k=0 then (if ¬qU va vb then 3 else if d.length≠128 then 12 else if ¬((aa=0∧ab=0∧ad=[])∧ba=0∧bb=0∧bd=[]) then 4 else 0)
  else if k=1 then (if zfN 0 aa ab ad ba bb bd≠0 then zfN 0 aa ab ad ba bb bd else if va≠aa∨vb≠bb∨d≠[] then 4 else 0)
  else 7
theorem zhZ (k va vb:Int) (d:List UInt8) (aa ab:Int) (ad:List UInt8) (ba bb:Int) (bd:List UInt8) :
    zaP (k,va,vb,d,aa,ab,ad,ba,bb,bd)=some (Za (k,(va,vb),d,((aa,ab),ad),(ba,bb),bd)):=by
  unfold Za
  simp only [zaP,ztS,zdC,zoL,JX]
  by_cases h0:k=0
  · rw [zo h0,cond_true,if_pos h0]
    simp only [zc,Sum.elim_inl,zkr,zur,qs,JM,qt,zag,zM1]
    by_cases hv:qU va vb
    · rw [zo hv,if_neg (fun h=>h hv)]
      simp only [Bool.not_true,cond_false,Z1]
      by_cases hd:d.length=128
      · rw [zo (show (d.length:Int)=128 by omega),if_neg (fun h=>h hd)]
        simp only [Bool.not_true,cond_false]
        by_cases hn:(aa=0∧ab=0∧ad=[])∧ba=0∧bb=0∧bd=[]
        · rw [if_neg (fun h=>h hn)]
          obtain ⟨⟨rfl,rfl,rfl⟩,rfl,rfl,rfl⟩:=hn
          rfl
        · rw [if_pos hn]
          have:(bif !(aa == 0&&(ab == 0&&true)&&(ad == []&&true)) then some true else some (!(ba == 0&&(bb == 0&&true)&&(bd == []&&true))):Option Bool)=some true:=by
            by_cases h1:aa=0∧ab=0∧ad=[]
            · obtain ⟨rfl,rfl,rfl⟩:=h1
              have h2 : ¬(ba=0∧bb=0∧bd=[]):=fun h=>hn ⟨⟨rfl,rfl,rfl⟩,h⟩
              have:(ba == 0&&(bb == 0&&true)&&(bd == []&&true))=false:=by
                rw [Bool.eq_false_iff];intro h;simp at h;exact h2 ⟨h.1.1,h.1.2,h.2⟩
              rw [this];rfl
            · have:(aa == 0&&(ab == 0&&true)&&(ad == []&&true))=false:=by
                rw [Bool.eq_false_iff];intro h;simp at h;exact h1 ⟨h.1.1,h.1.2,h.2⟩
              rw [this];rfl
          first | rw [this] | (simp only [JX] at this;rw [this])
          rfl
      · rw [zn (show ¬(d.length:Int)=128 by omega),if_pos hd];rfl
    · rw [zn hv,if_pos hv];rfl
  rw [zn h0,cond_false,if_neg h0]
  by_cases h1:k=1
  · rw [zo h1,cond_true,if_pos h1]
    simp only [zc,Sum.elim_inr,Sum.elim_inl,zkn,zs6,WL,zaI,z5F,Z1]
    by_cases hp:zfN 0 aa ab ad ba bb bd=0
    · rw [zo hp,if_neg (fun h=>h hp)]
      simp only [Bool.not_true,cond_false]
      by_cases hv:va=aa∧vb=bb∧d=[]
      · obtain ⟨rfl,rfl,rfl⟩:=hv
        rw [if_neg (by simp)]
        simp
        rfl
      · have:(bif !(va == aa&&(vb == bb&&true)) then some true else some (!d == []):Option Bool)=some true:=by
          by_cases h2:va=aa∧vb=bb
          · have h3:(d == [])=false:=by rw [beq_eq_false_iff_ne];exact fun h=>hv ⟨h2.1,h2.2,h⟩
            rw [h2.1,h2.2,h3];simp
          · have:(va == aa&&(vb == bb&&true))=false:=by
              rw [Bool.eq_false_iff];intro h;simp at h;exact h2 h
            rw [this];rfl
        have hv':va≠aa∨vb≠bb∨d≠[]:=by
          by_cases h2:va=aa
          · by_cases h3:vb=bb
            · exact .inr (.inr fun h=>hv ⟨h2,h3,h⟩)
            · exact .inr (.inl h3)
          · exact .inl h2
        rw [if_pos hv']
        first | rw [this] | (simp only [JX] at this;rw [this])
        rfl
    · rw [zn hp,if_pos hp];rfl
  · rw [zn h1,cond_false,if_neg h1];rfl
theorem zi8 (k va vb:Int) (d:List UInt8) (aa ab:Int) (ad:List UInt8) (ba bb:Int) (bd:List UInt8) :
    zcu (k,va,vb,d,aa,ab,ad,ba,bb,bd)=some (Za (k,(va,vb),d,((aa,ab),ad),(ba,bb),bd)):=by
  unfold Za
  simp only [zcu,zxc,JX]
  by_cases h0:k=0
  · rw [zo h0,cond_true,if_pos h0]
    simp only [zc,qc,zbd,qf,J4,zqV]
    by_cases hv:qU va vb
    · rw [zo hv,if_neg (fun h=>h hv)]
      simp only [Bool.not_true,cond_false,Z1]
      by_cases hd:d.length=128
      · rw [zo (show (d.length:Int)=128 by omega),if_neg (fun h=>h hd)]
        simp only [Bool.not_true,cond_false]
        by_cases hn:(aa=0∧ab=0∧ad=[])∧ba=0∧bb=0∧bd=[]
        · rw [if_neg (fun h=>h hn)]
          obtain ⟨⟨rfl,rfl,rfl⟩,rfl,rfl,rfl⟩:=hn
          rfl
        · rw [if_pos hn]
          have:(bif !(aa == 0&&(ab == 0&&true)&&(ad == []&&true)) then some true else some (!(ba == 0&&(bb == 0&&true)&&(bd == []&&true))):Option Bool)=some true:=by
            by_cases h1:aa=0∧ab=0∧ad=[]
            · obtain ⟨rfl,rfl,rfl⟩:=h1
              have h2 : ¬(ba=0∧bb=0∧bd=[]):=fun h=>hn ⟨⟨rfl,rfl,rfl⟩,h⟩
              have:(ba == 0&&(bb == 0&&true)&&(bd == []&&true))=false:=by
                rw [Bool.eq_false_iff];intro h;simp at h;exact h2 ⟨h.1.1,h.1.2,h.2⟩
              rw [this];rfl
            · have:(aa == 0&&(ab == 0&&true)&&(ad == []&&true))=false:=by
                rw [Bool.eq_false_iff];intro h;simp at h;exact h1 ⟨h.1.1,h.1.2,h.2⟩
              rw [this];rfl
          first | rw [this] | (simp only [JX] at this;rw [this])
          rfl
      · rw [zn (show ¬(d.length:Int)=128 by omega),if_pos hd];rfl
    · rw [zn hv,if_pos hv];rfl
  rw [zn h0,cond_false,if_neg h0]
  by_cases h1:k=1
  · rw [zo h1,cond_true,if_pos h1]
    simp only [zc,W4,zaa,zO4,Z1,JX]
    by_cases hp:zfN 0 aa ab ad ba bb bd=0
    · rw [zo hp,if_neg (fun h=>h hp),cond_true]
      by_cases h2:va=aa
      · rw [zo h2]
        by_cases h3:vb=bb
        · rw [zo h3]
          by_cases h4:d=[]
          · subst h4 h2 h3;rw [if_neg (by simp),hp];rfl
          · have:(d == [])=false:=by rw [beq_eq_false_iff_ne];exact h4
            rw [if_pos (.inr (.inr h4)),this];rfl
        · rw [zn h3,if_pos (.inr (.inl h3))];rfl
      · rw [zn h2,if_pos (.inl h2)];rfl
    · rw [zn hp,if_pos hp];rfl
  · rw [zn h1,cond_false,if_neg h1]
def Yh (t:List UInt8) (x:VD):List UInt8:=zG (zG t x.1.1 7) x.1.2 7++x.2
def ye:SV→List UInt8:=fun (k,v,d,a,b)=>if k=0 then Yh (zG [] k 1) (v,d) else Yh (Yh (zG [] k 1) a) b
def zo1 (s:SV):List UInt8×Int:=if Za s≠0 then ([],Za s) else (ye s,0)
theorem zbq (t:List UInt8) (x:VD):(Yh t x).length≤t.length+14+x.2.length:=by
  unfold Yh
  have h1:=zX t x.1.1 7
  have h2:=zX (zG t x.1.1 7) x.1.2 7
  rw [List.length_append];omega
theorem zkD {s:SV} (h:Za s=0):s.2.2.1.length≤128∧s.2.2.2.1.2.length≤128∧s.2.2.2.2.2.length≤128∧InI s.1∧InI s.2.1.1∧InI s.2.1.2∧InI s.2.2.2.1.1.1∧InI s.2.2.2.1.1.2∧InI s.2.2.2.2.1.1∧InI s.2.2.2.2.1.2:=by
  obtain ⟨k,⟨va,vb⟩,d,⟨⟨aa,ab⟩,ad⟩,⟨ba,bb⟩,bd⟩:=s
  unfold Za at h
  dsimp only at h ⊢
  by_cases h0:k=0
  · rw [if_pos h0] at h
    split at h
    · cases h
    rename_i hv
    split at h
    · cases h
    rename_i hd
    split at h
    · cases h
    rename_i hn
    have hv:=Decidable.not_not.1 hv
    obtain ⟨⟨rfl,rfl,rfl⟩,rfl,rfl,rfl⟩:=Decidable.not_not.1 hn
    have hd:=Decidable.not_not.1 hd
    unfold qU at hv
    unfold InI
    simp only [List.length_nil]
    omega
  · rw [if_neg h0] at h
    by_cases h1:k=1
    · rw [if_pos h1] at h
      split at h
      · rename_i hp;exact absurd h hp
      rename_i hp
      split at h
      · cases h
      rename_i hv
      obtain ⟨_,ha,hb,hx,hy⟩:=zCZ (Decidable.not_not.1 hp)
      have hv1:va=aa:=Decidable.byContradiction fun h=>hv (.inl h)
      have hv2:vb=bb:=Decidable.byContradiction fun h=>hv (.inr (.inl h))
      have hv3:d=[]:=Decidable.byContradiction fun h=>hv (.inr (.inr h))
      subst hv1 hv2 hv3
      unfold qU at ha hb
      unfold InI
      simp only [List.length_nil]
      omega
    · rw [if_neg h1] at h;cases h
theorem zh3 {s:SV} (h:Za s=0):(ye s).length≤285:=by
  obtain ⟨h1,h2,h3,_⟩:=zkD h
  obtain ⟨k,v,d,a,b⟩:=s
  have h0:=zX [] k 1
  simp only [List.length_nil] at h0
  unfold ye
  dsimp only at h1 h2 h3 ⊢
  by_cases hk:k=0
  · rw [if_pos hk]
    have:=zbq (zG [] k 1) (v,d)
    dsimp only at this
    omega
  · rw [if_neg hk]
    have:=zbq (zG [] k 1) a
    have:=zbq (Yh (zG [] k 1) a) b
    omega
theorem zrQ (t:List UInt8) (x:VD) (ht:t.length≤1000) (hx:x.2.length≤1000):zb9 (t,x.1.1,x.1.2,x.2)=some (Yh t x):=by
  have h1:=zX t x.1.1 7
  have h2:=zX (zG t x.1.1 7) x.1.2 7
  simp only [zb9,zwq,z8N t x.1.1 x.1.2 (by omega),zc,Zf (show (zG (zG t x.1.1 7) x.1.2 7).length+x.2.length≤9223372036854775807 by omega),cond_true]
  rfl
theorem z5l (k va vb:Int) (d:List UInt8) (aa ab:Int) (ad:List UInt8) (ba bb:Int) (bd:List UInt8) :
    zhq (k,va,vb,d,aa,ab,ad,ba,bb,bd)=some (zo1 (k,(va,vb),d,((aa,ab),ad),(ba,bb),bd)):=by
  unfold zo1
  simp only [zhq,zwn,zhZ,zc,Z1]
  by_cases hc:Za (k,(va,vb),d,((aa,ab),ad),(ba,bb),bd)=0
  · obtain ⟨h1,h2,h3,_⟩:=zkD hc
    dsimp only at h1 h2 h3
    have h0:=zX [] k 1
    simp only [List.length_nil] at h0
    have ef:Zz ([],k,1)=some (zG [] k 1):=yx [] k 1 (by omega) (by simp)
    rw [zo hc,if_neg (fun h=>h hc)]
    simp only [Bool.not_true,cond_false,ef,zc,JX]
    unfold ye
    by_cases hk:k=0
    · have e1:=zrQ (zG [] k 1) ((va,vb),d) (by omega) (by dsimp only;omega)
      dsimp only at e1
      rw [zo hk,cond_true]
      simp only [zkR,zuV,zdC,zoL,JX,zo hk,cond_true,zc,Sum.elim_inl,zl2,zvs,unP,e1,if_pos hk]
    · have e1:=zrQ (zG [] k 1) ((aa,ab),ad) (by omega) (by dsimp only;omega)
      have e2:=zbq (zG [] k 1) ((aa,ab),ad)
      dsimp only at e1 e2
      have e3:=zrQ (Yh (zG [] k 1) ((aa,ab),ad)) ((ba,bb),bd) (by omega) (by dsimp only;omega)
      dsimp only at e3
      rw [zn hk,cond_false]
      simp only [e1,e3,zc,if_neg hk]
  · rw [zn hc,if_pos hc];rfl
theorem zNE (k va vb:Int) (d:List UInt8) (aa ab:Int) (ad:List UInt8) (ba bb:Int) (bd:List UInt8) :
    zhr (k,va,vb,d,aa,ab,ad,ba,bb,bd)=some (zo1 (k,(va,vb),d,((aa,ab),ad),(ba,bb),bd)):=by
  unfold zo1
  simp only [zhr,zwQ,zi8,zc,Z1]
  by_cases hc:Za (k,(va,vb),d,((aa,ab),ad),(ba,bb),bd)=0
  · obtain ⟨h1,h2,h3,i1,i2,i3,i4,i5,i6,i7⟩:=zkD hc
    dsimp only at h1 h2 h3 i1 i2 i3 i4 i5 i6 i7
    have h0:=zX [] k 1
    simp only [List.length_nil] at h0
    have ef:Zw ([],k,1)=some (zG [] k 1):=yr [] k 1 (by omega) i1 (by simp)
    rw [zo hc,if_neg (fun h=>h hc)]
    simp only [Bool.not_true,cond_false,ef,zc,JX]
    unfold ye
    by_cases hk:k=0
    · have e2:=zbq (zG [] k 1) ((va,vb),d)
      unfold Yh at e2
      dsimp only at e2
      rw [List.length_append] at e2
      rw [zo hk,cond_true,ziq (zG [] k 1) va vb i2 i3 (by omega)]
      simp only [zc,Zf (show (zG (zG (zG [] k 1) va 7) vb 7).length+d.length≤9223372036854775807 by omega),cond_true,if_pos hk]
      rfl
    · have e2:=zbq (zG [] k 1) ((aa,ab),ad)
      have e3:=zbq (Yh (zG [] k 1) ((aa,ab),ad)) ((ba,bb),bd)
      dsimp only at e2 e3
      rw [zn hk,cond_false,ziq (zG [] k 1) aa ab i4 i5 (by omega)]
      have el:zG (zG (zG [] k 1) aa 7) ab 7++ad=Yh (zG [] k 1) ((aa,ab),ad):=rfl
      have el2:zG (zG (Yh (zG [] k 1) ((aa,ab),ad)) ba 7) bb 7++bd=Yh (Yh (zG [] k 1) ((aa,ab),ad)) ((ba,bb),bd):=rfl
      have l1:(zG (zG (zG [] k 1) aa 7) ab 7).length+ad.length=(Yh (zG [] k 1) ((aa,ab),ad)).length:=by rw [← el,List.length_append]
      have l2:(zG (zG (Yh (zG [] k 1) ((aa,ab),ad)) ba 7) bb 7).length+bd.length=(Yh (Yh (zG [] k 1) ((aa,ab),ad)) ((ba,bb),bd)).length:=by rw [← el2,List.length_append]
      simp only [zc,l1,Zf (show (Yh (zG [] k 1) ((aa,ab),ad)).length≤9223372036854775807 by omega),cond_true,el,ziq (Yh (zG [] k 1) ((aa,ab),ad)) ba bb i6 i7 (by omega),l2,
        Zf (show (Yh (Yh (zG [] k 1) ((aa,ab),ad)) ((ba,bb),bd)).length≤9223372036854775807 by omega),el2,if_neg hk]
  · rw [zn hc,if_pos hc];rfl
end Go.Proofs.R9
