/- What the functions that DumpGetsCardSaid reaches compute: part 5. -/
import Derived.Test.YthfoooplgceaoaaGreatDoorOwnDumpGetsCardSaid4
set_option linter.unusedVariables false
set_option linter.unusedSimpArgs false
namespace Go.Proofs.R9
open Go Go.AE
set_option maxRecDepth 100000
--@ ref43_Get
noncomputable def ZT:Env:=[(23,.pure ZdW),(24,.pure Zc7),(25,.pure Zeb),(26,.pure ZcO),(27,.pure ZcZ),(15,.pure Zdk)]
theorem Wb:zf Tryz.prog ZT:=zf.cons ZaK (zf.cons ZaM (zf.cons Zbf (zf.cons ZaX (zf.cons ZbU (zf.cons Zbd (zf.nil))))))
noncomputable def zf4:Code:=Tryz.f8.body.getD .skip
noncomputable def znF:Code:=zF [1,1,1,1,1,1,1,1,1,1,1,0,1,0,0,1,0,0,1,1,0,0] zf4
noncomputable def zuC:Ann := .none
theorem zGA:zq Tryz.prog 193 znF zuC:=(zb _ _ _)
abbrev Q5:=(List (List UInt8))×(Int)×(Int)×(Int)×(List (List UInt8))×(Int)×(Int)×(Int)×(Int)×(Int)×(Int)×(Int)×(Int)×(Int)×(Int)×(List UInt8)×(Int)×(Int)×(List UInt8)×(Int)×(Int)×(List UInt8)×(List (Int×(Int×Int)×List UInt8×((Int×Int)×List UInt8)×(Int×Int)×List UInt8))×(List Bool)
abbrev zrj:=(Bool)
def zzI:Q5→St:=fun (t0,t11,t16,t18,o2,o3_0,o3_1,o3_2,o3_3,o3_4,o3_5,o3_6,o4_0,o4_1,o4_2,o4_3,o4_4,o4_5,o4_6,o4_7,o4_8,o4_9,o9,o10)=>{ env:=[(0,.ro .str t0),(2,.ptr 0 0),(4,.ptr 1 0),(6,.own 2),(11,.int .i64 t11),(15,.ptr 3 0),(16,.int .i64 t16),(17,.ptr 4 0),(18,.int .i64 t18)],stk:=[[]],H:=[.cells [.int .i64 (0),.int .i64 (0),.int .i64 (0),.int .i64 (0),.int .i64 (0),.int .i64 (0),.int .i64 (0),.own 5,.own 6],.cells [.int .i64 (0),.int .i64 (0),.int .i64 (0),.int .i64 (0),.int .i64 (0),.int .i64 (0),.int .i64 (0),.own 7,.own 8],.arr .str o2,.cells [.int .i64 o3_0,.int .i64 o3_1,.int .i64 o3_2,.int .i64 o3_3,.int .i64 o3_4,.int .i64 o3_5,.int .i64 o3_6,.own 9,.own 10],.cells [.int .i64 o4_0,.int .i64 o4_1,.int .i64 o4_2,.str o4_3,.int .i64 o4_4,.int .i64 o4_5,.str o4_6,.int .i64 o4_7,.int .i64 o4_8,.str o4_9],.arr (.st (.pair (.int .i64) (.pair (.pair (.int .i64) (.int .i64)) (.pair .str (.pair (.pair (.pair (.int .i64) (.int .i64)) .str) (.pair (.pair (.int .i64) (.int .i64)) .str)))))) ([]),.arr .bool ([]),.arr (.st (.pair (.int .i64) (.pair (.pair (.int .i64) (.int .i64)) (.pair .str (.pair (.pair (.pair (.int .i64) (.int .i64)) .str) (.pair (.pair (.int .i64) (.int .i64)) .str)))))) ([]),.arr .bool ([]),.arr (.st (.pair (.int .i64) (.pair (.pair (.int .i64) (.int .i64)) (.pair .str (.pair (.pair (.pair (.int .i64) (.int .i64)) .str) (.pair (.pair (.int .i64) (.int .i64)) .str)))))) o9,.arr .bool o10],blk:=32773 }
def zvW (s:St):Option {x:Q5 // s=zzI x}:=match s with
  | { env:=[(0,.ro .str t0),(2,.ptr 0 0),(4,.ptr 1 0),(6,.own 2),(11,.int .i64 t11),(15,.ptr 3 0),(16,.int .i64 t16),(17,.ptr 4 0),(18,.int .i64 t18)],stk:=[[]],H:=[.cells [.int .i64 r4,.int .i64 r5,.int .i64 r6,.int .i64 r7,.int .i64 r8,.int .i64 r9,.int .i64 r10,.own 5,.own 6],.cells [.int .i64 r11,.int .i64 r12,.int .i64 r13,.int .i64 r14,.int .i64 r15,.int .i64 r16,.int .i64 r17,.own 7,.own 8],.arr .str o2,.cells [.int .i64 o3_0,.int .i64 o3_1,.int .i64 o3_2,.int .i64 o3_3,.int .i64 o3_4,.int .i64 o3_5,.int .i64 o3_6,.own 9,.own 10],.cells [.int .i64 o4_0,.int .i64 o4_1,.int .i64 o4_2,.str o4_3,.int .i64 o4_4,.int .i64 o4_5,.str o4_6,.int .i64 o4_7,.int .i64 o4_8,.str o4_9],.arr (.st (.pair (.int .i64) (.pair (.pair (.int .i64) (.int .i64)) (.pair .str (.pair (.pair (.pair (.int .i64) (.int .i64)) .str) (.pair (.pair (.int .i64) (.int .i64)) .str)))))) r36,.arr .bool r37,.arr (.st (.pair (.int .i64) (.pair (.pair (.int .i64) (.int .i64)) (.pair .str (.pair (.pair (.pair (.int .i64) (.int .i64)) .str) (.pair (.pair (.int .i64) (.int .i64)) .str)))))) r38,.arr .bool r39,.arr (.st (.pair (.int .i64) (.pair (.pair (.int .i64) (.int .i64)) (.pair .str (.pair (.pair (.pair (.int .i64) (.int .i64)) .str) (.pair (.pair (.int .i64) (.int .i64)) .str)))))) o9,.arr .bool o10],blk:=32773 }=>if h4:r4=0 then if h5:r5=0 then if h6:r6=0 then if h7:r7=0 then if h8:r8=0 then if h9:r9=0 then if h10:r10=0 then if h11:r11=0 then if h12:r12=0 then if h13:r13=0 then if h14:r14=0 then if h15:r15=0 then if h16:r16=0 then if h17:r17=0 then if h36:r36=[] then if h37:r37=[] then if h38:r38=[] then if h39:r39=[] then some ⟨(t0,t11,t16,t18,o2,o3_0,o3_1,o3_2,o3_3,o3_4,o3_5,o3_6,o4_0,o4_1,o4_2,o4_3,o4_4,o4_5,o4_6,o4_7,o4_8,o4_9,o9,o10),by subst h4 h5 h6 h7 h8 h9 h10 h11 h12 h13 h14 h15 h16 h17 h36 h37 h38 h39;rfl⟩ else none else none else none else none else none else none else none else none else none else none else none else none else none else none else none else none else none else none
  | _=>none
def znt (s:St):Option Q5:=pk (zvW s)
theorem zMB (s:St) (x:Q5) (h:znt s=some x):s=zzI x:=zt (o:=zvW s) h
def zkt:Q5→(Ex→St→Ans)→zrj→Ans:=fun (t0,t11,t16,t18,o2,o3_0,o3_1,o3_2,o3_3,o3_4,o3_5,o3_6,o4_0,o4_1,o4_2,o4_3,o4_4,o4_5,o4_6,o4_7,o4_8,o4_9,o9,o10) K=>fun t157_y=>K (Ex.norm) { env:=[(0,.ro .str t0),(2,.ptr 0 0),(4,.ptr 1 0),(6,.own 2),(11,.int .i64 t11),(15,.ptr 3 0),(16,.int .i64 t16),(17,.ptr 4 0),(157,.bool t157_y)],stk:=[[]],H:=[.cells [.int .i64 (0),.int .i64 (0),.int .i64 (0),.int .i64 (0),.int .i64 (0),.int .i64 (0),.int .i64 (0),.own 5,.own 6],.cells [.int .i64 (0),.int .i64 (0),.int .i64 (0),.int .i64 (0),.int .i64 (0),.int .i64 (0),.int .i64 (0),.own 7,.own 8],.arr .str o2,.cells [.int .i64 o3_0,.int .i64 o3_1,.int .i64 o3_2,.int .i64 o3_3,.int .i64 o3_4,.int .i64 o3_5,.int .i64 o3_6,.own 9,.own 10],.cells [.int .i64 o4_0,.int .i64 o4_1,.int .i64 o4_2,.str o4_3,.int .i64 o4_4,.int .i64 o4_5,.str o4_6,.int .i64 o4_7,.int .i64 o4_8,.str o4_9],.arr (.st (.pair (.int .i64) (.pair (.pair (.int .i64) (.int .i64)) (.pair .str (.pair (.pair (.pair (.int .i64) (.int .i64)) .str) (.pair (.pair (.int .i64) (.int .i64)) .str)))))) ([]),.arr .bool ([]),.arr (.st (.pair (.int .i64) (.pair (.pair (.int .i64) (.int .i64)) (.pair .str (.pair (.pair (.pair (.int .i64) (.int .i64)) .str) (.pair (.pair (.int .i64) (.int .i64)) .str)))))) ([]),.arr .bool ([]),.arr (.st (.pair (.int .i64) (.pair (.pair (.int .i64) (.int .i64)) (.pair .str (.pair (.pair (.pair (.int .i64) (.int .i64)) .str) (.pair (.pair (.int .i64) (.int .i64)) .str)))))) o9,.arr .bool o10],blk:=32773 }
def zac {β:Type}:Q5→(zrj→Option β)→Option β:=fun (t0,t11,t16,t18,o2,o3_0,o3_1,o3_2,o3_3,o3_4,o3_5,o3_6,o4_0,o4_1,o4_2,o4_3,o4_4,o4_5,o4_6,o4_7,o4_8,o4_9,o9,o10) exit=>(bif t18 != (0:Int) then (exit (true)) else (bif inR t16 (List.length o2) then (za (o2[Int.toNat t16]?) fun x=>(za (nth x (1:Int)) fun x_2=>(za (zhE (IntKind.wrap .i64 (t16 - (1:Int)),o4_0,o4_1,o4_2,o4_3,o4_4,o4_5,o4_6,o4_7,o4_8,o4_9,(↑(UInt8.toNat x_2):Int) == (1:Int))) fun r=>(bif inR t16 (List.length o2) then (za (o2[Int.toNat t16]?) fun x_3=>(exit (!r == x_3))) else none)))) else none))
def W5 (i:Q5):Option zrj:=zac i some
theorem zBf (i:Q5) (k:zrj→Ans):zac i k=za (W5 i) k:=by
  obtain ⟨t0,t11,t16,t18,o2,o3_0,o3_1,o3_2,o3_3,o3_4,o3_5,o3_6,o4_0,o4_1,o4_2,o4_3,o4_4,o4_5,o4_6,o4_7,o4_8,o4_9,o9,o10⟩:=i
  simp only [W5,zac,zi,zh,zl,zc,zj,zm,zg]
theorem zGb (i:Q5) (K:Ex→St→Ans):zx Tryz.tab ZT zd (zy Tryz.tab ZT zd 0 64) 70 193 zuC znF (zB 0 (exk [0,2,4,6,11,15,16,17,157] [2,3] []) K) (zzI i)=zac i (zkt i K):=by kernel_rfl
theorem zQk:zw Tryz.prog 193 znF (zG znt W5 zkt):=zA mixed tabOk Wb 0 (exk [0,2,4,6,11,15,16,17,157] [2,3] []) zGA zMB zGb zBf
noncomputable def zTr:(Ex→St→Ans)→St→Ans:=(zG znt W5 zkt)
theorem zWQ:zw Tryz.prog 193 znF zTr:=zQk
noncomputable def zo0:Code:=zF [1,1,1,1,1,1,1,1,1,1,1,0,1,0,0,1,0] zf4
noncomputable def zuF:Ann:=(.block (.seq .none (.seq .none (.seq (.seq (.cut 0 [0,2,4,6,11,15,16,17,18] zTr) .none) .none))))
theorem zFq:zq Tryz.prog 193 zo0 zuF:=⟨(zb _ _ _),⟨(zb _ _ _),⟨⟨zWQ,(zb _ _ _)⟩,(zb _ _ _)⟩⟩⟩
abbrev jf:=(List (List UInt8))×(Int)×(Int)×(List (List UInt8))×(Int)×(Int)×(Int)×(Int)×(Int)×(Int)×(Int)×(List (Int×(Int×Int)×List UInt8×((Int×Int)×List UInt8)×(Int×Int)×List UInt8))×(List Bool)
abbrev zo5:=(Unit) ⊕ ((List (Int×(Int×Int)×List UInt8×((Int×Int)×List UInt8)×(Int×Int)×List UInt8))×(List Bool))
def zAw:jf→St:=fun (t0,t11,t16,o2,o3_0,o3_1,o3_2,o3_3,o3_4,o3_5,o3_6,o8,o9)=>{ env:=[(0,.ro .str t0),(2,.ptr 0 0),(4,.ptr 1 0),(6,.own 2),(11,.int .i64 t11),(15,.ptr 3 0),(16,.int .i64 t16)],stk:=[[]],H:=[.cells [.int .i64 (0),.int .i64 (0),.int .i64 (0),.int .i64 (0),.int .i64 (0),.int .i64 (0),.int .i64 (0),.own 4,.own 5],.cells [.int .i64 (0),.int .i64 (0),.int .i64 (0),.int .i64 (0),.int .i64 (0),.int .i64 (0),.int .i64 (0),.own 6,.own 7],.arr .str o2,.cells [.int .i64 o3_0,.int .i64 o3_1,.int .i64 o3_2,.int .i64 o3_3,.int .i64 o3_4,.int .i64 o3_5,.int .i64 o3_6,.own 8,.own 9],.arr (.st (.pair (.int .i64) (.pair (.pair (.int .i64) (.int .i64)) (.pair .str (.pair (.pair (.pair (.int .i64) (.int .i64)) .str) (.pair (.pair (.int .i64) (.int .i64)) .str)))))) ([]),.arr .bool ([]),.arr (.st (.pair (.int .i64) (.pair (.pair (.int .i64) (.int .i64)) (.pair .str (.pair (.pair (.pair (.int .i64) (.int .i64)) .str) (.pair (.pair (.int .i64) (.int .i64)) .str)))))) ([]),.arr .bool ([]),.arr (.st (.pair (.int .i64) (.pair (.pair (.int .i64) (.int .i64)) (.pair .str (.pair (.pair (.pair (.int .i64) (.int .i64)) .str) (.pair (.pair (.int .i64) (.int .i64)) .str)))))) o8,.arr .bool o9],blk:=32772 }
def ztu (s:St):Option {x:jf // s=zAw x}:=match s with
  | { env:=[(0,.ro .str t0),(2,.ptr 0 0),(4,.ptr 1 0),(6,.own 2),(11,.int .i64 t11),(15,.ptr 3 0),(16,.int .i64 t16)],stk:=[[]],H:=[.cells [.int .i64 r3,.int .i64 r4,.int .i64 r5,.int .i64 r6,.int .i64 r7,.int .i64 r8,.int .i64 r9,.own 4,.own 5],.cells [.int .i64 r10,.int .i64 r11,.int .i64 r12,.int .i64 r13,.int .i64 r14,.int .i64 r15,.int .i64 r16,.own 6,.own 7],.arr .str o2,.cells [.int .i64 o3_0,.int .i64 o3_1,.int .i64 o3_2,.int .i64 o3_3,.int .i64 o3_4,.int .i64 o3_5,.int .i64 o3_6,.own 8,.own 9],.arr (.st (.pair (.int .i64) (.pair (.pair (.int .i64) (.int .i64)) (.pair .str (.pair (.pair (.pair (.int .i64) (.int .i64)) .str) (.pair (.pair (.int .i64) (.int .i64)) .str)))))) r25,.arr .bool r26,.arr (.st (.pair (.int .i64) (.pair (.pair (.int .i64) (.int .i64)) (.pair .str (.pair (.pair (.pair (.int .i64) (.int .i64)) .str) (.pair (.pair (.int .i64) (.int .i64)) .str)))))) r27,.arr .bool r28,.arr (.st (.pair (.int .i64) (.pair (.pair (.int .i64) (.int .i64)) (.pair .str (.pair (.pair (.pair (.int .i64) (.int .i64)) .str) (.pair (.pair (.int .i64) (.int .i64)) .str)))))) o8,.arr .bool o9],blk:=32772 }=>if h3:r3=0 then if h4:r4=0 then if h5:r5=0 then if h6:r6=0 then if h7:r7=0 then if h8:r8=0 then if h9:r9=0 then if h10:r10=0 then if h11:r11=0 then if h12:r12=0 then if h13:r13=0 then if h14:r14=0 then if h15:r15=0 then if h16:r16=0 then if h25:r25=[] then if h26:r26=[] then if h27:r27=[] then if h28:r28=[] then some ⟨(t0,t11,t16,o2,o3_0,o3_1,o3_2,o3_3,o3_4,o3_5,o3_6,o8,o9),by subst h3 h4 h5 h6 h7 h8 h9 h10 h11 h12 h13 h14 h15 h16 h25 h26 h27 h28;rfl⟩ else none else none else none else none else none else none else none else none else none else none else none else none else none else none else none else none else none else none
  | _=>none
def zne (s:St):Option jf:=pk (ztu s)
theorem zLr (s:St) (x:jf) (h:zne s=some x):s=zAw x:=zt (o:=ztu s) h
def zkj:jf→(Ex→St→Ans)→zo5→Ans:=fun (t0,t11,t16,o2,o3_0,o3_1,o3_2,o3_3,o3_4,o3_5,o3_6,o8,o9) K=>(Sum.elim (fun _=>K (Ex.ret) { env:=[(2,.ptr 0 0),(3,.int .i64 (4))],stk:=[[]],H:=[.cells [.int .i64 (0),.int .i64 (0),.int .i64 (0),.int .i64 (0),.int .i64 (0),.int .i64 (0),.int .i64 (0),.own 1,.own 2],.arr (.st (.pair (.int .i64) (.pair (.pair (.int .i64) (.int .i64)) (.pair .str (.pair (.pair (.pair (.int .i64) (.int .i64)) .str) (.pair (.pair (.int .i64) (.int .i64)) .str)))))) ([]),.arr .bool ([])],blk:=32773 }) (unP fun o8_y o9_y=>K (Ex.norm) { env:=[(0,.ro .str t0),(2,.ptr 0 0),(4,.ptr 1 0),(6,.own 2),(11,.int .i64 t11),(15,.ptr 3 0),(16,.int .i64 t16)],stk:=[[]],H:=[.cells [.int .i64 (0),.int .i64 (0),.int .i64 (0),.int .i64 (0),.int .i64 (0),.int .i64 (0),.int .i64 (0),.own 4,.own 5],.cells [.int .i64 (0),.int .i64 (0),.int .i64 (0),.int .i64 (0),.int .i64 (0),.int .i64 (0),.int .i64 (0),.own 6,.own 7],.arr .str o2,.cells [.int .i64 o3_0,.int .i64 o3_1,.int .i64 o3_2,.int .i64 o3_3,.int .i64 o3_4,.int .i64 o3_5,.int .i64 o3_6,.own 8,.own 9],.arr (.st (.pair (.int .i64) (.pair (.pair (.int .i64) (.int .i64)) (.pair .str (.pair (.pair (.pair (.int .i64) (.int .i64)) .str) (.pair (.pair (.int .i64) (.int .i64)) .str)))))) ([]),.arr .bool ([]),.arr (.st (.pair (.int .i64) (.pair (.pair (.int .i64) (.int .i64)) (.pair .str (.pair (.pair (.pair (.int .i64) (.int .i64)) .str) (.pair (.pair (.int .i64) (.int .i64)) .str)))))) ([]),.arr .bool ([]),.arr (.st (.pair (.int .i64) (.pair (.pair (.int .i64) (.int .i64)) (.pair .str (.pair (.pair (.pair (.int .i64) (.int .i64)) .str) (.pair (.pair (.int .i64) (.int .i64)) .str)))))) o8_y,.arr .bool o9_y],blk:=32773 }))
def J8 {β:Type}:jf→(zo5→Option β)→Option β:=fun (t0,t11,t16,o2,o3_0,o3_1,o3_2,o3_3,o3_4,o3_5,o3_6,o8,o9) exit=>(bif inR t16 (List.length o2) then (za (o2[Int.toNat t16]?) fun x=>(bif decide ((↑(List.length x):Int)<(2:Int)) then (exit (Sum.inl ())) else (bif inR t16 (List.length o2) then (za (o2[Int.toNat t16]?) fun x_2=>(bif inR (2:Int) (List.length x_2+(1:Nat)) then (za (zg3 (List.drop (2:Nat) x_2)) (unP fun r_0_0=>unP fun r_0_1=>unP fun r_0_2=>unP fun r_0_3=>unP fun r_0_4=>unP fun r_0_5=>unP fun r_0_6=>unP fun r_0_7=>unP fun r_0_8=>unP fun r_0_9 r_1=>(za (W5 (t0,t11,t16,r_1,o2,o3_0,o3_1,o3_2,o3_3,o3_4,o3_5,o3_6,r_0_0,r_0_1,r_0_2,r_0_3,r_0_4,r_0_5,r_0_6,r_0_7,r_0_8,r_0_9,o8,o9)) fun t157=>(bif t157 then (exit (Sum.inl ())) else (bif Nat.ble ((List.length o8+List.length [(r_0_0,(r_0_1,r_0_2),r_0_3,((r_0_4,r_0_5),r_0_6),(r_0_7,r_0_8),r_0_9)])*(104:Nat)) (140737488355328:Nat) then (bif inR t16 (List.length o2) then (za (o2[Int.toNat t16]?) fun x_3=>(za (nth x_3 (1:Int)) fun x_4=>(bif Nat.ble ((List.length o9+List.length [(↑(UInt8.toNat x_4):Int) == (1:Int)])*(1:Nat)) (140737488355328:Nat) then (exit (Sum.inr (o8++[(r_0_0,(r_0_1,r_0_2),r_0_3,((r_0_4,r_0_5),r_0_6),(r_0_7,r_0_8),r_0_9)],o9++[(↑(UInt8.toNat x_4):Int) == (1:Int)]))) else none))) else none) else none))))) else none)) else none))) else none)
def WO (i:jf):Option zo5:=J8 i some
theorem zAb (i:jf) (k:zo5→Ans):J8 i k=za (WO i) k:=by
  obtain ⟨t0,t11,t16,o2,o3_0,o3_1,o3_2,o3_3,o3_4,o3_5,o3_6,o8,o9⟩:=i
  simp only [WO,J8,zi,zh,zl,zc,zj,zm,zg]
theorem zFD (i:jf) (K:Ex→St→Ans):zx Tryz.tab ZT zd (zy Tryz.tab ZT zd 0 64) 70 193 zuF zo0 (zB 0 (exk [0,2,4,6,11,15,16] [2,3] []) K) (zAw i)=J8 i (zkj i K):=by kernel_rfl
theorem zQQ:zw Tryz.prog 193 zo0 (zG zne WO zkj):=zA mixed tabOk Wb 0 (exk [0,2,4,6,11,15,16] [2,3] []) zFq zLr zFD zAb
noncomputable def zSE:(Ex→St→Ans)→St→Ans:=(zG zne WO zkj)
theorem zX5:zw Tryz.prog 193 zo0 zSE:=zQQ
noncomputable def zhq:Code:=zF [1,1,1,1,1,1,1,1,1,1,1,0,1,0,0] zf4
noncomputable def zh8:Ann := .at 0 [0,2,4,6,11,15,16] (.loop (.seq .none (.seq (.cut 0 [0,2,4,6,11,15,16] zSE) .none)))
theorem zIl:zq Tryz.prog 193 (.loop zhq) zh8:=Zi ⟨(zb _ _ _),⟨zX5,(zb _ _ _)⟩⟩
abbrev QW:=(List (List UInt8))×(Int)×(List (List UInt8))×(Int)×(Int)×(Int)×(Int)×(Int)×(Int)×(Int)
abbrev zq7:=(Unit) ⊕ ((List (Int×(Int×Int)×List UInt8×((Int×Int)×List UInt8)×(Int×Int)×List UInt8))×(List Bool))
abbrev wv:=(Int)×(List (Int×(Int×Int)×List UInt8×((Int×Int)×List UInt8)×(Int×Int)×List UInt8))×(List Bool)
def zp4:QW→wv→St:=fun (t0,t11,o2,o3_0,o3_1,o3_2,o3_3,o3_4,o3_5,o3_6) (t16,o8,o9)=>{ env:=[(0,.ro .str t0),(2,.ptr 0 0),(4,.ptr 1 0),(6,.own 2),(11,.int .i64 t11),(15,.ptr 3 0),(16,.int .i64 t16)],stk:=[[]],H:=[.cells [.int .i64 (0),.int .i64 (0),.int .i64 (0),.int .i64 (0),.int .i64 (0),.int .i64 (0),.int .i64 (0),.own 4,.own 5],.cells [.int .i64 (0),.int .i64 (0),.int .i64 (0),.int .i64 (0),.int .i64 (0),.int .i64 (0),.int .i64 (0),.own 6,.own 7],.arr .str o2,.cells [.int .i64 o3_0,.int .i64 o3_1,.int .i64 o3_2,.int .i64 o3_3,.int .i64 o3_4,.int .i64 o3_5,.int .i64 o3_6,.own 8,.own 9],.arr (.st (.pair (.int .i64) (.pair (.pair (.int .i64) (.int .i64)) (.pair .str (.pair (.pair (.pair (.int .i64) (.int .i64)) .str) (.pair (.pair (.int .i64) (.int .i64)) .str)))))) ([]),.arr .bool ([]),.arr (.st (.pair (.int .i64) (.pair (.pair (.int .i64) (.int .i64)) (.pair .str (.pair (.pair (.pair (.int .i64) (.int .i64)) .str) (.pair (.pair (.int .i64) (.int .i64)) .str)))))) ([]),.arr .bool ([]),.arr (.st (.pair (.int .i64) (.pair (.pair (.int .i64) (.int .i64)) (.pair .str (.pair (.pair (.pair (.int .i64) (.int .i64)) .str) (.pair (.pair (.int .i64) (.int .i64)) .str)))))) o8,.arr .bool o9],blk:=32772 }
def zuL (s:St):Option {x:QW×wv // s=zp4 x.1 x.2}:=match s with
  | { env:=[(0,.ro .str t0),(2,.ptr 0 0),(4,.ptr 1 0),(6,.own 2),(11,.int .i64 t11),(15,.ptr 3 0),(16,.int .i64 t16)],stk:=[[]],H:=[.cells [.int .i64 r3,.int .i64 r4,.int .i64 r5,.int .i64 r6,.int .i64 r7,.int .i64 r8,.int .i64 r9,.own 4,.own 5],.cells [.int .i64 r10,.int .i64 r11,.int .i64 r12,.int .i64 r13,.int .i64 r14,.int .i64 r15,.int .i64 r16,.own 6,.own 7],.arr .str o2,.cells [.int .i64 o3_0,.int .i64 o3_1,.int .i64 o3_2,.int .i64 o3_3,.int .i64 o3_4,.int .i64 o3_5,.int .i64 o3_6,.own 8,.own 9],.arr (.st (.pair (.int .i64) (.pair (.pair (.int .i64) (.int .i64)) (.pair .str (.pair (.pair (.pair (.int .i64) (.int .i64)) .str) (.pair (.pair (.int .i64) (.int .i64)) .str)))))) r25,.arr .bool r26,.arr (.st (.pair (.int .i64) (.pair (.pair (.int .i64) (.int .i64)) (.pair .str (.pair (.pair (.pair (.int .i64) (.int .i64)) .str) (.pair (.pair (.int .i64) (.int .i64)) .str)))))) r27,.arr .bool r28,.arr (.st (.pair (.int .i64) (.pair (.pair (.int .i64) (.int .i64)) (.pair .str (.pair (.pair (.pair (.int .i64) (.int .i64)) .str) (.pair (.pair (.int .i64) (.int .i64)) .str)))))) o8,.arr .bool o9],blk:=32772 }=>if h3:r3=0 then if h4:r4=0 then if h5:r5=0 then if h6:r6=0 then if h7:r7=0 then if h8:r8=0 then if h9:r9=0 then if h10:r10=0 then if h11:r11=0 then if h12:r12=0 then if h13:r13=0 then if h14:r14=0 then if h15:r15=0 then if h16:r16=0 then if h25:r25=[] then if h26:r26=[] then if h27:r27=[] then if h28:r28=[] then some ⟨((t0,t11,o2,o3_0,o3_1,o3_2,o3_3,o3_4,o3_5,o3_6),(t16,o8,o9)),by subst h3 h4 h5 h6 h7 h8 h9 h10 h11 h12 h13 h14 h15 h16 h25 h26 h27 h28;rfl⟩ else none else none else none else none else none else none else none else none else none else none else none else none else none else none else none else none else none else none
  | _=>none
def zlx (s:St):Option (QW×wv):=pk (zuL s)
theorem zNN (s:St) (x:QW×wv) (h:zlx s=some x):s=zp4 x.1 x.2:=zt (o:=zuL s) h
def zl5:QW→(Ex→St→Ans)→zq7→Ans:=fun (t0,t11,o2,o3_0,o3_1,o3_2,o3_3,o3_4,o3_5,o3_6) K=>(Sum.elim (fun _=>K (Ex.ret) { env:=[(2,.ptr 0 0),(3,.int .i64 (4))],stk:=[[]],H:=[.cells [.int .i64 (0),.int .i64 (0),.int .i64 (0),.int .i64 (0),.int .i64 (0),.int .i64 (0),.int .i64 (0),.own 1,.own 2],.arr (.st (.pair (.int .i64) (.pair (.pair (.int .i64) (.int .i64)) (.pair .str (.pair (.pair (.pair (.int .i64) (.int .i64)) .str) (.pair (.pair (.int .i64) (.int .i64)) .str)))))) ([]),.arr .bool ([])],blk:=32773 }) (unP fun o8_y o9_y=>K (Ex.exit 4) { env:=[(0,.ro .str t0),(2,.ptr 0 0),(4,.ptr 1 0),(6,.own 2),(11,.int .i64 t11),(15,.ptr 3 0)],stk:=[[]],H:=[.cells [.int .i64 (0),.int .i64 (0),.int .i64 (0),.int .i64 (0),.int .i64 (0),.int .i64 (0),.int .i64 (0),.own 4,.own 5],.cells [.int .i64 (0),.int .i64 (0),.int .i64 (0),.int .i64 (0),.int .i64 (0),.int .i64 (0),.int .i64 (0),.own 6,.own 7],.arr .str o2,.cells [.int .i64 o3_0,.int .i64 o3_1,.int .i64 o3_2,.int .i64 o3_3,.int .i64 o3_4,.int .i64 o3_5,.int .i64 o3_6,.own 8,.own 9],.arr (.st (.pair (.int .i64) (.pair (.pair (.int .i64) (.int .i64)) (.pair .str (.pair (.pair (.pair (.int .i64) (.int .i64)) .str) (.pair (.pair (.int .i64) (.int .i64)) .str)))))) ([]),.arr .bool ([]),.arr (.st (.pair (.int .i64) (.pair (.pair (.int .i64) (.int .i64)) (.pair .str (.pair (.pair (.pair (.int .i64) (.int .i64)) .str) (.pair (.pair (.int .i64) (.int .i64)) .str)))))) ([]),.arr .bool ([]),.arr (.st (.pair (.int .i64) (.pair (.pair (.int .i64) (.int .i64)) (.pair .str (.pair (.pair (.pair (.int .i64) (.int .i64)) .str) (.pair (.pair (.int .i64) (.int .i64)) .str)))))) o8_y,.arr .bool o9_y],blk:=32772 }))
def jT {β:Type}:QW→wv→(wv→Option β)→(zq7→Option β)→Option β:=fun (t0,t11,o2,o3_0,o3_1,o3_2,o3_3,o3_4,o3_5,o3_6) (t16,o8,o9) next exit=>(bif decide (t16<t11) then (za (WO (t0,t11,t16,o2,o3_0,o3_1,o3_2,o3_3,o3_4,o3_5,o3_6,o8,o9)) (Sum.elim (fun _=>(exit (Sum.inl ()))) (unP fun o8_2 o9_2=>(next (IntKind.wrap .i64 (t16+(1:Int)),o8_2,o9_2))))) else (exit (Sum.inr (o8,o9))))
def yI (i:QW) (v:wv):Option (wv ⊕ zq7):=jT i v (fun v=>some (.inl v)) (fun y=>some (.inr y))
theorem zAn (i:QW) (v:wv) (next:wv→Ans) (exit:zq7→Ans):jT i v next exit=za (yI i v) (Sum.elim next exit):=by
  obtain ⟨t0,t11,o2,o3_0,o3_1,o3_2,o3_3,o3_4,o3_5,o3_6⟩:=i
  obtain ⟨t16,o8,o9⟩:=v
  simp only [yI,jT,zi,zh,zl,zc,zj,zm,zg,Sum.elim_inl,Sum.elim_inr]
theorem zFX (n:Nat) (i:QW) (v:wv) (K:Ex→St→Ans):zx Tryz.tab ZT zd (zy Tryz.tab ZT zd 0 64) (n+1) 193 zh8 (.loop zhq) (zB 0 (exk [0,2,4,6,11,15] [2,3] [(4,[0,2,4,6,11,15])]) K) (zp4 i v)=jT i v (fun v'=>zx Tryz.tab ZT zd (zy Tryz.tab ZT zd 0 64) n 193 zh8 (.loop zhq) (zB 0 (exk [0,2,4,6,11,15] [2,3] [(4,[0,2,4,6,11,15])]) K) (zp4 i v')) (fun y=>zl5 i K y):=by kernel_rfl
theorem zPf:zw Tryz.prog 193 (.loop zhq) (Zm zlx yI zl5):=Zf mixed tabOk Wb 0 (exk [0,2,4,6,11,15] [2,3] [(4,[0,2,4,6,11,15])]) zIl zNN zFX zAn
noncomputable def zUs:(Ex→St→Ans)→St→Ans:=(Zm zlx yI zl5)
theorem zYw:zw Tryz.prog 193 (.loop zhq) zUs:=zPf
noncomputable def zox:Code:=zF [1,1,1,1,1,1,1,1,1,0,0] zf4
noncomputable def zxe:Ann := .none
theorem zFV:zq Tryz.prog 193 zox zxe:=(zb _ _ _)
abbrev QV:=(List (List UInt8))×(Int)×(Int)×(List (List UInt8))×(Int)×(Int)×(Int)×(Int)×(Int)×(Int)×(Int)
abbrev zou:=(Bool)
def zzu:QV→St:=fun (t0,t11,t14,o2,o3_0,o3_1,o3_2,o3_3,o3_4,o3_5,o3_6)=>{ env:=[(0,.ro .str t0),(2,.ptr 0 0),(4,.ptr 1 0),(6,.own 2),(11,.int .i64 t11),(13,.ptr 3 0),(14,.int .i64 t14)],stk:=[[]],H:=[.cells [.int .i64 (0),.int .i64 (0),.int .i64 (0),.int .i64 (0),.int .i64 (0),.int .i64 (0),.int .i64 (0),.own 4,.own 5],.cells [.int .i64 (0),.int .i64 (0),.int .i64 (0),.int .i64 (0),.int .i64 (0),.int .i64 (0),.int .i64 (0),.own 6,.own 7],.arr .str o2,.cells [.int .i64 o3_0,.int .i64 o3_1,.int .i64 o3_2,.int .i64 o3_3,.int .i64 o3_4,.int .i64 o3_5,.int .i64 o3_6],.arr (.st (.pair (.int .i64) (.pair (.pair (.int .i64) (.int .i64)) (.pair .str (.pair (.pair (.pair (.int .i64) (.int .i64)) .str) (.pair (.pair (.int .i64) (.int .i64)) .str)))))) ([]),.arr .bool ([]),.arr (.st (.pair (.int .i64) (.pair (.pair (.int .i64) (.int .i64)) (.pair .str (.pair (.pair (.pair (.int .i64) (.int .i64)) .str) (.pair (.pair (.int .i64) (.int .i64)) .str)))))) ([]),.arr .bool ([])],blk:=32770 }
def zuZ (s:St):Option {x:QV // s=zzu x}:=match s with
  | { env:=[(0,.ro .str t0),(2,.ptr 0 0),(4,.ptr 1 0),(6,.own 2),(11,.int .i64 t11),(13,.ptr 3 0),(14,.int .i64 t14)],stk:=[[]],H:=[.cells [.int .i64 r3,.int .i64 r4,.int .i64 r5,.int .i64 r6,.int .i64 r7,.int .i64 r8,.int .i64 r9,.own 4,.own 5],.cells [.int .i64 r10,.int .i64 r11,.int .i64 r12,.int .i64 r13,.int .i64 r14,.int .i64 r15,.int .i64 r16,.own 6,.own 7],.arr .str o2,.cells [.int .i64 o3_0,.int .i64 o3_1,.int .i64 o3_2,.int .i64 o3_3,.int .i64 o3_4,.int .i64 o3_5,.int .i64 o3_6],.arr (.st (.pair (.int .i64) (.pair (.pair (.int .i64) (.int .i64)) (.pair .str (.pair (.pair (.pair (.int .i64) (.int .i64)) .str) (.pair (.pair (.int .i64) (.int .i64)) .str)))))) r25,.arr .bool r26,.arr (.st (.pair (.int .i64) (.pair (.pair (.int .i64) (.int .i64)) (.pair .str (.pair (.pair (.pair (.int .i64) (.int .i64)) .str) (.pair (.pair (.int .i64) (.int .i64)) .str)))))) r27,.arr .bool r28],blk:=32770 }=>if h3:r3=0 then if h4:r4=0 then if h5:r5=0 then if h6:r6=0 then if h7:r7=0 then if h8:r8=0 then if h9:r9=0 then if h10:r10=0 then if h11:r11=0 then if h12:r12=0 then if h13:r13=0 then if h14:r14=0 then if h15:r15=0 then if h16:r16=0 then if h25:r25=[] then if h26:r26=[] then if h27:r27=[] then if h28:r28=[] then some ⟨(t0,t11,t14,o2,o3_0,o3_1,o3_2,o3_3,o3_4,o3_5,o3_6),by subst h3 h4 h5 h6 h7 h8 h9 h10 h11 h12 h13 h14 h15 h16 h25 h26 h27 h28;rfl⟩ else none else none else none else none else none else none else none else none else none else none else none else none else none else none else none else none else none else none
  | _=>none
def zkT (s:St):Option QV:=pk (zuZ s)
theorem zN9 (s:St) (x:QV) (h:zkT s=some x):s=zzu x:=zt (o:=zuZ s) h
def zmi:QV→(Ex→St→Ans)→zou→Ans:=fun (t0,t11,t14,o2,o3_0,o3_1,o3_2,o3_3,o3_4,o3_5,o3_6) K=>fun t114_y=>K (Ex.norm) { env:=[(0,.ro .str t0),(2,.ptr 0 0),(4,.ptr 1 0),(6,.own 2),(11,.int .i64 t11),(13,.ptr 3 0),(114,.bool t114_y)],stk:=[[]],H:=[.cells [.int .i64 (0),.int .i64 (0),.int .i64 (0),.int .i64 (0),.int .i64 (0),.int .i64 (0),.int .i64 (0),.own 4,.own 5],.cells [.int .i64 (0),.int .i64 (0),.int .i64 (0),.int .i64 (0),.int .i64 (0),.int .i64 (0),.int .i64 (0),.own 6,.own 7],.arr .str o2,.cells [.int .i64 o3_0,.int .i64 o3_1,.int .i64 o3_2,.int .i64 o3_3,.int .i64 o3_4,.int .i64 o3_5,.int .i64 o3_6],.arr (.st (.pair (.int .i64) (.pair (.pair (.int .i64) (.int .i64)) (.pair .str (.pair (.pair (.pair (.int .i64) (.int .i64)) .str) (.pair (.pair (.int .i64) (.int .i64)) .str)))))) ([]),.arr .bool ([]),.arr (.st (.pair (.int .i64) (.pair (.pair (.int .i64) (.int .i64)) (.pair .str (.pair (.pair (.pair (.int .i64) (.int .i64)) .str) (.pair (.pair (.int .i64) (.int .i64)) .str)))))) ([]),.arr .bool ([])],blk:=32770 }
def zaY {β:Type}:QV→(zou→Option β)→Option β:=fun (t0,t11,t14,o2,o3_0,o3_1,o3_2,o3_3,o3_4,o3_5,o3_6) exit=>(bif t14 != (0:Int) then (exit (true)) else (exit (o3_4 != IntKind.wrap .i64 (t11 - (1:Int)))))
def WQ (i:QV):Option zou:=zaY i some
theorem zz8 (i:QV) (k:zou→Ans):zaY i k=za (WQ i) k:=by
  obtain ⟨t0,t11,t14,o2,o3_0,o3_1,o3_2,o3_3,o3_4,o3_5,o3_6⟩:=i
  simp only [WQ,zaY,zi,zh,zl,zc,zj,zm,zg]
theorem zIg (i:QV) (K:Ex→St→Ans):zx Tryz.tab ZT zd (zy Tryz.tab ZT zd 0 64) 70 193 zxe zox (zB 0 (exk [0,2,4,6,11,13,114] [2,3] []) K) (zzu i)=zaY i (zmi i K):=by kernel_rfl
theorem zPg:zw Tryz.prog 193 zox (zG zkT WQ zmi):=zA mixed tabOk Wb 0 (exk [0,2,4,6,11,13,114] [2,3] []) zFV zN9 zIg zz8
noncomputable def zS3:(Ex→St→Ans)→St→Ans:=(zG zkT WQ zmi)
theorem zXF:zw Tryz.prog 193 zox zS3:=zPg
noncomputable def znL:Code:=zF [1,1,1,1,1,1,1,0,1,0,0,1,0,0,0] zf4
noncomputable def ztt:Ann := .none
theorem zH9:zq Tryz.prog 193 znL ztt:=(zb _ _ _)
abbrev jM:=(List (List UInt8))×(Int)×(Int)×(List Int)×(List (List UInt8))
abbrev zop:=(Bool)
def zAe:jM→St:=fun (t0,t11,t12,o2,o3)=>{ env:=[(0,.ro .str t0),(2,.ptr 0 0),(4,.ptr 1 0),(5,.own 2),(6,.own 3),(11,.int .i64 t11),(12,.int .i64 t12)],stk:=[[]],H:=[.cells [.int .i64 (0),.int .i64 (0),.int .i64 (0),.int .i64 (0),.int .i64 (0),.int .i64 (0),.int .i64 (0),.own 4,.own 5],.cells [.int .i64 (0),.int .i64 (0),.int .i64 (0),.int .i64 (0),.int .i64 (0),.int .i64 (0),.int .i64 (0),.own 6,.own 7],.arr (.int .i64) o2,.arr .str o3,.arr (.st (.pair (.int .i64) (.pair (.pair (.int .i64) (.int .i64)) (.pair .str (.pair (.pair (.pair (.int .i64) (.int .i64)) .str) (.pair (.pair (.int .i64) (.int .i64)) .str)))))) ([]),.arr .bool ([]),.arr (.st (.pair (.int .i64) (.pair (.pair (.int .i64) (.int .i64)) (.pair .str (.pair (.pair (.pair (.int .i64) (.int .i64)) .str) (.pair (.pair (.int .i64) (.int .i64)) .str)))))) ([]),.arr .bool ([])],blk:=32771 }
def ztI (s:St):Option {x:jM // s=zAe x}:=match s with
  | { env:=[(0,.ro .str t0),(2,.ptr 0 0),(4,.ptr 1 0),(5,.own 2),(6,.own 3),(11,.int .i64 t11),(12,.int .i64 t12)],stk:=[[]],H:=[.cells [.int .i64 r3,.int .i64 r4,.int .i64 r5,.int .i64 r6,.int .i64 r7,.int .i64 r8,.int .i64 r9,.own 4,.own 5],.cells [.int .i64 r10,.int .i64 r11,.int .i64 r12,.int .i64 r13,.int .i64 r14,.int .i64 r15,.int .i64 r16,.own 6,.own 7],.arr (.int .i64) o2,.arr .str o3,.arr (.st (.pair (.int .i64) (.pair (.pair (.int .i64) (.int .i64)) (.pair .str (.pair (.pair (.pair (.int .i64) (.int .i64)) .str) (.pair (.pair (.int .i64) (.int .i64)) .str)))))) r19,.arr .bool r20,.arr (.st (.pair (.int .i64) (.pair (.pair (.int .i64) (.int .i64)) (.pair .str (.pair (.pair (.pair (.int .i64) (.int .i64)) .str) (.pair (.pair (.int .i64) (.int .i64)) .str)))))) r21,.arr .bool r22],blk:=32771 }=>if h3:r3=0 then if h4:r4=0 then if h5:r5=0 then if h6:r6=0 then if h7:r7=0 then if h8:r8=0 then if h9:r9=0 then if h10:r10=0 then if h11:r11=0 then if h12:r12=0 then if h13:r13=0 then if h14:r14=0 then if h15:r15=0 then if h16:r16=0 then if h19:r19=[] then if h20:r20=[] then if h21:r21=[] then if h22:r22=[] then some ⟨(t0,t11,t12,o2,o3),by subst h3 h4 h5 h6 h7 h8 h9 h10 h11 h12 h13 h14 h15 h16 h19 h20 h21 h22;rfl⟩ else none else none else none else none else none else none else none else none else none else none else none else none else none else none else none else none else none else none
  | _=>none
def zkV (s:St):Option jM:=pk (ztI s)
theorem zKL (s:St) (x:jM) (h:zkV s=some x):s=zAe x:=zt (o:=ztI s) h
def zkp:jM→(Ex→St→Ans)→zop→Ans:=fun (t0,t11,t12,o2,o3) K=>fun t96_y=>K (Ex.norm) { env:=[(0,.ro .str t0),(2,.ptr 0 0),(4,.ptr 1 0),(5,.own 2),(6,.own 3),(11,.int .i64 t11),(12,.int .i64 t12),(96,.bool t96_y)],stk:=[[]],H:=[.cells [.int .i64 (0),.int .i64 (0),.int .i64 (0),.int .i64 (0),.int .i64 (0),.int .i64 (0),.int .i64 (0),.own 4,.own 5],.cells [.int .i64 (0),.int .i64 (0),.int .i64 (0),.int .i64 (0),.int .i64 (0),.int .i64 (0),.int .i64 (0),.own 6,.own 7],.arr (.int .i64) o2,.arr .str o3,.arr (.st (.pair (.int .i64) (.pair (.pair (.int .i64) (.int .i64)) (.pair .str (.pair (.pair (.pair (.int .i64) (.int .i64)) .str) (.pair (.pair (.int .i64) (.int .i64)) .str)))))) ([]),.arr .bool ([]),.arr (.st (.pair (.int .i64) (.pair (.pair (.int .i64) (.int .i64)) (.pair .str (.pair (.pair (.pair (.int .i64) (.int .i64)) .str) (.pair (.pair (.int .i64) (.int .i64)) .str)))))) ([]),.arr .bool ([])],blk:=32771 }
def zaG {β:Type}:jM→(zop→Option β)→Option β:=fun (t0,t11,t12,o2,o3) exit=>(bif t12 == (0:Int) then (bif inR t12 (List.length o2) then (za (o2[Int.toNat t12]?) fun x=>(bif x != (20:Int) then (exit (true)) else (bif t12 == t11 then (bif inR t12 (List.length o2) then (za (o2[Int.toNat t12]?) fun x_2=>(bif x_2 != (22:Int) then (exit (true)) else (bif decide (t12>(0:Int)) then (bif decide (t12<t11) then (bif inR t12 (List.length o2) then (za (o2[Int.toNat t12]?) fun x_3=>(exit (x_3 != (21:Int)))) else none) else (exit (false))) else (exit (false))))) else none) else (bif decide (t12>(0:Int)) then (bif decide (t12<t11) then (bif inR t12 (List.length o2) then (za (o2[Int.toNat t12]?) fun x_2=>(exit (x_2 != (21:Int)))) else none) else (exit (false))) else (exit (false)))))) else none) else (bif t12 == t11 then (bif inR t12 (List.length o2) then (za (o2[Int.toNat t12]?) fun x=>(bif x != (22:Int) then (exit (true)) else (bif decide (t12>(0:Int)) then (bif decide (t12<t11) then (bif inR t12 (List.length o2) then (za (o2[Int.toNat t12]?) fun x_2=>(exit (x_2 != (21:Int)))) else none) else (exit (false))) else (exit (false))))) else none) else (bif decide (t12>(0:Int)) then (bif decide (t12<t11) then (bif inR t12 (List.length o2) then (za (o2[Int.toNat t12]?) fun x=>(exit (x != (21:Int)))) else none) else (exit (false))) else (exit (false)))))
def wc (i:jM):Option zop:=zaG i some
theorem zBc (i:jM) (k:zop→Ans):zaG i k=za (wc i) k:=by
  obtain ⟨t0,t11,t12,o2,o3⟩:=i
  simp only [wc,zaG,zi,zh,zl,zc,zj,zm,zg]
theorem zHx (i:jM) (K:Ex→St→Ans):zx Tryz.tab ZT zd (zy Tryz.tab ZT zd 0 64) 70 193 ztt znL (zB 0 (exk [0,2,4,5,6,11,12,96] [2,3] []) K) (zAe i)=zaG i (zkp i K):=by kernel_rfl
theorem zQc:zw Tryz.prog 193 znL (zG zkV wc zkp):=zA mixed tabOk Wb 0 (exk [0,2,4,5,6,11,12,96] [2,3] []) zH9 zKL zHx zBc
noncomputable def zSA:(Ex→St→Ans)→St→Ans:=(zG zkV wc zkp)
theorem zVe:zw Tryz.prog 193 znL zSA:=zQc
noncomputable def zn9:Code:=zF [1,1,1,1,1,1,1,0,1,0,0,1,0] zf4
noncomputable def zuN:Ann:=(.block (.seq (.cut 0 [0,2,4,5,6,11,12] zSA) .none))
theorem zFw:zq Tryz.prog 193 zn9 zuN:=⟨zVe,(zb _ _ _)⟩
abbrev Q6:=(List (List UInt8))×(Int)×(Int)×(List Int)×(List (List UInt8))
abbrev zq9:=(Unit) ⊕ (Unit)
def zB5:Q6→St:=fun (t0,t11,t12,o2,o3)=>{ env:=[(0,.ro .str t0),(2,.ptr 0 0),(4,.ptr 1 0),(5,.own 2),(6,.own 3),(11,.int .i64 t11),(12,.int .i64 t12)],stk:=[[]],H:=[.cells [.int .i64 (0),.int .i64 (0),.int .i64 (0),.int .i64 (0),.int .i64 (0),.int .i64 (0),.int .i64 (0),.own 4,.own 5],.cells [.int .i64 (0),.int .i64 (0),.int .i64 (0),.int .i64 (0),.int .i64 (0),.int .i64 (0),.int .i64 (0),.own 6,.own 7],.arr (.int .i64) o2,.arr .str o3,.arr (.st (.pair (.int .i64) (.pair (.pair (.int .i64) (.int .i64)) (.pair .str (.pair (.pair (.pair (.int .i64) (.int .i64)) .str) (.pair (.pair (.int .i64) (.int .i64)) .str)))))) ([]),.arr .bool ([]),.arr (.st (.pair (.int .i64) (.pair (.pair (.int .i64) (.int .i64)) (.pair .str (.pair (.pair (.pair (.int .i64) (.int .i64)) .str) (.pair (.pair (.int .i64) (.int .i64)) .str)))))) ([]),.arr .bool ([])],blk:=32770 }
def zxJ (s:St):Option {x:Q6 // s=zB5 x}:=match s with
  | { env:=[(0,.ro .str t0),(2,.ptr 0 0),(4,.ptr 1 0),(5,.own 2),(6,.own 3),(11,.int .i64 t11),(12,.int .i64 t12)],stk:=[[]],H:=[.cells [.int .i64 r3,.int .i64 r4,.int .i64 r5,.int .i64 r6,.int .i64 r7,.int .i64 r8,.int .i64 r9,.own 4,.own 5],.cells [.int .i64 r10,.int .i64 r11,.int .i64 r12,.int .i64 r13,.int .i64 r14,.int .i64 r15,.int .i64 r16,.own 6,.own 7],.arr (.int .i64) o2,.arr .str o3,.arr (.st (.pair (.int .i64) (.pair (.pair (.int .i64) (.int .i64)) (.pair .str (.pair (.pair (.pair (.int .i64) (.int .i64)) .str) (.pair (.pair (.int .i64) (.int .i64)) .str)))))) r19,.arr .bool r20,.arr (.st (.pair (.int .i64) (.pair (.pair (.int .i64) (.int .i64)) (.pair .str (.pair (.pair (.pair (.int .i64) (.int .i64)) .str) (.pair (.pair (.int .i64) (.int .i64)) .str)))))) r21,.arr .bool r22],blk:=32770 }=>if h3:r3=0 then if h4:r4=0 then if h5:r5=0 then if h6:r6=0 then if h7:r7=0 then if h8:r8=0 then if h9:r9=0 then if h10:r10=0 then if h11:r11=0 then if h12:r12=0 then if h13:r13=0 then if h14:r14=0 then if h15:r15=0 then if h16:r16=0 then if h19:r19=[] then if h20:r20=[] then if h21:r21=[] then if h22:r22=[] then some ⟨(t0,t11,t12,o2,o3),by subst h3 h4 h5 h6 h7 h8 h9 h10 h11 h12 h13 h14 h15 h16 h19 h20 h21 h22;rfl⟩ else none else none else none else none else none else none else none else none else none else none else none else none else none else none else none else none else none else none
  | _=>none
def zlY (s:St):Option Q6:=pk (zxJ s)
theorem zK1 (s:St) (x:Q6) (h:zlY s=some x):s=zB5 x:=zt (o:=zxJ s) h
def znb:Q6→(Ex→St→Ans)→zq9→Ans:=fun (t0,t11,t12,o2,o3) K=>(Sum.elim (fun _=>K (Ex.ret) { env:=[(2,.ptr 0 0),(3,.int .i64 (7))],stk:=[[]],H:=[.cells [.int .i64 (0),.int .i64 (0),.int .i64 (0),.int .i64 (0),.int .i64 (0),.int .i64 (0),.int .i64 (0),.own 1,.own 2],.arr (.st (.pair (.int .i64) (.pair (.pair (.int .i64) (.int .i64)) (.pair .str (.pair (.pair (.pair (.int .i64) (.int .i64)) .str) (.pair (.pair (.int .i64) (.int .i64)) .str)))))) ([]),.arr .bool ([])],blk:=32771 }) (fun _=>K (Ex.norm) { env:=[(0,.ro .str t0),(2,.ptr 0 0),(4,.ptr 1 0),(5,.own 2),(6,.own 3),(11,.int .i64 t11),(12,.int .i64 t12)],stk:=[[]],H:=[.cells [.int .i64 (0),.int .i64 (0),.int .i64 (0),.int .i64 (0),.int .i64 (0),.int .i64 (0),.int .i64 (0),.own 4,.own 5],.cells [.int .i64 (0),.int .i64 (0),.int .i64 (0),.int .i64 (0),.int .i64 (0),.int .i64 (0),.int .i64 (0),.own 6,.own 7],.arr (.int .i64) o2,.arr .str o3,.arr (.st (.pair (.int .i64) (.pair (.pair (.int .i64) (.int .i64)) (.pair .str (.pair (.pair (.pair (.int .i64) (.int .i64)) .str) (.pair (.pair (.int .i64) (.int .i64)) .str)))))) ([]),.arr .bool ([]),.arr (.st (.pair (.int .i64) (.pair (.pair (.int .i64) (.int .i64)) (.pair .str (.pair (.pair (.pair (.int .i64) (.int .i64)) .str) (.pair (.pair (.int .i64) (.int .i64)) .str)))))) ([]),.arr .bool ([])],blk:=32771 }))
def zaD {β:Type}:Q6→(zq9→Option β)→Option β:=fun (t0,t11,t12,o2,o3) exit=>(za (wc (t0,t11,t12,o2,o3)) fun t96=>(bif t96 then (exit (Sum.inl ())) else (exit (Sum.inr ()))))
def WT (i:Q6):Option zq9:=zaD i some
theorem zDW (i:Q6) (k:zq9→Ans):zaD i k=za (WT i) k:=by
  obtain ⟨t0,t11,t12,o2,o3⟩:=i
  simp only [WT,zaD,zi,zh,zl,zc,zj,zm,zg]
theorem zHT (i:Q6) (K:Ex→St→Ans):zx Tryz.tab ZT zd (zy Tryz.tab ZT zd 0 64) 70 193 zuN zn9 (zB 0 (exk [0,2,4,5,6,11,12] [2,3] []) K) (zB5 i)=zaD i (znb i K):=by kernel_rfl
theorem zPb:zw Tryz.prog 193 zn9 (zG zlY WT znb):=zA mixed tabOk Wb 0 (exk [0,2,4,5,6,11,12] [2,3] []) zFw zK1 zHT zDW
noncomputable def zUu:(Ex→St→Ans)→St→Ans:=(zG zlY WT znb)
theorem zWd:zw Tryz.prog 193 zn9 zUu:=zPb
noncomputable def zgi:Code:=zF [1,1,1,1,1,1,1,0,1,0,0] zf4
noncomputable def zji:Ann := .at 0 [0,2,4,5,6,11,12] (.loop (.seq .none (.seq (.cut 0 [0,2,4,5,6,11,12] zUu) .none)))
theorem zHJ:zq Tryz.prog 193 (.loop zgi) zji:=Zi ⟨(zb _ _ _),⟨zWd,(zb _ _ _)⟩⟩
abbrev jF:=(List (List UInt8))×(Int)×(List Int)×(List (List UInt8))
abbrev zp7:=(Unit) ⊕ (Unit)
abbrev w5:=(Int)
def zow:jF→w5→St:=fun (t0,t11,o2,o3) t12=>{ env:=[(0,.ro .str t0),(2,.ptr 0 0),(4,.ptr 1 0),(5,.own 2),(6,.own 3),(11,.int .i64 t11),(12,.int .i64 t12)],stk:=[[]],H:=[.cells [.int .i64 (0),.int .i64 (0),.int .i64 (0),.int .i64 (0),.int .i64 (0),.int .i64 (0),.int .i64 (0),.own 4,.own 5],.cells [.int .i64 (0),.int .i64 (0),.int .i64 (0),.int .i64 (0),.int .i64 (0),.int .i64 (0),.int .i64 (0),.own 6,.own 7],.arr (.int .i64) o2,.arr .str o3,.arr (.st (.pair (.int .i64) (.pair (.pair (.int .i64) (.int .i64)) (.pair .str (.pair (.pair (.pair (.int .i64) (.int .i64)) .str) (.pair (.pair (.int .i64) (.int .i64)) .str)))))) ([]),.arr .bool ([]),.arr (.st (.pair (.int .i64) (.pair (.pair (.int .i64) (.int .i64)) (.pair .str (.pair (.pair (.pair (.int .i64) (.int .i64)) .str) (.pair (.pair (.int .i64) (.int .i64)) .str)))))) ([]),.arr .bool ([])],blk:=32770 }
def zxd (s:St):Option {x:jF×w5 // s=zow x.1 x.2}:=match s with
  | { env:=[(0,.ro .str t0),(2,.ptr 0 0),(4,.ptr 1 0),(5,.own 2),(6,.own 3),(11,.int .i64 t11),(12,.int .i64 t12)],stk:=[[]],H:=[.cells [.int .i64 r3,.int .i64 r4,.int .i64 r5,.int .i64 r6,.int .i64 r7,.int .i64 r8,.int .i64 r9,.own 4,.own 5],.cells [.int .i64 r10,.int .i64 r11,.int .i64 r12,.int .i64 r13,.int .i64 r14,.int .i64 r15,.int .i64 r16,.own 6,.own 7],.arr (.int .i64) o2,.arr .str o3,.arr (.st (.pair (.int .i64) (.pair (.pair (.int .i64) (.int .i64)) (.pair .str (.pair (.pair (.pair (.int .i64) (.int .i64)) .str) (.pair (.pair (.int .i64) (.int .i64)) .str)))))) r19,.arr .bool r20,.arr (.st (.pair (.int .i64) (.pair (.pair (.int .i64) (.int .i64)) (.pair .str (.pair (.pair (.pair (.int .i64) (.int .i64)) .str) (.pair (.pair (.int .i64) (.int .i64)) .str)))))) r21,.arr .bool r22],blk:=32770 }=>if h3:r3=0 then if h4:r4=0 then if h5:r5=0 then if h6:r6=0 then if h7:r7=0 then if h8:r8=0 then if h9:r9=0 then if h10:r10=0 then if h11:r11=0 then if h12:r12=0 then if h13:r13=0 then if h14:r14=0 then if h15:r15=0 then if h16:r16=0 then if h19:r19=[] then if h20:r20=[] then if h21:r21=[] then if h22:r22=[] then some ⟨((t0,t11,o2,o3),t12),by subst h3 h4 h5 h6 h7 h8 h9 h10 h11 h12 h13 h14 h15 h16 h19 h20 h21 h22;rfl⟩ else none else none else none else none else none else none else none else none else none else none else none else none else none else none else none else none else none else none
  | _=>none
def zjZ (s:St):Option (jF×w5):=pk (zxd s)
theorem zMl (s:St) (x:jF×w5) (h:zjZ s=some x):s=zow x.1 x.2:=zt (o:=zxd s) h
def zlF:jF→(Ex→St→Ans)→zp7→Ans:=fun (t0,t11,o2,o3) K=>(Sum.elim (fun _=>K (Ex.ret) { env:=[(2,.ptr 0 0),(3,.int .i64 (7))],stk:=[[]],H:=[.cells [.int .i64 (0),.int .i64 (0),.int .i64 (0),.int .i64 (0),.int .i64 (0),.int .i64 (0),.int .i64 (0),.own 1,.own 2],.arr (.st (.pair (.int .i64) (.pair (.pair (.int .i64) (.int .i64)) (.pair .str (.pair (.pair (.pair (.int .i64) (.int .i64)) .str) (.pair (.pair (.int .i64) (.int .i64)) .str)))))) ([]),.arr .bool ([])],blk:=32771 }) (fun _=>K (Ex.exit 2) { env:=[(0,.ro .str t0),(2,.ptr 0 0),(4,.ptr 1 0),(6,.own 2),(11,.int .i64 t11)],stk:=[[]],H:=[.cells [.int .i64 (0),.int .i64 (0),.int .i64 (0),.int .i64 (0),.int .i64 (0),.int .i64 (0),.int .i64 (0),.own 3,.own 4],.cells [.int .i64 (0),.int .i64 (0),.int .i64 (0),.int .i64 (0),.int .i64 (0),.int .i64 (0),.int .i64 (0),.own 5,.own 6],.arr .str o3,.arr (.st (.pair (.int .i64) (.pair (.pair (.int .i64) (.int .i64)) (.pair .str (.pair (.pair (.pair (.int .i64) (.int .i64)) .str) (.pair (.pair (.int .i64) (.int .i64)) .str)))))) ([]),.arr .bool ([]),.arr (.st (.pair (.int .i64) (.pair (.pair (.int .i64) (.int .i64)) (.pair .str (.pair (.pair (.pair (.int .i64) (.int .i64)) .str) (.pair (.pair (.int .i64) (.int .i64)) .str)))))) ([]),.arr .bool ([])],blk:=32770 }))
def jI {β:Type}:jF→w5→(w5→Option β)→(zp7→Option β)→Option β:=fun (t0,t11,o2,o3) t12 next exit=>(bif decide (t12≤t11) then (za (WT (t0,t11,t12,o2,o3)) (Sum.elim (fun _=>(exit (Sum.inl ()))) (fun _=>(next (IntKind.wrap .i64 (t12+(1:Int))))))) else (exit (Sum.inr ())))
def yN (i:jF) (v:w5):Option (w5 ⊕ zp7):=jI i v (fun v=>some (.inl v)) (fun y=>some (.inr y))
theorem zBw (i:jF) (v:w5) (next:w5→Ans) (exit:zp7→Ans):jI i v next exit=za (yN i v) (Sum.elim next exit):=by
  obtain ⟨t0,t11,o2,o3⟩:=i
  obtain z:=v
  simp only [yN,jI,zi,zh,zl,zc,zj,zm,zg,Sum.elim_inl,Sum.elim_inr]
theorem zFp (n:Nat) (i:jF) (v:w5) (K:Ex→St→Ans):zx Tryz.tab ZT zd (zy Tryz.tab ZT zd 0 64) (n+1) 193 zji (.loop zgi) (zB 0 (exk [0,2,4,6,11] [2,3] [(2,[0,2,4,6,11])]) K) (zow i v)=jI i v (fun v'=>zx Tryz.tab ZT zd (zy Tryz.tab ZT zd 0 64) n 193 zji (.loop zgi) (zB 0 (exk [0,2,4,6,11] [2,3] [(2,[0,2,4,6,11])]) K) (zow i v')) (fun y=>zlF i K y):=by kernel_rfl
theorem zQj:zw Tryz.prog 193 (.loop zgi) (Zm zjZ yN zlF):=Zf mixed tabOk Wb 0 (exk [0,2,4,6,11] [2,3] [(2,[0,2,4,6,11])]) zHJ zMl zFp zBw
noncomputable def zRr:(Ex→St→Ans)→St→Ans:=(Zm zjZ yN zlF)
theorem zXb:zw Tryz.prog 193 (.loop zgi) zRr:=zQj
noncomputable def zhH:Code:=zF [1,1,1,1,1,0,1,0,0] zf4
noncomputable def zi6:Ann := .at 0 [0,2,4,5,6,7] (.loop .none)
theorem zFm:zq Tryz.prog 193 (.loop zhH) zi6:=Zi (zb _ _ _)
abbrev Je:=(List (List UInt8))
abbrev znP:=((Int)) ⊕ ((List Int)×(List (List UInt8)))
abbrev wT:=(Int)×(List Int)×(List (List UInt8))
def znS:Je→wT→St:=fun t0 (t7,o2,o3)=>{ env:=[(0,.ro .str t0),(2,.ptr 0 0),(4,.ptr 1 0),(5,.own 2),(6,.own 3),(7,.int .i64 t7)],stk:=[[]],H:=[.cells [.int .i64 (0),.int .i64 (0),.int .i64 (0),.int .i64 (0),.int .i64 (0),.int .i64 (0),.int .i64 (0),.own 4,.own 5],.cells [.int .i64 (0),.int .i64 (0),.int .i64 (0),.int .i64 (0),.int .i64 (0),.int .i64 (0),.int .i64 (0),.own 6,.own 7],.arr (.int .i64) o2,.arr .str o3,.arr (.st (.pair (.int .i64) (.pair (.pair (.int .i64) (.int .i64)) (.pair .str (.pair (.pair (.pair (.int .i64) (.int .i64)) .str) (.pair (.pair (.int .i64) (.int .i64)) .str)))))) ([]),.arr .bool ([]),.arr (.st (.pair (.int .i64) (.pair (.pair (.int .i64) (.int .i64)) (.pair .str (.pair (.pair (.pair (.int .i64) (.int .i64)) .str) (.pair (.pair (.int .i64) (.int .i64)) .str)))))) ([]),.arr .bool ([])],blk:=32768 }
def zx6 (s:St):Option {x:Je×wT // s=znS x.1 x.2}:=match s with
  | { env:=[(0,.ro .str t0),(2,.ptr 0 0),(4,.ptr 1 0),(5,.own 2),(6,.own 3),(7,.int .i64 t7)],stk:=[[]],H:=[.cells [.int .i64 r2,.int .i64 r3,.int .i64 r4,.int .i64 r5,.int .i64 r6,.int .i64 r7,.int .i64 r8,.own 4,.own 5],.cells [.int .i64 r9,.int .i64 r10,.int .i64 r11,.int .i64 r12,.int .i64 r13,.int .i64 r14,.int .i64 r15,.own 6,.own 7],.arr (.int .i64) o2,.arr .str o3,.arr (.st (.pair (.int .i64) (.pair (.pair (.int .i64) (.int .i64)) (.pair .str (.pair (.pair (.pair (.int .i64) (.int .i64)) .str) (.pair (.pair (.int .i64) (.int .i64)) .str)))))) r18,.arr .bool r19,.arr (.st (.pair (.int .i64) (.pair (.pair (.int .i64) (.int .i64)) (.pair .str (.pair (.pair (.pair (.int .i64) (.int .i64)) .str) (.pair (.pair (.int .i64) (.int .i64)) .str)))))) r20,.arr .bool r21],blk:=32768 }=>if h2:r2=0 then if h3:r3=0 then if h4:r4=0 then if h5:r5=0 then if h6:r6=0 then if h7:r7=0 then if h8:r8=0 then if h9:r9=0 then if h10:r10=0 then if h11:r11=0 then if h12:r12=0 then if h13:r13=0 then if h14:r14=0 then if h15:r15=0 then if h18:r18=[] then if h19:r19=[] then if h20:r20=[] then if h21:r21=[] then some ⟨(t0,(t7,o2,o3)),by subst h2 h3 h4 h5 h6 h7 h8 h9 h10 h11 h12 h13 h14 h15 h18 h19 h20 h21;rfl⟩ else none else none else none else none else none else none else none else none else none else none else none else none else none else none else none else none else none else none
  | _=>none
def zm3 (s:St):Option (Je×wT):=pk (zx6 s)
theorem zKo (s:St) (x:Je×wT) (h:zm3 s=some x):s=znS x.1 x.2:=zt (o:=zx6 s) h
def zlW:Je→(Ex→St→Ans)→znP→Ans:=fun t0 K=>(Sum.elim (fun t3_y=>K (Ex.ret) { env:=[(2,.ptr 0 0),(3,.int .i64 t3_y)],stk:=[[]],H:=[.cells [.int .i64 (0),.int .i64 (0),.int .i64 (0),.int .i64 (0),.int .i64 (0),.int .i64 (0),.int .i64 (0),.own 1,.own 2],.arr (.st (.pair (.int .i64) (.pair (.pair (.int .i64) (.int .i64)) (.pair .str (.pair (.pair (.pair (.int .i64) (.int .i64)) .str) (.pair (.pair (.int .i64) (.int .i64)) .str)))))) ([]),.arr .bool ([])],blk:=32769 }) (unP fun o2_y o3_y=>K (Ex.exit 0) { env:=[(0,.ro .str t0),(2,.ptr 0 0),(4,.ptr 1 0),(5,.own 2),(6,.own 3)],stk:=[[]],H:=[.cells [.int .i64 (0),.int .i64 (0),.int .i64 (0),.int .i64 (0),.int .i64 (0),.int .i64 (0),.int .i64 (0),.own 4,.own 5],.cells [.int .i64 (0),.int .i64 (0),.int .i64 (0),.int .i64 (0),.int .i64 (0),.int .i64 (0),.int .i64 (0),.own 6,.own 7],.arr (.int .i64) o2_y,.arr .str o3_y,.arr (.st (.pair (.int .i64) (.pair (.pair (.int .i64) (.int .i64)) (.pair .str (.pair (.pair (.pair (.int .i64) (.int .i64)) .str) (.pair (.pair (.int .i64) (.int .i64)) .str)))))) ([]),.arr .bool ([]),.arr (.st (.pair (.int .i64) (.pair (.pair (.int .i64) (.int .i64)) (.pair .str (.pair (.pair (.pair (.int .i64) (.int .i64)) .str) (.pair (.pair (.int .i64) (.int .i64)) .str)))))) ([]),.arr .bool ([])],blk:=32768 }))
def j8 {β:Type}:Je→wT→(wT→Option β)→(znP→Option β)→Option β:=fun t0 (t7,o2,o3) next exit=>(bif decide (t7<(↑(List.length t0):Int)) then (za (nth t0 t7) fun x=>(za (zgM (x)) (unP fun r_0=>unP fun r_1 r_2=>(bif r_2 != (0:Int) then (exit (Sum.inl (r_2))) else (bif Nat.ble ((List.length o2+List.length [r_0])*(8:Nat)) (140737488355328:Nat) then (bif Nat.ble ((List.length o3+List.length [r_1])*(16:Nat)) (140737488355328:Nat) then (next (IntKind.wrap .i64 (t7+(1:Int)),o2++[r_0],o3++[r_1])) else none) else none))))) else (exit (Sum.inr (o2,o3))))
def Yh (i:Je) (v:wT):Option (wT ⊕ znP):=j8 i v (fun v=>some (.inl v)) (fun y=>some (.inr y))
theorem zBE (i:Je) (v:wT) (next:wT→Ans) (exit:znP→Ans):j8 i v next exit=za (Yh i v) (Sum.elim next exit):=by
  obtain z:=i
  obtain ⟨t7,o2,o3⟩:=v
  simp only [Yh,j8,zi,zh,zl,zc,zj,zm,zg,Sum.elim_inl,Sum.elim_inr]
theorem zGO (n:Nat) (i:Je) (v:wT) (K:Ex→St→Ans):zx Tryz.tab ZT zd (zy Tryz.tab ZT zd 0 64) (n+1) 193 zi6 (.loop zhH) (zB 0 (exk [0,2,4,5,6] [2,3] [(0,[0,2,4,5,6])]) K) (znS i v)=j8 i v (fun v'=>zx Tryz.tab ZT zd (zy Tryz.tab ZT zd 0 64) n 193 zi6 (.loop zhH) (zB 0 (exk [0,2,4,5,6] [2,3] [(0,[0,2,4,5,6])]) K) (znS i v')) (fun y=>zlW i K y):=by kernel_rfl
theorem zQx:zw Tryz.prog 193 (.loop zhH) (Zm zm3 Yh zlW):=Zf mixed tabOk Wb 0 (exk [0,2,4,5,6] [2,3] [(0,[0,2,4,5,6])]) zFm zKo zGO zBE
noncomputable def zRt:(Ex→St→Ans)→St→Ans:=(Zm zm3 Yh zlW)
theorem zVF:zw Tryz.prog 193 (.loop zhH) zRt:=zQx
noncomputable def z2c:Ann:=(.seq .none (.seq .none (.seq .none (.seq .none (.seq .none (.seq (.seq .none (.block (.cut 0 [0,2,4,5,6,7] zRt))) (.seq .none (.seq (.seq .none (.block (.cut 0 [0,2,4,5,6,11,12] zRr))) (.seq .none (.seq (.seq (.cut 0 [0,2,4,6,11,13,14] zS3) .none) (.seq .none (.seq (.seq .none (.block (.cut 0 [0,2,4,6,11,15,16] zUs))) .none))))))))))))
theorem z1u:zq Tryz.prog 193 zf4 z2c:=⟨(zb _ _ _),⟨(zb _ _ _),⟨(zb _ _ _),⟨(zb _ _ _),⟨(zb _ _ _),⟨⟨(zb _ _ _),zVF⟩,⟨(zb _ _ _),⟨⟨(zb _ _ _),zXb⟩,⟨(zb _ _ _),⟨⟨zXF,(zb _ _ _)⟩,⟨(zb _ _ _),⟨⟨(zb _ _ _),zYw⟩,(zb _ _ _)⟩⟩⟩⟩⟩⟩⟩⟩⟩⟩⟩⟩
abbrev zfT:=(List (List UInt8))
abbrev zXl:=(Int)×(Int)×(Int)×(Int)×(Int)×(Int)×(Int)×(Int)×(List (Int×(Int×Int)×List UInt8×((Int×Int)×List UInt8)×(Int×Int)×List UInt8))×(List Bool)
def zxV {β:Type}:zfT→(zXl→Option β)→Option β:=fun a0 exit=>(bif decide ((↑(List.length a0):Int)<(2:Int)) then (exit ((0:Int),(0:Int),(0:Int),(0:Int),(0:Int),(0:Int),(0:Int),(1:Int),[],[])) else (za (zO (Yh (a0)) zY ((0:Int),[],[])) (Sum.elim (fun t3=>(exit ((0:Int),(0:Int),(0:Int),(0:Int),(0:Int),(0:Int),(0:Int),t3,[],[]))) (unP fun o2 o3=>(za (zO (yN (a0,IntKind.wrap .i64 ((↑(List.length a0):Int) - (1:Int)),o2,o3)) zY ((0:Int))) (Sum.elim (fun _=>(exit ((0:Int),(0:Int),(0:Int),(0:Int),(0:Int),(0:Int),(0:Int),(7:Int),[],[]))) (fun _=>(bif inR (0:Int) (List.length o3) then (za (o3[(0:Nat)]?) fun x=>(za (zgQ (x)) (unP fun r_0_0=>unP fun r_0_1=>unP fun r_0_2=>unP fun r_0_3=>unP fun r_0_4=>unP fun r_0_5=>unP fun r_0_6 r_1=>(za (WQ (a0,IntKind.wrap .i64 ((↑(List.length a0):Int) - (1:Int)),r_1,o3,r_0_0,r_0_1,r_0_2,r_0_3,r_0_4,r_0_5,r_0_6)) fun t114=>(bif t114 then (exit ((0:Int),(0:Int),(0:Int),(0:Int),(0:Int),(0:Int),(0:Int),(4:Int),[],[])) else (za (zO (yI (a0,IntKind.wrap .i64 ((↑(List.length a0):Int) - (1:Int)),o3,r_0_0,r_0_1,r_0_2,r_0_3,r_0_4,r_0_5,r_0_6)) zY ((1:Int),[],[])) (Sum.elim (fun _=>(exit ((0:Int),(0:Int),(0:Int),(0:Int),(0:Int),(0:Int),(0:Int),(4:Int),[],[]))) (unP fun o8 o9=>(bif inR (IntKind.wrap .i64 ((↑(List.length a0):Int) - (1:Int))) (List.length o3) then (za (o3[Int.toNat (IntKind.wrap .i64 ((↑(List.length a0):Int) - (1:Int)))]?) fun x_2=>(bif inR (IntKind.wrap .i64 ((↑(List.length a0):Int) - (1:Int))) (List.length a0+(1:Nat)) then (za (zhu (List.take (Int.toNat (IntKind.wrap .i64 ((↑(List.length a0):Int) - (1:Int)))) a0)) fun r=>(bif !x_2 == r then (exit ((0:Int),(0:Int),(0:Int),(0:Int),(0:Int),(0:Int),(0:Int),(5:Int),[],[])) else (za (zhv (r_0_0,r_0_1,r_0_2,r_0_3,r_0_4,r_0_5,r_0_6,o8,o9)) fun r_2=>(bif r_2 != (0:Int) then (exit ((0:Int),(0:Int),(0:Int),(0:Int),(0:Int),(0:Int),(0:Int),r_2,[],[])) else (exit (r_0_0,r_0_1,r_0_2,r_0_3,r_0_4,r_0_5,r_0_6,(0:Int),o8,o9)))))) else none)) else none))))))))) else none))))))))
def zgA (a:zfT):Option zXl:=zxV a some
theorem z6q (a:zfT) (k:zXl→Ans):zxV a k=za (zgA a) k:=by
  obtain z:=a
  simp only [zgA,zxV,zi,zh,zl,zc,zj,zm,zg]
def zq5:zfT→List AV×List AE.Obj:=fun a0=>([.ro .str a0],[])
def zKJ (l:List AV) (H:List AE.Obj):Option {a:zfT // (l,H)=zq5 a}:=match l,H with
  | [.ro .str a0],[]=>some ⟨(a0),rfl⟩
  | _,_=>none
def zTB (l:List AV) (H:List AE.Obj):Option zfT:=pk (zKJ l H)
theorem zU8 (l:List AV) (H:List AE.Obj) (a:zfT) (h:zTB l H=some a):(l,H)=zq5 a:=zt (o:=zKJ l H) h
def z3l:zfT→(AV→List AE.Obj→Ans)→zXl→Ans:=fun a0 K=>unP fun r_0_0_y=>unP fun r_0_1_y=>unP fun r_0_2_y=>unP fun r_0_3_y=>unP fun r_0_4_y=>unP fun r_0_5_y=>unP fun r_0_6_y=>unP fun r_1_y=>unP fun o0_y o1_y=>K (.tup [.agg [.int .i64 r_0_0_y,.int .i64 r_0_1_y,.int .i64 r_0_2_y,.int .i64 r_0_3_y,.int .i64 r_0_4_y,.int .i64 r_0_5_y,.int .i64 r_0_6_y,.own 0,.own 1],.int .i64 r_1_y]) [.arr (.st (.pair (.int .i64) (.pair (.pair (.int .i64) (.int .i64)) (.pair .str (.pair (.pair (.pair (.int .i64) (.int .i64)) .str) (.pair (.pair (.int .i64) (.int .i64)) .str)))))) o0_y,.arr .bool o1_y]
theorem z9F (a:zfT) (K:AV→List AE.Obj→Ans):fnE Tryz.tab ZT zd 0 70 8 Tryz.f8.ntmps Tryz.f8.results.toList z2c zf4 (zq5 a).1 (zq5 a).2 K=zxV a (z3l a K):=by kernel_rfl
def Zem (a:zfT) (K:AV→List AE.Obj→Ans):Ans:=za (zgA a) fun y=>z3l a K y
def ZcN:List AV→List AE.Obj→(AV→List AE.Obj→Ans)→Ans:=fun l H K=>za (zTB l H) fun a=>Zem a K
theorem ZbD:zQ Tryz.prog 8 ZcN:=Zu (hint:=zd) (d:=0) (n:=70) mixed tabOk Wb Tryz.func8 (zE (by kernel_rfl)) (by decide +kernel) z1u zU8 z9F z6q
--@ dump_bodies
noncomputable def z3P:Env:=[]
theorem z7s:zf Tryz.prog z3P:=zf.nil
noncomputable def ZdT:Code:=Tryz.f30.body.getD .skip
noncomputable def z5x:Ann := .none
theorem z5K:zq Tryz.prog 4 ZdT z5x:=(zb _ _ _)
abbrev zgf:=(Int)×(Int)×(Int)×(Int)×(Int)×(Int)×(Int)×(List (Int×(Int×Int)×List UInt8×((Int×Int)×List UInt8)×(Int×Int)×List UInt8))×(List Bool)
abbrev zZT:=Unit
def ztx {β:Type}:zgf→(zZT→Option β)→Option β:=fun (a0_0,a0_1,a0_2,a0_3,a0_4,a0_5,a0_6,a0_7,a0_8) exit=>(exit ())
def zmN (a:zgf):Option zZT:=ztx a some
theorem z1v (a:zgf) (k:zZT→Ans):ztx a k=za (zmN a) k:=by
  obtain ⟨a0_0,a0_1,a0_2,a0_3,a0_4,a0_5,a0_6,a0_7,a0_8⟩:=a
  simp only [zmN,ztx,zi,zh,zl,zc,zj,zm,zg]
def zqI:zgf→List AV×List AE.Obj:=fun (a0_0,a0_1,a0_2,a0_3,a0_4,a0_5,a0_6,a0_7,a0_8)=>([.agg [.int .i64 a0_0,.int .i64 a0_1,.int .i64 a0_2,.int .i64 a0_3,.int .i64 a0_4,.int .i64 a0_5,.int .i64 a0_6,.ro (.st (.pair (.int .i64) (.pair (.pair (.int .i64) (.int .i64)) (.pair .str (.pair (.pair (.pair (.int .i64) (.int .i64)) .str) (.pair (.pair (.int .i64) (.int .i64)) .str)))))) a0_7,.ro .bool a0_8]],[])
def zKn (l:List AV) (H:List AE.Obj):Option {a:zgf // (l,H)=zqI a}:=match l,H with
  | [.agg [.int .i64 a0_0,.int .i64 a0_1,.int .i64 a0_2,.int .i64 a0_3,.int .i64 a0_4,.int .i64 a0_5,.int .i64 a0_6,.ro (.st (.pair (.int .i64) (.pair (.pair (.int .i64) (.int .i64)) (.pair .str (.pair (.pair (.pair (.int .i64) (.int .i64)) .str) (.pair (.pair (.int .i64) (.int .i64)) .str)))))) a0_7,.ro .bool a0_8]],[]=>some ⟨(a0_0,a0_1,a0_2,a0_3,a0_4,a0_5,a0_6,a0_7,a0_8),rfl⟩
  | _,_=>none
def zRP (l:List AV) (H:List AE.Obj):Option zgf:=pk (zKn l H)
theorem zZM (l:List AV) (H:List AE.Obj) (a:zgf) (h:zRP l H=some a):(l,H)=zqI a:=zt (o:=zKn l H) h
def z3O:zgf→(AV→List AE.Obj→Ans)→zZT→Ans:=fun (a0_0,a0_1,a0_2,a0_3,a0_4,a0_5,a0_6,a0_7,a0_8) K=>fun _=>K (.fn (Fn.func 66) [] [.ptr 0 0]) [.cells [.int .i64 a0_0,.int .i64 a0_1,.int .i64 a0_2,.int .i64 a0_3,.int .i64 a0_4,.int .i64 a0_5,.int .i64 a0_6,.ro (.st (.pair (.int .i64) (.pair (.pair (.int .i64) (.int .i64)) (.pair .str (.pair (.pair (.pair (.int .i64) (.int .i64)) .str) (.pair (.pair (.int .i64) (.int .i64)) .str)))))) a0_7,.ro .bool a0_8]]
theorem z7Y (a:zgf) (K:AV→List AE.Obj→Ans):fnE Tryz.tab z3P zd 0 70 30 Tryz.f30.ntmps Tryz.f30.results.toList z5x ZdT (zqI a).1 (zqI a).2 K=ztx a (z3O a K):=by kernel_rfl
def Zfc (a:zgf) (K:AV→List AE.Obj→Ans):Ans:=za (zmN a) fun y=>z3O a K y
def Zd1:List AV→List AE.Obj→(AV→List AE.Obj→Ans)→Ans:=fun l H K=>za (zRP l H) fun a=>Zfc a K
theorem ZbR:zQ Tryz.prog 30 Zd1:=Zu (hint:=zd) (d:=0) (n:=70) mixed tabOk z7s Tryz.func30 (zE (by kernel_rfl)) (by decide +kernel) z5K zZM z7Y z1v
--@ seal_Put
noncomputable def zgT:Env:=[(52,.pure Fq4),(57,.pure zmY)]
theorem zr1:zf Tryz.prog zgT:=zf.cons zgB (zf.cons zbR (zf.nil))
noncomputable def zWH:Code:=Tryz.f29.body.getD .skip
noncomputable def zpC:Code:=zF [1,0,0,0] zWH
noncomputable def zyc:Ann := .none
theorem zFK:zq Tryz.prog 29 zpC zyc:=(zb _ _ _)
abbrev Jh:=(Int)×(List UInt8)
abbrev zqg:=(Bool)
def zDC:Jh→St:=fun (t0,t1)=>{ env:=[(0,.int .i64 t0),(1,.str t1)],stk:=[[]],H:=[],blk:=118784 }
def zvO (s:St):Option {x:Jh // s=zDC x}:=match s with
  | { env:=[(0,.int .i64 t0),(1,.str t1)],stk:=[[]],H:=[],blk:=118784 }=>some ⟨(t0,t1),rfl⟩
  | _=>none
def zkm (s:St):Option Jh:=pk (zvO s)
theorem zNH (s:St) (x:Jh) (h:zkm s=some x):s=zDC x:=zt (o:=zvO s) h
def zjP:Jh→(Ex→St→Ans)→zqg→Ans:=fun (t0,t1) K=>fun t7_y=>K (Ex.norm) { env:=[(0,.int .i64 t0),(1,.str t1),(7,.bool t7_y)],stk:=[[]],H:=[],blk:=118784 }
def zbA {β:Type}:Jh→(zqg→Option β)→Option β:=fun (t0,t1) exit=>(bif decide (t0<(0:Int)) then (exit (true)) else (exit (decide (t0>(255:Int)))))
def WA (i:Jh):Option zqg:=zbA i some
theorem zD2 (i:Jh) (k:zqg→Ans):zbA i k=za (WA i) k:=by
  obtain ⟨t0,t1⟩:=i
  simp only [WA,zbA,zi,zh,zl,zc,zj,zm,zg]
theorem zG4 (i:Jh) (K:Ex→St→Ans):zx Tryz.tab zgT zd (zy Tryz.tab zgT zd 0 64) 70 29 zyc zpC (zB 0 (exk [0,1,7] [4,5] []) K) (zDC i)=zbA i (zjP i K):=by kernel_rfl
theorem zP9:zw Tryz.prog 29 zpC (zG zkm WA zjP):=zA mixed tabOk zr1 0 (exk [0,1,7] [4,5] []) zFK zNH zG4 zD2
noncomputable def zTb:(Ex→St→Ans)→St→Ans:=(zG zkm WA zjP)
theorem zW3:zw Tryz.prog 29 zpC zTb:=zP9
noncomputable def zpX:Code:=zF [1,0] zWH
noncomputable def zwp:Ann:=(.block (.seq (.cut 0 [0,1] zTb) .none))
theorem zFB:zq Tryz.prog 29 zpX zwp:=⟨zW3,(zb _ _ _)⟩
abbrev Jf:=(Int)×(List UInt8)
abbrev zpQ:=((Int)) ⊕ (Unit)
def zCI:Jf→St:=fun (t0,t1)=>{ env:=[(0,.int .i64 t0),(1,.str t1)],stk:=[[]],H:=[],blk:=118784 }
def zxU (s:St):Option {x:Jf // s=zCI x}:=match s with
  | { env:=[(0,.int .i64 t0),(1,.str t1)],stk:=[[]],H:=[],blk:=118784 }=>some ⟨(t0,t1),rfl⟩
  | _=>none
def zmx (s:St):Option Jf:=pk (zxU s)
theorem zJs (s:St) (x:Jf) (h:zmx s=some x):s=zCI x:=zt (o:=zxU s) h
def zmC:Jf→(Ex→St→Ans)→zpQ→Ans:=fun (t0,t1) K=>(Sum.elim (fun t5_y=>K (Ex.ret) { env:=[(4,.str ([])),(5,.int .i64 t5_y)],stk:=[[]],H:=[],blk:=118784 }) (fun _=>K (Ex.norm) { env:=[(0,.int .i64 t0),(1,.str t1)],stk:=[[]],H:=[],blk:=118784 }))
def zaj {β:Type}:Jf→(zpQ→Option β)→Option β:=fun (t0,t1) exit=>(za (WA (t0,t1)) fun t7=>(bif t7 then (exit (Sum.inl ((7:Int)))) else (bif decide ((↑(List.length t1):Int)>(600:Int)) then (exit (Sum.inl ((11:Int)))) else (exit (Sum.inr ())))))
def qn (i:Jf):Option zpQ:=zaj i some
theorem zzG (i:Jf) (k:zpQ→Ans):zaj i k=za (qn i) k:=by
  obtain ⟨t0,t1⟩:=i
  simp only [qn,zaj,zi,zh,zl,zc,zj,zm,zg]
theorem zFo (i:Jf) (K:Ex→St→Ans):zx Tryz.tab zgT zd (zy Tryz.tab zgT zd 0 64) 70 29 zwp zpX (zB 0 (exk [0,1] [4,5] []) K) (zCI i)=zaj i (zmC i K):=by kernel_rfl
theorem zQ7:zw Tryz.prog 29 zpX (zG zmx qn zmC):=zA mixed tabOk zr1 0 (exk [0,1] [4,5] []) zFB zJs zFo zzG
noncomputable def zUb:(Ex→St→Ans)→St→Ans:=(zG zmx qn zmC)
theorem zWf:zw Tryz.prog 29 zpX zUb:=zQ7
noncomputable def z5D:Ann:=(.seq .none (.seq (.cut 0 [0,1] zUb) .none))
theorem z24:zq Tryz.prog 29 zWH z5D:=⟨(zb _ _ _),⟨zWf,(zb _ _ _)⟩⟩
abbrev zeU:=(Int)×(List UInt8)
abbrev zMD:=(List UInt8)×(Int)
def zxs {β:Type}:zeU→(zMD→Option β)→Option β:=fun (a0,a1) exit=>(za (qn (a0,a1)) (Sum.elim (fun t5=>(exit ([],t5))) (fun _=>(za (Zw ([],a0,(1:Int))) fun r=>(za (Zw (r,(↑(List.length a1):Int),(2:Int))) fun r_2=>(bif Nat.ble (List.length r_2+List.length a1) (9223372036854775807:Nat) then (za (zcj (r_2++a1)) fun r_3=>(bif Nat.ble (List.length (r_2++a1)+List.length r_3) (9223372036854775807:Nat) then (exit (r_2++a1++r_3,(0:Int))) else none)) else none))))))
def zg8 (a:zeU):Option zMD:=zxs a some
theorem z3T (a:zeU) (k:zMD→Ans):zxs a k=za (zg8 a) k:=by
  obtain ⟨a0,a1⟩:=a
  simp only [zg8,zxs,zi,zh,zl,zc,zj,zm,zg]
def zD3:zeU→List AV:=fun (a0,a1)=>[.int .i64 a0,.str a1]
def zOr (l:List AV):Option {a:zeU // l=zD3 a}:=match l with
  | [.int .i64 a0,.str a1]=>some ⟨(a0,a1),rfl⟩
  | _=>none
def zSk (l:List AV):Option zeU:=pk (zOr l)
theorem zVZ (l:List AV) (a:zeU) (h:zSk l=some a):l=zD3 a:=zt (o:=zOr l) h
def zDm:zeU→zMD→AV:=fun (a0,a1)=>unP fun r_0_y r_1_y => .tup [.str r_0_y,.int .i64 r_1_y]
theorem zVV : ∀(a:zeU) (y:zMD),(zDm a y).closed1=true:=by
  rintro ⟨a0,a1⟩ y <;> first | rfl | exact Empty.elim y
theorem z7A (a:zeU):fnE Tryz.tab zgT zd 0 70 29 Tryz.f29.ntmps Tryz.f29.results.toList z5D zWH (zD3 a) [] (fun v _=>some (v,[]))=zxs a (fun y=>some (zDm a y,[])):=by kernel_rfl
def Ze8 (a:zeU) (K:AV→Ans):Ans:=za (zg8 a) fun y=>K (zDm a y)
def z8f:List AV→(AV→Ans)→Ans:=fun l K=>za (zSk l) fun a=>Ze8 a K
theorem zUQ:zM Tryz.prog 29 z8f:=zL (hint:=zd) (d:=0) (n:=70) mixed tabOk zr1 Tryz.func29 (zE (by kernel_rfl)) (by decide +kernel) z24 zVZ z7A z3T zVV
--@ dump_Put_1
noncomputable def z5I:Env:=[(29,.pure z8f)]
theorem z8R:zf Tryz.prog z5I:=zf.cons zUQ (zf.nil)
noncomputable def Zdo:Code:=Tryz.f28.body.getD .skip
noncomputable def z1C:Ann := .none
theorem z3C:zq Tryz.prog 26 Zdo z1C:=(zb _ _ _)
abbrev zfF:=(Int)×(List UInt8)×(Int)×(Int)×(List (List UInt8))
abbrev zYl:=(Bool)×(Int)×(List (List UInt8))
def zxL {β:Type}:zfF→(zYl→Option β)→Option β:=fun (a0,a1,a2,o0_0,o2) exit=>(za (zg8 (a0,a1)) (unP fun r_0 r_1=>(bif (if r_1>a2 then r_1 else a2) != (0:Int) then (exit (false,if r_1>a2 then r_1 else a2,o2)) else (bif Nat.ble ((List.length o2+List.length [r_0])*(16:Nat)) (140737488355328:Nat) then (exit (true,if r_1>a2 then r_1 else a2,o2++[r_0])) else none))))
def zct (a:zfF):Option zYl:=zxL a some
theorem z5k (a:zfF) (k:zYl→Ans):zxL a k=za (zct a) k:=by
  obtain ⟨a0,a1,a2,o0_0,o2⟩:=a
  simp only [zct,zxL,zi,zh,zl,zc,zj,zm,zg]
def zqx:zfF→List AV×List AE.Obj:=fun (a0,a1,a2,o0_0,o2)=>([.int .i64 a0,.str a1,.int .i64 a2,.ptr 0 0,.ptr 1 0],[.cells [.int .i64 o0_0],.cells [.own 2],.arr .str o2])
def zMK (l:List AV) (H:List AE.Obj):Option {a:zfF // (l,H)=zqx a}:=match l,H with
  | [.int .i64 a0,.str a1,.int .i64 a2,.ptr 0 0,.ptr 1 0],[.cells [.int .i64 o0_0],.cells [.own 2],.arr .str o2]=>some ⟨(a0,a1,a2,o0_0,o2),rfl⟩
  | _,_=>none
def zTe (l:List AV) (H:List AE.Obj):Option zfF:=pk (zMK l H)
theorem zV7 (l:List AV) (H:List AE.Obj) (a:zfF) (h:zTe l H=some a):(l,H)=zqx a:=zt (o:=zMK l H) h
def z2s:zfF→(AV→List AE.Obj→Ans)→zYl→Ans:=fun (a0,a1,a2,o0_0,o2) K=>unP fun r_y=>unP fun o0_0_y o2_y=>K (.bool r_y) [.cells [.int .i64 o0_0_y],.cells [.own 2],.arr .str o2_y]
theorem z9R (a:zfF) (K:AV→List AE.Obj→Ans):fnE Tryz.tab z5I zd 0 70 28 Tryz.f28.ntmps Tryz.f28.results.toList z1C Zdo (zqx a).1 (zqx a).2 K=zxL a (z2s a K):=by kernel_rfl
def Zes (a:zfF) (K:AV→List AE.Obj→Ans):Ans:=za (zct a) fun y=>z2s a K y
def z6U:List AV→List AE.Obj→(AV→List AE.Obj→Ans)→Ans:=fun l H K=>za (zTe l H) fun a=>Zes a K
theorem zRZ:zQ Tryz.prog 28 z6U:=Zu (hint:=zd) (d:=0) (n:=70) mixed tabOk z8R Tryz.func28 (zE (by kernel_rfl)) (by decide +kernel) z3C zV7 z9R z5k
--@ dump_bodies_1
noncomputable def zhw:Env:=[(53,.pure zYi),(56,.pure zWz),(28,.func z6U)]
theorem zOf:zf Tryz.prog zhw:=zf.cons zDU (zf.cons zBb (zf.cons zRZ (zf.nil)))
noncomputable def z8S:Code:=Tryz.f66.body.getD .skip
noncomputable def zhQ:Code:=zF [1,1,1,0,0] z8S
noncomputable def ziu:Ann := .at 4 [0,1,21,22,23] (.loop .none)
theorem zFE:zq Tryz.prog 45 (.loop zhQ) ziu:=Zi (zb _ _ _)
abbrev je:=(List (Int×(Int×Int)×List UInt8×((Int×Int)×List UInt8)×(Int×Int)×List UInt8))×(Int)×(Int)×(Int)×(Int)×(Int)×(Int)×(Int)×(Int)×(List (Int×(Int×Int)×List UInt8×((Int×Int)×List UInt8)×(Int×Int)×List UInt8))×(List Bool)
abbrev zpx:=((Int)×(List (List UInt8))) ⊕ ((Int)×(List (List UInt8)))
abbrev wx:=(Int)×(Int)×(List (List UInt8))
def zpf:je→wx→St:=fun (t21,t22,o2_0,o2_1,o2_2,o2_3,o2_4,o2_5,o2_6,o2_7,o2_8) (t23,o0_0,o3)=>{ env:=[(0,.fn (Fn.func 28) [] [.ptr 0 0,.ptr 1 0]),(1,.ptr 2 0),(21,.ro (.st (.pair (.int .i64) (.pair (.pair (.int .i64) (.int .i64)) (.pair .str (.pair (.pair (.pair (.int .i64) (.int .i64)) .str) (.pair (.pair (.int .i64) (.int .i64)) .str)))))) t21),(22,.int .i64 t22),(23,.int .i64 t23)],stk:=[[(0,.ptr 0 0),(1,.ptr 1 0),(2,.ptr 2 0)]],H:=[.cells [.int .i64 o0_0],.cells [.own 3],.cells [.int .i64 o2_0,.int .i64 o2_1,.int .i64 o2_2,.int .i64 o2_3,.int .i64 o2_4,.int .i64 o2_5,.int .i64 o2_6,.ro (.st (.pair (.int .i64) (.pair (.pair (.int .i64) (.int .i64)) (.pair .str (.pair (.pair (.pair (.int .i64) (.int .i64)) .str) (.pair (.pair (.int .i64) (.int .i64)) .str)))))) o2_7,.ro .bool o2_8],.arr .str o3],blk:=270336 }
def zxv (s:St):Option {x:je×wx // s=zpf x.1 x.2}:=match s with
  | { env:=[(0,.fn (Fn.func 28) [] [.ptr 0 0,.ptr 1 0]),(1,.ptr 2 0),(21,.ro (.st (.pair (.int .i64) (.pair (.pair (.int .i64) (.int .i64)) (.pair .str (.pair (.pair (.pair (.int .i64) (.int .i64)) .str) (.pair (.pair (.int .i64) (.int .i64)) .str)))))) t21),(22,.int .i64 t22),(23,.int .i64 t23)],stk:=[[(0,.ptr 0 0),(1,.ptr 1 0),(2,.ptr 2 0)]],H:=[.cells [.int .i64 o0_0],.cells [.own 3],.cells [.int .i64 o2_0,.int .i64 o2_1,.int .i64 o2_2,.int .i64 o2_3,.int .i64 o2_4,.int .i64 o2_5,.int .i64 o2_6,.ro (.st (.pair (.int .i64) (.pair (.pair (.int .i64) (.int .i64)) (.pair .str (.pair (.pair (.pair (.int .i64) (.int .i64)) .str) (.pair (.pair (.int .i64) (.int .i64)) .str)))))) o2_7,.ro .bool o2_8],.arr .str o3],blk:=270336 }=>some ⟨((t21,t22,o2_0,o2_1,o2_2,o2_3,o2_4,o2_5,o2_6,o2_7,o2_8),(t23,o0_0,o3)),rfl⟩
  | _=>none
def zmr (s:St):Option (je×wx):=pk (zxv s)
theorem zOK (s:St) (x:je×wx) (h:zmr s=some x):s=zpf x.1 x.2:=zt (o:=zxv s) h
def zj5:je→(Ex→St→Ans)→zpx→Ans:=fun (t21,t22,o2_0,o2_1,o2_2,o2_3,o2_4,o2_5,o2_6,o2_7,o2_8) K=>(Sum.elim (unP fun o0_0_y o3_y=>K (Ex.ret) { env:=[],stk:=[[(0,.ptr 0 0),(1,.ptr 1 0),(2,.ptr 2 0)]],H:=[.cells [.int .i64 o0_0_y],.cells [.own 3],.cells [.int .i64 o2_0,.int .i64 o2_1,.int .i64 o2_2,.int .i64 o2_3,.int .i64 o2_4,.int .i64 o2_5,.int .i64 o2_6,.ro (.st (.pair (.int .i64) (.pair (.pair (.int .i64) (.int .i64)) (.pair .str (.pair (.pair (.pair (.int .i64) (.int .i64)) .str) (.pair (.pair (.int .i64) (.int .i64)) .str)))))) o2_7,.ro .bool o2_8],.arr .str o3_y],blk:=270337 }) (unP fun o0_0_y o3_y=>K (Ex.exit 0) { env:=[],stk:=[[(0,.ptr 0 0),(1,.ptr 1 0),(2,.ptr 2 0)]],H:=[.cells [.int .i64 o0_0_y],.cells [.own 3],.cells [.int .i64 o2_0,.int .i64 o2_1,.int .i64 o2_2,.int .i64 o2_3,.int .i64 o2_4,.int .i64 o2_5,.int .i64 o2_6,.ro (.st (.pair (.int .i64) (.pair (.pair (.int .i64) (.int .i64)) (.pair .str (.pair (.pair (.pair (.int .i64) (.int .i64)) .str) (.pair (.pair (.int .i64) (.int .i64)) .str)))))) o2_7,.ro .bool o2_8],.arr .str o3_y],blk:=270336 }))
def Qd {β:Type}:je→wx→(wx→Option β)→(zpx→Option β)→Option β:=fun (t21,t22,o2_0,o2_1,o2_2,o2_3,o2_4,o2_5,o2_6,o2_7,o2_8) (t23,o0_0,o3) next exit=>(bif decide (t23<t22) then (za (nth t21 t23) fun x=>(za (nth o2_8 t23) fun x_2=>(za (zcx (t23,x.fst,x.snd.fst.fst,x.snd.fst.snd,x.snd.snd.fst,x.snd.snd.snd.fst.fst.fst,x.snd.snd.snd.fst.fst.snd,x.snd.snd.snd.fst.snd,x.snd.snd.snd.snd.fst.fst,x.snd.snd.snd.snd.fst.snd,x.snd.snd.snd.snd.snd,x_2)) (unP fun r_0 r_1=>(za (zct ((21:Int),r_0,r_1,o0_0,o3)) (unP fun r=>unP fun o0_0_2 o2=>(bif !r then (exit (Sum.inl (o0_0_2,o2))) else (next (IntKind.wrap .i64 (t23+(1:Int)),o0_0_2,o2))))))))) else (exit (Sum.inr (o0_0,o3))))
def yM (i:je) (v:wx):Option (wx ⊕ zpx):=Qd i v (fun v=>some (.inl v)) (fun y=>some (.inr y))
theorem zzq (i:je) (v:wx) (next:wx→Ans) (exit:zpx→Ans):Qd i v next exit=za (yM i v) (Sum.elim next exit):=by
  obtain ⟨t21,t22,o2_0,o2_1,o2_2,o2_3,o2_4,o2_5,o2_6,o2_7,o2_8⟩:=i
  obtain ⟨t23,o0_0,o3⟩:=v
  simp only [yM,Qd,zi,zh,zl,zc,zj,zm,zg,Sum.elim_inl,Sum.elim_inr]
theorem zH8 (n:Nat) (i:je) (v:wx) (K:Ex→St→Ans):zx Tryz.tab zhw zd (zy Tryz.tab zhw zd 0 64) (n+1) 45 ziu (.loop zhQ) (zB 4 (exk [] [] [(0,[])]) K) (zpf i v)=Qd i v (fun v'=>zx Tryz.tab zhw zd (zy Tryz.tab zhw zd 0 64) n 45 ziu (.loop zhQ) (zB 4 (exk [] [] [(0,[])]) K) (zpf i v')) (fun y=>zj5 i K y):=by kernel_rfl
theorem zPx:zw Tryz.prog 45 (.loop zhQ) (Zm zmr yM zj5):=Zf mixed tabOk zOf 4 (exk [] [] [(0,[])]) zFE zOK zH8 zzq
noncomputable def zRv:(Ex→St→Ans)→St→Ans:=(Zm zmr yM zj5)
theorem zZW:zw Tryz.prog 45 (.loop zhQ) zRv:=zPx
noncomputable def z17:Ann:=(.seq .none (.seq .none (.seq .none (.block (.cut 4 [0,1,21,22,23] zRv)))))
theorem z4T:zq Tryz.prog 45 z8S z17:=⟨(zb _ _ _),⟨(zb _ _ _),⟨(zb _ _ _),zZW⟩⟩⟩
abbrev zf9:=(Int)×(Int)×(Int)×(Int)×(Int)×(Int)×(Int)×(Int)×(List (Int×(Int×Int)×List UInt8×((Int×Int)×List UInt8)×(Int×Int)×List UInt8))×(List Bool)×(List (List UInt8))
abbrev zWo:=(Int)×(List (List UInt8))
def zvs {β:Type}:zf9→(zWo→Option β)→Option β:=fun (o0_0,o2_0,o2_1,o2_2,o2_3,o2_4,o2_5,o2_6,o2_7,o2_8,o3) exit=>(za (zeT (o2_0,o2_1,o2_2,o2_3,o2_4,o2_5,o2_6)) (unP fun r_0 r_1=>(za (zct ((20:Int),r_0,r_1,o0_0,o3)) (unP fun r=>unP fun o0_0_2 o2=>(bif !r then (exit (o0_0_2,o2)) else (za (zO (yM (o2_7,(↑(List.length o2_7):Int),o2_0,o2_1,o2_2,o2_3,o2_4,o2_5,o2_6,o2_7,o2_8)) zY ((0:Int),o0_0_2,o2)) (Sum.elim (unP fun o0_0_3 o3_2=>(exit (o0_0_3,o3_2))) (unP fun o0_0_3 o3_2=>(exit (o0_0_3,o3_2))))))))))
def zkA (a:zf9):Option zWo:=zvs a some
theorem z00 (a:zf9) (k:zWo→Ans):zvs a k=za (zkA a) k:=by
  obtain ⟨o0_0,o2_0,o2_1,o2_2,o2_3,o2_4,o2_5,o2_6,o2_7,o2_8,o3⟩:=a
  simp only [zkA,zvs,zi,zh,zl,zc,zj,zm,zg]
def zqh:zf9→List AV×List AE.Obj:=fun (o0_0,o2_0,o2_1,o2_2,o2_3,o2_4,o2_5,o2_6,o2_7,o2_8,o3)=>([.fn (Fn.func 28) [] [.ptr 0 0,.ptr 1 0],.ptr 2 0],[.cells [.int .i64 o0_0],.cells [.own 3],.cells [.int .i64 o2_0,.int .i64 o2_1,.int .i64 o2_2,.int .i64 o2_3,.int .i64 o2_4,.int .i64 o2_5,.int .i64 o2_6,.ro (.st (.pair (.int .i64) (.pair (.pair (.int .i64) (.int .i64)) (.pair .str (.pair (.pair (.pair (.int .i64) (.int .i64)) .str) (.pair (.pair (.int .i64) (.int .i64)) .str)))))) o2_7,.ro .bool o2_8],.arr .str o3])
def zMA (l:List AV) (H:List AE.Obj):Option {a:zf9 // (l,H)=zqh a}:=match l,H with
  | [.fn (Fn.func 28) [] [.ptr 0 0,.ptr 1 0],.ptr 2 0],[.cells [.int .i64 o0_0],.cells [.own 3],.cells [.int .i64 o2_0,.int .i64 o2_1,.int .i64 o2_2,.int .i64 o2_3,.int .i64 o2_4,.int .i64 o2_5,.int .i64 o2_6,.ro (.st (.pair (.int .i64) (.pair (.pair (.int .i64) (.int .i64)) (.pair .str (.pair (.pair (.pair (.int .i64) (.int .i64)) .str) (.pair (.pair (.int .i64) (.int .i64)) .str)))))) o2_7,.ro .bool o2_8],.arr .str o3]=>some ⟨(o0_0,o2_0,o2_1,o2_2,o2_3,o2_4,o2_5,o2_6,o2_7,o2_8,o3),rfl⟩
  | _,_=>none
def zS4 (l:List AV) (H:List AE.Obj):Option zf9:=pk (zMA l H)
theorem zUY (l:List AV) (H:List AE.Obj) (a:zf9) (h:zS4 l H=some a):(l,H)=zqh a:=zt (o:=zMA l H) h
def z03:zf9→(AV→List AE.Obj→Ans)→zWo→Ans:=fun (o0_0,o2_0,o2_1,o2_2,o2_3,o2_4,o2_5,o2_6,o2_7,o2_8,o3) K=>unP fun o0_0_y o3_y=>K (.tup []) [.cells [.int .i64 o0_0_y],.cells [.own 3],.cells [.int .i64 o2_0,.int .i64 o2_1,.int .i64 o2_2,.int .i64 o2_3,.int .i64 o2_4,.int .i64 o2_5,.int .i64 o2_6,.ro (.st (.pair (.int .i64) (.pair (.pair (.int .i64) (.int .i64)) (.pair .str (.pair (.pair (.pair (.int .i64) (.int .i64)) .str) (.pair (.pair (.int .i64) (.int .i64)) .str)))))) o2_7,.ro .bool o2_8],.arr .str o3_y]
theorem z99 (a:zf9) (K:AV→List AE.Obj→Ans):fnE Tryz.tab zhw zd 0 70 66 Tryz.f66.ntmps Tryz.f66.results.toList z17 z8S (zqh a).1 (zqh a).2 K=zvs a (z03 a K):=by kernel_rfl
def ZeP (a:zf9) (K:AV→List AE.Obj→Ans):Ans:=za (zkA a) fun y=>z03 a K y
def ZdF:List AV→List AE.Obj→(AV→List AE.Obj→Ans)→Ans:=fun l H K=>za (zS4 l H) fun a=>ZeP a K
theorem ZbB:zQ Tryz.prog 66 ZdF:=Zu (hint:=zd) (d:=0) (n:=70) mixed tabOk zOf Tryz.func66 (zE (by kernel_rfl)) (by decide +kernel) z4T zUY z99 z00
--@ dump_Put
noncomputable def zIN:Env:=[(22,.pure zZC),(14,.pure Fq6),(30,.func Zd1),(28,.func z6U),(66,.func ZdF)]
theorem zRI:zf Tryz.prog zIN:=zf.cons zBm (zf.cons zOA (zf.cons ZbR (zf.cons zRZ (zf.cons ZbB (zf.nil)))))
noncomputable def bq9:Code:=Tryz.f9.body.getD .skip
noncomputable def zvG:Code:=zF [1,1,1,1,1,1,0,1] bq9
noncomputable def zED:Ann := .none
theorem zMq:zq Tryz.prog 28 zvG zED:=(zb _ _ _)
abbrev zbm:=(Bool)×(Int)×(List (List UInt8))
abbrev zwM:=(Int)×(List (List UInt8))
def zNM:zbm→St:=fun (t19,o1_0,o2)=>{ env:=[(5,.ptr 0 0),(6,.ptr 1 0),(7,.fn (Fn.func 28) [] [.ptr 1 0,.ptr 0 0]),(19,.bool t19)],stk:=[[]],H:=[.cells [.own 2],.cells [.int .i64 o1_0],.arr .str o2],blk:=36864 }
def zEw (s:St):Option {x:zbm // s=zNM x}:=match s with
  | { env:=[(5,.ptr 0 0),(6,.ptr 1 0),(7,.fn (Fn.func 28) [] [.ptr 1 0,.ptr 0 0]),(19,.bool t19)],stk:=[[]],H:=[.cells [.own 2],.cells [.int .i64 o1_0],.arr .str o2],blk:=36864 }=>some ⟨(t19,o1_0,o2),rfl⟩
  | _=>none
def zsU (s:St):Option zbm:=pk (zEw s)
theorem zPC (s:St) (x:zbm) (h:zsU s=some x):s=zNM x:=zt (o:=zEw s) h
def zsb:zbm→(Ex→St→Ans)→zwM→Ans:=fun (t19,o1_0,o2) K=>unP fun o1_0_y o2_y=>K (Ex.norm) { env:=[(5,.ptr 0 0),(6,.ptr 1 0)],stk:=[[]],H:=[.cells [.own 2],.cells [.int .i64 o1_0_y],.arr .str o2_y],blk:=36864 }
def zcW {β:Type}:zbm→(zwM→Option β)→Option β:=fun (t19,o1_0,o2) exit=>(bif t19 then (za (zdS (o2)) fun r=>(za (zct ((22:Int),r,(0:Int),o1_0,o2)) (unP fun r_2=>unP fun o0_0 o2_2=>(exit (o0_0,o2_2))))) else (exit (o1_0,o2)))
def Q1 (i:zbm):Option zwM:=zcW i some
theorem zHj (i:zbm) (k:zwM→Ans):zcW i k=za (Q1 i) k:=by
  obtain ⟨t19,o1_0,o2⟩:=i
  simp only [Q1,zcW,zi,zh,zl,zc,zj,zm,zg]
theorem zMz (i:zbm) (K:Ex→St→Ans):zx Tryz.tab zIN zd (zy Tryz.tab zIN zd 0 64) 70 28 zED zvG (zB 0 (exk [5,6] [2,3] []) K) (zNM i)=zcW i (zsb i K):=by kernel_rfl
theorem zYR:zw Tryz.prog 28 zvG (zG zsU Q1 zsb):=zA mixed tabOk zRI 0 (exk [5,6] [2,3] []) zMq zPC zMz zHj
noncomputable def z22:(Ex→St→Ans)→St→Ans:=(zG zsU Q1 zsb)
theorem z5h:zw Tryz.prog 28 zvG z22:=zYR
noncomputable def ZaC:Ann:=(.seq .none (.seq .none (.seq .none (.seq .none (.seq .none (.seq .none (.seq (.seq .none (.cut 0 [5,6,7,19] z22)) .none)))))))
theorem z8A:zq Tryz.prog 28 bq9 ZaC:=⟨(zb _ _ _),⟨(zb _ _ _),⟨(zb _ _ _),⟨(zb _ _ _),⟨(zb _ _ _),⟨(zb _ _ _),⟨⟨(zb _ _ _),z5h⟩,(zb _ _ _)⟩⟩⟩⟩⟩⟩⟩
abbrev Aq9:=(Int)×(Int)×(Int)×(Int)×(Int)×(Int)×(Int)×(List (Int×(Int×Int)×List UInt8×((Int×Int)×List UInt8)×(Int×Int)×List UInt8))×(List Bool)
abbrev Yq9:=((Int)×(List (List UInt8))) ⊕ ((Int))
def zJR {β:Type}:Aq9→(Yq9→Option β)→Option β:=fun (a0_0,a0_1,a0_2,a0_3,a0_4,a0_5,a0_6,a0_7,a0_8) exit=>(za (ziQ (a0_0,a0_1,a0_2,a0_3,a0_4,a0_5,a0_6,a0_7,a0_8)) fun r=>(bif r != (0:Int) then (exit (Sum.inl (r,[]))) else (za (zmN (a0_0,a0_1,a0_2,a0_3,a0_4,a0_5,a0_6,a0_7,a0_8)) fun _=>(za (zkA ((0:Int),a0_0,a0_1,a0_2,a0_3,a0_4,a0_5,a0_6,a0_7,a0_8,[])) (unP fun o0_0 o3=>(za (Q1 (o0_0 == (0:Int),o0_0,o3)) (unP fun o1_0 o2=>(bif o1_0 != (0:Int) then (exit (Sum.inr (o1_0))) else (exit (Sum.inl ((0:Int),o2)))))))))))
def zrg (a:Aq9):Option Yq9:=zJR a some
theorem z9o (a:Aq9) (k:Yq9→Ans):zJR a k=za (zrg a) k:=by
  obtain ⟨a0_0,a0_1,a0_2,a0_3,a0_4,a0_5,a0_6,a0_7,a0_8⟩:=a
  simp only [zrg,zJR,zi,zh,zl,zc,zj,zm,zg]
def zwi:Aq9→List AV×List AE.Obj:=fun (a0_0,a0_1,a0_2,a0_3,a0_4,a0_5,a0_6,a0_7,a0_8)=>([.agg [.int .i64 a0_0,.int .i64 a0_1,.int .i64 a0_2,.int .i64 a0_3,.int .i64 a0_4,.int .i64 a0_5,.int .i64 a0_6,.ro (.st (.pair (.int .i64) (.pair (.pair (.int .i64) (.int .i64)) (.pair .str (.pair (.pair (.pair (.int .i64) (.int .i64)) .str) (.pair (.pair (.int .i64) (.int .i64)) .str)))))) a0_7,.ro .bool a0_8]],[])
def zTF (l:List AV) (H:List AE.Obj):Option {a:Aq9 // (l,H)=zwi a}:=match l,H with
  | [.agg [.int .i64 a0_0,.int .i64 a0_1,.int .i64 a0_2,.int .i64 a0_3,.int .i64 a0_4,.int .i64 a0_5,.int .i64 a0_6,.ro (.st (.pair (.int .i64) (.pair (.pair (.int .i64) (.int .i64)) (.pair .str (.pair (.pair (.pair (.int .i64) (.int .i64)) .str) (.pair (.pair (.int .i64) (.int .i64)) .str)))))) a0_7,.ro .bool a0_8]],[]=>some ⟨(a0_0,a0_1,a0_2,a0_3,a0_4,a0_5,a0_6,a0_7,a0_8),rfl⟩
  | _,_=>none
def z4M (l:List AV) (H:List AE.Obj):Option Aq9:=pk (zTF l H)
theorem z4A (l:List AV) (H:List AE.Obj) (a:Aq9) (h:z4M l H=some a):(l,H)=zwi a:=zt (o:=zTF l H) h
def Zal:Aq9→(AV→List AE.Obj→Ans)→Yq9→Ans:=fun (a0_0,a0_1,a0_2,a0_3,a0_4,a0_5,a0_6,a0_7,a0_8) K=>(Sum.elim (unP fun r_1_y o0_y=>K (.tup [.own 0,.int .i64 r_1_y]) [.arr .str o0_y]) (fun r_1_y=>K (.tup [.nils,.int .i64 r_1_y]) []))
theorem Zbh (a:Aq9) (K:AV→List AE.Obj→Ans):fnE Tryz.tab zIN zd 0 70 9 Tryz.f9.ntmps Tryz.f9.results.toList ZaC bq9 (zwi a).1 (zwi a).2 K=zJR a (Zal a K):=by kernel_rfl
def ZfH (a:Aq9) (K:AV→List AE.Obj→Ans):Ans:=za (zrg a) fun y=>Zal a K y
def Fq9:List AV→List AE.Obj→(AV→List AE.Obj→Ans)→Ans:=fun l H K=>za (z4M l H) fun a=>ZfH a K
theorem Zb0:zQ Tryz.prog 9 Fq9:=Zu (hint:=zd) (d:=0) (n:=70) mixed tabOk zRI Tryz.func9 (zE (by kernel_rfl)) (by decide +kernel) z8A z4A Zbh z9o
--@ ref43_Same
noncomputable def Wu:Env:=[]
theorem zhT:zf Tryz.prog Wu:=zf.nil
noncomputable def zKD:Code:=Tryz.f10.body.getD .skip
noncomputable def zgP:Code:=zF [1,1,1,0,1,0,0] zKD
noncomputable def zje:Ann := .at 0 [2,3,6] (.loop .none)
theorem zFf:zq Tryz.prog 66 (.loop zgP) zje:=Zi (zb _ _ _)
abbrev Q3:=(Int)×(Int)×(Int)×(Int)×(Int)×(Int)×(Int)×(List (Int×(Int×Int)×List UInt8×((Int×Int)×List UInt8)×(Int×Int)×List UInt8))×(List Bool)×(Int)×(Int)×(Int)×(Int)×(Int)×(Int)×(Int)×(List (Int×(Int×Int)×List UInt8×((Int×Int)×List UInt8)×(Int×Int)×List UInt8))×(List Bool)
abbrev zoL:=(Unit) ⊕ (Unit)
abbrev wA:=(Int)
def znG:Q3→wA→St:=fun (o0_0,o0_1,o0_2,o0_3,o0_4,o0_5,o0_6,o0_7,o0_8,o1_0,o1_1,o1_2,o1_3,o1_4,o1_5,o1_6,o1_7,o1_8) t6=>{ env:=[(2,.ptr 0 0),(3,.ptr 1 0),(6,.int .i64 t6)],stk:=[[]],H:=[.cells [.int .i64 o0_0,.int .i64 o0_1,.int .i64 o0_2,.int .i64 o0_3,.int .i64 o0_4,.int .i64 o0_5,.int .i64 o0_6,.ro (.st (.pair (.int .i64) (.pair (.pair (.int .i64) (.int .i64)) (.pair .str (.pair (.pair (.pair (.int .i64) (.int .i64)) .str) (.pair (.pair (.int .i64) (.int .i64)) .str)))))) o0_7,.ro .bool o0_8],.cells [.int .i64 o1_0,.int .i64 o1_1,.int .i64 o1_2,.int .i64 o1_3,.int .i64 o1_4,.int .i64 o1_5,.int .i64 o1_6,.ro (.st (.pair (.int .i64) (.pair (.pair (.int .i64) (.int .i64)) (.pair .str (.pair (.pair (.pair (.int .i64) (.int .i64)) .str) (.pair (.pair (.int .i64) (.int .i64)) .str)))))) o1_7,.ro .bool o1_8]],blk:=40962 }
def zuf (s:St):Option {x:Q3×wA // s=znG x.1 x.2}:=match s with
  | { env:=[(2,.ptr 0 0),(3,.ptr 1 0),(6,.int .i64 t6)],stk:=[[]],H:=[.cells [.int .i64 o0_0,.int .i64 o0_1,.int .i64 o0_2,.int .i64 o0_3,.int .i64 o0_4,.int .i64 o0_5,.int .i64 o0_6,.ro (.st (.pair (.int .i64) (.pair (.pair (.int .i64) (.int .i64)) (.pair .str (.pair (.pair (.pair (.int .i64) (.int .i64)) .str) (.pair (.pair (.int .i64) (.int .i64)) .str)))))) o0_7,.ro .bool o0_8],.cells [.int .i64 o1_0,.int .i64 o1_1,.int .i64 o1_2,.int .i64 o1_3,.int .i64 o1_4,.int .i64 o1_5,.int .i64 o1_6,.ro (.st (.pair (.int .i64) (.pair (.pair (.int .i64) (.int .i64)) (.pair .str (.pair (.pair (.pair (.int .i64) (.int .i64)) .str) (.pair (.pair (.int .i64) (.int .i64)) .str)))))) o1_7,.ro .bool o1_8]],blk:=40962 }=>some ⟨((o0_0,o0_1,o0_2,o0_3,o0_4,o0_5,o0_6,o0_7,o0_8,o1_0,o1_1,o1_2,o1_3,o1_4,o1_5,o1_6,o1_7,o1_8),t6),rfl⟩
  | _=>none
def zlw (s:St):Option (Q3×wA):=pk (zuf s)
theorem zLh (s:St) (x:Q3×wA) (h:zlw s=some x):s=znG x.1 x.2:=zt (o:=zuf s) h
def zlK:Q3→(Ex→St→Ans)→zoL→Ans:=fun (o0_0,o0_1,o0_2,o0_3,o0_4,o0_5,o0_6,o0_7,o0_8,o1_0,o1_1,o1_2,o1_3,o1_4,o1_5,o1_6,o1_7,o1_8) K=>(Sum.elim (fun _=>K (Ex.ret) { env:=[(4,.bool (false))],stk:=[[]],H:=[],blk:=40963 }) (fun _=>K (Ex.exit 2) { env:=[],stk:=[[]],H:=[],blk:=40962 }))
def QS {β:Type}:Q3→wA→(wA→Option β)→(zoL→Option β)→Option β:=fun (o0_0,o0_1,o0_2,o0_3,o0_4,o0_5,o0_6,o0_7,o0_8,o1_0,o1_1,o1_2,o1_3,o1_4,o1_5,o1_6,o1_7,o1_8) t6 next exit=>(bif decide (t6<(↑(List.length o0_8):Int)) then (za (nth o0_8 t6) fun x=>(za (nth o1_8 t6) fun x_2=>(bif !x == x_2 then (exit (Sum.inl ())) else (next (IntKind.wrap .i64 (t6+(1:Int))))))) else (exit (Sum.inr ())))
def Ym (i:Q3) (v:wA):Option (wA ⊕ zoL):=QS i v (fun v=>some (.inl v)) (fun y=>some (.inr y))
theorem zCi (i:Q3) (v:wA) (next:wA→Ans) (exit:zoL→Ans):QS i v next exit=za (Ym i v) (Sum.elim next exit):=by
  obtain ⟨o0_0,o0_1,o0_2,o0_3,o0_4,o0_5,o0_6,o0_7,o0_8,o1_0,o1_1,o1_2,o1_3,o1_4,o1_5,o1_6,o1_7,o1_8⟩:=i
  obtain z:=v
  simp only [Ym,QS,zi,zh,zl,zc,zj,zm,zg,Sum.elim_inl,Sum.elim_inr]
theorem zGh (n:Nat) (i:Q3) (v:wA) (K:Ex→St→Ans):zx Tryz.tab Wu zd (zy Tryz.tab Wu zd 0 64) (n+1) 66 zje (.loop zgP) (zB 0 (exk [] [4] [(2,[])]) K) (znG i v)=QS i v (fun v'=>zx Tryz.tab Wu zd (zy Tryz.tab Wu zd 0 64) n 66 zje (.loop zgP) (zB 0 (exk [] [4] [(2,[])]) K) (znG i v')) (fun y=>zlK i K y):=by kernel_rfl
theorem zPt:zw Tryz.prog 66 (.loop zgP) (Zm zlw Ym zlK):=Zf mixed tabOk zhT 0 (exk [] [4] [(2,[])]) zFf zLh zGh zCi
noncomputable def zRw:(Ex→St→Ans)→St→Ans:=(Zm zlw Ym zlK)
theorem zUV:zw Tryz.prog 66 (.loop zgP) zRw:=zPt
noncomputable def zg0:Code:=zF [1,1,0,1,0,0] zKD
noncomputable def zhU:Ann := .at 0 [2,3,5] (.loop .none)
theorem zGJ:zq Tryz.prog 66 (.loop zg0) zhU:=Zi (zb _ _ _)
abbrev Qt:=(Int)×(Int)×(Int)×(Int)×(Int)×(Int)×(Int)×(List (Int×(Int×Int)×List UInt8×((Int×Int)×List UInt8)×(Int×Int)×List UInt8))×(List Bool)×(Int)×(Int)×(Int)×(Int)×(Int)×(Int)×(Int)×(List (Int×(Int×Int)×List UInt8×((Int×Int)×List UInt8)×(Int×Int)×List UInt8))×(List Bool)
abbrev zoW:=(Unit) ⊕ (Unit)
abbrev wH:=(Int)
def zn7:Qt→wH→St:=fun (o0_0,o0_1,o0_2,o0_3,o0_4,o0_5,o0_6,o0_7,o0_8,o1_0,o1_1,o1_2,o1_3,o1_4,o1_5,o1_6,o1_7,o1_8) t5=>{ env:=[(2,.ptr 0 0),(3,.ptr 1 0),(5,.int .i64 t5)],stk:=[[]],H:=[.cells [.int .i64 o0_0,.int .i64 o0_1,.int .i64 o0_2,.int .i64 o0_3,.int .i64 o0_4,.int .i64 o0_5,.int .i64 o0_6,.ro (.st (.pair (.int .i64) (.pair (.pair (.int .i64) (.int .i64)) (.pair .str (.pair (.pair (.pair (.int .i64) (.int .i64)) .str) (.pair (.pair (.int .i64) (.int .i64)) .str)))))) o0_7,.ro .bool o0_8],.cells [.int .i64 o1_0,.int .i64 o1_1,.int .i64 o1_2,.int .i64 o1_3,.int .i64 o1_4,.int .i64 o1_5,.int .i64 o1_6,.ro (.st (.pair (.int .i64) (.pair (.pair (.int .i64) (.int .i64)) (.pair .str (.pair (.pair (.pair (.int .i64) (.int .i64)) .str) (.pair (.pair (.int .i64) (.int .i64)) .str)))))) o1_7,.ro .bool o1_8]],blk:=40960 }
def zxc (s:St):Option {x:Qt×wH // s=zn7 x.1 x.2}:=match s with
  | { env:=[(2,.ptr 0 0),(3,.ptr 1 0),(5,.int .i64 t5)],stk:=[[]],H:=[.cells [.int .i64 o0_0,.int .i64 o0_1,.int .i64 o0_2,.int .i64 o0_3,.int .i64 o0_4,.int .i64 o0_5,.int .i64 o0_6,.ro (.st (.pair (.int .i64) (.pair (.pair (.int .i64) (.int .i64)) (.pair .str (.pair (.pair (.pair (.int .i64) (.int .i64)) .str) (.pair (.pair (.int .i64) (.int .i64)) .str)))))) o0_7,.ro .bool o0_8],.cells [.int .i64 o1_0,.int .i64 o1_1,.int .i64 o1_2,.int .i64 o1_3,.int .i64 o1_4,.int .i64 o1_5,.int .i64 o1_6,.ro (.st (.pair (.int .i64) (.pair (.pair (.int .i64) (.int .i64)) (.pair .str (.pair (.pair (.pair (.int .i64) (.int .i64)) .str) (.pair (.pair (.int .i64) (.int .i64)) .str)))))) o1_7,.ro .bool o1_8]],blk:=40960 }=>some ⟨((o0_0,o0_1,o0_2,o0_3,o0_4,o0_5,o0_6,o0_7,o0_8,o1_0,o1_1,o1_2,o1_3,o1_4,o1_5,o1_6,o1_7,o1_8),t5),rfl⟩
  | _=>none
def zkv (s:St):Option (Qt×wH):=pk (zxc s)
theorem zKG (s:St) (x:Qt×wH) (h:zkv s=some x):s=zn7 x.1 x.2:=zt (o:=zxc s) h
def zlU:Qt→(Ex→St→Ans)→zoW→Ans:=fun (o0_0,o0_1,o0_2,o0_3,o0_4,o0_5,o0_6,o0_7,o0_8,o1_0,o1_1,o1_2,o1_3,o1_4,o1_5,o1_6,o1_7,o1_8) K=>(Sum.elim (fun _=>K (Ex.ret) { env:=[(4,.bool (false))],stk:=[[]],H:=[],blk:=40961 }) (fun _=>K (Ex.exit 0) { env:=[(2,.ptr 0 0),(3,.ptr 1 0)],stk:=[[]],H:=[.cells [.int .i64 o0_0,.int .i64 o0_1,.int .i64 o0_2,.int .i64 o0_3,.int .i64 o0_4,.int .i64 o0_5,.int .i64 o0_6,.ro (.st (.pair (.int .i64) (.pair (.pair (.int .i64) (.int .i64)) (.pair .str (.pair (.pair (.pair (.int .i64) (.int .i64)) .str) (.pair (.pair (.int .i64) (.int .i64)) .str)))))) o0_7,.ro .bool o0_8],.cells [.int .i64 o1_0,.int .i64 o1_1,.int .i64 o1_2,.int .i64 o1_3,.int .i64 o1_4,.int .i64 o1_5,.int .i64 o1_6,.ro (.st (.pair (.int .i64) (.pair (.pair (.int .i64) (.int .i64)) (.pair .str (.pair (.pair (.pair (.int .i64) (.int .i64)) .str) (.pair (.pair (.int .i64) (.int .i64)) .str)))))) o1_7,.ro .bool o1_8]],blk:=40960 }))
def jc {β:Type}:Qt→wH→(wH→Option β)→(zoW→Option β)→Option β:=fun (o0_0,o0_1,o0_2,o0_3,o0_4,o0_5,o0_6,o0_7,o0_8,o1_0,o1_1,o1_2,o1_3,o1_4,o1_5,o1_6,o1_7,o1_8) t5 next exit=>(bif decide (t5<(↑(List.length o0_7):Int)) then (za (nth o0_7 t5) fun x=>(za (nth o1_7 t5) fun x_2=>(bif !(x.fst == x_2.fst&&(x.snd.fst.fst == x_2.snd.fst.fst&&(x.snd.fst.snd == x_2.snd.fst.snd&&true)&&(x.snd.snd.fst == x_2.snd.snd.fst&&(x.snd.snd.snd.fst.fst.fst == x_2.snd.snd.snd.fst.fst.fst&&(x.snd.snd.snd.fst.fst.snd == x_2.snd.snd.snd.fst.fst.snd&&true)&&(x.snd.snd.snd.fst.snd == x_2.snd.snd.snd.fst.snd&&true)&&(x.snd.snd.snd.snd.fst.fst == x_2.snd.snd.snd.snd.fst.fst&&(x.snd.snd.snd.snd.fst.snd == x_2.snd.snd.snd.snd.fst.snd&&true)&&(x.snd.snd.snd.snd.snd == x_2.snd.snd.snd.snd.snd&&true)&&true))))) then (exit (Sum.inl ())) else (next (IntKind.wrap .i64 (t5+(1:Int))))))) else (exit (Sum.inr ())))
def Yi (i:Qt) (v:wH):Option (wH ⊕ zoW):=jc i v (fun v=>some (.inl v)) (fun y=>some (.inr y))
theorem zBK (i:Qt) (v:wH) (next:wH→Ans) (exit:zoW→Ans):jc i v next exit=za (Yi i v) (Sum.elim next exit):=by
  obtain ⟨o0_0,o0_1,o0_2,o0_3,o0_4,o0_5,o0_6,o0_7,o0_8,o1_0,o1_1,o1_2,o1_3,o1_4,o1_5,o1_6,o1_7,o1_8⟩:=i
  obtain z:=v
  simp only [Yi,jc,zi,zh,zl,zc,zj,zm,zg,Sum.elim_inl,Sum.elim_inr]
theorem zFO (n:Nat) (i:Qt) (v:wH) (K:Ex→St→Ans):zx Tryz.tab Wu zd (zy Tryz.tab Wu zd 0 64) (n+1) 66 zhU (.loop zg0) (zB 0 (exk [2,3] [4] [(0,[2,3])]) K) (zn7 i v)=jc i v (fun v'=>zx Tryz.tab Wu zd (zy Tryz.tab Wu zd 0 64) n 66 zhU (.loop zg0) (zB 0 (exk [2,3] [4] [(0,[2,3])]) K) (zn7 i v')) (fun y=>zlU i K y):=by kernel_rfl
theorem zQn:zw Tryz.prog 66 (.loop zg0) (Zm zkv Yi zlU):=Zf mixed tabOk zhT 0 (exk [2,3] [4] [(0,[2,3])]) zGJ zKG zFO zBK
noncomputable def zTi:(Ex→St→Ans)→St→Ans:=(Zm zkv Yi zlU)
theorem zYU:zw Tryz.prog 66 (.loop zg0) zTi:=zQn
noncomputable def zn5:Code:=zF [1,0,0] zKD
noncomputable def ztV:Ann := .none
theorem zGX:zq Tryz.prog 66 zn5 ztV:=(zb _ _ _)
abbrev Qq:=(Int)×(Int)×(Int)×(Int)×(Int)×(Int)×(Int)×(List (Int×(Int×Int)×List UInt8×((Int×Int)×List UInt8)×(Int×Int)×List UInt8))×(List Bool)×(Int)×(Int)×(Int)×(Int)×(Int)×(Int)×(Int)×(List (Int×(Int×Int)×List UInt8×((Int×Int)×List UInt8)×(Int×Int)×List UInt8))×(List Bool)
abbrev zqE:=(Bool)
def zzt:Qq→St:=fun (o0_0,o0_1,o0_2,o0_3,o0_4,o0_5,o0_6,o0_7,o0_8,o1_0,o1_1,o1_2,o1_3,o1_4,o1_5,o1_6,o1_7,o1_8)=>{ env:=[(2,.ptr 0 0),(3,.ptr 1 0)],stk:=[[]],H:=[.cells [.int .i64 o0_0,.int .i64 o0_1,.int .i64 o0_2,.int .i64 o0_3,.int .i64 o0_4,.int .i64 o0_5,.int .i64 o0_6,.ro (.st (.pair (.int .i64) (.pair (.pair (.int .i64) (.int .i64)) (.pair .str (.pair (.pair (.pair (.int .i64) (.int .i64)) .str) (.pair (.pair (.int .i64) (.int .i64)) .str)))))) o0_7,.ro .bool o0_8],.cells [.int .i64 o1_0,.int .i64 o1_1,.int .i64 o1_2,.int .i64 o1_3,.int .i64 o1_4,.int .i64 o1_5,.int .i64 o1_6,.ro (.st (.pair (.int .i64) (.pair (.pair (.int .i64) (.int .i64)) (.pair .str (.pair (.pair (.pair (.int .i64) (.int .i64)) .str) (.pair (.pair (.int .i64) (.int .i64)) .str)))))) o1_7,.ro .bool o1_8]],blk:=40960 }
def zuP (s:St):Option {x:Qq // s=zzt x}:=match s with
  | { env:=[(2,.ptr 0 0),(3,.ptr 1 0)],stk:=[[]],H:=[.cells [.int .i64 o0_0,.int .i64 o0_1,.int .i64 o0_2,.int .i64 o0_3,.int .i64 o0_4,.int .i64 o0_5,.int .i64 o0_6,.ro (.st (.pair (.int .i64) (.pair (.pair (.int .i64) (.int .i64)) (.pair .str (.pair (.pair (.pair (.int .i64) (.int .i64)) .str) (.pair (.pair (.int .i64) (.int .i64)) .str)))))) o0_7,.ro .bool o0_8],.cells [.int .i64 o1_0,.int .i64 o1_1,.int .i64 o1_2,.int .i64 o1_3,.int .i64 o1_4,.int .i64 o1_5,.int .i64 o1_6,.ro (.st (.pair (.int .i64) (.pair (.pair (.int .i64) (.int .i64)) (.pair .str (.pair (.pair (.pair (.int .i64) (.int .i64)) .str) (.pair (.pair (.int .i64) (.int .i64)) .str)))))) o1_7,.ro .bool o1_8]],blk:=40960 }=>some ⟨(o0_0,o0_1,o0_2,o0_3,o0_4,o0_5,o0_6,o0_7,o0_8,o1_0,o1_1,o1_2,o1_3,o1_4,o1_5,o1_6,o1_7,o1_8),rfl⟩
  | _=>none
def zjG (s:St):Option Qq:=pk (zuP s)
theorem zJV (s:St) (x:Qq) (h:zjG s=some x):s=zzt x:=zt (o:=zuP s) h
def zlM:Qq→(Ex→St→Ans)→zqE→Ans:=fun (o0_0,o0_1,o0_2,o0_3,o0_4,o0_5,o0_6,o0_7,o0_8,o1_0,o1_1,o1_2,o1_3,o1_4,o1_5,o1_6,o1_7,o1_8) K=>fun t29_y=>K (Ex.norm) { env:=[(2,.ptr 0 0),(3,.ptr 1 0),(29,.bool t29_y)],stk:=[[]],H:=[.cells [.int .i64 o0_0,.int .i64 o0_1,.int .i64 o0_2,.int .i64 o0_3,.int .i64 o0_4,.int .i64 o0_5,.int .i64 o0_6,.ro (.st (.pair (.int .i64) (.pair (.pair (.int .i64) (.int .i64)) (.pair .str (.pair (.pair (.pair (.int .i64) (.int .i64)) .str) (.pair (.pair (.int .i64) (.int .i64)) .str)))))) o0_7,.ro .bool o0_8],.cells [.int .i64 o1_0,.int .i64 o1_1,.int .i64 o1_2,.int .i64 o1_3,.int .i64 o1_4,.int .i64 o1_5,.int .i64 o1_6,.ro (.st (.pair (.int .i64) (.pair (.pair (.int .i64) (.int .i64)) (.pair .str (.pair (.pair (.pair (.int .i64) (.int .i64)) .str) (.pair (.pair (.int .i64) (.int .i64)) .str)))))) o1_7,.ro .bool o1_8]],blk:=40960 }
def zbH {β:Type}:Qq→(zqE→Option β)→Option β:=fun (o0_0,o0_1,o0_2,o0_3,o0_4,o0_5,o0_6,o0_7,o0_8,o1_0,o1_1,o1_2,o1_3,o1_4,o1_5,o1_6,o1_7,o1_8) exit=>(bif !(o0_0 == o1_0&&(o0_1 == o1_1&&(o0_2 == o1_2&&(o0_3 == o1_3&&(o0_4 == o1_4&&(o0_5 == o1_5&&(o0_6 == o1_6&&true))&&true))))) then (exit (true)) else (bif (↑(List.length o0_7):Int) != (↑(List.length o1_7):Int) then (exit (true)) else (exit ((↑(List.length o0_8):Int) != (↑(List.length o1_8):Int)))))
def qj (i:Qq):Option zqE:=zbH i some
theorem zEd (i:Qq) (k:zqE→Ans):zbH i k=za (qj i) k:=by
  obtain ⟨o0_0,o0_1,o0_2,o0_3,o0_4,o0_5,o0_6,o0_7,o0_8,o1_0,o1_1,o1_2,o1_3,o1_4,o1_5,o1_6,o1_7,o1_8⟩:=i
  simp only [qj,zbH,zi,zh,zl,zc,zj,zm,zg]
theorem zG1 (i:Qq) (K:Ex→St→Ans):zx Tryz.tab Wu zd (zy Tryz.tab Wu zd 0 64) 70 66 ztV zn5 (zB 0 (exk [2,3,29] [4] []) K) (zzt i)=zbH i (zlM i K):=by kernel_rfl
theorem zPW:zw Tryz.prog 66 zn5 (zG zjG qj zlM):=zA mixed tabOk zhT 0 (exk [2,3,29] [4] []) zGX zJV zG1 zEd
noncomputable def zSb:(Ex→St→Ans)→St→Ans:=(zG zjG qj zlM)
theorem zWa:zw Tryz.prog 66 zn5 zSb:=zPW
noncomputable def z4c:Ann:=(.seq .none (.seq (.seq (.cut 0 [2,3] zSb) .none) (.seq (.seq .none (.block (.cut 0 [2,3,5] zTi))) (.seq (.seq .none (.block (.cut 0 [2,3,6] zRw))) .none))))
theorem z5i:zq Tryz.prog 66 zKD z4c:=⟨(zb _ _ _),⟨⟨zWa,(zb _ _ _)⟩,⟨⟨(zb _ _ _),zYU⟩,⟨⟨(zb _ _ _),zUV⟩,(zb _ _ _)⟩⟩⟩⟩
abbrev zeX:=(Int)×(Int)×(Int)×(Int)×(Int)×(Int)×(Int)×(List (Int×(Int×Int)×List UInt8×((Int×Int)×List UInt8)×(Int×Int)×List UInt8))×(List Bool)×(Int)×(Int)×(Int)×(Int)×(Int)×(Int)×(Int)×(List (Int×(Int×Int)×List UInt8×((Int×Int)×List UInt8)×(Int×Int)×List UInt8))×(List Bool)
abbrev zOq:=(Bool)
def zwd {β:Type}:zeX→(zOq→Option β)→Option β:=fun (a0_0,a0_1,a0_2,a0_3,a0_4,a0_5,a0_6,a0_7,a0_8,a1_0,a1_1,a1_2,a1_3,a1_4,a1_5,a1_6,a1_7,a1_8) exit=>(za (qj (a0_0,a0_1,a0_2,a0_3,a0_4,a0_5,a0_6,a0_7,a0_8,a1_0,a1_1,a1_2,a1_3,a1_4,a1_5,a1_6,a1_7,a1_8)) fun t29=>(bif t29 then (exit (false)) else (za (zO (Yi (a0_0,a0_1,a0_2,a0_3,a0_4,a0_5,a0_6,a0_7,a0_8,a1_0,a1_1,a1_2,a1_3,a1_4,a1_5,a1_6,a1_7,a1_8)) zY ((0:Int))) (Sum.elim (fun _=>(exit (false))) (fun _=>(za (zO (Ym (a0_0,a0_1,a0_2,a0_3,a0_4,a0_5,a0_6,a0_7,a0_8,a1_0,a1_1,a1_2,a1_3,a1_4,a1_5,a1_6,a1_7,a1_8)) zY ((0:Int))) (Sum.elim (fun _=>(exit (false))) (fun _=>(exit (true))))))))))
def zeH (a:zeX):Option zOq:=zwd a some
theorem z1R (a:zeX) (k:zOq→Ans):zwd a k=za (zeH a) k:=by
  obtain ⟨a0_0,a0_1,a0_2,a0_3,a0_4,a0_5,a0_6,a0_7,a0_8,a1_0,a1_1,a1_2,a1_3,a1_4,a1_5,a1_6,a1_7,a1_8⟩:=a
  simp only [zeH,zwd,zi,zh,zl,zc,zj,zm,zg]
def zzl:zeX→List AV:=fun (a0_0,a0_1,a0_2,a0_3,a0_4,a0_5,a0_6,a0_7,a0_8,a1_0,a1_1,a1_2,a1_3,a1_4,a1_5,a1_6,a1_7,a1_8)=>[.agg [.int .i64 a0_0,.int .i64 a0_1,.int .i64 a0_2,.int .i64 a0_3,.int .i64 a0_4,.int .i64 a0_5,.int .i64 a0_6,.ro (.st (.pair (.int .i64) (.pair (.pair (.int .i64) (.int .i64)) (.pair .str (.pair (.pair (.pair (.int .i64) (.int .i64)) .str) (.pair (.pair (.int .i64) (.int .i64)) .str)))))) a0_7,.ro .bool a0_8],.agg [.int .i64 a1_0,.int .i64 a1_1,.int .i64 a1_2,.int .i64 a1_3,.int .i64 a1_4,.int .i64 a1_5,.int .i64 a1_6,.ro (.st (.pair (.int .i64) (.pair (.pair (.int .i64) (.int .i64)) (.pair .str (.pair (.pair (.pair (.int .i64) (.int .i64)) .str) (.pair (.pair (.int .i64) (.int .i64)) .str)))))) a1_7,.ro .bool a1_8]]
def zLq (l:List AV):Option {a:zeX // l=zzl a}:=match l with
  | [.agg [.int .i64 a0_0,.int .i64 a0_1,.int .i64 a0_2,.int .i64 a0_3,.int .i64 a0_4,.int .i64 a0_5,.int .i64 a0_6,.ro (.st (.pair (.int .i64) (.pair (.pair (.int .i64) (.int .i64)) (.pair .str (.pair (.pair (.pair (.int .i64) (.int .i64)) .str) (.pair (.pair (.int .i64) (.int .i64)) .str)))))) a0_7,.ro .bool a0_8],.agg [.int .i64 a1_0,.int .i64 a1_1,.int .i64 a1_2,.int .i64 a1_3,.int .i64 a1_4,.int .i64 a1_5,.int .i64 a1_6,.ro (.st (.pair (.int .i64) (.pair (.pair (.int .i64) (.int .i64)) (.pair .str (.pair (.pair (.pair (.int .i64) (.int .i64)) .str) (.pair (.pair (.int .i64) (.int .i64)) .str)))))) a1_7,.ro .bool a1_8]]=>some ⟨(a0_0,a0_1,a0_2,a0_3,a0_4,a0_5,a0_6,a0_7,a0_8,a1_0,a1_1,a1_2,a1_3,a1_4,a1_5,a1_6,a1_7,a1_8),rfl⟩
  | _=>none
def zUk (l:List AV):Option zeX:=pk (zLq l)
theorem zYI (l:List AV) (a:zeX) (h:zUk l=some a):l=zzl a:=zt (o:=zLq l) h
def zDu:zeX→zOq→AV:=fun (a0_0,a0_1,a0_2,a0_3,a0_4,a0_5,a0_6,a0_7,a0_8,a1_0,a1_1,a1_2,a1_3,a1_4,a1_5,a1_6,a1_7,a1_8)=>fun r_y => .bool r_y
theorem zZ6 : ∀(a:zeX) (y:zOq),(zDu a y).closed1=true:=by
  rintro ⟨a0_0,a0_1,a0_2,a0_3,a0_4,a0_5,a0_6,a0_7,a0_8,a1_0,a1_1,a1_2,a1_3,a1_4,a1_5,a1_6,a1_7,a1_8⟩ y <;> first | rfl | exact Empty.elim y
theorem z74 (a:zeX):fnE Tryz.tab Wu zd 0 70 10 Tryz.f10.ntmps Tryz.f10.results.toList z4c zKD (zzl a) [] (fun v _=>some (v,[]))=zwd a (fun y=>some (zDu a y,[])):=by kernel_rfl
def Ze6 (a:zeX) (K:AV→Ans):Ans:=za (zeH a) fun y=>K (zDu a y)
def ZcE:List AV→(AV→Ans)→Ans:=fun l K=>za (zUk l) fun a=>Ze6 a K
theorem Zbx:zM Tryz.prog 10 ZcE:=zL (hint:=zd) (d:=0) (n:=70) mixed tabOk zhT Tryz.func10 (zE (by kernel_rfl)) (by decide +kernel) z5i zYI z74 z1R zZ6
end Go.Proofs.R9
namespace Go.Proofs.R9
open Go Go.AE Go.Plain
theorem zgL {m:Nat} (h:m<4294967296):IntKind.wrap .u32 (m:Int)=(m:Int):=by
  simp [IntKind.wrap,IntKind.bits,IntKind.signed];omega
theorem zdZ (m:Nat):IntKind.wrap .u8 (m:Int)=((m % 256:Nat):Int):=by
  simp [IntKind.wrap,IntKind.bits,IntKind.signed]
theorem zk8 {m:Nat} (h:m<4294967296):Int.toNat ((m:Int) % 4294967296)=m:=by omega
theorem zpF {m:Nat} (h:m<9223372036854775808):Int.toNat ((m:Int) % 18446744073709551616)=m:=by omega
theorem JN {m:Nat} (h:m≤9223372036854775807):IntKind.wrap .i64 (m:Int)=(m:Int):=Zg (by omega) (by omega)
theorem zio (m p:Nat):Int.fdiv (m:Int) (p:Int)=((m / p:Nat):Int):=by rw [Int.fdiv_eq_ediv_of_nonneg _ (by omega)];rfl
theorem z9X (m p:Nat):Int.tdiv (m:Int) (p:Int)=((m / p:Nat):Int):=rfl
theorem zU9 {n:Nat} (h:n<4294967296):IntKind.wrap .u32 (((Int.toNat (Int.fdiv (n:Int) 2 % 4294967296) ^^^ Int.toNat (IntKind.wrap .u32 (((3988292384 &&&
    Int.toNat (IntKind.wrap .u32 ((0:Int) - IntKind.wrap .u32 (((Int.toNat ((n:Int) % 4294967296) &&& 1:Nat)):Int)) % 4294967296):Nat)):Int) % 4294967296):Nat)):Int)=((Z5 n:Nat):Int):=by
  have e1:Int.fdiv (n:Int) 2=((n / 2:Nat):Int):=zio n 2
  rw [e1,zk8 (m:=n / 2) (by omega),zk8 h,Nat.and_one_is_mod]
  have hlt:=zal (n:=n) (by omega)
  unfold Z5 at hlt ⊢
  have hn:n % 2=0∨n % 2=1:=by omega
  rcases hn with hn | hn <;> rw [hn] at hlt ⊢
  · have:Int.toNat (IntKind.wrap .u32 (((3988292384 &&& Int.toNat (IntKind.wrap .u32 ((0:Int) - IntKind.wrap .u32 ((0:Nat):Int)) % 4294967296):Nat)):Int) % 4294967296)=0:=by decide
    rw [this]
    exact zgL hlt
  · have:Int.toNat (IntKind.wrap .u32 (((3988292384 &&& Int.toNat (IntKind.wrap .u32 ((0:Int) - IntKind.wrap .u32 ((1:Nat):Int)) % 4294967296):Nat)):Int) % 4294967296)=zzF:=by decide
    rw [this]
    exact zgL hlt
theorem zEV (k n:Nat):Z1 (k+1) n=Z5 (Z1 k n):=by rw [← zr8 k 1];rfl
theorem zzs {n c:Nat} (hn:n<4294967296) (hc:c<256):zn0 ((n:Int),(c:Int))=some ((y1 n c:Nat):Int):=by
  have hx:n ^^^ c<4294967296:=Nat.xor_lt_two_pow (n:=32) hn (by omega)
  have key : ∃y,zO (YO ()) zY (((n ^^^ c:Nat):Int),(0:Int))=some y∧y=((y1 n c:Nat):Int):=by
    refine YY (fun j v=>j≤8∧v=(((Z1 j (n ^^^ c):Nat):Int),(j:Int))) 8 _ ?_ ⟨by omega,rfl⟩ (by omega)
    rintro j v ⟨hj,rfl⟩
    have hb:=zqS j (n:=n ^^^ c) hx
    by_cases h8:j<8
    · left
      refine ⟨_,?_,h8,by omega,rfl⟩
      simp only [YO,J7,zo (show (j:Int)<8 by omega),cond_true]
      rw [zU9 hb,z7 (by omega),zEV]
    · right
      obtain rfl:j=8:=by omega
      refine ⟨_,?_,rfl⟩
      simp only [YO,J7,zn (show ¬((8:Nat):Int)<8 by omega),cond_false]
      rfl
  obtain ⟨y,hy,rfl⟩:=key
  have e:IntKind.wrap .u32 (((Int.toNat ((n:Int) % 4294967296) ^^^ Int.toNat (IntKind.wrap .u32 (c:Int) % 4294967296):Nat)):Int)=((n ^^^ c:Nat):Int):=by
    rw [zk8 hn,zgL (m:=c) (by omega),zk8 (m:=c) (by omega),zgL hx]
  simp only [zn0,zNr]
  rw [e,hy]
  rfl
theorem zLB (m:Nat) {s:List UInt8} {j:Nat} {c:UInt8} (h:s[j]? = some c):wa m (s.take (j+1))=y1 (wa m (s.take j)) c.toNat:=by
  rw [List.take_add_one,h,jp];rfl
theorem Zbr {n:Nat} (hn:n<4294967296):IntKind.wrap .u32 (((Int.toNat ((n:Int) % 4294967296) ^^^ 4294967295:Nat)):Int)=((n ^^^ yb:Nat):Int):=by
  rw [zk8 hn,zgL (Nat.xor_lt_two_pow (n:=32) hn (by decide))]
  rfl
theorem zNt (s:List UInt8) (hs:s.length≤1000000000000):znO s=some ((crc s:Nat):Int):=by
  have key : ∃y,zO (y9 (s,(s.length:Int),0)) zY (((yb:Nat):Int),((0:Nat):Int))=some y∧y=((wa yb s:Nat):Int):=by
    refine yK s (fun j (_:Unit)=>(((wa yb (s.take j):Nat):Int),(j:Int))) (fun _ _=>True) _ ?_ ?_ (s0:=()) trivial (by omega)
    · intro j c _ hj hlt _
      left
      refine ⟨(),?_,trivial⟩
      have hr:=zbb (s.take j) (n:=yb) (by decide)
      simp only [y9,J6,zo (show (j:Int)<(s.length:Int) by omega),cond_true,yj hj,zc,z7 (show j<9223372036854775807 by omega),zzs hr c.toNat_lt,zLB yb hj]
    · intro _ _
      simp only [y9,J6,zn (show ¬(s.length:Int)<(s.length:Int) by omega),cond_false]
      exact ⟨_,rfl,by rw [List.take_length]⟩
  obtain ⟨y,hy,rfl⟩:=key
  have hr:=zbb s (n:=yb) (by decide)
  have hc:wa yb s ^^^ yb<4294967296:=zvb s
  have h0:IntKind.wrap .u32 (((Int.toNat ((0:Int) % 4294967296) ^^^ 4294967295:Nat)):Int)=((yb:Nat):Int):=by decide
  simp only [znO,zKp,zv9,zMo,zxm,zKz,zxj,zLu,zc]
  have hy':zO (y9 (s,(s.length:Int),0)) zY (((yb:Nat):Int),0)=_:=hy
  rw [h0,hy']
  simp only [zc]
  rw [Zbr hr,JN (by omega)]
  rfl
theorem zIL (n p:Nat):UInt8.ofNat (Int.toNat (IntKind.wrap .u8 (Int.fdiv (n:Int) (p:Int))))=UInt8.ofNat (n / p % 256):=by
  rw [zio,zdZ]
  rfl
theorem wt (s:List UInt8) (hs:s.length≤1000000000000):zcj s=some (tail s):=by
  simp only [zcj,zJu,zNt s hs,zc,Qj,zcV,jv,zcX,wu,Jt,ww,Js,wX,Jv,wU,JB,unP]
  have b0:=zIL (crc s) 1
  have b1:=zIL (crc s) 256
  have b2:=zIL (crc s) 65536
  have b3:=zIL (crc s) 16777216
  simp only [Int.cast_ofNat_Int] at b0 b1 b2 b3
  unfold Zh tail le4
  simp only [List.map_cons,List.map_nil]
  rw [b0,b1,b2,b3,Nat.div_one]
theorem z3u (t0:List UInt8) {n:Nat} (t4 t5:Int) (h:n<4294967296):wg (t0,(n:Int),t4,t5)=some ((Z5 n:Nat):Int):=by
  simp only [wg,za4]
  have e1:Int.tmod (n:Int) 2=((n % 2:Nat):Int):=rfl
  have e2:Int.tdiv (n:Int) 2=((n / 2:Nat):Int):=rfl
  have hlt:=zal (n:=n) (by omega)
  rw [e1,e2,JN (m:=n / 2) (by omega),zpF (m:=n / 2) (by omega)]
  change (bif (((n % 2:Nat):Int) == 1) then some (IntKind.wrap .i64 ((n / 2 ^^^ zzF:Nat):Int)) else some ((n / 2:Nat):Int))=_
  unfold Z5 at hlt ⊢
  by_cases hn:n % 2=1
  · rw [if_pos hn] at hlt ⊢
    have:(((n % 2:Nat):Int) == 1)=true:=by rw [hn];rfl
    rw [this,cond_true,JN (by omega)]
  · rw [if_neg hn] at hlt ⊢
    have:(((n % 2:Nat):Int) == 1)=false:=by rw [beq_eq_false_iff_ne];omega
    rw [this,cond_false,Nat.xor_zero]
theorem zQP (s:List UInt8) (hs:s.length≤1000000000000):zgV s=some ((crc s:Nat):Int):=by
  have inner : ∀(t4:Int) {n:Nat},n<4294967296→zO (yO (s,t4)) zY ((n:Int),0)=some ((Z1 8 n:Nat):Int):=by
    intro t4 n hn
    have key : ∃y,zO (yO (s,t4)) zY ((n:Int),((0:Nat):Int))=some y∧y=((Z1 8 n:Nat):Int):=by
      refine YY (fun j v=>j≤8∧v=(((Z1 j n:Nat):Int),(j:Int))) 8 _ ?_ ⟨by omega,rfl⟩ (by omega)
      rintro j v ⟨hj,rfl⟩
      by_cases h8:j<8
      · left
        refine ⟨_,?_,h8,by omega,rfl⟩
        simp only [yO,Qs,zo (show (j:Int)<8 by omega),cond_true,z3u _ _ _ (zqS j hn),zc,z7 (show j<9223372036854775807 by omega),zEV]
      · right
        obtain rfl:j=8:=by omega
        simp only [yO,Qs,zn (show ¬((8:Nat):Int)<8 by omega),cond_false]
        exact ⟨_,rfl,rfl⟩
    obtain ⟨y,hy,rfl⟩:=key
    exact hy
  have key : ∃y,zO (yH s) zY (((yb:Nat):Int),((0:Nat):Int))=some y∧y=((wa yb s:Nat):Int):=by
    refine yK s (fun j (_:Unit)=>(((wa yb (s.take j):Nat):Int),(j:Int))) (fun _ _=>True) _ ?_ ?_ (s0:=()) trivial (by omega)
    · intro j c _ hj hlt _
      left
      refine ⟨(),?_,trivial⟩
      have hr:=zbb (s.take j) (n:=yb) (by decide)
      have hc:c.toNat<256:=c.toNat_lt
      have hx:wa yb (s.take j) ^^^ c.toNat<4294967296:=Nat.xor_lt_two_pow (n:=32) hr (by omega)
      simp only [yH,jJ,zo (show (j:Int)<(s.length:Int) by omega),cond_true,yj hj,zc,z7 (show j<9223372036854775807 by omega),zLB yb hj]
      rw [JN (m:=c.toNat) (by omega),zpF (m:=wa yb (s.take j)) (by omega),zpF (m:=c.toNat) (by omega),JN (by omega),inner _ hx]
      rfl
    · intro _ _
      simp only [yH,jJ,zn (show ¬(s.length:Int)<(s.length:Int) by omega),cond_false]
      exact ⟨_,rfl,by rw [List.take_length]⟩
  obtain ⟨y,hy,rfl⟩:=key
  have hy':zO (yH s) zY ((4294967295:Int),0)=_:=hy
  have hr:=zbb s (n:=yb) (by decide)
  have hc:=zvb s
  simp only [zgV,zxu,hy',zc]
  rw [zpF (m:=wa yb s) (by omega)]
  change some (IntKind.wrap .i64 ((crc s:Nat):Int))=_
  rw [JN (by omega)]
theorem JE (s:List UInt8) (hs:s.length≤1000000000000):zbN s=some (tail s):=by
  simp only [zbN,zuH,zQP s hs,zc]
  have hc:=zvb s
  have e : ∀p:Nat,p≤16777216→IntKind.wrap .i64 (Int.tdiv ((crc s:Nat):Int) (p:Int))=((crc s / p:Nat):Int):=fun p _=>by
    rw [z9X,JN]
    have:=Nat.div_le_self (crc s) p
    omega
  have e1:=e 256 (by omega)
  have e2:=e 65536 (by omega)
  have e3:=e 16777216 (by omega)
  simp only [Int.cast_ofNat_Int] at e1 e2 e3
  rw [e1,e2,e3]
  have m : ∀n:Nat,Int.tmod (n:Int) 256=((n % 256:Nat):Int):=fun n=>rfl
  rw [m,m,m,m,zdZ,zdZ,zdZ,zdZ]
  unfold Zh tail le4
  simp only [List.map_cons,List.map_nil,Int.toNat_natCast,Nat.mod_mod]
theorem zry : ∀n:Nat,Lib.repeatL [0] n=List.replicate n 0
  | 0=>rfl
  | n+1=>by rw [Lib.repeatL,zry n,List.replicate_succ];rfl
theorem zHX (s:List UInt8) (hs:s.length≤1000000000000):zgw s=some (JM s):=by
  have e:Int.tmod (s.length:Int) 64=((s.length % 64:Nat):Int):=rfl
  simp only [zgw,zu8,e]
  by_cases h:s.length % 64=0
  · rw [zn (by omega),cond_false,JM,h]
    simp
  · have e2:IntKind.wrap .i64 ((64:Int) - ((s.length % 64:Nat):Int))=((64 - s.length % 64:Nat):Int):=by rw [Zg (by omega) (by omega)];omega
    rw [zo (by omega),cond_true,e2]
    have:y3 ([0],((64 - s.length % 64:Nat):Int))=some (List.replicate (64 - s.length % 64) 0):=by
      unfold y3
      rw [zry]
      simp only [Int.toNat_natCast,List.length_cons,List.length_nil]
      rw [zo (by omega),zo (by omega),Zc (by omega)]
      rfl
    rw [this]
    simp only [zc]
    rw [Zc (by rw [List.length_replicate];omega),cond_true,JM,show (64 - s.length % 64) % 64=64 - s.length % 64 by omega]
theorem zNZ (s:List UInt8) (hs:s.length≤1000000000000):zg7 s=some (JM s):=by
  have key : ∃y,zO (wh ()) zY s=some y∧y=JM s:=by
    refine YY (fun j v=>j≤(64 - s.length % 64) % 64∧v=s++List.replicate j 0) ((64 - s.length % 64) % 64) _ ?_ ⟨by omega,by simp⟩ (by omega)
    rintro j v ⟨hj,rfl⟩
    have hl:(s++List.replicate j (0:UInt8)).length=s.length+j:=by simp
    have e:Int.tmod ((s.length+j:Nat):Int) 64=(((s.length+j) % 64:Nat):Int):=rfl
    simp only [wh,zah,hl,e]
    by_cases hlt:j<(64 - s.length % 64) % 64
    · left
      have e1:((((s.length+j) % 64:Nat):Int) != 0)=true:=by rw [bne_iff_ne];omega
      rw [e1,cond_true,Zc (by omega),cond_true]
      exact ⟨_,rfl,hlt,by omega,by rw [List.append_assoc,List.replicate_succ']⟩
    · right
      have e1:((((s.length+j) % 64:Nat):Int) != 0)=false:=by rw [bne_eq_false_iff_eq];omega
      rw [e1,cond_false]
      exact ⟨_,rfl,by rw [JM,show j=(64 - s.length % 64) % 64 by omega]⟩
  obtain ⟨y,hy,rfl⟩:=key
  simp only [zg7,zxZ,hy,zc]
theorem z5B (k:Nat):(2:Nat) ^ (8*k)=256 ^ k:=by rw [Nat.pow_mul]
theorem zHs (n:Int) (k:Nat) (hk:1≤k∧k≤7):zhd (n,(k:Int))=some (decide (0≤n∧n<((256 ^ k:Nat):Int))):=by
  have w:IntKind.wrap .i64 ((8:Int)*(k:Int))=((8*k:Nat):Int):=by rw [Zg (by omega) (by omega)];omega
  simp only [zhd,zwe,WX,zba,zcz,ziv,Ye,Wc,zc]
  rw [zo (show (k:Int)≥1 by omega),zo (show (k:Int)≤7 by omega),cond_true]
  simp only [zc,cond_true]
  by_cases h0:n≥0
  · rw [zo h0,cond_true,w,zn (by omega),cond_false]
    simp only [zc]
    obtain ⟨m,rfl⟩:=Int.eq_ofNat_of_zero_le h0
    have:min (Int.toNat ((8*k:Nat):Int)) 64=8*k:=by simp only [Int.toNat_natCast];omega
    rw [this]
    have:(2:Int) ^ (8*k)=((2 ^ (8*k):Nat):Int):=by simp
    rw [this,zio,z5B]
    have hp:0<256 ^ k:=Nat.pow_pos (by omega)
    congr 1
    rw [Bool.eq_iff_iff,beq_iff_eq,decide_eq_true_eq]
    have:m / 256 ^ k=0↔m<256 ^ k:=Nat.div_eq_zero_iff_lt hp
    omega
  · rw [zn h0,cond_false]
    simp only [zc]
    rw [zn (by omega)]
def zH (s:List UInt8) (n:Int) (k:Nat):List UInt8:=if 0≤n∧n<((256 ^ k:Nat):Int) then s++be k n.toNat else s
theorem z6 (s:List UInt8) (n:Int) (k:Nat):(zH s n k).length≤s.length+k:=by
  unfold zH;split
  · rw [List.length_append,yx];omega
  · omega
theorem zVj (s:List UInt8):Zh (Zd s)=s:=by
  unfold Zh Zd
  rw [List.map_map]
  conv=>rhs;rw [← List.map_id s]
  refine List.map_congr_left fun c _ => ?_
  simp
theorem yl (s:List UInt8) (n:Int) (k:Nat) (hk:1≤k∧k≤7) (hs:s.length≤1000000000000):Zw (s,n,(k:Int))=some (zH s n k):=by
  simp only [Zw,zvP,zHs n k hk,zc]
  unfold zH
  by_cases hf:0≤n∧n<((256 ^ k:Nat):Int)
  · rw [if_pos hf,zo hf]
    obtain ⟨m,rfl⟩:=Int.eq_ofNat_of_zero_le hf.1
    simp only [Bool.not_true,cond_false,Int.toNat_natCast]
    rw [zo (show (0:Int)≤k by omega),zo (show (k:Int)≤k by omega),zo (show (1:Int)*k≤281474976710656 by omega),zo (show (k:Int)≤9223372036854775807 by omega)]
    simp only [Bool.and_self,cond_true,List.length_replicate]
    have key : ∃y,zO (yP (s,(m:Int),(k:Int),(k:Int))) zY (((0:Nat):Int),List.replicate k (0:Int))=some y∧y=Zd (be k m):=by
      refine YY (fun j v=>j≤k∧v=((j:Int),(Zd (be k m)).take j++List.replicate (k - j) 0)) k _ ?_ ⟨by omega,by simp⟩ (by omega)
      rintro j v ⟨hj,rfl⟩
      by_cases hlt:j<k
      · left
        refine ⟨_,?_,hlt,by omega,rfl⟩
        have w1:IntKind.wrap .i64 ((k:Int) - 1)=((k - 1:Nat):Int):=by rw [Zg (by omega) (by omega)];omega
        have w2:IntKind.wrap .i64 (((k - 1:Nat):Int) - (j:Int))=((k - 1 - j:Nat):Int):=by rw [Zg (by omega) (by omega)];omega
        have w3:IntKind.wrap .i64 ((8:Int)*((k - 1 - j:Nat):Int))=((8*(k - 1 - j):Nat):Int):=by rw [Zg (by omega) (by omega)];omega
        have hlen:((Zd (be k m)).take j++List.replicate (k - j) (0:Int)).length=k:=by simp [Zd,yx];omega
        have hget:((Zd (be k m)).take j++List.replicate (k - j) (0:Int))[j]? = some 0:=by
          rw [List.getElem?_append_right (by simp [Zd,yx];omega),List.getElem?_replicate,if_pos (by simp [Zd,yx];omega)]
        simp only [yP,Ql,zo (show (j:Int)<(k:Int) by omega),cond_true,w1,w2,w3,zn (show ¬((8*(k - 1 - j):Nat):Int)<0 by omega),cond_false,hlen,
          Zk (show (0:Int)≤(j:Int)∧(j:Int)<(k:Int) by omega),Int.toNat_natCast,hget,zc,z7 (show j<9223372036854775807 by omega)]
        have hm:min (8*(k - 1 - j)) 64=8*(k - 1 - j):=by omega
        have hp:(2:Int) ^ (8*(k - 1 - j))=((256 ^ (k - 1 - j):Nat):Int):=by rw [← z5B];simp
        rw [hm,hp,zio,zdZ]
        have hb:=z1q k m j hlt
        have hi:(Zd (be k m))[j]? = some ((m / 256 ^ (k - 1 - j) % 256:Nat):Int):=by
          unfold Zd
          rw [List.getElem?_map,hb]
          simp [z5o]
        congr 3
        apply List.ext_getElem?
        intro i
        have h1:(Zd (be k m)).length=k:=by simp [Zd,yx]
        rw [List.getElem?_set]
        by_cases hij:j=i
        · subst hij
          rw [if_pos rfl,if_pos (by rw [hlen];omega),List.getElem?_append_left (by rw [List.length_take];omega),List.getElem?_take_of_lt (by omega),hi]
        · rw [if_neg hij]
          by_cases hij2:i<j
          · rw [List.getElem?_append_left (by rw [List.length_take];omega),List.getElem?_append_left (by rw [List.length_take];omega),List.getElem?_take_of_lt hij2,List.getElem?_take_of_lt (by omega)]
          · rw [List.getElem?_append_right (by rw [List.length_take];omega),List.getElem?_append_right (by rw [List.length_take];omega),List.getElem?_replicate,List.getElem?_replicate,List.length_take,List.length_take]
            split <;> split <;> first | rfl | omega
      · right
        obtain rfl:j=k:=by omega
        simp only [yP,Ql,zn (show ¬(j:Int)<(j:Int) by omega),cond_false]
        refine ⟨_,rfl,?_⟩
        rw [Nat.sub_self,List.replicate_zero,List.append_nil,List.take_of_length_le (by simp [Zd,yx])]
    obtain ⟨y,hy,rfl⟩:=key
    have hy':zO (yP (s,(m:Int),(k:Int),(k:Int))) zY (0,List.replicate k (0:Int))=_:=hy
    rw [hy']
    simp only [zc,zVj,yx]
    rw [Zc (by omega),cond_true]
  · rw [if_neg hf,zn hf]
    rfl
theorem zFR (n:Int) (k:Nat) (hk:1≤k∧k≤7) (hn : -9223372036854775808≤n∧n≤9223372036854775807):zha (n,(k:Int))=some (decide (0≤n∧n<((256 ^ k:Nat):Int))):=by
  simp only [zha,zvt,WJ,za6,zc]
  rw [zn (show ¬(k:Int)<1 by omega),zn (show ¬(k:Int)>7 by omega),cond_false,cond_false]
  simp only [zc]
  by_cases h0:n<0
  · rw [zo h0,cond_true,zn (by omega)]
  · rw [zn h0,cond_false]
    obtain ⟨m,rfl⟩:=Int.eq_ofNat_of_zero_le (show 0≤n by omega)
    have key : ∃y,zO (yU (k:Int)) zY ((m:Int),((0:Nat):Int))=some y∧y=((m / 256 ^ k:Nat):Int):=by
      refine YY (fun j v=>j≤k∧v=(((m / 256 ^ j:Nat):Int),(j:Int))) k _ ?_ ⟨by omega,by simp⟩ (by omega)
      rintro j v ⟨hj,rfl⟩
      by_cases hlt:j<k
      · left
        refine ⟨_,?_,hlt,by omega,rfl⟩
        have e:Int.tdiv ((m / 256 ^ j:Nat):Int) 256=((m / 256 ^ (j+1):Nat):Int):=by
          rw [Nat.pow_succ,← Nat.div_div_eq_div_mul];rfl
        have hle:=Nat.div_le_self m (256 ^ (j+1))
        simp only [yU,QG,zo (show (j:Int)<(k:Int) by omega),cond_true,e,JN (show m / 256 ^ (j+1)≤9223372036854775807 by omega),z7 (show j<9223372036854775807 by omega)]
      · right
        obtain rfl:j=k:=by omega
        simp only [yU,QG,zn (show ¬(j:Int)<(j:Int) by omega),cond_false]
        exact ⟨_,rfl,rfl⟩
    obtain ⟨y,hy,rfl⟩:=key
    have hy':zO (yU (k:Int)) zY ((m:Int),0)=_:=hy
    rw [hy']
    simp only [zc]
    have hp:0<256 ^ k:=Nat.pow_pos (by omega)
    congr 1
    rw [Bool.eq_iff_iff,beq_iff_eq,decide_eq_true_eq,Int.natCast_eq_zero,Nat.div_eq_zero_iff_lt hp]
    omega
theorem Yt (s:List UInt8) (n:Int) (k:Nat) (hk:1≤k∧k≤7) (hn : -9223372036854775808≤n∧n≤9223372036854775807) (hs:s.length≤1000000000000):Zy (s,n,(k:Int))=some (zH s n k):=by
  simp only [Zy,zvw,zFR n k hk hn,zc]
  unfold zH
  by_cases hf:0≤n∧n<((256 ^ k:Nat):Int)
  · rw [if_pos hf,zo hf]
    obtain ⟨m,rfl⟩:=Int.eq_ofNat_of_zero_le hf.1
    simp only [Bool.not_true,cond_false,Int.toNat_natCast]
    have key : ∃y,zO (yQ (s,(k:Int))) zY ((m:Int),([]:List UInt8),((0:Nat):Int))=some y∧y=be k m:=by
      refine YY (fun j v=>j≤k∧v=(((m / 256 ^ j:Nat):Int),be j m,(j:Int))) k _ ?_ ⟨by omega,by simp [be]⟩ (by omega)
      rintro j v ⟨hj,rfl⟩
      by_cases hlt:j<k
      · left
        refine ⟨_,?_,hlt,by omega,rfl⟩
        have e:Int.tdiv ((m / 256 ^ j:Nat):Int) 256=((m / 256 ^ (j+1):Nat):Int):=by
          rw [Nat.pow_succ,← Nat.div_div_eq_div_mul];rfl
        have hle:=Nat.div_le_self m (256 ^ (j+1))
        have e2:IntKind.wrap .u8 (Int.tmod ((m / 256 ^ j:Nat):Int) 256)=((m / 256 ^ j % 256:Nat):Int):=by
          rw [show Int.tmod ((m / 256 ^ j:Nat):Int) 256=((m / 256 ^ j % 256:Nat):Int) from rfl,zdZ,Nat.mod_mod]
        simp only [yQ,Qh,zo (show (j:Int)<(k:Int) by omega),cond_true,e,e2,JN (show m / 256 ^ (j+1)≤9223372036854775807 by omega),z7 (show j<9223372036854775807 by omega)]
        have e3:Zh [((m / 256 ^ j % 256:Nat):Int)]=[UInt8.ofNat (m / 256 ^ j % 256)]:=rfl
        rw [e3,List.length_singleton,yx,Zc (by omega),cond_true,be]
        rfl
      · right
        obtain rfl:j=k:=by omega
        simp only [yQ,Qh,zn (show ¬(j:Int)<(j:Int) by omega),cond_false]
        exact ⟨_,rfl,rfl⟩
    obtain ⟨y,hy,rfl⟩:=key
    have hy':zO (yQ (s,(k:Int))) zY ((m:Int),[],0)=_:=hy
    rw [hy']
    simp only [zc,yx]
    rw [Zc (by omega),cond_true]
  · rw [if_neg hf,zn hf]
    rfl
end Go.Proofs.R9
namespace Go.Proofs.R9
open Go Go.AE Go.Plain
theorem qE (n:Nat) (r:List UInt8) (h:n≤r.length) (hl:r.length≤1000000000000):yB ((n:Int),r,0)=some (r.take n,r.drop n,0):=by
  simp only [yB,zig,Yl,Wn]
  rw [zn (show ¬(n:Int)<0 by omega),cond_false,zn (show ¬(n:Int)>(r.length:Int) by omega),cond_false]
  simp only [zc]
  rw [Zk (show (0:Int)≤(n:Int)∧(n:Int)<((r.length+1:Nat):Int) by omega)]
  rfl
theorem Zbt (n c:Nat) (hc:c<256):(n*256) ||| c=256*n+c:=by
  have:=Nat.shiftLeft_add_eq_or_of_lt (i:=8) (b:=c) (by omega) n
  rw [Nat.shiftLeft_eq] at this
  simp only [show (2:Nat) ^ 8=256 from rfl] at this
  omega
theorem yw (k:Nat) (r:List UInt8) (hk:1≤k∧k≤7) (h:k≤r.length) (hl:r.length≤1000000000000):ZZ ((k:Int),r,0)=some (((num (r.take k):Nat):Int),r.drop k,0):=by
  simp only [ZZ,zoT,zcz,ziv,Ye,Wc,zc]
  rw [zo (show (k:Int)≥1 by omega),zo (show (k:Int)≤7 by omega),cond_true]
  simp only [zc,Bool.not_true,cond_false,qE k r h hl,unP]
  have hlen:(r.take k).length=k:=by rw [List.length_take];omega
  have hil:(Zd (r.take k)).length=k:=by rw [Zd,List.length_map,hlen]
  rw [Zc (by omega),cond_true,hil]
  have key : ∃y,zO (yR ((k:Int),r.drop k,0,Zd (r.take k))) zY ((0:Int),((0:Nat):Int))=some y∧y=((num (r.take k):Nat):Int):=by
    refine YY (fun j v=>j≤k∧v=(((num (r.take j):Nat):Int),(j:Int))) k _ ?_ ⟨by omega,by simp [num]⟩ (by omega)
    rintro j v ⟨hj,rfl⟩
    by_cases hlt:j<k
    · left
      refine ⟨_,?_,hlt,by omega,rfl⟩
      have hget:r[j]? = some r[j]:=List.getElem?_eq_getElem (by omega)
      generalize r[j]=c at hget
      have hi:(Zd (r.take k))[j]? = some ((c.toNat:Nat):Int):=by
        rw [Zd,List.getElem?_map,List.getElem?_take_of_lt hlt,hget];rfl
      have hn:=zlh (r.take j)
      have hp:256 ^ (r.take j).length≤256 ^ 6:=Nat.pow_le_pow_right (by omega) (by rw [List.length_take];omega)
      have hc:c.toNat<256:=c.toNat_lt
      have e1:IntKind.wrap .i64 (((num (r.take j):Nat):Int)*256)=((num (r.take j)*256:Nat):Int):=by rw [Zg (by omega) (by omega)];omega
      have e2:num (r.take (j+1))=256*num (r.take j)+c.toNat:=by rw [List.take_add_one,hget];exact zOd _ _
      simp only [yR,jy,zo (show (j:Int)<(k:Int) by omega),cond_true,hil,Zk (show (0:Int)≤(j:Int)∧(j:Int)<(k:Int) by omega),Int.toNat_natCast,hi,zc,e1,
        JN (m:=c.toNat) (show c.toNat≤9223372036854775807 by omega),zpF (m:=num (r.take j)*256) (show num (r.take j)*256<9223372036854775808 by omega),zpF (m:=c.toNat) (show c.toNat<9223372036854775808 by omega),Zbt _ _ hc,
        JN (m:=256*num (r.take j)+c.toNat) (show 256*num (r.take j)+c.toNat≤9223372036854775807 by omega),z7 (show j<9223372036854775807 by omega),e2]
    · right
      obtain rfl:j=k:=by omega
      simp only [yR,jy,zn (show ¬(j:Int)<(j:Int) by omega),cond_false]
      exact ⟨_,rfl,rfl⟩
  obtain ⟨y,hy,rfl⟩:=key
  have hy':zO (yR ((k:Int),r.drop k,0,Zd (r.take k))) zY (0,0)=_:=hy
  rw [hy']
  rfl
theorem zQZ (f:List UInt8→Int×Int→Option ((Int×Int) ⊕ Int)) (s:List UInt8) (hs:s.length≤7)
    (h1 : ∀(n j:Int),decide (j<(s.length:Int))=true→f s (n,j)=za (nth s j) fun x=>some (.inl (IntKind.wrap .i64 (IntKind.wrap .i64 (256*n)+IntKind.wrap .i64 (x.toNat:Int)),IntKind.wrap .i64 (j+1))))
    (h2 : ∀(n j:Int),decide (j<(s.length:Int))=false→f s (n,j)=some (.inr n)):zO (f s) zY (0,0)=some ((num s:Nat):Int):=by
  have key : ∃y,zO (f s) zY ((0:Int),((0:Nat):Int))=some y∧y=((num s:Nat):Int):=by
    refine yK s (fun j (_:Unit)=>(((num (s.take j):Nat):Int),(j:Int))) (fun _ _=>True) _ ?_ ?_ (s0:=()) trivial (by omega)
    · intro j c _ hj hlt _
      left
      refine ⟨(),?_,trivial⟩
      have hn:=zlh (s.take j)
      have hp:256 ^ (s.take j).length≤256 ^ 6:=Nat.pow_le_pow_right (by omega) (by rw [List.length_take];omega)
      have hc:c.toNat<256:=c.toNat_lt
      have e2:num (s.take (j+1))=256*num (s.take j)+c.toNat:=by rw [List.take_add_one,hj];exact zOd _ _
      rw [h1 _ _ (zo (by omega)),yj hj,zc,z7 (by omega),Zg (x:=256*((num (s.take j):Nat):Int)) (by omega) (by omega),JN (m:=c.toNat) (by omega),Zg (by omega) (by omega),e2]
      congr 3
    · intro _ _
      rw [h2 _ _ (zn (by omega)),List.take_length]
      exact ⟨_,rfl,rfl⟩
  obtain ⟨y,hy,rfl⟩:=key
  exact hy
end Go.Proofs.R9
namespace Go.Proofs.R9
open Go Go.AE Go.Plain
abbrev zsy (x s l:Int):Prop:=(1≤x∧x≤24)∧(1≤s∧s≤8)∧24≤l∧l≤200
abbrev zlv (n r b c x s l:Int):Prop:=zsy x s l∧(0≤n∧n≤1)∧(0≤r∧r≤1)∧(0≤b∧b≤16777216)∧0≤c∧c<x
theorem z0l (n a b:Int):zcy (n,a,b)=some (decide (a≤n∧n≤b)):=by
  simp only [zcy,zwO,qr,zaC]
  by_cases h:n≥a <;> simp [h,zc,show a≤n↔n≥a from Iff.rfl]
theorem z3N (x s l:Int):zhP (x,s,l)=some (if zsy x s l then 0 else 3):=by
  simp only [zhP,ztm,qo,zbf,z0l,zc]
  unfold zsy
  by_cases h1:1≤x∧x≤24
  · by_cases h2:1≤s∧s≤8
    · by_cases h3:24≤l∧l≤200
      · rw [zo h1,zo h2,zo h3,if_pos ⟨h1,h2,h3⟩];rfl
      · rw [zo h1,zo h2,zn h3,if_neg (fun h=>h3 h.2.2)];rfl
    · rw [zo h1,zn h2,if_neg (fun h=>h2 h.2.1)];rfl
  · rw [zn h1,if_neg (fun h=>h1 h.1)];rfl
theorem zYW (n b:Int):zas (n,b)=some (decide (0≤n∧n≤b)):=by
  simp only [zas,zwb,WP,zaq]
  by_cases h:n≥0 <;> simp [h,zc,show 0≤n↔n≥0 from Iff.rfl]
def zcb (n r b c x s l:Int):Int:=if zlv n r b c x s l then 0 else 3
theorem zEY (n r b c x s l:Int):zep (n,r,b,c,x,s,l)=some (zcb n r b c x s l):=by
  simp only [zep,zv8,qq,zaS,zYW,z3N,zc]
  unfold zcb
  by_cases h0:zsy x s l
  · rw [if_pos h0,Zg (show -9223372036854775808≤x - 1 by omega) (by omega)]
    by_cases h1:0≤n∧n≤1
    · by_cases h2:0≤r∧r≤1
      · by_cases h3:0≤b∧b≤16777216
        · by_cases h4:0≤c∧c≤x - 1
          · rw [zo h1,zo h2,zo h3,zo h4,if_pos ⟨h0,h1,h2,h3,by omega⟩];rfl
          · rw [zo h1,zo h2,zo h3,zn h4,if_neg (fun h=>h4 (by have:=h.2.2.2.2;omega))];rfl
        · rw [zo h1,zo h2,zn h3,if_neg (fun h=>h3 h.2.2.2.1)];rfl
      · rw [zo h1,zn h2,if_neg (fun h=>h2 h.2.2.1)];rfl
    · rw [zn h1,if_neg (fun h=>h1 h.2.1)];rfl
  · rw [if_neg h0,if_neg (fun h=>h0 h.1)];rfl
def qI (n r b:Int):List UInt8:=zH (zH (zH [83] n 1) r 1) b 4
def zlG (n r b c x s:Int):List UInt8:=zH (zH (zH (qI n r b) c 1) x 1) s 1
def wi (n r b c x s l:Int):List UInt8:=zH (zlG n r b c x s) l 2
def zft (n r b c x s l:Int):List UInt8:=JM (wi n r b c x s l++tail (wi n r b c x s l))
def zmV (n r b c x s l:Int):List UInt8×Int:=if zlv n r b c x s l then (zft n r b c x s l,0) else ([],3)
theorem zsC (n r b:Int):(qI n r b).length≤7:=by
  unfold qI
  have h1:=z6 [83] n 1
  have h2:=z6 (zH [83] n 1) r 1
  have h3:=z6 (zH (zH [83] n 1) r 1) b 4
  simp only [List.length_cons,List.length_nil] at h1
  omega
theorem zAL (n r b c x s:Int):(zlG n r b c x s).length≤10:=by
  unfold zlG
  have h0:=zsC n r b
  have h1:=z6 (qI n r b) c 1
  have h2:=z6 (zH (qI n r b) c 1) x 1
  have h3:=z6 (zH (zH (qI n r b) c 1) x 1) s 1
  omega
theorem zta (n r b c x s l:Int):(wi n r b c x s l).length≤12:=by
  unfold wi
  have h0:=zAL n r b c x s
  have h1:=z6 (zlG n r b c x s) l 2
  omega
theorem z6N (t:List UInt8) (n:Int) (k:Nat) (hk:1≤k∧k≤7) (ht:t.length≤100) {m:Int} (hm:m=(k:Int)):Zw (t,n,m)=some (zH t n k):=by
  subst hm;exact yl t n k hk (by omega)
theorem f1 (t:List UInt8) (n:Int) (ht:t.length≤100):Zw (t,n,1)=some (zH t n 1):=z6N t n 1 (by omega) ht rfl
theorem f2 (t:List UInt8) (n:Int) (ht:t.length≤100):Zw (t,n,2)=some (zH t n 2):=z6N t n 2 (by omega) ht rfl
theorem f4 (t:List UInt8) (n:Int) (ht:t.length≤100):Zw (t,n,4)=some (zH t n 4):=z6N t n 4 (by omega) ht rfl
theorem zZ2 (n r b c x s l:Int) (h:List UInt8) (hh:h.length≤10):zO (ZK (3,n,r,b,c,x,s,l,[c,x,s])) zY (h,0)=some (zH (zH (zH h c 1) x 1) s 1):=by
  have h1:=z6 h c 1
  have h2:=z6 (zH h c 1) x 1
  refine ziS 4 zY _ _ (by unfold zY;omega) ?_
  have st : ∀(j:Nat) (p:List UInt8) (v:Int),p.length≤100→j<3→[c,x,s][j]? = some v→ZK (3,n,r,b,c,x,s,l,[c,x,s]) (p,(j:Int))=some (.inl (zH p v 1,((j+1:Nat):Int))):=by
    intro j p v hp hj hv
    simp only [ZK,zbM,zo (show (j:Int)<3 by omega),cond_true,Zk (show (0:Int)≤(j:Int)∧(j:Int)<(([c,x,s].length:Nat):Int) by simp only [List.length_cons,List.length_nil];omega),Int.toNat_natCast,hv,zc,f1 p v hp]
    rw [z7 (by omega)]
  have s0:ZK (3,n,r,b,c,x,s,l,[c,x,s]) (h,0)=some (.inl (zH h c 1,1)):=st 0 h c (by omega) (by omega) rfl
  have s1:ZK (3,n,r,b,c,x,s,l,[c,x,s]) (zH h c 1,1)=some (.inl (zH (zH h c 1) x 1,2)):=st 1 _ x (by omega) (by omega) rfl
  have s2:ZK (3,n,r,b,c,x,s,l,[c,x,s]) (zH (zH h c 1) x 1,2)=some (.inl (zH (zH (zH h c 1) x 1) s 1,3)):=st 2 _ s (by omega) (by omega) rfl
  have s3 : ∀t,ZK (3,n,r,b,c,x,s,l,[c,x,s]) (t,3)=some (.inr t):=fun t=>rfl
  rw [zO,s0,zc,Sum.elim_inl,zO,s1,zc,Sum.elim_inl,zO,s2,zc,Sum.elim_inl,zO,s3,zc,Sum.elim_inr]
theorem zUO (n r b c x s l:Int):zeT (n,r,b,c,x,s,l)=some (zmV n r b c x s l):=by
  simp only [zeT,zvU,zEY,zc]
  unfold zmV zcb
  by_cases h:zlv n r b c x s l
  · rw [if_pos h,if_pos h]
    have l1:=z6 [83] n 1
    have l2:=z6 (zH [83] n 1) r 1
    simp only [List.length_cons,List.length_nil] at l1
    have l3:=zsC n r b
    have l4:=zAL n r b c x s
    have hb:=zta n r b c x s l
    have e3:Zw (zH (zH [83] n 1) r 1,b,4)=some (qI n r b):=f4 _ b (by omega)
    have e5:Zw (zlG n r b c x s,l,2)=some (wi n r b c x s l):=f2 _ l (by omega)
    have lp:zO (ZK (((([c,x,s]:List Int).length:Nat):Int),n,r,b,c,x,s,l,[c,x,s])) zY (qI n r b,0)=some (zlG n r b c x s):=zZ2 n r b c x s l _ (by omega)
    simp only [bne_self_eq_false,cond_false,f1 [83] n (by simp),f1 (zH [83] n 1) r (by omega),e3,zc,lp,e5,
      wt _ (show (wi n r b c x s l).length≤1000000000000 by omega),Zt,Zc (show (wi n r b c x s l).length+4≤9223372036854775807 by omega),cond_true,
      zHX _ (show (wi n r b c x s l++tail (wi n r b c x s l)).length≤1000000000000 by rw [List.length_append,Zt];omega)]
    rfl
  · rw [if_neg h,if_neg h];rfl
end Go.Proofs.R9
namespace Go.Proofs.R9
open Go Go.AE Go.Plain
abbrev S8:=Int×Int×Int×Int×Int×Int×Int×Int
abbrev nS (t:List UInt8) (i k:Nat):Int:=((num ((t.drop i).take k):Nat):Int)
def zzb (p:List UInt8×Int) (t:List UInt8) (n r b c x s l:Int):S8:=if p=(t,0) then (n,r,b,c,x,s,l,0) else (0,0,0,0,0,0,0,4)
def qB (t:List UInt8):S8 :=
  if t.length≠64 then (0,0,0,0,0,0,0,12) else if t.take 1≠[83] then (0,0,0,0,0,0,0,4) else if (t.drop 12).take 4≠tail (t.take 12) then (0,0,0,0,0,0,0,5) else
    zzb (zmV (nS t 1 1) (nS t 2 1) (nS t 3 4) (nS t 7 1) (nS t 8 1) (nS t 9 1) (nS t 10 2)) t (nS t 1 1) (nS t 2 1) (nS t 3 4) (nS t 7 1) (nS t 8 1) (nS t 9 1) (nS t 10 2)
theorem zTM (p:List UInt8×Int) (t:List UInt8) (n r b c x s l:Int) :
    (za (bif p.2 != 0 then some true else some (!p.1 == t):Option Bool) fun w=>bif w then some ((0,0,0,0,0,0,0,4):S8) else some (n,r,b,c,x,s,l,0))=some (zzb p t n r b c x s l):=by
  obtain ⟨u,e⟩:=p
  unfold zzb
  by_cases he:e=0
  · subst he
    by_cases hs:u=t
    · subst hs;simp [zc]
    · have:(u == t)=false:=by simpa using hs
      simp [hs,this,zc]
  · have:(e != 0)=true:=by simpa using he
    simp [this,he,zc]
theorem z2U (t:List UInt8) (pp:List UInt8×Int) (n r b c x s l:Int) :
    (unP (fun r_0 r_1=>za (Y3 (t,r_0,r_1,n,r,b,c,x,s,l)) fun w=>bif w then some ((0,0,0,0,0,0,0,4):S8) else some (n,r,b,c,x,s,l,0)) pp:Option S8)=some (zzb pp t n r b c x s l):=by
  obtain ⟨u,e⟩:=pp
  simp only [unP,Y3,zag]
  exact zTM (u,e) t n r b c x s l
theorem Zba (t:List UInt8) (hl:t.length≤1000000000000):zgt t=some (qB t):=by
  unfold qB
  simp only [zgt,zxN]
  by_cases h64:t.length=64
  · have e1:((t.length:Int) != 64)=false:=by rw [h64];rfl
    rw [if_neg (by simpa using h64),e1,cond_false]
    simp only [Wq,zdj,zc]
    have b1:=qE 1 t (by omega) hl
    simp only [Int.cast_ofNat_Int] at b1
    rw [b1]
    simp only [zc,unP]
    by_cases hm:t.take 1=[83]
    · rw [if_neg (by simpa using hm),hm]
      have n1:=yw 1 (t.drop 1) (by omega) (by rw [List.length_drop];omega) (by rw [List.length_drop];omega)
      have n2:=yw 1 (t.drop 2) (by omega) (by rw [List.length_drop];omega) (by rw [List.length_drop];omega)
      have n3:=yw 4 (t.drop 3) (by omega) (by rw [List.length_drop];omega) (by rw [List.length_drop];omega)
      have n4:=yw 1 (t.drop 7) (by omega) (by rw [List.length_drop];omega) (by rw [List.length_drop];omega)
      have n5:=yw 1 (t.drop 8) (by omega) (by rw [List.length_drop];omega) (by rw [List.length_drop];omega)
      have n6:=yw 1 (t.drop 9) (by omega) (by rw [List.length_drop];omega) (by rw [List.length_drop];omega)
      have n7:=yw 2 (t.drop 10) (by omega) (by rw [List.length_drop];omega) (by rw [List.length_drop];omega)
      have b4:=qE 4 (t.drop 12) (by rw [List.length_drop];omega) (by rw [List.length_drop];omega)
      simp only [Int.cast_ofNat_Int,List.drop_drop,Nat.reduceAdd] at n1 n2 n3 n4 n5 n6 n7 b4
      simp only [beq_self_eq_true,Bool.not_true,cond_false,n1,n2,n3,n4,n5,n6,n7,zc,unP]
      rw [Zk (show (0:Int)≤12∧(12:Int)<((t.length+1:Nat):Int) by omega),cond_true]
      simp only [wt _ (show (t.take 12).length≤1000000000000 by rw [List.length_take];omega),zc,Zt,Int.cast_ofNat_Int]
      rw [b4]
      simp only [zc,unP]
      generalize tail (t.take 12)=tl
      by_cases ht:(t.drop 12).take 4=tl
      · rw [if_neg (fun h=>h ht),ht,beq_self_eq_true,Bool.not_true,cond_false]
        rw [zUO (nS t 1 1) (nS t 2 1) (nS t 3 4) (nS t 7 1) (nS t 8 1) (nS t 9 1) (nS t 10 2),zc]
        exact z2U t _ _ _ _ _ _ _ _
      · have:((t.drop 12).take 4 == tl)=false:=beq_eq_false_iff_ne.2 ht
        rw [if_pos ht,this]
        rfl
    · have:(t.take 1 == [83])=false:=by simpa using hm
      rw [if_pos (by simpa using hm),this]
      rfl
  · have e1:((t.length:Int) != 64)=true:=by rw [bne_iff_ne];omega
    rw [if_pos (by simpa using h64),e1]
    rfl
end Go.Proofs.R9
namespace Go.Proofs.R9
open Go Go.AE Go.Plain
abbrev zZG (n:Int):Prop := -9223372036854775808≤n∧n≤9223372036854775807
theorem z50 (x s l:Int):zhh (x,s,l)=some (if zsy x s l then 0 else 3):=by
  simp only [zhh,zt7,qy,zao]
  unfold zsy
  by_cases h1:x<1
  · rw [zo h1,if_neg (fun h=>by omega)];rfl
  rw [zn h1]
  by_cases h2:x>24
  · rw [zo h2,if_neg (fun h=>by omega)];rfl
  rw [zn h2]
  by_cases h3:s<1
  · rw [zo h3,if_neg (fun h=>by omega)];rfl
  rw [zn h3]
  by_cases h4:s>8
  · rw [zo h4,if_neg (fun h=>by omega)];rfl
  rw [zn h4]
  by_cases h5:l<24
  · rw [zo h5,if_neg (fun h=>by omega)];rfl
  rw [zn h5]
  by_cases h6:l>200
  · rw [zo h6,if_neg (fun h=>by omega)];rfl
  rw [zn h6,if_pos (by omega)];rfl
theorem ztT (n r b c x s l:Int):zez (n,r,b,c,x,s,l)=some (zcb n r b c x s l):=by
  simp only [zez,zyf,W4,zbg,z50,zc]
  unfold zcb
  by_cases h0:zsy x s l
  · rw [if_pos h0]
    by_cases h1:n<0
    · rw [zo h1,if_neg (fun h=>by have:=h.2.1;omega)];rfl
    rw [zn h1]
    by_cases h2:n>1
    · rw [zo h2,if_neg (fun h=>by have:=h.2.1;omega)];rfl
    rw [zn h2]
    by_cases h3:r<0
    · rw [zo h3,if_neg (fun h=>by have:=h.2.2.1;omega)];rfl
    rw [zn h3]
    by_cases h4:r>1
    · rw [zo h4,if_neg (fun h=>by have:=h.2.2.1;omega)];rfl
    rw [zn h4]
    by_cases h5:b<0
    · rw [zo h5,if_neg (fun h=>by have:=h.2.2.2.1;omega)];rfl
    rw [zn h5]
    by_cases h6:b>16777216
    · rw [zo h6,if_neg (fun h=>by have:=h.2.2.2.1;omega)];rfl
    rw [zn h6]
    by_cases h7:c<0
    · rw [zo h7,if_neg (fun h=>by have:=h.2.2.2.2;omega)];rfl
    rw [zn h7]
    by_cases h8:c≥x
    · rw [zo h8,if_neg (fun h=>by have:=h.2.2.2.2;omega)];rfl
    rw [zn h8,if_pos ⟨h0,by omega,by omega,by omega,by omega⟩];rfl
  · rw [if_neg h0,if_neg (fun h=>h0 h.1)];rfl
theorem z9E (t:List UInt8) (n:Int) (k:Nat) (hk:1≤k∧k≤7) (hn:zZG n) (ht:t.length≤100) {m:Int} (hm:m=(k:Int)):Zy (t,n,m)=some (zH t n k):=by
  subst hm;exact Yt t n k hk hn (by omega)
theorem r1 (t:List UInt8) (n:Int) (hn:zZG n) (ht:t.length≤100):Zy (t,n,1)=some (zH t n 1):=z9E t n 1 (by omega) hn ht rfl
theorem r2 (t:List UInt8) (n:Int) (hn:zZG n) (ht:t.length≤100):Zy (t,n,2)=some (zH t n 2):=z9E t n 2 (by omega) hn ht rfl
theorem r4 (t:List UInt8) (n:Int) (hn:zZG n) (ht:t.length≤100):Zy (t,n,4)=some (zH t n 4):=z9E t n 4 (by omega) hn ht rfl
theorem z6v (n r b c x s l:Int):zgq (n,r,b,c,x,s,l)=some (zmV n r b c x s l):=by
  simp only [zgq,zxF,ztT,zc]
  unfold zmV zcb
  by_cases h:zlv n r b c x s l
  · rw [if_pos h,if_pos h]
    obtain ⟨hc,hn,hr,hb',hc'⟩:=h
    have l1:=z6 [83] n 1
    have l2:=z6 (zH [83] n 1) r 1
    simp only [List.length_cons,List.length_nil] at l1
    have l3:=zsC n r b
    have l4:=z6 (qI n r b) c 1
    have l5:=z6 (zH (qI n r b) c 1) x 1
    have l6:=zAL n r b c x s
    have hb:=zta n r b c x s l
    have e3:Zy (zH (zH [83] n 1) r 1,b,4)=some (qI n r b):=r4 _ b (by omega) (by omega)
    have e4:Zy (zH (zH (qI n r b) c 1) x 1,s,1)=some (zlG n r b c x s):=r1 _ s (by omega) (by omega)
    have e5:Zy (zlG n r b c x s,l,2)=some (wi n r b c x s l):=r2 _ l (by omega) (by omega)
    simp only [bne_self_eq_false,cond_false,r1 [83] n (by omega) (by simp),r1 (zH [83] n 1) r (by omega) (by omega),e3,zc,r1 (qI n r b) c (by omega) (by omega),r1 (zH (qI n r b) c 1) x (by omega) (by omega),e4,e5,
      JE _ (show (wi n r b c x s l).length≤1000000000000 by omega),Zt,Zc (show (wi n r b c x s l).length+4≤9223372036854775807 by omega),cond_true,
      zNZ _ (show (wi n r b c x s l++tail (wi n r b c x s l)).length≤1000000000000 by rw [List.length_append,Zt];omega)]
    rfl
  · rw [if_neg h,if_neg h];rfl
theorem zg2 (c:UInt8):((num [c]:Nat):Int)=(c.toNat:Int):=by simp [num]
theorem Zbe (c d:UInt8):((num [c,d]:Nat):Int)=256*(c.toNat:Int)+(d.toNat:Int):=by simp [num]
theorem z9f (c d e f:UInt8):((num [c,d,e,f]:Nat):Int)=16777216*(c.toNat:Int)+65536*(d.toNat:Int)+256*(e.toNat:Int)+(f.toNat:Int):=by simp [num];omega
theorem QB (c:UInt8):c.toNat<256:=c.toNat_lt
theorem Zaq (c:UInt8):IntKind.wrap .i64 (c.toNat:Int)=(c.toNat:Int):=by have:=QB c;exact Zg (by omega) (by omega)
theorem Zaz (c d:UInt8):IntKind.wrap .i64 (IntKind.wrap .i64 (256*(c.toNat:Int))+(d.toNat:Int))=256*(c.toNat:Int)+(d.toNat:Int):=by
  have:=QB c;have:=QB d
  rw [Zg (x:=256*(c.toNat:Int)) (by omega) (by omega),Zg (by omega) (by omega)]
theorem Zb4 (c d e f:UInt8):IntKind.wrap .i64 (IntKind.wrap .i64 (IntKind.wrap .i64 (IntKind.wrap .i64 (16777216*(c.toNat:Int))+IntKind.wrap .i64 (65536*(d.toNat:Int)))+IntKind.wrap .i64 (256*(e.toNat:Int)))+(f.toNat:Int))=16777216*(c.toNat:Int)+65536*(d.toNat:Int)+256*(e.toNat:Int)+(f.toNat:Int):=by
  have:=QB c;have:=QB d;have:=QB e;have:=QB f
  rw [Zg (x:=16777216*(c.toNat:Int)) (by omega) (by omega),Zg (x:=65536*(d.toNat:Int)) (by omega) (by omega),Zg (x:=256*(e.toNat:Int)) (by omega) (by omega),Zg (x:=16777216*(c.toNat:Int)+65536*(d.toNat:Int)) (by omega) (by omega),Zg (x:=16777216*(c.toNat:Int)+65536*(d.toNat:Int)+256*(e.toNat:Int)) (by omega) (by omega),Zg (by omega) (by omega)]
theorem zXD (t:List UInt8) (pp:List UInt8×Int) (n r b c x s l:Int) :
    (unP (fun r_0 r_1=>za (Y7 (t,r_0,r_1,n,r,b,c,x,s,l)) fun w=>bif w then some ((0,0,0,0,0,0,0,4):S8) else some (n,r,b,c,x,s,l,0)) pp:Option S8)=some (zzb pp t n r b c x s l):=by
  obtain ⟨u,e⟩:=pp
  simp only [unP,Y7,zaI]
  exact zTM (u,e) t n r b c x s l
theorem z9e (t:List UInt8) (hl:t.length≤1000000000000):zgQ t=some (qB t):=by
  unfold qB
  simp only [zgQ,zvK]
  by_cases h64:t.length=64
  · have e1:((t.length:Int) != 64)=false:=by rw [h64];rfl
    rw [if_neg (by simpa using h64),e1,cond_false]
    obtain ⟨c0,c1,c2,c3,c4,c5,c6,c7,c8,c9,ca,cb,r,rfl⟩ : ∃c0 c1 c2 c3 c4 c5 c6 c7 c8 c9 ca cb r,t=c0::c1::c2::c3::c4::c5::c6::c7::c8::c9::ca::cb::r:=by
      match t,h64 with
      | c0::c1::c2::c3::c4::c5::c6::c7::c8::c9::ca::cb::r,_=>exact ⟨c0,c1,c2,c3,c4,c5,c6,c7,c8,c9,ca,cb,r,rfl⟩
    have i0:nth (c0::c1::c2::c3::c4::c5::c6::c7::c8::c9::ca::cb::r) 0=some c0:=rfl
    have i1:nth (c0::c1::c2::c3::c4::c5::c6::c7::c8::c9::ca::cb::r) 1=some c1:=rfl
    have i2:nth (c0::c1::c2::c3::c4::c5::c6::c7::c8::c9::ca::cb::r) 2=some c2:=rfl
    have i3:nth (c0::c1::c2::c3::c4::c5::c6::c7::c8::c9::ca::cb::r) 3=some c3:=rfl
    have i4:nth (c0::c1::c2::c3::c4::c5::c6::c7::c8::c9::ca::cb::r) 4=some c4:=rfl
    have i5:nth (c0::c1::c2::c3::c4::c5::c6::c7::c8::c9::ca::cb::r) 5=some c5:=rfl
    have i6:nth (c0::c1::c2::c3::c4::c5::c6::c7::c8::c9::ca::cb::r) 6=some c6:=rfl
    have i7:nth (c0::c1::c2::c3::c4::c5::c6::c7::c8::c9::ca::cb::r) 7=some c7:=rfl
    have i8:nth (c0::c1::c2::c3::c4::c5::c6::c7::c8::c9::ca::cb::r) 8=some c8:=rfl
    have i9:nth (c0::c1::c2::c3::c4::c5::c6::c7::c8::c9::ca::cb::r) 9=some c9:=rfl
    have ia:nth (c0::c1::c2::c3::c4::c5::c6::c7::c8::c9::ca::cb::r) 10=some ca:=rfl
    have ib:nth (c0::c1::c2::c3::c4::c5::c6::c7::c8::c9::ca::cb::r) 11=some cb:=rfl
    have m1:nS (c0::c1::c2::c3::c4::c5::c6::c7::c8::c9::ca::cb::r) 1 1=(c1.toNat:Int):=zg2 c1
    have m2:nS (c0::c1::c2::c3::c4::c5::c6::c7::c8::c9::ca::cb::r) 2 1=(c2.toNat:Int):=zg2 c2
    have m3:nS (c0::c1::c2::c3::c4::c5::c6::c7::c8::c9::ca::cb::r) 3 4=16777216*(c3.toNat:Int)+65536*(c4.toNat:Int)+256*(c5.toNat:Int)+(c6.toNat:Int):=z9f c3 c4 c5 c6
    have m7:nS (c0::c1::c2::c3::c4::c5::c6::c7::c8::c9::ca::cb::r) 7 1=(c7.toNat:Int):=zg2 c7
    have m8:nS (c0::c1::c2::c3::c4::c5::c6::c7::c8::c9::ca::cb::r) 8 1=(c8.toNat:Int):=zg2 c8
    have m9:nS (c0::c1::c2::c3::c4::c5::c6::c7::c8::c9::ca::cb::r) 9 1=(c9.toNat:Int):=zg2 c9
    have ma:nS (c0::c1::c2::c3::c4::c5::c6::c7::c8::c9::ca::cb::r) 10 2=256*(ca.toNat:Int)+(cb.toNat:Int):=Zbe ca cb
    have hd:(c0::c1::c2::c3::c4::c5::c6::c7::c8::c9::ca::cb::r).take 1=[c0]:=rfl
    rw [m1,m2,m3,m7,m8,m9,ma,hd]
    generalize c0::c1::c2::c3::c4::c5::c6::c7::c8::c9::ca::cb::r=t at *
    simp only [i0,i1,i2,i3,i4,i5,i6,i7,i8,i9,ia,ib,zc,Zaq,Zaz,Zb4]
    by_cases hm:c0=83
    · subst hm
      have e2:(((83:UInt8).toNat:Int) != 83)=false:=rfl
      rw [e2,cond_false,if_neg (by simp)]
      rw [Zk (show (0:Int)≤16∧(16:Int)<((t.length+1:Nat):Int) by omega),Zk (show (0:Int)≤12∧(12:Int)<((t.length+1:Nat):Int) by omega)]
      simp only [Bool.and_self,cond_true,JE _ (show (t.take 12).length≤1000000000000 by rw [List.length_take];omega),zc,Nat.reduceSub]
      generalize tail (t.take 12)=tl
      by_cases ht:(t.drop 12).take 4=tl
      · rw [if_neg (fun h=>h ht),ht,beq_self_eq_true,Bool.not_true,cond_false,z6v,zc]
        exact zXD t _ _ _ _ _ _ _ _
      · have:((t.drop 12).take 4 == tl)=false:=beq_eq_false_iff_ne.2 ht
        rw [if_pos ht,this]
        rfl
    · have e2:((c0.toNat:Int) != 83)=true:=by
        rw [bne_iff_ne]
        intro h
        apply hm
        have:c0.toNat=(83:UInt8).toNat:=by
          have:c0.toNat=83:=by omega
          rw [this];rfl
        exact UInt8.toNat_inj.1 this
      rw [e2,if_pos (by simpa using hm)]
      rfl
  · have e1:((t.length:Int) != 64)=true:=by rw [bne_iff_ne];omega
    rw [if_pos (by simpa using h64),e1]
    rfl
end Go.Proofs.R9
namespace Go.Proofs.R9
open Go Go.AE Go.Plain
abbrev JO (a b:Int):Prop:=(0≤a∧a≤1125899906842624)∧(0≤b∧b≤1125899906842624)
abbrev InI (n:Int):Prop := -9223372036854775808≤n∧n≤9223372036854775807
theorem z0r (n b:Int):zd0 (n,b)=some (decide (0≤n∧n≤b)):=by
  simp only [zd0,zx4,WC,J9]
  by_cases h:n≥0 <;> simp [h,zc,show 0≤n↔n≥0 from Iff.rfl]
theorem zME (a b:Int):zcw (a,b)=some (decide (JO a b)):=by
  simp only [zcw,zwE,WN,za1,z0r,zc]
  by_cases h1:0≤a∧a≤1125899906842624
  · rw [zo h1,cond_true]
    show some _=some _
    congr 1
    rw [decide_eq_decide]
    exact ⟨fun h=>⟨h1,h⟩,fun h=>h.2⟩
  · rw [zn h1,cond_false,zn (fun h=>h1 h.1)]
    rfl
theorem zru (a b:Int):zc0 (a,b)=some (decide (JO a b)):=by
  simp only [zc0,zt9,W8,zbc]
  by_cases h1:a≥0 <;> by_cases h2:a≤1125899906842624 <;> by_cases h3:b≥0 <;>
    simp [h1,h2,h3,zc,show 0≤a↔a≥0 from Iff.rfl,show 0≤b↔b≥0 from Iff.rfl]
theorem z2A (a b c d:Int):zex (a,b,c,d)=some (decide (c≤a∧d≤b)):=by
  simp only [zex,zup,WU,zbo]
  by_cases h:a≥c
  · rw [zo h,cond_true,zc]
    exact congrArg some (decide_eq_decide.2 ⟨fun h2=>⟨h,h2⟩,fun h2=>h2.2⟩)
  · rw [zn h,cond_false,zc,zn (fun h2=>h h2.1)]
theorem zMk (a b c d:Int):zax (a,b,c,d)=some (decide (c≤a∧d≤b)):=by
  simp only [zax,ztK,qp,zbi]
  by_cases h:a≥c
  · rw [zo h,cond_true,zc]
    exact congrArg some (decide_eq_decide.2 ⟨fun h2=>⟨h,h2⟩,fun h2=>h2.2⟩)
  · rw [zn h,cond_false,zc,zn (fun h2=>h h2.1)]
def zic (a b c d:Int):Int:=if c≤a∧d≤b then (if a≤c∧b≤d then 0 else 1) else if a≤c∧b≤d then 2 else 3
theorem zXG (a b c d:Int):zgN (a,b,c,d)=some (zic a b c d):=by
  simp only [zgN,zwg,z2A,zc,qv,zbI,WK,zbz]
  unfold zic
  by_cases h1:c≤a∧d≤b
  · rw [zo h1,if_pos h1]
    by_cases h2:a≤c∧b≤d
    · rw [zo h2,if_pos h2];rfl
    · rw [zn h2,if_neg h2];rfl
  · rw [zn h1,if_neg h1]
    by_cases h2:a≤c∧b≤d
    · rw [zo h2,if_pos h2];rfl
    · rw [zn h2,if_neg h2];rfl
theorem zHM (a b c d:Int):zgu (a,b,c,d)=some (zic a b c d):=by
  simp only [zgu,ztq,zMk,zc,qc,zbu,W9,zbL]
  unfold zic
  by_cases h1:c≤a∧d≤b
  · rw [zo h1,if_pos h1]
    by_cases h2:a≤c∧b≤d
    · rw [zo h2,if_pos h2];rfl
    · rw [zn h2,if_neg h2];rfl
  · rw [zn h1,if_neg h1]
    by_cases h2:a≤c∧b≤d
    · rw [zo h2,if_pos h2];rfl
    · rw [zn h2,if_neg h2];rfl
theorem zX7 {a b c d:Int} (h:zic a b c d=3):a≠c:=by
  unfold zic at h
  intro e
  subst e
  by_cases h1:d≤b
  · rw [if_pos ⟨Int.le_refl _,h1⟩] at h
    split at h <;> omega
  · rw [if_neg (by omega),if_pos (by omega)] at h
    omega
def zfZ (e a1 a2:Int) (x:List UInt8) (b1 b2:Int) (y:List UInt8):Int :=
  if e<0 then 3 else if e≥24 then 3 else if ¬JO a1 a2 then 3 else if ¬JO b1 b2 then 3 else if x.length≠128 then 12 else if y.length≠128 then 12
  else if zic a1 a2 b1 b2≠3 then 10 else if a1<b1 then 10 else 0
theorem z9l (e a1 a2:Int) (x:List UInt8) (b1 b2:Int) (y:List UInt8):zg6 (e,a1,a2,x,b1,b2,y)=some (zfZ e a1 a2 x b1 b2 y):=by
  simp only [zg6,ztn,WZ,zaK,WD,zaz,WR,zaf,qd,zbw,qf,zat,zME,zXG,zc,ZF]
  unfold zfZ
  by_cases c1:e<0
  · rw [zo c1,if_pos c1];rfl
  rw [zn c1,if_neg c1]
  by_cases c2:e≥24
  · rw [zo c2,if_pos c2];rfl
  rw [zn c2,if_neg c2]
  by_cases c3:JO a1 a2
  · rw [zo c3,if_neg (fun h=>h c3)]
    by_cases c4:JO b1 b2
    · rw [zo c4,if_neg (fun h=>h c4)]
      by_cases c5:x.length=128
      · rw [zo (show (x.length:Int)=128 by omega),if_neg (by simpa using c5)]
        by_cases c6:y.length=128
        · rw [zo (show (y.length:Int)=128 by omega),if_neg (by simpa using c6)]
          by_cases c7:zic a1 a2 b1 b2=3
          · rw [zo c7,if_neg (by simpa using c7)]
            by_cases c8:a1<b1
            · rw [zo c8,if_pos c8];rfl
            · rw [zn c8,if_neg c8];rfl
          · rw [zn c7,if_pos c7];rfl
        · rw [zn (show ¬(y.length:Int)=128 by omega),if_pos c6];rfl
      · rw [zn (show ¬(x.length:Int)=128 by omega),if_pos c5];rfl
    · rw [zn c4,if_pos c4];rfl
  · rw [zn c3,if_pos c3];rfl
theorem zQ3 (e a1 a2:Int) (x:List UInt8) (b1 b2:Int) (y:List UInt8):zgU (e,a1,a2,x,b1,b2,y)=some (zfZ e a1 a2 x b1 b2 y):=by
  simp only [zgU,zyp,qz,zae,qe,zbq,qu,zbp,qw,za5,zru,zHM,zc,ZF]
  unfold zfZ
  by_cases c1:e<0
  · rw [zo c1,if_pos c1];rfl
  rw [zn c1,if_neg c1]
  by_cases c2:e≥24
  · rw [zo c2,if_pos c2];rfl
  rw [zn c2,if_neg c2]
  by_cases c3:JO a1 a2
  · rw [zo c3,if_neg (fun h=>h c3)]
    by_cases c4:JO b1 b2
    · rw [zo c4,if_neg (fun h=>h c4)]
      by_cases c5:x.length=128
      · rw [zo (show (x.length:Int)=128 by omega),if_neg (by simpa using c5)]
        by_cases c6:y.length=128
        · rw [zo (show (y.length:Int)=128 by omega),if_neg (by simpa using c6)]
          by_cases c7:zic a1 a2 b1 b2=3
          · rw [zo c7,if_neg (by simpa using c7)]
            have hne:=zX7 c7
            by_cases c8:a1<b1
            · rw [zo (show a1≤b1 by omega),if_pos c8];rfl
            · rw [zn (show ¬a1≤b1 by omega),if_neg c8];rfl
          · rw [zn c7,if_pos c7];rfl
        · rw [zn (show ¬(y.length:Int)=128 by omega),if_pos c6];rfl
      · rw [zn (show ¬(x.length:Int)=128 by omega),if_pos c5];rfl
    · rw [zn c4,if_pos c4];rfl
  · rw [zn c3,if_pos c3];rfl
theorem z5w {e a1 a2:Int} {x:List UInt8} {b1 b2:Int} {y:List UInt8} (h:zfZ e a1 a2 x b1 b2 y=0):(0≤e∧e<24)∧JO a1 a2∧JO b1 b2∧x.length=128∧y.length=128:=by
  unfold zfZ at h
  split at h
  · omega
  split at h
  · omega
  split at h
  · omega
  split at h
  · omega
  split at h
  · omega
  split at h
  · omega
  rename_i h1 h2 h3 h4 h5 h6
  exact ⟨by omega,Classical.not_not.1 h3,Classical.not_not.1 h4,Classical.not_not.1 h5,Classical.not_not.1 h6⟩
theorem Zbn (s:List UInt8) (a b:Int) (hs:s.length≤100000):zhN (s,a,b)=some (zH (zH s a 7) b 7):=by
  have h1:=z6 s a 7
  have e1:=yl s a 7 (by omega) (by omega)
  have e2:=yl (zH s a 7) b 7 (by omega) (by omega)
  simp only [Int.cast_ofNat_Int] at e1 e2
  simp only [zhN,ztg,e1,e2,zc]
theorem zi2 (s:List UInt8) (a b:Int) (ha:InI a) (hb:InI b) (hs:s.length≤100000):zcK (s,a,b)=some (zH (zH s a 7) b 7):=by
  have h1:=z6 s a 7
  have e1:=Yt s a 7 (by omega) ha (by omega)
  have e2:=Yt (zH s a 7) b 7 (by omega) hb (by omega)
  simp only [Int.cast_ofNat_Int] at e1 e2
  simp only [zcK,zte,e1,e2,zc]
theorem z97 (s:List UInt8):(JM s).length≤s.length+64:=by simp [JM];omega
end Go.Proofs.R9
namespace Go.Proofs.R9
open Go Go.AE Go.Plain
def rdB (n:Nat) (r:List UInt8) (e:Int):List UInt8×List UInt8×Int:=if e≠0 then ([],r,e) else if r.length<n then ([],r,1) else (r.take n,r.drop n,0)
theorem zb4 {e:Int} (n:Nat) (r:List UInt8) (h:e≠0):rdB n r e=([],r,e):=by unfold rdB;rw [if_pos h]
theorem YU {n:Nat} {r:List UInt8} (h:r.length<n):rdB n r 0=([],r,1):=by unfold rdB;rw [if_neg (by simp),if_pos h]
theorem Yx {n:Nat} {r:List UInt8} (h:n≤r.length):rdB n r 0=(r.take n,r.drop n,0):=by unfold rdB;rw [if_neg (by simp),if_neg (by omega)]
theorem zcT (n:Nat) (r:List UInt8) (e:Int):(rdB n r e).2.1.length≤r.length:=by
  by_cases h:e=0
  · subst h
    by_cases h1:r.length<n
    · rw [YU h1];exact Nat.le_refl _
    · rw [Yx (by omega)];show (r.drop n).length≤_;rw [List.length_drop];omega
  · rw [zb4 n r h];exact Nat.le_refl _
theorem z81 (n:Nat) (r:List UInt8) (e:Int):(rdB n r e).1.length≤n:=by
  by_cases h:e=0
  · subst h
    by_cases h1:r.length<n
    · rw [YU h1];exact Nat.zero_le _
    · rw [Yx (by omega)];show (r.take n).length≤_;rw [List.length_take];omega
  · rw [zb4 n r h];exact Nat.zero_le _
def rdE (r:List UInt8) (e:Int):Int:=if e=0 then (if r=[] then 0 else 2) else e
theorem zSs (a:Int) (r:List UInt8) (e:Int):zcD (a,r,e)=some (if e=0 then a else e):=by
  simp only [zcD,zyn,qK]
  by_cases h:e=0
  · rw [zo h,if_pos h];rfl
  · rw [zn h,if_neg h];rfl
theorem zeq (n:Nat) (r:List UInt8) (e:Int) (hl:r.length≤1000000000000):yB ((n:Int),r,e)=some (rdB n r e):=by
  by_cases h:e=0
  · subst h
    by_cases h1:r.length<n
    · rw [YU h1]
      simp only [yB,zig,Yl,Wn,zn (show ¬(n:Int)<0 by omega),cond_false,zo (show (n:Int)>(r.length:Int) by omega),cond_true,zSs,zc]
      rfl
    · rw [Yx (by omega)]
      exact qE n r (by omega) hl
  · rw [zb4 n r h]
    have hb:(e != 0)=true:=by simpa using h
    simp only [yB,zig,Yl,Wn,zn (show ¬(n:Int)<0 by omega),cond_false,zSs,if_neg h]
    cases decide ((n:Int)>(r.length:Int)) <;> simp only [cond_true,cond_false,zc,hb]
theorem zfa (k:Nat) (r:List UInt8) (e:Int) (hk:1≤k∧k≤7) (hl:r.length≤1000000000000) :
    ZZ ((k:Int),r,e)=some (((num (rdB k r e).1:Nat):Int),(rdB k r e).2.1,(rdB k r e).2.2):=by
  by_cases h:e=0∧k≤r.length
  · obtain ⟨rfl,h1⟩:=h
    rw [Yx h1]
    exact yw k r hk h1 hl
  · have he : ∃q,rdB k r e=([],r,q):=by
      by_cases h0:e=0
      · subst h0;exact ⟨1,YU (by omega)⟩
      · exact ⟨e,zb4 k r h0⟩
    obtain ⟨q,hq⟩:=he
    have hB:=zeq k r e hl
    rw [hq] at hB ⊢
    simp only [ZZ,zoT,zcz,ziv,Ye,Wc,zc]
    rw [zo (show (k:Int)≥1 by omega),zo (show (k:Int)≤7 by omega),cond_true]
    simp only [zc,Bool.not_true,cond_false,hB,unP]
    rfl
theorem zh2 (r:List UInt8) (e:Int):zef (r,e)=some (rdE r e):=by
  unfold rdE
  simp only [zef,zxz,WY,zaR,WV,zaJ,qK]
  by_cases h:e=0
  · subst h
    rw [zo rfl,if_pos rfl]
    cases r <;> rfl
  · rw [zn h,if_neg h];rfl
theorem zSd (n:Nat) (s:List UInt8) (i:Nat) (e:Int) (hi:i≤s.length) (hn:n≤1000000) (hl:s.length≤1000000000000) :
    ∃j,j≤s.length∧zaF ((n:Int),s,(i:Int),e)=some ((rdB n (s.drop i) e).1,(j:Int),(rdB n (s.drop i) e).2.2)∧s.drop j=(rdB n (s.drop i) e).2.1:=by
  have hd:(s.drop i).length=s.length - i:=List.length_drop ..
  by_cases h:e=0
  · subst h
    have hb:((0:Int) != 0)=false:=rfl
    by_cases h1:(s.drop i).length<n
    · refine ⟨i,hi,?_,by rw [YU h1]⟩
      rw [YU h1]
      simp only [zaF,zh9,Yc,Wo,hb,cond_false,zn (show ¬(n:Int)<0 by omega)]
      rw [Zg (x:=(s.length:Int) - (i:Int)) (by omega) (by omega),zo (show (n:Int)>(s.length:Int) - (i:Int) by omega)]
      rfl
    · refine ⟨i+n,by omega,?_,by rw [Yx (by omega)];show s.drop (i+n)=(s.drop i).drop n;rw [List.drop_drop]⟩
      rw [Yx (by omega)]
      simp only [zaF,zh9,Yc,Wo,hb,cond_false,zn (show ¬(n:Int)<0 by omega)]
      rw [Zg (x:=(s.length:Int) - (i:Int)) (by omega) (by omega),zn (show ¬(n:Int)>(s.length:Int) - (i:Int) by omega),cond_false,
        Zg (x:=(i:Int)+(n:Int)) (by omega) (by omega),Zg (x:=(i:Int)+(n:Int) - (n:Int)) (by omega) (by omega)]
      have e1:((i:Int)+(n:Int))=((i+n:Nat):Int):=by omega
      have e2:((i+n:Nat):Int) - (n:Int)=((i:Nat):Int):=by omega
      rw [e1,e2,Int.toNat_natCast,Int.toNat_natCast,Zk (by omega),Zk (by omega)]
      simp only [Bool.and_self,cond_true,zc,Sum.elim_inr,unP,show i+n - i=n by omega]
  · have hb:(e != 0)=true:=by simpa using h
    refine ⟨i,hi,?_,by rw [zb4 n _ h]⟩
    rw [zb4 n _ h]
    simp only [zaF,zh9,Yc,Wo,hb,cond_true]
    rfl
theorem zyG (k:Nat) (s:List UInt8) (i:Nat) (e:Int) (hk:1≤k∧k≤7) (hi:i≤s.length) (hl:s.length≤1000000000000) :
    ∃j,j≤s.length∧zaA ((k:Int),s,(i:Int),e)=some (((num (rdB k (s.drop i) e).1:Nat):Int),(j:Int),(rdB k (s.drop i) e).2.2)∧s.drop j=(rdB k (s.drop i) e).2.1:=by
  obtain ⟨j,hj,hB,hd⟩:=zSd k s i e hi (by omega) hl
  refine ⟨j,hj,?_,hd⟩
  have g:(bif e == 0 then bif decide ((k:Int)<1) then some true else some (decide ((k:Int)>7)) else some false:Option Bool)=some false:=by
    rw [zn (show ¬(k:Int)<1 by omega),zn (show ¬(k:Int)>7 by omega)]
    cases (e == 0) <;> rfl
  simp only [zaA,ztD,WM,zai,g,zc,qk,zaU,cond_false,hB,unP]
  have:=zQZ (fun b=>Yg (b,s,(j:Int),(rdB k (s.drop i) e).2.2)) (rdB k (s.drop i) e).1 (by have:=z81 k (s.drop i) e;omega)
    (fun n j' hj=>by simp only [Yg,Qx,hj,cond_true])
    (fun n j' hj=>by simp only [Yg,Qx,hj,cond_false])
  rw [this]
  rfl
theorem zEJ (s:List UInt8) (i:Nat) (e:Int) (hi:i≤s.length):zhy (s,(i:Int),e)=some (rdE (s.drop i) e):=by
  unfold rdE
  simp only [zhy,zxE,qh,zaa,qK]
  by_cases h:e=0
  · subst h
    rw [zo rfl,if_pos rfl,cond_true]
    by_cases h1:i<s.length
    · rw [zo (show (i:Int)<(s.length:Int) by omega),if_neg (fun h=>by have:=List.drop_eq_nil_iff.1 h;omega)];rfl
    · rw [zn (show ¬(i:Int)<(s.length:Int) by omega),if_pos (List.drop_eq_nil_iff.2 (by omega))];rfl
  · rw [zn h,if_neg h];rfl
end Go.Proofs.R9
namespace Go.Proofs.R9
open Go Go.AE
set_option maxRecDepth 100000
--@ law01_Same
noncomputable def zc3:Env:=[]
theorem zs3:zf Tryz.prog zc3:=zf.nil
noncomputable def zVt:Code:=Tryz.f11.body.getD .skip
noncomputable def zpi:Code:=zF [1,1,0,1,0,0,0,0] zVt
noncomputable def zwk:Ann := .none
theorem zFx:zq Tryz.prog 32 zpi zwk:=(zb _ _ _)
abbrev QR:=(List (List UInt8))×(List (List UInt8))×(Int)
abbrev zqa:=(Bool)
def zz9:QR→St:=fun (t0,t1,t5)=>{ env:=[(0,.ro .str t0),(1,.ro .str t1),(5,.int .i64 t5)],stk:=[[]],H:=[],blk:=45056 }
def zua (s:St):Option {x:QR // s=zz9 x}:=match s with
  | { env:=[(0,.ro .str t0),(1,.ro .str t1),(5,.int .i64 t5)],stk:=[[]],H:=[],blk:=45056 }=>some ⟨(t0,t1,t5),rfl⟩
  | _=>none
def zmG (s:St):Option QR:=pk (zua s)
theorem zKX (s:St) (x:QR) (h:zmG s=some x):s=zz9 x:=zt (o:=zua s) h
def zmQ:QR→(Ex→St→Ans)→zqa→Ans:=fun (t0,t1,t5) K=>fun t20_y=>K (Ex.norm) { env:=[(0,.ro .str t0),(1,.ro .str t1),(5,.int .i64 t5),(20,.bool t20_y)],stk:=[[]],H:=[],blk:=45056 }
def Qm {β:Type}:QR→(zqa→Option β)→Option β:=fun (t0,t1,t5) exit=>(bif decide (t5<(↑(List.length t0):Int)) then (exit (decide (t5<(↑(List.length t1):Int)))) else (exit (false)))
def Y6 (i:QR):Option zqa:=Qm i some
theorem zD8 (i:QR) (k:zqa→Ans):Qm i k=za (Y6 i) k:=by
  obtain ⟨t0,t1,t5⟩:=i
  simp only [Y6,Qm,zi,zh,zl,zc,zj,zm,zg]
theorem zHa (i:QR) (K:Ex→St→Ans):zx Tryz.tab zc3 zd (zy Tryz.tab zc3 zd 0 64) 70 32 zwk zpi (zB 0 (exk [0,1,5,20] [4] []) K) (zz9 i)=Qm i (zmQ i K):=by kernel_rfl
theorem zQU:zw Tryz.prog 32 zpi (zG zmG Y6 zmQ):=zA mixed tabOk zs3 0 (exk [0,1,5,20] [4] []) zFx zKX zHa zD8
noncomputable def zRp:(Ex→St→Ans)→St→Ans:=(zG zmG Y6 zmQ)
theorem zXM:zw Tryz.prog 32 zpi zRp:=zQU
noncomputable def zhs:Code:=zF [1,1,0,1,0,0] zVt
noncomputable def ziY:Ann := .at 0 [0,1,5] (.loop (.seq (.seq (.cut 0 [0,1,5] zRp) .none) .none))
theorem zHB:zq Tryz.prog 32 (.loop zhs) ziY:=Zi ⟨⟨zXM,(zb _ _ _)⟩,(zb _ _ _)⟩
abbrev QH:=(List (List UInt8))×(List (List UInt8))
abbrev zoA:=(Unit) ⊕ (Unit)
abbrev wQ:=(Int)
def zoU:QH→wQ→St:=fun (t0,t1) t5=>{ env:=[(0,.ro .str t0),(1,.ro .str t1),(5,.int .i64 t5)],stk:=[[]],H:=[],blk:=45056 }
def zys (s:St):Option {x:QH×wQ // s=zoU x.1 x.2}:=match s with
  | { env:=[(0,.ro .str t0),(1,.ro .str t1),(5,.int .i64 t5)],stk:=[[]],H:=[],blk:=45056 }=>some ⟨((t0,t1),t5),rfl⟩
  | _=>none
def zj4 (s:St):Option (QH×wQ):=pk (zys s)
theorem zNJ (s:St) (x:QH×wQ) (h:zj4 s=some x):s=zoU x.1 x.2:=zt (o:=zys s) h
def zm7:QH→(Ex→St→Ans)→zoA→Ans:=fun (t0,t1) K=>(Sum.elim (fun _=>K (Ex.ret) { env:=[(4,.bool (false))],stk:=[[]],H:=[],blk:=45057 }) (fun _=>K (Ex.exit 0) { env:=[],stk:=[[]],H:=[],blk:=45056 }))
def QJ {β:Type}:QH→wQ→(wQ→Option β)→(zoA→Option β)→Option β:=fun (t0,t1) t5 next exit=>(za (Y6 (t0,t1,t5)) fun t20=>(bif t20 then (za (nth t0 t5) fun x=>(za (nth t1 t5) fun x_2=>(bif !x == x_2 then (exit (Sum.inl ())) else (next (IntKind.wrap .i64 (t5+(1:Int))))))) else (exit (Sum.inr ()))))
def Yj (i:QH) (v:wQ):Option (wQ ⊕ zoA):=QJ i v (fun v=>some (.inl v)) (fun y=>some (.inr y))
theorem zBu (i:QH) (v:wQ) (next:wQ→Ans) (exit:zoA→Ans):QJ i v next exit=za (Yj i v) (Sum.elim next exit):=by
  obtain ⟨t0,t1⟩:=i
  obtain z:=v
  simp only [Yj,QJ,zi,zh,zl,zc,zj,zm,zg,Sum.elim_inl,Sum.elim_inr]
theorem zFs (n:Nat) (i:QH) (v:wQ) (K:Ex→St→Ans):zx Tryz.tab zc3 zd (zy Tryz.tab zc3 zd 0 64) (n+1) 32 ziY (.loop zhs) (zB 0 (exk [] [4] [(0,[])]) K) (zoU i v)=QJ i v (fun v'=>zx Tryz.tab zc3 zd (zy Tryz.tab zc3 zd 0 64) n 32 ziY (.loop zhs) (zB 0 (exk [] [4] [(0,[])]) K) (zoU i v')) (fun y=>zm7 i K y):=by kernel_rfl
theorem zQf:zw Tryz.prog 32 (.loop zhs) (Zm zj4 Yj zm7):=Zf mixed tabOk zs3 0 (exk [] [4] [(0,[])]) zHB zNJ zFs zBu
noncomputable def zTU:(Ex→St→Ans)→St→Ans:=(Zm zj4 Yj zm7)
theorem zWI:zw Tryz.prog 32 (.loop zhs) zTU:=zQf
noncomputable def z0C:Ann:=(.seq .none (.seq .none (.seq (.seq .none (.block (.cut 0 [0,1,5] zTU))) .none)))
theorem z4Z:zq Tryz.prog 32 zVt z0C:=⟨(zb _ _ _),⟨(zb _ _ _),⟨⟨(zb _ _ _),zWI⟩,(zb _ _ _)⟩⟩⟩
abbrev zem:=(List (List UInt8))×(List (List UInt8))
abbrev zJG:=(Bool)
def ztf {β:Type}:zem→(zJG→Option β)→Option β:=fun (a0,a1) exit=>(bif (↑(List.length a0):Int) != (↑(List.length a1):Int) then (exit (false)) else (za (zO (Yj (a0,a1)) zY ((0:Int))) (Sum.elim (fun _=>(exit (false))) (fun _=>(exit (true))))))
def zgv (a:zem):Option zJG:=ztf a some
theorem z5F (a:zem) (k:zJG→Ans):ztf a k=za (zgv a) k:=by
  obtain ⟨a0,a1⟩:=a
  simp only [zgv,ztf,zi,zh,zl,zc,zj,zm,zg]
def zzA:zem→List AV:=fun (a0,a1)=>[.ro .str a0,.ro .str a1]
def zL9 (l:List AV):Option {a:zem // l=zzA a}:=match l with
  | [.ro .str a0,.ro .str a1]=>some ⟨(a0,a1),rfl⟩
  | _=>none
def zCm (l:List AV):Option zem:=pk (zL9 l)
theorem zVD (l:List AV) (a:zem) (h:zCm l=some a):l=zzA a:=zt (o:=zL9 l) h
def zCC:zem→zJG→AV:=fun (a0,a1)=>fun r_y => .bool r_y
theorem zZP : ∀(a:zem) (y:zJG),(zCC a y).closed1=true:=by
  rintro ⟨a0,a1⟩ y <;> first | rfl | exact Empty.elim y
theorem z93 (a:zem):fnE Tryz.tab zc3 zd 0 70 11 Tryz.f11.ntmps Tryz.f11.results.toList z0C zVt (zzA a) [] (fun v _=>some (v,[]))=ztf a (fun y=>some (zCC a y,[])):=by kernel_rfl
def Zag (a:zem) (K:AV→Ans):Ans:=za (zgv a) fun y=>K (zCC a y)
def ZfJ:List AV→(AV→Ans)→Ans:=fun l K=>za (zCm l) fun a=>Zag a K
theorem ZaW:zM Tryz.prog 11 ZfJ:=zL (hint:=zd) (d:=0) (n:=70) mixed tabOk zs3 Tryz.func11 (zE (by kernel_rfl)) (by decide +kernel) z4Z zVD z93 z5F zZP
--@ law01_Same_2
noncomputable def zcZ:Env:=[]
theorem zsB:zf Tryz.prog zcZ:=zf.nil
noncomputable def zWL:Code:=Tryz.f11.body.getD .skip
noncomputable def zqp:Code:=zF [1,1,0,1,0,0,0,0] zWL
noncomputable def zuq:Ann := .none
theorem zH3:zq Tryz.prog 32 zqp zuq:=(zb _ _ _)
abbrev j4:=(List (List UInt8))
abbrev zoq:=Unit
def zAC:j4→St:=fun t0=>{ env:=[(0,.ro .str t0),(1,.nils),(5,.int .i64 (0))],stk:=[[]],H:=[],blk:=45056 }
def zuc (s:St):Option {x:j4 // s=zAC x}:=match s with
  | { env:=[(0,.ro .str t0),(1,.nils),(5,.int .i64 r1)],stk:=[[]],H:=[],blk:=45056 }=>if h1:r1=0 then some ⟨(t0),by subst h1;rfl⟩ else none
  | _=>none
def zkD (s:St):Option j4:=pk (zuc s)
theorem zOH (s:St) (x:j4) (h:zkD s=some x):s=zAC x:=zt (o:=zuc s) h
def zjF:j4→(Ex→St→Ans)→zoq→Ans:=fun t0 K=>fun _=>K (Ex.norm) { env:=[(0,.ro .str t0),(1,.nils),(5,.int .i64 (0)),(20,.bool (false))],stk:=[[]],H:=[],blk:=45056 }
def zdf {β:Type}:j4→(zoq→Option β)→Option β:=fun t0 exit=>(bif decide ((0:Int)<(↑(List.length t0):Int)) then (exit ()) else (exit ()))
def Jp (i:j4):Option zoq:=zdf i some
theorem zBX (i:j4) (k:zoq→Ans):zdf i k=za (Jp i) k:=by
  obtain z:=i
  simp only [Jp,zdf,zi,zh,zl,zc,zj,zm,zg]
theorem zHw (i:j4) (K:Ex→St→Ans):zx Tryz.tab zcZ zd (zy Tryz.tab zcZ zd 0 64) 70 32 zuq zqp (zB 0 (exk [0,1,5,20] [4] []) K) (zAC i)=zdf i (zjF i K):=by kernel_rfl
theorem zPA:zw Tryz.prog 32 zqp (zG zkD Jp zjF):=zA mixed tabOk zsB 0 (exk [0,1,5,20] [4] []) zH3 zOH zHw zBX
noncomputable def zUd:(Ex→St→Ans)→St→Ans:=(zG zkD Jp zjF)
theorem zZi:zw Tryz.prog 32 zqp zUd:=zPA
noncomputable def zgW:Code:=zF [1,1,0,1,0,0] zWL
noncomputable def zi1:Ann := .at 0 [0,1,5] (.loop (.seq (.seq (.cut 0 [0,1,5] zUd) .none) .none))
theorem zH5:zq Tryz.prog 32 (.loop zgW) zi1:=Zi ⟨⟨zZi,(zb _ _ _)⟩,(zb _ _ _)⟩
abbrev Qk:=(List (List UInt8))
abbrev zoR:=Unit
abbrev wE:=Unit
def zoF:Qk→wE→St:=fun t0 _=>{ env:=[(0,.ro .str t0),(1,.nils),(5,.int .i64 (0))],stk:=[[]],H:=[],blk:=45056 }
def zxD (s:St):Option {x:Qk×wE // s=zoF x.1 x.2}:=match s with
  | { env:=[(0,.ro .str t0),(1,.nils),(5,.int .i64 r1)],stk:=[[]],H:=[],blk:=45056 }=>if h1:r1=0 then some ⟨(t0,()),by subst h1;rfl⟩ else none
  | _=>none
def zmL (s:St):Option (Qk×wE):=pk (zxD s)
theorem zNu (s:St) (x:Qk×wE) (h:zmL s=some x):s=zoF x.1 x.2:=zt (o:=zxD s) h
def zmJ:Qk→(Ex→St→Ans)→zoR→Ans:=fun t0 K=>fun _=>K (Ex.exit 0) { env:=[],stk:=[[]],H:=[],blk:=45056 }
def zdt {β:Type}:Qk→wE→(wE→Option β)→(zoR→Option β)→Option β:=fun t0 _ next exit=>(za (Jp (t0)) fun _=>(exit ()))
def Jn (i:Qk) (v:wE):Option (wE ⊕ zoR):=zdt i v (fun v=>some (.inl v)) (fun y=>some (.inr y))
theorem zCf (i:Qk) (v:wE) (next:wE→Ans) (exit:zoR→Ans):zdt i v next exit=za (Jn i v) (Sum.elim next exit):=by
  obtain z:=i
  obtain z:=v
  simp only [Jn,zdt,zi,zh,zl,zc,zj,zm,zg,Sum.elim_inl,Sum.elim_inr]
theorem zGT (n:Nat) (i:Qk) (v:wE) (K:Ex→St→Ans):zx Tryz.tab zcZ zd (zy Tryz.tab zcZ zd 0 64) (n+1) 32 zi1 (.loop zgW) (zB 0 (exk [] [4] [(0,[])]) K) (zoF i v)=zdt i v (fun v'=>zx Tryz.tab zcZ zd (zy Tryz.tab zcZ zd 0 64) n 32 zi1 (.loop zgW) (zB 0 (exk [] [4] [(0,[])]) K) (zoF i v')) (fun y=>zmJ i K y):=by kernel_rfl
theorem zQC:zw Tryz.prog 32 (.loop zgW) (Zm zmL Jn zmJ):=Zf mixed tabOk zsB 0 (exk [] [4] [(0,[])]) zH5 zNu zGT zCf
noncomputable def zRu:(Ex→St→Ans)→St→Ans:=(Zm zmL Jn zmJ)
theorem zZQ:zw Tryz.prog 32 (.loop zgW) zRu:=zQC
noncomputable def z3v:Ann:=(.seq .none (.seq .none (.seq (.seq .none (.block (.cut 0 [0,1,5] zRu))) .none)))
theorem z35:zq Tryz.prog 32 zWL z3v:=⟨(zb _ _ _),⟨(zb _ _ _),⟨⟨(zb _ _ _),zZQ⟩,(zb _ _ _)⟩⟩⟩
abbrev zdP:=(List (List UInt8))
abbrev zOY:=(Bool)
def zIO {β:Type}:zdP→(zOY→Option β)→Option β:=fun a0 exit=>(bif (↑(List.length a0):Int) != (0:Int) then (exit (false)) else (za (zO (Jn (a0)) zY ()) fun _=>(exit (true))))
def zuw (a:zdP):Option zOY:=zIO a some
theorem z3d (a:zdP) (k:zOY→Ans):zIO a k=za (zuw a) k:=by
  obtain z:=a
  simp only [zuw,zIO,zi,zh,zl,zc,zj,zm,zg]
def zDa:zdP→List AV:=fun a0=>[.ro .str a0,.nils]
def zNf (l:List AV):Option {a:zdP // l=zDa a}:=match l with
  | [.ro .str a0,.nils]=>some ⟨(a0),rfl⟩
  | _=>none
def zRo (l:List AV):Option zdP:=pk (zNf l)
theorem zXC (l:List AV) (a:zdP) (h:zRo l=some a):l=zDa a:=zt (o:=zNf l) h
def zAv:zdP→zOY→AV:=fun a0=>fun r_y => .bool r_y
theorem zYg : ∀(a:zdP) (y:zOY),(zAv a y).closed1=true:=by
  rintro z y <;> first | rfl | exact Empty.elim y
theorem z89 (a:zdP):fnE Tryz.tab zcZ zd 0 70 11 Tryz.f11.ntmps Tryz.f11.results.toList z3v zWL (zDa a) [] (fun v _=>some (v,[]))=zIO a (fun y=>some (zAv a y,[])):=by kernel_rfl
def Zec (a:zdP) (K:AV→Ans):Ans:=za (zuw a) fun y=>K (zAv a y)
def Zcv:List AV→(AV→Ans)→Ans:=fun l K=>za (zRo l) fun a=>Zec a K
theorem Zbk:zM Tryz.prog 11 Zcv:=zL (hint:=zd) (d:=0) (n:=70) mixed tabOk zsB Tryz.func11 (zE (by kernel_rfl)) (by decide +kernel) z35 zXC z89 z3d zYg
--@ law23_Great
--@ law43_great
--@ ref04_Put
--@ ref43_Put
--@ slices_Equal_api_State_api_State
--@ slices_Equal_bool_bool
--@ dump_Same
--@ dump_Get_2
--@ law01_Same_3
end Go.Proofs.R9
namespace Go.Proofs.R9
open Go Go.AE Go.Plain
set_option maxRecDepth 100000
def zdd (k:Nat) (b:List UInt8):List UInt8:=zH (zH [] (k:Int) 1) (b.length:Int) 2++b
def wl (k:Nat) (b:List UInt8):List UInt8:=zdd k b++tail (zdd k b)
theorem zOE {k:Nat} {b:List UInt8} (hk:k≤255) (hb:b.length≤600):zdd k b=be 1 k++(be 2 b.length++b):=by
  unfold zdd zH
  rw [if_pos ⟨by omega,by simp only [Nat.reducePow];omega⟩,if_pos ⟨by omega,by simp only [Nat.reducePow];omega⟩,Int.toNat_natCast,Int.toNat_natCast,List.nil_append,List.append_assoc]
theorem zEE {k:Nat} {b:List UInt8} (hk:k≤255) (hb:b.length≤600):(zdd k b).length=3+b.length:=by
  rw [zOE hk hb,List.length_append,List.length_append,yx,yx];omega
theorem zEO {k:Nat} {b:List UInt8} (hk:k≤255) (hb:b.length≤600):(wl k b).length=7+b.length:=by
  unfold wl;rw [List.length_append,zEE hk hb,Zt];omega
theorem zVR (k:Nat) (b:List UInt8) (hk:k≤255) (hb:b.length≤600):zg8 ((k:Int),b)=some (wl k b,0):=by
  have hl:=zEE hk hb
  have l1:=z6 [] (k:Int) 1
  simp only [List.length_nil] at l1
  have e1:Zw ([],(k:Int),1)=some (zH [] (k:Int) 1):=yl [] (k:Int) 1 (by omega) (by simp)
  have e2:Zw (zH [] (k:Int) 1,(b.length:Int),2)=some (zH (zH [] (k:Int) 1) (b.length:Int) 2):=yl _ (b.length:Int) 2 (by omega) (by omega)
  have l2:=z6 (zH [] (k:Int) 1) (b.length:Int) 2
  have hs:zH (zH [] (k:Int) 1) (b.length:Int) 2++b=zdd k b:=rfl
  simp only [zg8,zxs,qn,zaj,WA,zbA,zn (show ¬(k:Int)<0 by omega),zn (show ¬(k:Int)>255 by omega),zn (show ¬(b.length:Int)>600 by omega),
    cond_false,zc,Sum.elim_inr,e1,e2,Zc (show (zH (zH [] (k:Int) 1) (b.length:Int) 2).length+b.length≤9223372036854775807 by omega),cond_true,hs,wt _ (show (zdd k b).length≤1000000000000 by omega),
    Zt,Zc (show (zdd k b).length+4≤9223372036854775807 by omega)]
  rfl
def yT (s:List UInt8):Nat:=num ((s.drop 1).take 2)
def ZI (s:List UInt8):Int×List UInt8×Int :=
  if s.length<7 then (0,[],1) else if 600<yT s then (0,[],11) else if s.length<yT s+7 then (0,[],1)
  else if (s.drop (3+yT s)).take 4≠tail (s.take (3+yT s)) then (0,[],5) else if s.length≠yT s+7 then (0,[],2)
  else (((num (s.take 1):Nat):Int),(s.drop 3).take (yT s),0)
theorem zXt (s:List UInt8) (hl:s.length≤1000000000000):zhz s=some (ZI s):=by
  unfold ZI
  simp only [zhz,zv7,zj1,ztk]
  by_cases h7:s.length<7
  · rw [if_pos h7,zo (show (s.length:Int)<7 by omega),cond_true];rfl
  rw [if_neg h7,zn (show ¬(s.length:Int)<7 by omega),cond_false]
  have e1:ZZ (1,s,0)=some (((num (s.take 1):Nat):Int),s.drop 1,0):=by have:=zfa 1 s 0 (by omega) hl;rw [Yx (by omega)] at this;exact this
  have e2:ZZ (2,s.drop 1,0)=some (((yT s:Nat):Int),s.drop 3,0):=by
    have:=zfa 2 (s.drop 1) 0 (by omega) (by rw [List.length_drop];omega);rw [Yx (by rw [List.length_drop];omega),List.drop_drop] at this;exact this
  simp only [Wq,zdj,zc,e1,unP,e2]
  generalize yT s=n
  by_cases h6:600<n
  · rw [if_pos h6,zo (show (n:Int)>600 by omega),cond_true];rfl
  rw [if_neg h6,zn (show ¬(n:Int)>600 by omega),cond_false,zeq n (s.drop 3) 0 (by rw [List.length_drop];omega)]
  by_cases hs:s.length<n+7
  · rw [if_pos hs]
    have e4 : ∃b r,rdB n (s.drop 3) 0=(b,r,(rdB n (s.drop 3) 0).2.2)∧rdB 4 r (rdB n (s.drop 3) 0).2.2=([],r,1)∧r.length≤s.length:=by
      by_cases hn:(s.drop 3).length<n
      · exact ⟨[],s.drop 3,by rw [YU hn],by rw [YU hn];exact zb4 4 _ (show (1:Int)≠0 by decide),by rw [List.length_drop];omega⟩
      · rw [Yx (by omega)]
        exact ⟨_,_,rfl,YU (by rw [List.length_drop,List.length_drop] at *;omega),by rw [List.length_drop,List.length_drop];omega⟩
    obtain ⟨b,r,hb,h4,hr⟩:=e4
    rw [hb]
    have e5:=zeq 4 r (rdB n (s.drop 3) 0).2.2 (by omega)
    rw [h4] at e5
    have e5':yB (4,r,(rdB n (s.drop 3) 0).2.2)=some ([],r,1):=e5
    simp only [zc,unP,e5',zh2]
    rfl
  rw [if_neg hs,Yx (by rw [List.length_drop];omega),List.drop_drop]
  have e5:yB (4,s.drop (3+n),0)=some ((s.drop (3+n)).take 4,s.drop (7+n),0):=by
    have:=zeq 4 (s.drop (3+n)) 0 (by rw [List.length_drop];omega)
    rw [Yx (by rw [List.length_drop];omega),List.drop_drop,show 3+n+4=7+n by omega] at this
    exact this
  have e6:(bif rdE (s.drop (7+n)) 0 == 1 then (some (0,[],[],rdE (s.drop (7+n)) 0):Option (Int×List UInt8×List UInt8×Int)) else none)=none:=by
    unfold rdE
    rw [if_pos rfl]
    by_cases h:s.drop (7+n)=[]
    · rw [if_pos h];rfl
    · rw [if_neg h];rfl
  have e7:(rdE (s.drop (7+n)) 0 == 1)=false:=by
    unfold rdE
    rw [if_pos rfl]
    by_cases h:s.drop (7+n)=[]
    · rw [if_pos h];rfl
    · rw [if_neg h];rfl
  simp only [zc,unP,e5,zh2,e7,cond_false]
  rw [Zg (x:=3+(n:Int)) (by omega) (by omega),Zk (show (0:Int)≤3+(n:Int)∧3+(n:Int)<((s.length+1:Nat):Int) by omega),cond_true,show (3+(n:Int)).toNat=3+n by omega,
    wt _ (show (s.take (3+n)).length≤1000000000000 by rw [List.length_take];omega)]
  simp only [zc]
  by_cases ht:(s.drop (3+n)).take 4=tail (s.take (3+n))
  · rw [if_neg (fun h=>h ht),ht,beq_self_eq_true,Bool.not_true,cond_false]
    have e8:=zeq (s.drop (7+n)).length (s.drop (7+n)) 0 (by rw [List.length_drop];omega)
    rw [Yx (Nat.le_refl _),List.take_length] at e8
    simp only [zcP,zh7,zc,e8,unP,W3,za0,beq_self_eq_true,cond_true]
    by_cases hm:s.length=n+7
    · rw [if_neg (fun h=>h hm),List.drop_eq_nil_of_le (show s.length≤7+n by omega)];rfl
    · have hne:(s.drop (7+n) == [])=false:=by
        rw [beq_eq_false_iff_ne];intro h;have:=List.drop_eq_nil_iff.1 h;omega
      rw [if_pos hm,hne];rfl
  · have hne:((s.drop (3+n)).take 4 == tail (s.take (3+n)))=false:=by rw [beq_eq_false_iff_ne];exact ht
    rw [if_pos ht,hne];rfl
theorem zIb (s:List UInt8) (hl:s.length≤1000000000000):zgM s=some (ZI s):=by
  unfold ZI
  simp only [zgM,zx8,zms,zwf]
  by_cases h7:s.length<7
  · rw [if_pos h7,zo (show (s.length:Int)<7 by omega),cond_true];rfl
  rw [if_neg h7,zn (show ¬(s.length:Int)<7 by omega),cond_false]
  obtain ⟨a,c,d,r,rfl⟩ : ∃a c d r,s=a::c::d::r:=by
    match s,h7 with
    | a::c::d::r,_=>exact ⟨a,c,d,r,rfl⟩
    | [],h=>simp at h
    | [_],h=>simp at h
    | [_,_],h=>simp at h
  have n0:nth (a::c::d::r) 0=some a:=rfl
  have n1:nth (a::c::d::r) 1=some c:=rfl
  have n2:nth (a::c::d::r) 2=some d:=rfl
  have hn:yT (a::c::d::r)=256*c.toNat+d.toNat:=by simp [yT,num]
  have ha:num ((a::c::d::r).take 1)=a.toNat:=by simp [num]
  have h256:=QB c
  have hd256:=QB d
  simp only [n0,n1,n2,zc,Zaq,Zaz,hn,ha]
  have en:256*(c.toNat:Int)+(d.toNat:Int)=((256*c.toNat+d.toNat:Nat):Int):=by omega
  rw [en]
  generalize a::c::d::r=s at hl h7 ⊢
  generalize 256*c.toNat+d.toNat=n
  by_cases h6:600<n
  · rw [if_pos h6,zo (show (n:Int)>600 by omega),cond_true];rfl
  rw [if_neg h6,zn (show ¬(n:Int)>600 by omega),cond_false,Zg (x:=(s.length:Int) - 7) (by omega) (by omega)]
  by_cases hs:s.length<n+7
  · rw [if_pos hs,zo (show (n:Int)>(s.length:Int) - 7 by omega),cond_true];rfl
  rw [if_neg hs,zn (show ¬(n:Int)>(s.length:Int) - 7 by omega),cond_false,Zg (x:=7+(n:Int)) (by omega) (by omega),Zg (x:=3+(n:Int)) (by omega) (by omega),
    show (7+(n:Int)).toNat=7+n by omega,show (3+(n:Int)).toNat=3+n by omega,Zk (show (0:Int)≤7+(n:Int)∧7+(n:Int)<((s.length+1:Nat):Int) by omega),
    Zk (show (0:Int)≤3+(n:Int)∧3+(n:Int)<((7+n+1:Nat):Int) by omega),Zk (show (0:Int)≤3+(n:Int)∧3+(n:Int)<((s.length+1:Nat):Int) by omega),
    Zk (show (0:Int)≤3∧(3:Int)<((3+n+1:Nat):Int) by omega),
    JE _ (show (s.take (3+n)).length≤1000000000000 by rw [List.length_take];omega),show 7+n - (3+n)=4 by omega,show 3+n - 3=n by omega]
  simp only [Bool.and_self,cond_true,zc]
  by_cases ht:(s.drop (3+n)).take 4=tail (s.take (3+n))
  · rw [if_neg (fun h=>h ht),ht,beq_self_eq_true,Bool.not_true,cond_false]
    by_cases hm:s.length=n+7
    · rw [if_neg (fun h=>h hm)]
      simp only [zc,unP,List.drop_eq_nil_of_le (show s.length≤7+n by omega)]
      rfl
    · have hne:(s.drop (7+n) == [])=false:=by
        rw [beq_eq_false_iff_ne];intro h;have:=List.drop_eq_nil_iff.1 h;omega
      rw [if_pos hm]
      simp only [zc,unP,hne]
      rfl
  · have hne:((s.drop (3+n)).take 4 == tail (s.take (3+n)))=false:=by rw [beq_eq_false_iff_ne];exact ht
    rw [if_pos ht,hne];rfl
theorem zZN {s:List UInt8} (h:(ZI s).2.2=0) : ∃k b,k≤255∧b.length≤600∧s=wl k b∧ZI s=((k:Int),b,0):=by
  unfold ZI at h ⊢
  split at h
  · cases h
  rename_i h7
  split at h
  · cases h
  rename_i h6
  split at h
  · cases h
  rename_i hs
  split at h
  · cases h
  rename_i ht
  split at h
  · cases h
  rename_i hm
  rw [if_neg h7,if_neg h6,if_neg hs,if_neg ht,if_neg hm]
  have hm':s.length=yT s+7:=Decidable.not_not.1 hm
  have ht':=Decidable.not_not.1 ht
  have hk:num (s.take 1)<256:=by
    have:=zlh (s.take 1)
    rw [List.length_take,show min 1 s.length=1 by omega] at this
    exact this
  have hb:((s.drop 3).take (yT s)).length=yT s:=by rw [List.length_take,List.length_drop];omega
  refine ⟨num (s.take 1),(s.drop 3).take (yT s),by omega,by rw [hb];omega,?_,rfl⟩
  have e1:be 1 (num (s.take 1))=s.take 1:=by
    have:=zO0 (s.take 1)
    rwa [List.length_take,show min 1 s.length=1 by omega] at this
  have e2:be 2 (yT s)=(s.drop 1).take 2:=by
    have:=zO0 ((s.drop 1).take 2)
    rwa [List.length_take,List.length_drop,show min 2 (s.length - 1)=2 by omega] at this
  have eB:zdd (num (s.take 1)) ((s.drop 3).take (yT s))=s.take (3+yT s):=by
    rw [zOE (by omega) (by rw [hb];omega),hb,e1,e2,show 3+yT s=1+(2+yT s) by omega,List.take_add,List.take_add,List.drop_drop]
  unfold wl
  rw [eB,← ht']
  rw [List.take_of_length_le (l:=s.drop (3+yT s)) (by rw [List.length_drop];omega),List.take_append_drop]
end Go.Proofs.R9
