/- What the functions that DumpPutsCardSaid reaches compute: part 3. -/
import Derived.Test.YthfoooplgceaoaaGreatDoorOwnDumpPutsCardSaid2
set_option linter.unusedVariables false
set_option linter.unusedSimpArgs false
namespace Go.Proofs.R9
open Go Go.AE
set_option maxRecDepth 100000
--@ dump_read
noncomputable def zgD:Env:=[(49,.func zx3),(50,.func zqZ),(51,.func zr1),(55,.func zVn),(54,.pure z59),(56,.pure zTl)]
theorem zrB:zf Tryz.prog zgD:=zf.cons zgI (zf.cons zdm (zf.cons zdl (zf.cons zxB (zf.cons zQX (zf.cons zyy (zf.nil))))))
noncomputable def zXG:Code:=Tryz.f21.body.getD .skip
noncomputable def zoc:Code:=zF [1,1,1,1,1,1,1,0] zXG
noncomputable def zw7:Ann := .none
theorem zFl:zq Tryz.prog 65 zoc zw7:=(zb _ _ _)
abbrev wZ:=(Int)×(Int)×(Int)×(Int)×(Int)×(Int)×(Int)×(Int)×(List (Int×(Int×Int)×List UInt8×((Int×Int)×List UInt8)×(Int×Int)×List UInt8))×(List Bool)×(Int)×(Int)×(Int)×(List UInt8)×(Int)×(Int)×(List UInt8)×(Int)×(Int)×(List UInt8)
abbrev zdo:=(List (Int×(Int×Int)×List UInt8×((Int×Int)×List UInt8)×(Int×Int)×List UInt8))×(List Bool)
def zz2:wZ→St:=fun (t8,o0_0,o0_1,o0_2,o0_3,o0_4,o0_5,o0_6,o1,o2,o3_0,o3_1,o3_2,o3_3,o3_4,o3_5,o3_6,o3_7,o3_8,o3_9)=>{ env:=[(0,.ptr 0 0),(8,.int .i64 t8),(9,.ptr 3 0)],stk:=[[(0,.ptr 0 0)]],H:=[.cells [.int .i64 o0_0,.int .i64 o0_1,.int .i64 o0_2,.int .i64 o0_3,.int .i64 o0_4,.int .i64 o0_5,.int .i64 o0_6,.own 1,.own 2],.arr (.st (.pair (.int .i64) (.pair (.pair (.int .i64) (.int .i64)) (.pair .str (.pair (.pair (.pair (.int .i64) (.int .i64)) .str) (.pair (.pair (.int .i64) (.int .i64)) .str)))))) o1,.arr .bool o2,.cells [.int .i64 o3_0,.int .i64 o3_1,.int .i64 o3_2,.str o3_3,.int .i64 o3_4,.int .i64 o3_5,.str o3_6,.int .i64 o3_7,.int .i64 o3_8,.str o3_9]],blk:=86016 }
def ztX (s:St):Option {x:wZ // s=zz2 x}:=match s with
  | { env:=[(0,.ptr 0 0),(8,.int .i64 t8),(9,.ptr 3 0)],stk:=[[(0,.ptr 0 0)]],H:=[.cells [.int .i64 o0_0,.int .i64 o0_1,.int .i64 o0_2,.int .i64 o0_3,.int .i64 o0_4,.int .i64 o0_5,.int .i64 o0_6,.own 1,.own 2],.arr (.st (.pair (.int .i64) (.pair (.pair (.int .i64) (.int .i64)) (.pair .str (.pair (.pair (.pair (.int .i64) (.int .i64)) .str) (.pair (.pair (.int .i64) (.int .i64)) .str)))))) o1,.arr .bool o2,.cells [.int .i64 o3_0,.int .i64 o3_1,.int .i64 o3_2,.str o3_3,.int .i64 o3_4,.int .i64 o3_5,.str o3_6,.int .i64 o3_7,.int .i64 o3_8,.str o3_9]],blk:=86016 }=>some ⟨(t8,o0_0,o0_1,o0_2,o0_3,o0_4,o0_5,o0_6,o1,o2,o3_0,o3_1,o3_2,o3_3,o3_4,o3_5,o3_6,o3_7,o3_8,o3_9),rfl⟩
  | _=>none
def zkj (s:St):Option wZ:=pk (ztX s)
theorem zIa (s:St) (x:wZ) (h:zkj s=some x):s=zz2 x:=zt (o:=ztX s) h
def zmz:wZ→(Ex→St→Ans)→zdo→Ans:=fun (t8,o0_0,o0_1,o0_2,o0_3,o0_4,o0_5,o0_6,o1,o2,o3_0,o3_1,o3_2,o3_3,o3_4,o3_5,o3_6,o3_7,o3_8,o3_9) K=>unP fun o1_y o2_y=>K (Ex.norm) { env:=[],stk:=[[(0,.ptr 0 0)]],H:=[.cells [.int .i64 o0_0,.int .i64 o0_1,.int .i64 o0_2,.int .i64 o0_3,.int .i64 o0_4,.int .i64 o0_5,.int .i64 o0_6,.own 1,.own 2],.arr (.st (.pair (.int .i64) (.pair (.pair (.int .i64) (.int .i64)) (.pair .str (.pair (.pair (.pair (.int .i64) (.int .i64)) .str) (.pair (.pair (.int .i64) (.int .i64)) .str)))))) o1_y,.arr .bool o2_y],blk:=86016 }
def Wp {β:Type}:wZ→(zdo→Option β)→Option β:=fun (t8,o0_0,o0_1,o0_2,o0_3,o0_4,o0_5,o0_6,o1,o2,o3_0,o3_1,o3_2,o3_3,o3_4,o3_5,o3_6,o3_7,o3_8,o3_9) exit=>(bif Nat.ble ((List.length o1+List.length [(o3_0,(o3_1,o3_2),o3_3,((o3_4,o3_5),o3_6),(o3_7,o3_8),o3_9)])*(104:Nat)) (140737488355328:Nat) then (bif Nat.ble ((List.length o2+List.length [t8 == (1:Int)])*(1:Nat)) (140737488355328:Nat) then (exit (o1++[(o3_0,(o3_1,o3_2),o3_3,((o3_4,o3_5),o3_6),(o3_7,o3_8),o3_9)],o2++[t8 == (1:Int)])) else none) else none)
def ql (i:wZ):Option zdo:=Wp i some
theorem zBn (i:wZ) (k:zdo→Ans):Wp i k=za (ql i) k:=by
  obtain ⟨t8,o0_0,o0_1,o0_2,o0_3,o0_4,o0_5,o0_6,o1,o2,o3_0,o3_1,o3_2,o3_3,o3_4,o3_5,o3_6,o3_7,o3_8,o3_9⟩:=i
  simp only [ql,Wp,zj,zh,zl,zc,zi,zm,zg]
noncomputable def zfO {β:Type}:wZ→(zdo→Option β)→Option β:=fun (t8,o0_0,o0_1,o0_2,o0_3,o0_4,o0_5,o0_6,o1,o2,o3_0,o3_1,o3_2,o3_3,o3_4,o3_5,o3_6,o3_7,o3_8,o3_9) exit=>(zhS (zhS (bif Nat.ble ((List.length o1+List.length [(o3_0,(o3_1,o3_2),o3_3,((o3_4,o3_5),o3_6),(o3_7,o3_8),o3_9)])*(104:Nat)) (140737488355328:Nat) then (bif Nat.ble ((List.length o2+List.length [t8 == (1:Int)])*(1:Nat)) (140737488355328:Nat) then (exit (o1++[(o3_0,(o3_1,o3_2),o3_3,((o3_4,o3_5),o3_6),(o3_7,o3_8),o3_9)],o2++[t8 == (1:Int)])) else none) else none) (bif Nat.ble ((List.length o1+List.length [(o3_0,(o3_1,o3_2),o3_3,((o3_4,o3_5),o3_6),(o3_7,o3_8),o3_9)])*(104:Nat)) (140737488355328:Nat) then (bif Nat.ble ((List.length o2+List.length [t8 == (1:Int)])*(1:Nat)) (140737488355328:Nat) then (exit (o1++[(o3_0,(o3_1,o3_2),o3_3,((o3_4,o3_5),o3_6),(o3_7,o3_8),o3_9)],o2++[t8 == (1:Int)])) else none) else none)) (bif Nat.ble ((List.length o1+List.length [(o3_0,(o3_1,o3_2),o3_3,((o3_4,o3_5),o3_6),(o3_7,o3_8),o3_9)])*(104:Nat)) (140737488355328:Nat) then (bif Nat.ble ((List.length o2+List.length [t8 == (1:Int)])*(1:Nat)) (140737488355328:Nat) then (exit (o1++[(o3_0,(o3_1,o3_2),o3_3,((o3_4,o3_5),o3_6),(o3_7,o3_8),o3_9)],o2++[t8 == (1:Int)])) else none) else none))
theorem zzW : ∀(i:wZ) (exit:zdo→Ans),zfO i exit=Wp i exit:=by
  rintro ⟨t8,o0_0,o0_1,o0_2,o0_3,o0_4,o0_5,o0_6,o1,o2,o3_0,o3_1,o3_2,o3_3,o3_4,o3_5,o3_6,o3_7,o3_8,o3_9⟩ exit
  simp only [zfO,Wp,zTu]
theorem zGz (i:wZ) (K:Ex→St→Ans):zx Tryz.tab zgD zd (zy Tryz.tab zgD zd 0 64) 70 65 zw7 zoc (zD 3 (exk [] [6] []) K) (zz2 i)=Wp i (zmz i K):=(show _=zfO i _ from by kernel_rfl).trans (zzW _ _)
theorem zN6:zw Tryz.prog 65 zoc (zH zkj ql zmz):=zE mixed tabOk zrB 3 (exk [] [6] []) zFl zIa zGz zBn
noncomputable def zQe:(Ex→St→Ans)→St→Ans:=(zH zkj ql zmz)
theorem zSZ:zw Tryz.prog 65 zoc zQe:=zN6
noncomputable def znR:Code:=zF [1,1,1,1,1,1,0,1,0] zXG
noncomputable def zv9:Ann := .none
theorem zFU:zq Tryz.prog 65 znR zv9:=(zb _ _ _)
abbrev ja:=(List UInt8)×(Int)×(List UInt8)×(Int)×(Int)×(Int)×(Int)×(Int)×(Int)×(Int)×(Int)×(List (Int×(Int×Int)×List UInt8×((Int×Int)×List UInt8)×(Int×Int)×List UInt8))×(List Bool)×(Int)×(Int)×(Int)×(List UInt8)×(Int)×(Int)×(List UInt8)×(Int)×(Int)×(List UInt8)
abbrev zqh:=(Bool)
def zBO:ja→St:=fun (t2,t8,t11,t12,o0_0,o0_1,o0_2,o0_3,o0_4,o0_5,o0_6,o1,o2,o3_0,o3_1,o3_2,o3_3,o3_4,o3_5,o3_6,o3_7,o3_8,o3_9)=>{ env:=[(0,.ptr 0 0),(2,.str t2),(8,.int .i64 t8),(9,.ptr 3 0),(11,.str t11),(12,.int .i64 t12)],stk:=[[(0,.ptr 0 0)]],H:=[.cells [.int .i64 o0_0,.int .i64 o0_1,.int .i64 o0_2,.int .i64 o0_3,.int .i64 o0_4,.int .i64 o0_5,.int .i64 o0_6,.own 1,.own 2],.arr (.st (.pair (.int .i64) (.pair (.pair (.int .i64) (.int .i64)) (.pair .str (.pair (.pair (.pair (.int .i64) (.int .i64)) .str) (.pair (.pair (.int .i64) (.int .i64)) .str)))))) o1,.arr .bool o2,.cells [.int .i64 o3_0,.int .i64 o3_1,.int .i64 o3_2,.str o3_3,.int .i64 o3_4,.int .i64 o3_5,.str o3_6,.int .i64 o3_7,.int .i64 o3_8,.str o3_9]],blk:=86016 }
def zuI (s:St):Option {x:ja // s=zBO x}:=match s with
  | { env:=[(0,.ptr 0 0),(2,.str t2),(8,.int .i64 t8),(9,.ptr 3 0),(11,.str t11),(12,.int .i64 t12)],stk:=[[(0,.ptr 0 0)]],H:=[.cells [.int .i64 o0_0,.int .i64 o0_1,.int .i64 o0_2,.int .i64 o0_3,.int .i64 o0_4,.int .i64 o0_5,.int .i64 o0_6,.own 1,.own 2],.arr (.st (.pair (.int .i64) (.pair (.pair (.int .i64) (.int .i64)) (.pair .str (.pair (.pair (.pair (.int .i64) (.int .i64)) .str) (.pair (.pair (.int .i64) (.int .i64)) .str)))))) o1,.arr .bool o2,.cells [.int .i64 o3_0,.int .i64 o3_1,.int .i64 o3_2,.str o3_3,.int .i64 o3_4,.int .i64 o3_5,.str o3_6,.int .i64 o3_7,.int .i64 o3_8,.str o3_9]],blk:=86016 }=>some ⟨(t2,t8,t11,t12,o0_0,o0_1,o0_2,o0_3,o0_4,o0_5,o0_6,o1,o2,o3_0,o3_1,o3_2,o3_3,o3_4,o3_5,o3_6,o3_7,o3_8,o3_9),rfl⟩
  | _=>none
def zle (s:St):Option ja:=pk (zuI s)
theorem zHw (s:St) (x:ja) (h:zle s=some x):s=zBO x:=zt (o:=zuI s) h
def zke:ja→(Ex→St→Ans)→zqh→Ans:=fun (t2,t8,t11,t12,o0_0,o0_1,o0_2,o0_3,o0_4,o0_5,o0_6,o1,o2,o3_0,o3_1,o3_2,o3_3,o3_4,o3_5,o3_6,o3_7,o3_8,o3_9) K=>fun t43_y=>K (Ex.norm) { env:=[(0,.ptr 0 0),(8,.int .i64 t8),(9,.ptr 3 0),(43,.bool t43_y)],stk:=[[(0,.ptr 0 0)]],H:=[.cells [.int .i64 o0_0,.int .i64 o0_1,.int .i64 o0_2,.int .i64 o0_3,.int .i64 o0_4,.int .i64 o0_5,.int .i64 o0_6,.own 1,.own 2],.arr (.st (.pair (.int .i64) (.pair (.pair (.int .i64) (.int .i64)) (.pair .str (.pair (.pair (.pair (.int .i64) (.int .i64)) .str) (.pair (.pair (.int .i64) (.int .i64)) .str)))))) o1,.arr .bool o2,.cells [.int .i64 o3_0,.int .i64 o3_1,.int .i64 o3_2,.str o3_3,.int .i64 o3_4,.int .i64 o3_5,.str o3_6,.int .i64 o3_7,.int .i64 o3_8,.str o3_9]],blk:=86016 }
def zaE {β:Type}:ja→(zqh→Option β)→Option β:=fun (t2,t8,t11,t12,o0_0,o0_1,o0_2,o0_3,o0_4,o0_5,o0_6,o1,o2,o3_0,o3_1,o3_2,o3_3,o3_4,o3_5,o3_6,o3_7,o3_8,o3_9) exit=>(bif t12 != (0:Int) then (exit (true)) else (exit (!t11 == t2)))
def WP (i:ja):Option zqh:=zaE i some
theorem zzJ (i:ja) (k:zqh→Ans):zaE i k=za (WP i) k:=by
  obtain ⟨t2,t8,t11,t12,o0_0,o0_1,o0_2,o0_3,o0_4,o0_5,o0_6,o1,o2,o3_0,o3_1,o3_2,o3_3,o3_4,o3_5,o3_6,o3_7,o3_8,o3_9⟩:=i
  simp only [WP,zaE,zj,zh,zl,zc,zi,zm,zg]
theorem zE4 (i:ja) (K:Ex→St→Ans):zx Tryz.tab zgD zd (zy Tryz.tab zgD zd 0 64) 70 65 zv9 znR (zD 3 (exk [0,8,9,43] [6] []) K) (zBO i)=zaE i (zke i K):=by kernel_rfl
theorem zN5:zw Tryz.prog 65 znR (zH zle WP zke):=zE mixed tabOk zrB 3 (exk [0,8,9,43] [6] []) zFU zHw zE4 zzJ
noncomputable def zQN:(Ex→St→Ans)→St→Ans:=(zH zle WP zke)
theorem zVk:zw Tryz.prog 65 znR zQN:=zN5
noncomputable def z1J:Ann:=(.seq .none (.seq .none (.seq .none (.seq .none (.seq .none (.seq .none (.seq (.seq .none (.seq (.cut 3 [0,2,8,9,11,12] zQN) .none)) (.seq (.cut 3 [0,8,9] zQe) .none))))))))
theorem z2V:zq Tryz.prog 65 zXG z1J:=⟨(zb _ _ _),⟨(zb _ _ _),⟨(zb _ _ _),⟨(zb _ _ _),⟨(zb _ _ _),⟨(zb _ _ _),⟨⟨(zb _ _ _),⟨zVk,(zb _ _ _)⟩⟩,⟨zSZ,(zb _ _ _)⟩⟩⟩⟩⟩⟩⟩⟩
abbrev zft:=(Int)×(List UInt8)×(Int)×(Int)×(Int)×(Int)×(Int)×(Int)×(Int)×(List (Int×(Int×Int)×List UInt8×((Int×Int)×List UInt8)×(Int×Int)×List UInt8))×(List Bool)
abbrev zUl:=(Int)×(List (Int×(Int×Int)×List UInt8×((Int×Int)×List UInt8)×(Int×Int)×List UInt8))×(List Bool)
def znH {β:Type}:zft→(zUl→Option β)→Option β:=fun (a1,a2,o0_0,o0_1,o0_2,o0_3,o0_4,o0_5,o0_6,o1,o2) exit=>(za (Ws (a2)) fun _=>(za (Z5 ((1:Int),a2,(0:Int))) (unP fun r=>unP fun o0_0_2 o0_1_2=>(za (Z5 ((1:Int),o0_0_2,o0_1_2)) (unP fun r_2=>unP fun o0_0_3 o0_1_3=>(za (zcc (o0_0_3,o0_1_3)) fun r_3=>(za (yK (r_3,o0_0_3,o0_1_3)) (unP fun r_4=>unP fun o0_0_4 o0_1_4=>(za (zgl (r_4)) (unP fun r_0_0=>unP fun r_0_1=>unP fun r_0_2=>unP fun r_0_3=>unP fun r_0_4=>unP fun r_0_5=>unP fun r_0_6=>unP fun r_0_7=>unP fun r_0_8=>unP fun r_0_9 r_1=>(bif r_1 != (0:Int) then (exit ((4:Int),o1,o2)) else (za (zb0 (a1,r_0_0,r_0_1,r_0_2,r_0_3,r_0_4,r_0_5,r_0_6,r_0_7,r_0_8,r_0_9,r_2 == (1:Int))) (unP fun r_0 r_1_2=>(za (WP (a2,r_2,r_0,r_1_2,o0_0,o0_1,o0_2,o0_3,o0_4,o0_5,o0_6,o1,o2,r_0_0,r_0_1,r_0_2,r_0_3,r_0_4,r_0_5,r_0_6,r_0_7,r_0_8,r_0_9)) fun t43=>(bif t43 then (exit ((4:Int),o1,o2)) else (za (ql (r_2,o0_0,o0_1,o0_2,o0_3,o0_4,o0_5,o0_6,o1,o2,r_0_0,r_0_1,r_0_2,r_0_3,r_0_4,r_0_5,r_0_6,r_0_7,r_0_8,r_0_9)) (unP fun o1_2 o2_2=>(exit ((0:Int),o1_2,o2_2)))))))))))))))))))
def zes (a:zft):Option zUl:=znH a some
theorem zZI (a:zft) (k:zUl→Ans):znH a k=za (zes a) k:=by
  obtain ⟨a1,a2,o0_0,o0_1,o0_2,o0_3,o0_4,o0_5,o0_6,o1,o2⟩:=a
  simp only [zes,znH,zj,zh,zl,zc,zi,zm,zg]
def zpY:zft→List AV×List AE.Obj:=fun (a1,a2,o0_0,o0_1,o0_2,o0_3,o0_4,o0_5,o0_6,o1,o2)=>([.ptr 0 0,.int .i64 a1,.str a2],[.cells [.int .i64 o0_0,.int .i64 o0_1,.int .i64 o0_2,.int .i64 o0_3,.int .i64 o0_4,.int .i64 o0_5,.int .i64 o0_6,.own 1,.own 2],.arr (.st (.pair (.int .i64) (.pair (.pair (.int .i64) (.int .i64)) (.pair .str (.pair (.pair (.pair (.int .i64) (.int .i64)) .str) (.pair (.pair (.int .i64) (.int .i64)) .str)))))) o1,.arr .bool o2])
def zII (l:List AV) (H:List AE.Obj):Option {a:zft // (l,H)=zpY a}:=match l,H with
  | [.ptr 0 0,.int .i64 a1,.str a2],[.cells [.int .i64 o0_0,.int .i64 o0_1,.int .i64 o0_2,.int .i64 o0_3,.int .i64 o0_4,.int .i64 o0_5,.int .i64 o0_6,.own 1,.own 2],.arr (.st (.pair (.int .i64) (.pair (.pair (.int .i64) (.int .i64)) (.pair .str (.pair (.pair (.pair (.int .i64) (.int .i64)) .str) (.pair (.pair (.int .i64) (.int .i64)) .str)))))) o1,.arr .bool o2]=>some ⟨(a1,a2,o0_0,o0_1,o0_2,o0_3,o0_4,o0_5,o0_6,o1,o2),rfl⟩
  | _,_=>none
def zSe (l:List AV) (H:List AE.Obj):Option zft:=pk (zII l H)
theorem zW3 (l:List AV) (H:List AE.Obj) (a:zft) (h:zSe l H=some a):(l,H)=zpY a:=zt (o:=zII l H) h
def z2C:zft→(AV→List AE.Obj→Ans)→zUl→Ans:=fun (a1,a2,o0_0,o0_1,o0_2,o0_3,o0_4,o0_5,o0_6,o1,o2) K=>unP fun r_y=>unP fun o1_y o2_y=>K (.int .i64 r_y) [.cells [.int .i64 o0_0,.int .i64 o0_1,.int .i64 o0_2,.int .i64 o0_3,.int .i64 o0_4,.int .i64 o0_5,.int .i64 o0_6,.own 1,.own 2],.arr (.st (.pair (.int .i64) (.pair (.pair (.int .i64) (.int .i64)) (.pair .str (.pair (.pair (.pair (.int .i64) (.int .i64)) .str) (.pair (.pair (.int .i64) (.int .i64)) .str)))))) o1_y,.arr .bool o2_y]
theorem z6F (a:zft) (K:AV→List AE.Obj→Ans):fnE Tryz.tab zgD zd 0 70 21 Tryz.f21.ntmps Tryz.f21.results.toList z1J zXG (zpY a).1 (zpY a).2 K=znH a (z2C a K):=by kernel_rfl
def Zck (a:zft) (K:AV→List AE.Obj→Ans):Ans:=za (zes a) fun y=>z2C a K y
def ZaH:List AV→List AE.Obj→(AV→List AE.Obj→Ans)→Ans:=fun l H K=>za (zSe l H) fun a=>Zck a K
theorem z8b:zO Tryz.prog 21 ZaH:=ZK (hint:=zd) (d:=0) (n:=70) mixed tabOk zrB Tryz.func21 (zC (by kernel_rfl)) (by decide +kernel) z2V zW3 z6F zZI
--@ dump_end
noncomputable def z2k:Env:=[(58,.pure Jm),(52,.pure Fq4),(57,.pure zjN)]
theorem z6H:zf Tryz.prog z2k:=zf.cons zeU (zf.cons zhd (zf.cons zbo (zf.nil)))
noncomputable def ZaZ:Code:=Tryz.f22.body.getD .skip
noncomputable def z1Y:Ann := .none
theorem z3z:zq Tryz.prog 10 ZaZ z1Y:=(zb _ _ _)
abbrev zet:=(List (List UInt8))
abbrev zKT:=(List UInt8)
def zsP {β:Type}:zet→(zKT→Option β)→Option β:=fun a0 exit=>(za (Zz ([],(↑(List.length a0):Int),(2:Int))) fun r=>(za (Y4 (a0,[])) fun r_2=>(za (zbX (r_2)) fun r_3=>(bif Nat.ble (List.length r+List.length r_3) (9223372036854775807:Nat) then (exit (r++r_3)) else none))))
def zds (a:zet):Option zKT:=zsP a some
theorem z2M (a:zet) (k:zKT→Ans):zsP a k=za (zds a) k:=by
  obtain z:=a
  simp only [zds,zsP,zj,zh,zl,zc,zi,zm,zg]
def zy2:zet→List AV:=fun a0=>[.ro .str a0]
def zK0 (l:List AV):Option {a:zet // l=zy2 a}:=match l with
  | [.ro .str a0]=>some ⟨(a0),rfl⟩
  | _=>none
def zP0 (l:List AV):Option zet:=pk (zK0 l)
theorem zTp (l:List AV) (a:zet) (h:zP0 l=some a):l=zy2 a:=zt (o:=zK0 l) h
def zxW:zet→zKT→AV:=fun a0=>fun r_y => .str r_y
theorem zT0 : ∀(a:zet) (y:zKT),(zxW a y).closed1=true:=by
  rintro z y <;> first | rfl | exact Empty.elim y
theorem z6w (a:zet):fnE Tryz.tab z2k zd 0 70 22 Tryz.f22.ntmps Tryz.f22.results.toList z1Y ZaZ (zy2 a) [] (fun v _=>some (v,[]))=zsP a (fun y=>some (zxW a y,[])):=by kernel_rfl
def ZbN (a:zet) (K:AV→Ans):Ans:=za (zds a) fun y=>K (zxW a y)
def zTm:List AV→(AV→Ans)→Ans:=fun l K=>za (zP0 l) fun a=>ZbN a K
theorem zCO:zM Tryz.prog 22 zTm:=zL (hint:=zd) (d:=0) (n:=70) mixed tabOk z6H Tryz.func22 (zC (by kernel_rfl)) (by decide +kernel) z3z zTp z6w z2M zT0
--@ dump_Check
noncomputable def zbR:Env:=[(34,.pure zUO),(35,.pure zMn)]
theorem zo7:zf Tryz.prog zbR:=zf.cons zB5 (zf.cons zpW (zf.nil))
noncomputable def bq6:Code:=Tryz.f14.body.getD .skip
noncomputable def zv1:Code:=zF [1,1,1,1,0,1,0,0,1,1,0] bq6
noncomputable def zCV:Ann := .none
theorem zMJ:zq Tryz.prog 55 zv1 zCV:=(zb _ _ _)
abbrev zbg:=(Int)×(List (Int×(Int×Int)×List UInt8×((Int×Int)×List UInt8)×(Int×Int)×List UInt8))×(Int)×(Int)×(Int)×(Int)×(Int)×(Int)×(Int)×(Int)×(Int)×(List (Int×(Int×Int)×List UInt8×((Int×Int)×List UInt8)×(Int×Int)×List UInt8))×(List Bool)
abbrev zxg:=((Int)) ⊕ ((Int))
def zKz:zbg→St:=fun (t5,t32,t33,t34,o0_0,o0_1,o0_2,o0_3,o0_4,o0_5,o0_6,o0_7,o0_8)=>{ env:=[(1,.ptr 0 0),(5,.int .i64 t5),(32,.ro (.st (.pair (.int .i64) (.pair (.pair (.int .i64) (.int .i64)) (.pair .str (.pair (.pair (.pair (.int .i64) (.int .i64)) .str) (.pair (.pair (.int .i64) (.int .i64)) .str)))))) t32),(33,.int .i64 t33),(34,.int .i64 t34)],stk:=[[]],H:=[.cells [.int .i64 o0_0,.int .i64 o0_1,.int .i64 o0_2,.int .i64 o0_3,.int .i64 o0_4,.int .i64 o0_5,.int .i64 o0_6,.ro (.st (.pair (.int .i64) (.pair (.pair (.int .i64) (.int .i64)) (.pair .str (.pair (.pair (.pair (.int .i64) (.int .i64)) .str) (.pair (.pair (.int .i64) (.int .i64)) .str)))))) o0_7,.ro .bool o0_8]],blk:=57344 }
def zCR (s:St):Option {x:zbg // s=zKz x}:=match s with
  | { env:=[(1,.ptr 0 0),(5,.int .i64 t5),(32,.ro (.st (.pair (.int .i64) (.pair (.pair (.int .i64) (.int .i64)) (.pair .str (.pair (.pair (.pair (.int .i64) (.int .i64)) .str) (.pair (.pair (.int .i64) (.int .i64)) .str)))))) t32),(33,.int .i64 t33),(34,.int .i64 t34)],stk:=[[]],H:=[.cells [.int .i64 o0_0,.int .i64 o0_1,.int .i64 o0_2,.int .i64 o0_3,.int .i64 o0_4,.int .i64 o0_5,.int .i64 o0_6,.ro (.st (.pair (.int .i64) (.pair (.pair (.int .i64) (.int .i64)) (.pair .str (.pair (.pair (.pair (.int .i64) (.int .i64)) .str) (.pair (.pair (.int .i64) (.int .i64)) .str)))))) o0_7,.ro .bool o0_8]],blk:=57344 }=>some ⟨(t5,t32,t33,t34,o0_0,o0_1,o0_2,o0_3,o0_4,o0_5,o0_6,o0_7,o0_8),rfl⟩
  | _=>none
def zr9 (s:St):Option zbg:=pk (zCR s)
theorem zO3 (s:St) (x:zbg) (h:zr9 s=some x):s=zKz x:=zt (o:=zCR s) h
def zre:zbg→(Ex→St→Ans)→zxg→Ans:=fun (t5,t32,t33,t34,o0_0,o0_1,o0_2,o0_3,o0_4,o0_5,o0_6,o0_7,o0_8) K=>(Sum.elim (fun t2_y=>K (Ex.ret) { env:=[(2,.int .i64 t2_y)],stk:=[[]],H:=[],blk:=57345 }) (fun t5_y=>K (Ex.norm) { env:=[(1,.ptr 0 0),(5,.int .i64 t5_y),(32,.ro (.st (.pair (.int .i64) (.pair (.pair (.int .i64) (.int .i64)) (.pair .str (.pair (.pair (.pair (.int .i64) (.int .i64)) .str) (.pair (.pair (.int .i64) (.int .i64)) .str)))))) t32),(33,.int .i64 t33),(34,.int .i64 t34)],stk:=[[]],H:=[.cells [.int .i64 o0_0,.int .i64 o0_1,.int .i64 o0_2,.int .i64 o0_3,.int .i64 o0_4,.int .i64 o0_5,.int .i64 o0_6,.ro (.st (.pair (.int .i64) (.pair (.pair (.int .i64) (.int .i64)) (.pair .str (.pair (.pair (.pair (.int .i64) (.int .i64)) .str) (.pair (.pair (.int .i64) (.int .i64)) .str)))))) o0_7,.ro .bool o0_8]],blk:=57345 }))
def JE {β:Type}:zbg→(zxg→Option β)→Option β:=fun (t5,t32,t33,t34,o0_0,o0_1,o0_2,o0_3,o0_4,o0_5,o0_6,o0_7,o0_8) exit=>(za (nth t32 t34) fun x=>(za (zaP (x.fst,x.snd.fst.fst,x.snd.fst.snd,x.snd.snd.fst,x.snd.snd.snd.fst.fst.fst,x.snd.snd.snd.fst.fst.snd,x.snd.snd.snd.fst.snd,x.snd.snd.snd.snd.fst.fst,x.snd.snd.snd.snd.fst.snd,x.snd.snd.snd.snd.snd)) fun r=>(bif r != (0:Int) then (exit (Sum.inl (r))) else (bif x.fst == (1:Int) then (exit (Sum.inr (IntKind.wrap .i64 (t5+(1:Int))))) else (exit (Sum.inr (t5)))))))
def Wg (i:zbg):Option zxg:=JE i some
theorem zE0 (i:zbg) (k:zxg→Ans):JE i k=za (Wg i) k:=by
  obtain ⟨t5,t32,t33,t34,o0_0,o0_1,o0_2,o0_3,o0_4,o0_5,o0_6,o0_7,o0_8⟩:=i
  simp only [Wg,JE,zj,zh,zl,zc,zi,zm,zg]
theorem zMe (i:zbg) (K:Ex→St→Ans):zx Tryz.tab zbR zd (zy Tryz.tab zbR zd 0 64) 70 55 zCV zv1 (zD 0 (exk [1,5,32,33,34] [2] []) K) (zKz i)=JE i (zre i K):=by kernel_rfl
theorem zUn:zw Tryz.prog 55 zv1 (zH zr9 Wg zre):=zE mixed tabOk zo7 0 (exk [1,5,32,33,34] [2] []) zMJ zO3 zMe zE0
noncomputable def z0A:(Ex→St→Ans)→St→Ans:=(zH zr9 Wg zre)
theorem z3R:zw Tryz.prog 55 zv1 z0A:=zUn
noncomputable def zmA:Code:=zF [1,1,1,1,0,1,0,0] bq6
noncomputable def zly:Ann := .at 0 [1,5,32,33,34] (.loop (.seq .none (.seq .none (.seq (.cut 0 [1,5,32,33,34] z0A) .none))))
theorem zIv:zq Tryz.prog 55 (.loop zmA) zly:=Zp ⟨(zb _ _ _),⟨(zb _ _ _),⟨z3R,(zb _ _ _)⟩⟩⟩
abbrev JJ:=(List (Int×(Int×Int)×List UInt8×((Int×Int)×List UInt8)×(Int×Int)×List UInt8))×(Int)×(Int)×(Int)×(Int)×(Int)×(Int)×(Int)×(Int)×(List (Int×(Int×Int)×List UInt8×((Int×Int)×List UInt8)×(Int×Int)×List UInt8))×(List Bool)
abbrev zsX:=((Int)) ⊕ ((Int))
abbrev qQ:=(Int)×(Int)
def zuf:JJ→qQ→St:=fun (t32,t33,o0_0,o0_1,o0_2,o0_3,o0_4,o0_5,o0_6,o0_7,o0_8) (t5,t34)=>{ env:=[(1,.ptr 0 0),(5,.int .i64 t5),(32,.ro (.st (.pair (.int .i64) (.pair (.pair (.int .i64) (.int .i64)) (.pair .str (.pair (.pair (.pair (.int .i64) (.int .i64)) .str) (.pair (.pair (.int .i64) (.int .i64)) .str)))))) t32),(33,.int .i64 t33),(34,.int .i64 t34)],stk:=[[]],H:=[.cells [.int .i64 o0_0,.int .i64 o0_1,.int .i64 o0_2,.int .i64 o0_3,.int .i64 o0_4,.int .i64 o0_5,.int .i64 o0_6,.ro (.st (.pair (.int .i64) (.pair (.pair (.int .i64) (.int .i64)) (.pair .str (.pair (.pair (.pair (.int .i64) (.int .i64)) .str) (.pair (.pair (.int .i64) (.int .i64)) .str)))))) o0_7,.ro .bool o0_8]],blk:=57344 }
def zDl (s:St):Option {x:JJ×qQ // s=zuf x.1 x.2}:=match s with
  | { env:=[(1,.ptr 0 0),(5,.int .i64 t5),(32,.ro (.st (.pair (.int .i64) (.pair (.pair (.int .i64) (.int .i64)) (.pair .str (.pair (.pair (.pair (.int .i64) (.int .i64)) .str) (.pair (.pair (.int .i64) (.int .i64)) .str)))))) t32),(33,.int .i64 t33),(34,.int .i64 t34)],stk:=[[]],H:=[.cells [.int .i64 o0_0,.int .i64 o0_1,.int .i64 o0_2,.int .i64 o0_3,.int .i64 o0_4,.int .i64 o0_5,.int .i64 o0_6,.ro (.st (.pair (.int .i64) (.pair (.pair (.int .i64) (.int .i64)) (.pair .str (.pair (.pair (.pair (.int .i64) (.int .i64)) .str) (.pair (.pair (.int .i64) (.int .i64)) .str)))))) o0_7,.ro .bool o0_8]],blk:=57344 }=>some ⟨((t32,t33,o0_0,o0_1,o0_2,o0_3,o0_4,o0_5,o0_6,o0_7,o0_8),(t5,t34)),rfl⟩
  | _=>none
def zrU (s:St):Option (JJ×qQ):=pk (zDl s)
theorem zOW (s:St) (x:JJ×qQ) (h:zrU s=some x):s=zuf x.1 x.2:=zt (o:=zDl s) h
def zrb:JJ→(Ex→St→Ans)→zsX→Ans:=fun (t32,t33,o0_0,o0_1,o0_2,o0_3,o0_4,o0_5,o0_6,o0_7,o0_8) K=>(Sum.elim (fun t2_y=>K (Ex.ret) { env:=[(2,.int .i64 t2_y)],stk:=[[]],H:=[],blk:=57345 }) (fun t5_y=>K (Ex.exit 0) { env:=[(1,.ptr 0 0),(5,.int .i64 t5_y)],stk:=[[]],H:=[.cells [.int .i64 o0_0,.int .i64 o0_1,.int .i64 o0_2,.int .i64 o0_3,.int .i64 o0_4,.int .i64 o0_5,.int .i64 o0_6,.ro (.st (.pair (.int .i64) (.pair (.pair (.int .i64) (.int .i64)) (.pair .str (.pair (.pair (.pair (.int .i64) (.int .i64)) .str) (.pair (.pair (.int .i64) (.int .i64)) .str)))))) o0_7,.ro .bool o0_8]],blk:=57344 }))
def qR {β:Type}:JJ→qQ→(qQ→Option β)→(zsX→Option β)→Option β:=fun (t32,t33,o0_0,o0_1,o0_2,o0_3,o0_4,o0_5,o0_6,o0_7,o0_8) (t5,t34) next exit=>(bif decide (t34<t33) then (za (Wg (t5,t32,t33,t34,o0_0,o0_1,o0_2,o0_3,o0_4,o0_5,o0_6,o0_7,o0_8)) (Sum.elim (fun t2=>(exit (Sum.inl (t2)))) (fun t5_2=>(next (t5_2,IntKind.wrap .i64 (t34+(1:Int))))))) else (exit (Sum.inr (t5))))
def yS (i:JJ) (v:qQ):Option (qQ ⊕ zsX):=qR i v (fun v=>some (.inl v)) (fun y=>some (.inr y))
theorem zEp (i:JJ) (v:qQ) (next:qQ→Ans) (exit:zsX→Ans):qR i v next exit=za (yS i v) (Sum.elim next exit):=by
  obtain ⟨t32,t33,o0_0,o0_1,o0_2,o0_3,o0_4,o0_5,o0_6,o0_7,o0_8⟩:=i
  obtain ⟨t5,t34⟩:=v
  simp only [yS,qR,zj,zh,zl,zc,zi,zm,zg,Sum.elim_inl,Sum.elim_inr]
theorem zKv (n:Nat) (i:JJ) (v:qQ) (K:Ex→St→Ans):zx Tryz.tab zbR zd (zy Tryz.tab zbR zd 0 64) (n+1) 55 zly (.loop zmA) (zD 0 (exk [1,5] [2] [(0,[1,5])]) K) (zuf i v)=qR i v (fun v'=>zx Tryz.tab zbR zd (zy Tryz.tab zbR zd 0 64) n 55 zly (.loop zmA) (zD 0 (exk [1,5] [2] [(0,[1,5])]) K) (zuf i v')) (fun y=>zrb i K y):=by kernel_rfl
theorem zTk:zw Tryz.prog 55 (.loop zmA) (Zr zrU yS zrb):=Zj mixed tabOk zo7 0 (exk [1,5] [2] [(0,[1,5])]) zIv zOW zKv zEp
noncomputable def z2o:(Ex→St→Ans)→St→Ans:=(Zr zrU yS zrb)
theorem z3Q:zw Tryz.prog 55 (.loop zmA) z2o:=zTk
noncomputable def zti:Code:=zF [1,1,0,1,0] bq6
noncomputable def zDr:Ann := .none
theorem zMz:zq Tryz.prog 55 zti zDr:=(zb _ _ _)
abbrev zaC:=(Int)×(Int)×(Int)×(Int)×(Int)×(Int)×(Int)×(Int)×(List (Int×(Int×Int)×List UInt8×((Int×Int)×List UInt8)×(Int×Int)×List UInt8))×(List Bool)
abbrev zw6:=(Bool)
def zJ5:zaC→St:=fun (t4,o0_0,o0_1,o0_2,o0_3,o0_4,o0_5,o0_6,o0_7,o0_8)=>{ env:=[(1,.ptr 0 0),(4,.int .i64 t4)],stk:=[[]],H:=[.cells [.int .i64 o0_0,.int .i64 o0_1,.int .i64 o0_2,.int .i64 o0_3,.int .i64 o0_4,.int .i64 o0_5,.int .i64 o0_6,.ro (.st (.pair (.int .i64) (.pair (.pair (.int .i64) (.int .i64)) (.pair .str (.pair (.pair (.pair (.int .i64) (.int .i64)) .str) (.pair (.pair (.int .i64) (.int .i64)) .str)))))) o0_7,.ro .bool o0_8]],blk:=57344 }
def zDs (s:St):Option {x:zaC // s=zJ5 x}:=match s with
  | { env:=[(1,.ptr 0 0),(4,.int .i64 t4)],stk:=[[]],H:=[.cells [.int .i64 o0_0,.int .i64 o0_1,.int .i64 o0_2,.int .i64 o0_3,.int .i64 o0_4,.int .i64 o0_5,.int .i64 o0_6,.ro (.st (.pair (.int .i64) (.pair (.pair (.int .i64) (.int .i64)) (.pair .str (.pair (.pair (.pair (.int .i64) (.int .i64)) .str) (.pair (.pair (.int .i64) (.int .i64)) .str)))))) o0_7,.ro .bool o0_8]],blk:=57344 }=>some ⟨(t4,o0_0,o0_1,o0_2,o0_3,o0_4,o0_5,o0_6,o0_7,o0_8),rfl⟩
  | _=>none
def zrA (s:St):Option zaC:=pk (zDs s)
theorem zOo (s:St) (x:zaC) (h:zrA s=some x):s=zJ5 x:=zt (o:=zDs s) h
def zrG:zaC→(Ex→St→Ans)→zw6→Ans:=fun (t4,o0_0,o0_1,o0_2,o0_3,o0_4,o0_5,o0_6,o0_7,o0_8) K=>fun t30_y=>K (Ex.norm) { env:=[(1,.ptr 0 0),(30,.bool t30_y)],stk:=[[]],H:=[.cells [.int .i64 o0_0,.int .i64 o0_1,.int .i64 o0_2,.int .i64 o0_3,.int .i64 o0_4,.int .i64 o0_5,.int .i64 o0_6,.ro (.st (.pair (.int .i64) (.pair (.pair (.int .i64) (.int .i64)) (.pair .str (.pair (.pair (.pair (.int .i64) (.int .i64)) .str) (.pair (.pair (.int .i64) (.int .i64)) .str)))))) o0_7,.ro .bool o0_8]],blk:=57344 }
def zb1 {β:Type}:zaC→(zw6→Option β)→Option β:=fun (t4,o0_0,o0_1,o0_2,o0_3,o0_4,o0_5,o0_6,o0_7,o0_8) exit=>(bif (↑(List.length o0_7):Int) != t4 then (exit (true)) else (exit ((↑(List.length o0_8):Int) != t4)))
def Q0 (i:zaC):Option zw6:=zb1 i some
theorem zDw (i:zaC) (k:zw6→Ans):zb1 i k=za (Q0 i) k:=by
  obtain ⟨t4,o0_0,o0_1,o0_2,o0_3,o0_4,o0_5,o0_6,o0_7,o0_8⟩:=i
  simp only [Q0,zb1,zj,zh,zl,zc,zi,zm,zg]
theorem zHH (i:zaC) (K:Ex→St→Ans):zx Tryz.tab zbR zd (zy Tryz.tab zbR zd 0 64) 70 55 zDr zti (zD 0 (exk [1,30] [2] []) K) (zJ5 i)=zb1 i (zrG i K):=by kernel_rfl
theorem zXS:zw Tryz.prog 55 zti (zH zrA Q0 zrG):=zE mixed tabOk zo7 0 (exk [1,30] [2] []) zMz zOo zHH zDw
noncomputable def zZU:(Ex→St→Ans)→St→Ans:=(zH zrA Q0 zrG)
theorem z0z:zw Tryz.prog 55 zti zZU:=zXS
noncomputable def z71:Ann:=(.seq .none (.seq .none (.seq (.seq .none (.seq (.cut 0 [1,4] zZU) .none)) (.seq .none (.seq (.seq .none (.block (.cut 0 [1,5,32,33,34] z2o))) .none)))))
theorem z4F:zq Tryz.prog 55 bq6 z71:=⟨(zb _ _ _),⟨(zb _ _ _),⟨⟨(zb _ _ _),⟨z0z,(zb _ _ _)⟩⟩,⟨(zb _ _ _),⟨⟨(zb _ _ _),z3Q⟩,(zb _ _ _)⟩⟩⟩⟩⟩
abbrev Aq6:=(Int)×(Int)×(Int)×(Int)×(Int)×(Int)×(Int)×(List (Int×(Int×Int)×List UInt8×((Int×Int)×List UInt8)×(Int×Int)×List UInt8))×(List Bool)
abbrev Yq6:=(Int)
def zLo {β:Type}:Aq6→(Yq6→Option β)→Option β:=fun (a0_0,a0_1,a0_2,a0_3,a0_4,a0_5,a0_6,a0_7,a0_8) exit=>(za (zd5 (a0_0,a0_1,a0_2,a0_3,a0_4,a0_5,a0_6)) fun r=>(bif r != (0:Int) then (exit (r)) else (za (Q0 (a0_4,a0_0,a0_1,a0_2,a0_3,a0_4,a0_5,a0_6,a0_7,a0_8)) fun t30=>(bif t30 then (exit ((12:Int))) else (za (zP (yS (a0_7,(↑(List.length a0_7):Int),a0_0,a0_1,a0_2,a0_3,a0_4,a0_5,a0_6,a0_7,a0_8)) zZ ((0:Int),(0:Int))) (Sum.elim (fun t2=>(exit (t2))) (fun t5=>(bif decide (t5>a0_5) then (exit ((16:Int))) else (exit ((0:Int)))))))))))
def zc9 (a:Aq6):Option Yq6:=zLo a some
theorem z4I (a:Aq6) (k:Yq6→Ans):zLo a k=za (zc9 a) k:=by
  obtain ⟨a0_0,a0_1,a0_2,a0_3,a0_4,a0_5,a0_6,a0_7,a0_8⟩:=a
  simp only [zc9,zLo,zj,zh,zl,zc,zi,zm,zg]
def zLK:Aq6→List AV:=fun (a0_0,a0_1,a0_2,a0_3,a0_4,a0_5,a0_6,a0_7,a0_8)=>[.agg [.int .i64 a0_0,.int .i64 a0_1,.int .i64 a0_2,.int .i64 a0_3,.int .i64 a0_4,.int .i64 a0_5,.int .i64 a0_6,.ro (.st (.pair (.int .i64) (.pair (.pair (.int .i64) (.int .i64)) (.pair .str (.pair (.pair (.pair (.int .i64) (.int .i64)) .str) (.pair (.pair (.int .i64) (.int .i64)) .str)))))) a0_7,.ro .bool a0_8]]
def zPl (l:List AV):Option {a:Aq6 // l=zLK a}:=match l with
  | [.agg [.int .i64 a0_0,.int .i64 a0_1,.int .i64 a0_2,.int .i64 a0_3,.int .i64 a0_4,.int .i64 a0_5,.int .i64 a0_6,.ro (.st (.pair (.int .i64) (.pair (.pair (.int .i64) (.int .i64)) (.pair .str (.pair (.pair (.pair (.int .i64) (.int .i64)) .str) (.pair (.pair (.int .i64) (.int .i64)) .str)))))) a0_7,.ro .bool a0_8]]=>some ⟨(a0_0,a0_1,a0_2,a0_3,a0_4,a0_5,a0_6,a0_7,a0_8),rfl⟩
  | _=>none
def z3s (l:List AV):Option Aq6:=pk (zPl l)
theorem z2c (l:List AV) (a:Aq6) (h:z3s l=some a):l=zLK a:=zt (o:=zPl l) h
def zIJ:Aq6→Yq6→AV:=fun (a0_0,a0_1,a0_2,a0_3,a0_4,a0_5,a0_6,a0_7,a0_8)=>fun r_y => .int .i64 r_y
theorem z0j : ∀(a:Aq6) (y:Yq6),(zIJ a y).closed1=true:=by
  rintro ⟨a0_0,a0_1,a0_2,a0_3,a0_4,a0_5,a0_6,a0_7,a0_8⟩ y <;> first | rfl | exact Empty.elim y
theorem z9q (a:Aq6):fnE Tryz.tab zbR zd 0 70 14 Tryz.f14.ntmps Tryz.f14.results.toList z71 bq6 (zLK a) [] (fun v _=>some (v,[]))=zLo a (fun y=>some (zIJ a y,[])):=by kernel_rfl
def Zdb (a:Aq6) (K:AV→Ans):Ans:=za (zc9 a) fun y=>K (zIJ a y)
def Fq6:List AV→(AV→Ans)→Ans:=fun l K=>za (z3s l) fun a=>Zdb a K
theorem zwW:zM Tryz.prog 14 Fq6:=zL (hint:=zd) (d:=0) (n:=70) mixed tabOk zo7 Tryz.func14 (zC (by kernel_rfl)) (by decide +kernel) z4F z2c z9q z4I z0j
--@ dump_Get
noncomputable def zfl:Env:=[(19,.func z4S),(20,.pure z4R),(21,.func ZaH),(22,.pure zTm),(14,.pure Fq6)]
theorem zAQ:zf Tryz.prog zfl:=zf.cons zSg (zf.cons zPS (zf.cons z8b (zf.cons zCO (zf.cons zwW (zf.nil)))))
noncomputable def bq7:Code:=Tryz.f7.body.getD .skip
noncomputable def zjE:Code:=zF [1,1,1,1,1,1,1,0,1,0,0] bq7
noncomputable def zkI:Ann := .at 0 [0,2,4,5,6,8,51,52,53] (.loop .none)
theorem zKy:zq Tryz.prog 83 (.loop zjE) zkI:=Zp (zb _ _ _)
abbrev zbh:=(List (List UInt8))×(Int)×(Nat)×(Int)×(Int)×(Int)×(Int)×(Int)×(Int)×(Int)×(Int)×(List (List UInt8))
abbrev ztC:=((Int)) ⊕ ((List (Int×(Int×Int)×List UInt8×((Int×Int)×List UInt8)×(Int×Int)×List UInt8))×(List Bool))
abbrev qI:=(Int)×(List (Int×(Int×Int)×List UInt8×((Int×Int)×List UInt8)×(Int×Int)×List UInt8))×(List Bool)
def zuc:zbh→qI→St:=fun (t0,t8,t51_2,t52,o2_0,o2_1,o2_2,o2_3,o2_4,o2_5,o2_6,o3) (t53,o8,o9)=>{ env:=[(0,.ro .str t0),(2,.ptr 0 0),(4,.ptr 1 0),(5,.ptr 2 0),(6,.own 3),(8,.int .i64 t8),(51,.sub 3 (1) t51_2 1),(52,.int .i64 t52),(53,.int .i64 t53)],stk:=[[]],H:=[.cells [.int .i64 (0),.int .i64 (0),.int .i64 (0),.int .i64 (0),.int .i64 (0),.int .i64 (0),.int .i64 (0),.own 4,.own 5],.cells [.int .i64 (0),.int .i64 (0),.int .i64 (0),.int .i64 (0),.int .i64 (0),.int .i64 (0),.int .i64 (0),.own 6,.own 7],.cells [.int .i64 o2_0,.int .i64 o2_1,.int .i64 o2_2,.int .i64 o2_3,.int .i64 o2_4,.int .i64 o2_5,.int .i64 o2_6,.own 8,.own 9],.arr .str o3,.arr (.st (.pair (.int .i64) (.pair (.pair (.int .i64) (.int .i64)) (.pair .str (.pair (.pair (.pair (.int .i64) (.int .i64)) .str) (.pair (.pair (.int .i64) (.int .i64)) .str)))))) ([]),.arr .bool ([]),.arr (.st (.pair (.int .i64) (.pair (.pair (.int .i64) (.int .i64)) (.pair .str (.pair (.pair (.pair (.int .i64) (.int .i64)) .str) (.pair (.pair (.int .i64) (.int .i64)) .str)))))) ([]),.arr .bool ([]),.arr (.st (.pair (.int .i64) (.pair (.pair (.int .i64) (.int .i64)) (.pair .str (.pair (.pair (.pair (.int .i64) (.int .i64)) .str) (.pair (.pair (.int .i64) (.int .i64)) .str)))))) o8,.arr .bool o9],blk:=28672 }
def zDd (s:St):Option {x:zbh×qI // s=zuc x.1 x.2}:=match s with
  | { env:=[(0,.ro .str t0),(2,.ptr 0 0),(4,.ptr 1 0),(5,.ptr 2 0),(6,.own 3),(8,.int .i64 t8),(51,.sub 3 r2 t51_2 1),(52,.int .i64 t52),(53,.int .i64 t53)],stk:=[[]],H:=[.cells [.int .i64 r6,.int .i64 r7,.int .i64 r8,.int .i64 r9,.int .i64 r10,.int .i64 r11,.int .i64 r12,.own 4,.own 5],.cells [.int .i64 r13,.int .i64 r14,.int .i64 r15,.int .i64 r16,.int .i64 r17,.int .i64 r18,.int .i64 r19,.own 6,.own 7],.cells [.int .i64 o2_0,.int .i64 o2_1,.int .i64 o2_2,.int .i64 o2_3,.int .i64 o2_4,.int .i64 o2_5,.int .i64 o2_6,.own 8,.own 9],.arr .str o3,.arr (.st (.pair (.int .i64) (.pair (.pair (.int .i64) (.int .i64)) (.pair .str (.pair (.pair (.pair (.int .i64) (.int .i64)) .str) (.pair (.pair (.int .i64) (.int .i64)) .str)))))) r28,.arr .bool r29,.arr (.st (.pair (.int .i64) (.pair (.pair (.int .i64) (.int .i64)) (.pair .str (.pair (.pair (.pair (.int .i64) (.int .i64)) .str) (.pair (.pair (.int .i64) (.int .i64)) .str)))))) r30,.arr .bool r31,.arr (.st (.pair (.int .i64) (.pair (.pair (.int .i64) (.int .i64)) (.pair .str (.pair (.pair (.pair (.int .i64) (.int .i64)) .str) (.pair (.pair (.int .i64) (.int .i64)) .str)))))) o8,.arr .bool o9],blk:=28672 }=>if h2:r2=1 then if h6:r6=0 then if h7:r7=0 then if h8:r8=0 then if h9:r9=0 then if h10:r10=0 then if h11:r11=0 then if h12:r12=0 then if h13:r13=0 then if h14:r14=0 then if h15:r15=0 then if h16:r16=0 then if h17:r17=0 then if h18:r18=0 then if h19:r19=0 then if h28:r28=[] then if h29:r29=[] then if h30:r30=[] then if h31:r31=[] then some ⟨((t0,t8,t51_2,t52,o2_0,o2_1,o2_2,o2_3,o2_4,o2_5,o2_6,o3),(t53,o8,o9)),by subst h2 h6 h7 h8 h9 h10 h11 h12 h13 h14 h15 h16 h17 h18 h19 h28 h29 h30 h31;rfl⟩ else none else none else none else none else none else none else none else none else none else none else none else none else none else none else none else none else none else none else none
  | _=>none
def zrW (s:St):Option (zbh×qI):=pk (zDd s)
theorem zOO (s:St) (x:zbh×qI) (h:zrW s=some x):s=zuc x.1 x.2:=zt (o:=zDd s) h
def zrh:zbh→(Ex→St→Ans)→ztC→Ans:=fun (t0,t8,t51_2,t52,o2_0,o2_1,o2_2,o2_3,o2_4,o2_5,o2_6,o3) K=>(Sum.elim (fun t3_y=>K (Ex.ret) { env:=[(2,.ptr 0 0),(3,.int .i64 t3_y)],stk:=[[]],H:=[.cells [.int .i64 (0),.int .i64 (0),.int .i64 (0),.int .i64 (0),.int .i64 (0),.int .i64 (0),.int .i64 (0),.own 1,.own 2],.arr (.st (.pair (.int .i64) (.pair (.pair (.int .i64) (.int .i64)) (.pair .str (.pair (.pair (.pair (.int .i64) (.int .i64)) .str) (.pair (.pair (.int .i64) (.int .i64)) .str)))))) ([]),.arr .bool ([])],blk:=28673 }) (unP fun o8_y o9_y=>K (Ex.exit 0) { env:=[(0,.ro .str t0),(2,.ptr 0 0),(4,.ptr 1 0),(5,.ptr 2 0),(6,.own 3),(8,.int .i64 t8)],stk:=[[]],H:=[.cells [.int .i64 (0),.int .i64 (0),.int .i64 (0),.int .i64 (0),.int .i64 (0),.int .i64 (0),.int .i64 (0),.own 4,.own 5],.cells [.int .i64 (0),.int .i64 (0),.int .i64 (0),.int .i64 (0),.int .i64 (0),.int .i64 (0),.int .i64 (0),.own 6,.own 7],.cells [.int .i64 o2_0,.int .i64 o2_1,.int .i64 o2_2,.int .i64 o2_3,.int .i64 o2_4,.int .i64 o2_5,.int .i64 o2_6,.own 8,.own 9],.arr .str o3,.arr (.st (.pair (.int .i64) (.pair (.pair (.int .i64) (.int .i64)) (.pair .str (.pair (.pair (.pair (.int .i64) (.int .i64)) .str) (.pair (.pair (.int .i64) (.int .i64)) .str)))))) ([]),.arr .bool ([]),.arr (.st (.pair (.int .i64) (.pair (.pair (.int .i64) (.int .i64)) (.pair .str (.pair (.pair (.pair (.int .i64) (.int .i64)) .str) (.pair (.pair (.int .i64) (.int .i64)) .str)))))) ([]),.arr .bool ([]),.arr (.st (.pair (.int .i64) (.pair (.pair (.int .i64) (.int .i64)) (.pair .str (.pair (.pair (.pair (.int .i64) (.int .i64)) .str) (.pair (.pair (.int .i64) (.int .i64)) .str)))))) o8_y,.arr .bool o9_y],blk:=28672 }))
def JB {β:Type}:zbh→qI→(qI→Option β)→(ztC→Option β)→Option β:=fun (t0,t8,t51_2,t52,o2_0,o2_1,o2_2,o2_3,o2_4,o2_5,o2_6,o3) (t53,o8,o9) next exit=>(bif decide (t53<t52) then (bif inR t53 t51_2 then (za (o3[nat_lit 1+Int.toNat t53]?) fun x=>(za (zes (t53,x,o2_0,o2_1,o2_2,o2_3,o2_4,o2_5,o2_6,o8,o9)) (unP fun r=>unP fun o1 o2=>(bif r != (0:Int) then (exit (Sum.inl (r))) else (next (IntKind.wrap .i64 (t53+(1:Int)),o1,o2)))))) else none) else (exit (Sum.inr (o8,o9))))
def Yi (i:zbh) (v:qI):Option (qI ⊕ ztC):=JB i v (fun v=>some (.inl v)) (fun y=>some (.inr y))
theorem zEK (i:zbh) (v:qI) (next:qI→Ans) (exit:ztC→Ans):JB i v next exit=za (Yi i v) (Sum.elim next exit):=by
  obtain ⟨t0,t8,t51_2,t52,o2_0,o2_1,o2_2,o2_3,o2_4,o2_5,o2_6,o3⟩:=i
  obtain ⟨t53,o8,o9⟩:=v
  simp only [Yi,JB,zj,zh,zl,zc,zi,zm,zg,Sum.elim_inl,Sum.elim_inr]
theorem zK3 (n:Nat) (i:zbh) (v:qI) (K:Ex→St→Ans):zx Tryz.tab zfl zd (zy Tryz.tab zfl zd 0 64) (n+1) 83 zkI (.loop zjE) (zD 0 (exk [0,2,4,5,6,8] [2,3] [(0,[0,2,4,5,6,8])]) K) (zuc i v)=JB i v (fun v'=>zx Tryz.tab zfl zd (zy Tryz.tab zfl zd 0 64) n 83 zkI (.loop zjE) (zD 0 (exk [0,2,4,5,6,8] [2,3] [(0,[0,2,4,5,6,8])]) K) (zuc i v')) (fun y=>zrh i K y):=by kernel_rfl
theorem zSK:zw Tryz.prog 83 (.loop zjE) (Zr zrW Yi zrh):=Zj mixed tabOk zAQ 0 (exk [0,2,4,5,6,8] [2,3] [(0,[0,2,4,5,6,8])]) zKy zOO zK3 zEK
noncomputable def zZr:(Ex→St→Ans)→St→Ans:=(Zr zrW Yi zrh)
theorem z0T:zw Tryz.prog 83 (.loop zjE) zZr:=zSK
noncomputable def zu1:Code:=zF [1,1,1,1,1,1,0,1,0] bq7
noncomputable def zC5:Ann := .none
theorem zHq:zq Tryz.prog 83 zu1 zC5:=(zb _ _ _)
abbrev zaG:=(List (List UInt8))×(Int)×(Int)×(Int)×(Int)×(Int)×(Int)×(Int)×(Int)×(Int)×(List (List UInt8))
abbrev zuH:=(Bool)
def zLB:zaG→St:=fun (t0,t7,t8,o2_0,o2_1,o2_2,o2_3,o2_4,o2_5,o2_6,o3)=>{ env:=[(0,.ro .str t0),(2,.ptr 0 0),(4,.ptr 1 0),(5,.ptr 2 0),(6,.own 3),(7,.int .i64 t7),(8,.int .i64 t8)],stk:=[[]],H:=[.cells [.int .i64 (0),.int .i64 (0),.int .i64 (0),.int .i64 (0),.int .i64 (0),.int .i64 (0),.int .i64 (0),.own 4,.own 5],.cells [.int .i64 (0),.int .i64 (0),.int .i64 (0),.int .i64 (0),.int .i64 (0),.int .i64 (0),.int .i64 (0),.own 6,.own 7],.cells [.int .i64 o2_0,.int .i64 o2_1,.int .i64 o2_2,.int .i64 o2_3,.int .i64 o2_4,.int .i64 o2_5,.int .i64 o2_6,.own 8,.own 9],.arr .str o3,.arr (.st (.pair (.int .i64) (.pair (.pair (.int .i64) (.int .i64)) (.pair .str (.pair (.pair (.pair (.int .i64) (.int .i64)) .str) (.pair (.pair (.int .i64) (.int .i64)) .str)))))) ([]),.arr .bool ([]),.arr (.st (.pair (.int .i64) (.pair (.pair (.int .i64) (.int .i64)) (.pair .str (.pair (.pair (.pair (.int .i64) (.int .i64)) .str) (.pair (.pair (.int .i64) (.int .i64)) .str)))))) ([]),.arr .bool ([]),.arr (.st (.pair (.int .i64) (.pair (.pair (.int .i64) (.int .i64)) (.pair .str (.pair (.pair (.pair (.int .i64) (.int .i64)) .str) (.pair (.pair (.int .i64) (.int .i64)) .str)))))) ([]),.arr .bool ([])],blk:=28672 }
def zCY (s:St):Option {x:zaG // s=zLB x}:=match s with
  | { env:=[(0,.ro .str t0),(2,.ptr 0 0),(4,.ptr 1 0),(5,.ptr 2 0),(6,.own 3),(7,.int .i64 t7),(8,.int .i64 t8)],stk:=[[]],H:=[.cells [.int .i64 r3,.int .i64 r4,.int .i64 r5,.int .i64 r6,.int .i64 r7,.int .i64 r8,.int .i64 r9,.own 4,.own 5],.cells [.int .i64 r10,.int .i64 r11,.int .i64 r12,.int .i64 r13,.int .i64 r14,.int .i64 r15,.int .i64 r16,.own 6,.own 7],.cells [.int .i64 o2_0,.int .i64 o2_1,.int .i64 o2_2,.int .i64 o2_3,.int .i64 o2_4,.int .i64 o2_5,.int .i64 o2_6,.own 8,.own 9],.arr .str o3,.arr (.st (.pair (.int .i64) (.pair (.pair (.int .i64) (.int .i64)) (.pair .str (.pair (.pair (.pair (.int .i64) (.int .i64)) .str) (.pair (.pair (.int .i64) (.int .i64)) .str)))))) r25,.arr .bool r26,.arr (.st (.pair (.int .i64) (.pair (.pair (.int .i64) (.int .i64)) (.pair .str (.pair (.pair (.pair (.int .i64) (.int .i64)) .str) (.pair (.pair (.int .i64) (.int .i64)) .str)))))) r27,.arr .bool r28,.arr (.st (.pair (.int .i64) (.pair (.pair (.int .i64) (.int .i64)) (.pair .str (.pair (.pair (.pair (.int .i64) (.int .i64)) .str) (.pair (.pair (.int .i64) (.int .i64)) .str)))))) r29,.arr .bool r30],blk:=28672 }=>if h3:r3=0 then if h4:r4=0 then if h5:r5=0 then if h6:r6=0 then if h7:r7=0 then if h8:r8=0 then if h9:r9=0 then if h10:r10=0 then if h11:r11=0 then if h12:r12=0 then if h13:r13=0 then if h14:r14=0 then if h15:r15=0 then if h16:r16=0 then if h25:r25=[] then if h26:r26=[] then if h27:r27=[] then if h28:r28=[] then if h29:r29=[] then if h30:r30=[] then some ⟨(t0,t7,t8,o2_0,o2_1,o2_2,o2_3,o2_4,o2_5,o2_6,o3),by subst h3 h4 h5 h6 h7 h8 h9 h10 h11 h12 h13 h14 h15 h16 h25 h26 h27 h28 h29 h30;rfl⟩ else none else none else none else none else none else none else none else none else none else none else none else none else none else none else none else none else none else none else none else none
  | _=>none
def zqY (s:St):Option zaG:=pk (zCY s)
theorem zOL (s:St) (x:zaG) (h:zqY s=some x):s=zLB x:=zt (o:=zCY s) h
def zrf:zaG→(Ex→St→Ans)→zuH→Ans:=fun (t0,t7,t8,o2_0,o2_1,o2_2,o2_3,o2_4,o2_5,o2_6,o3) K=>fun t47_y=>K (Ex.norm) { env:=[(0,.ro .str t0),(2,.ptr 0 0),(4,.ptr 1 0),(5,.ptr 2 0),(6,.own 3),(8,.int .i64 t8),(47,.bool t47_y)],stk:=[[]],H:=[.cells [.int .i64 (0),.int .i64 (0),.int .i64 (0),.int .i64 (0),.int .i64 (0),.int .i64 (0),.int .i64 (0),.own 4,.own 5],.cells [.int .i64 (0),.int .i64 (0),.int .i64 (0),.int .i64 (0),.int .i64 (0),.int .i64 (0),.int .i64 (0),.own 6,.own 7],.cells [.int .i64 o2_0,.int .i64 o2_1,.int .i64 o2_2,.int .i64 o2_3,.int .i64 o2_4,.int .i64 o2_5,.int .i64 o2_6,.own 8,.own 9],.arr .str o3,.arr (.st (.pair (.int .i64) (.pair (.pair (.int .i64) (.int .i64)) (.pair .str (.pair (.pair (.pair (.int .i64) (.int .i64)) .str) (.pair (.pair (.int .i64) (.int .i64)) .str)))))) ([]),.arr .bool ([]),.arr (.st (.pair (.int .i64) (.pair (.pair (.int .i64) (.int .i64)) (.pair .str (.pair (.pair (.pair (.int .i64) (.int .i64)) .str) (.pair (.pair (.int .i64) (.int .i64)) .str)))))) ([]),.arr .bool ([]),.arr (.st (.pair (.int .i64) (.pair (.pair (.int .i64) (.int .i64)) (.pair .str (.pair (.pair (.pair (.int .i64) (.int .i64)) .str) (.pair (.pair (.int .i64) (.int .i64)) .str)))))) ([]),.arr .bool ([])],blk:=28672 }
def zcm {β:Type}:zaG→(zuH→Option β)→Option β:=fun (t0,t7,t8,o2_0,o2_1,o2_2,o2_3,o2_4,o2_5,o2_6,o3) exit=>(bif t7 != (0:Int) then (exit (true)) else (exit (o2_4 != IntKind.wrap .i64 (t8 - (1:Int)))))
def Q5 (i:zaG):Option zuH:=zcm i some
theorem zGP (i:zaG) (k:zuH→Ans):zcm i k=za (Q5 i) k:=by
  obtain ⟨t0,t7,t8,o2_0,o2_1,o2_2,o2_3,o2_4,o2_5,o2_6,o3⟩:=i
  simp only [Q5,zcm,zj,zh,zl,zc,zi,zm,zg]
theorem zIk (i:zaG) (K:Ex→St→Ans):zx Tryz.tab zfl zd (zy Tryz.tab zfl zd 0 64) 70 83 zC5 zu1 (zD 0 (exk [0,2,4,5,6,8,47] [2,3] []) K) (zLB i)=zcm i (zrf i K):=by kernel_rfl
theorem zSE:zw Tryz.prog 83 zu1 (zH zqY Q5 zrf):=zE mixed tabOk zAQ 0 (exk [0,2,4,5,6,8,47] [2,3] []) zHq zOL zIk zGP
noncomputable def z1e:(Ex→St→Ans)→St→Ans:=(zH zqY Q5 zrf)
theorem z0K:zw Tryz.prog 83 zu1 z1e:=zSE
noncomputable def z7L:Ann:=(.seq .none (.seq .none (.seq .none (.seq .none (.seq .none (.seq .none (.seq (.seq .none (.seq (.cut 0 [0,2,4,5,6,7,8] z1e) .none)) (.seq (.seq .none (.block (.cut 0 [0,2,4,5,6,8,51,52,53] zZr))) .none))))))))
theorem z4g:zq Tryz.prog 83 bq7 z7L:=⟨(zb _ _ _),⟨(zb _ _ _),⟨(zb _ _ _),⟨(zb _ _ _),⟨(zb _ _ _),⟨(zb _ _ _),⟨⟨(zb _ _ _),⟨z0K,(zb _ _ _)⟩⟩,⟨⟨(zb _ _ _),z0T⟩,(zb _ _ _)⟩⟩⟩⟩⟩⟩⟩⟩
abbrev Aq7:=(List (List UInt8))
abbrev Yq7:=(Int)×(Int)×(Int)×(Int)×(Int)×(Int)×(Int)×(Int)×(List (Int×(Int×Int)×List UInt8×((Int×Int)×List UInt8)×(Int×Int)×List UInt8))×(List Bool)
def zMF {β:Type}:Aq7→(Yq7→Option β)→Option β:=fun a0 exit=>(bif decide ((↑(List.length a0):Int)<(2:Int)) then (exit ((0:Int),(0:Int),(0:Int),(0:Int),(0:Int),(0:Int),(0:Int),(1:Int),[],[])) else (za (zgE (a0)) (unP fun r_1 o0=>(bif r_1 != (0:Int) then (exit ((0:Int),(0:Int),(0:Int),(0:Int),(0:Int),(0:Int),(0:Int),r_1,[],[])) else (bif inR (0:Int) (List.length o0) then (za (o0[(0:Nat)]?) fun x=>(za (zge (x)) (unP fun r_0_0=>unP fun r_0_1=>unP fun r_0_2=>unP fun r_0_3=>unP fun r_0_4=>unP fun r_0_5=>unP fun r_0_6 r_1_2=>(za (Q5 (a0,r_1_2,IntKind.wrap .i64 ((↑(List.length o0):Int) - (1:Int)),r_0_0,r_0_1,r_0_2,r_0_3,r_0_4,r_0_5,r_0_6,o0)) fun t47=>(bif t47 then (exit ((0:Int),(0:Int),(0:Int),(0:Int),(0:Int),(0:Int),(0:Int),(4:Int),[],[])) else (bif inR (IntKind.wrap .i64 ((↑(List.length o0):Int) - (1:Int))) (List.length o0+(1:Nat))&&inR (1:Int) (Int.toNat (IntKind.wrap .i64 ((↑(List.length o0):Int) - (1:Int)))+(1:Nat)) then (za (zP (Yi (a0,IntKind.wrap .i64 ((↑(List.length o0):Int) - (1:Int)),Int.toNat (IntKind.wrap .i64 ((↑(List.length o0):Int) - (1:Int))) - (1:Nat),(↑(Int.toNat (IntKind.wrap .i64 ((↑(List.length o0):Int) - (1:Int))) - (1:Nat)):Int),r_0_0,r_0_1,r_0_2,r_0_3,r_0_4,r_0_5,r_0_6,o0)) zZ ((0:Int),[],[])) (Sum.elim (fun t3=>(exit ((0:Int),(0:Int),(0:Int),(0:Int),(0:Int),(0:Int),(0:Int),t3,[],[]))) (unP fun o8 o9=>(bif inR (IntKind.wrap .i64 ((↑(List.length o0):Int) - (1:Int))) (List.length o0) then (za (o0[Int.toNat (IntKind.wrap .i64 ((↑(List.length o0):Int) - (1:Int)))]?) fun x_2=>(bif inR (IntKind.wrap .i64 ((↑(List.length o0):Int) - (1:Int))) (List.length a0+(1:Nat)) then (za (zds (List.take (Int.toNat (IntKind.wrap .i64 ((↑(List.length o0):Int) - (1:Int)))) a0)) fun r=>(bif !x_2 == r then (exit ((0:Int),(0:Int),(0:Int),(0:Int),(0:Int),(0:Int),(0:Int),(5:Int),[],[])) else (za (zc9 (r_0_0,r_0_1,r_0_2,r_0_3,r_0_4,r_0_5,r_0_6,o8,o9)) fun r_2=>(bif r_2 != (0:Int) then (exit ((0:Int),(0:Int),(0:Int),(0:Int),(0:Int),(0:Int),(0:Int),r_2,[],[])) else (exit (r_0_0,r_0_1,r_0_2,r_0_3,r_0_4,r_0_5,r_0_6,(0:Int),o8,o9)))))) else none)) else none)))) else none)))))) else none)))))
def zoF (a:Aq7):Option Yq7:=zMF a some
theorem z4O (a:Aq7) (k:Yq7→Ans):zMF a k=za (zoF a) k:=by
  obtain z:=a
  simp only [zoF,zMF,zj,zh,zl,zc,zi,zm,zg]
def zsp:Aq7→List AV×List AE.Obj:=fun a0=>([.ro .str a0],[])
def zR4 (l:List AV) (H:List AE.Obj):Option {a:Aq7 // (l,H)=zsp a}:=match l,H with
  | [.ro .str a0],[]=>some ⟨(a0),rfl⟩
  | _,_=>none
def zJl (l:List AV) (H:List AE.Obj):Option Aq7:=pk (zR4 l H)
theorem z2j (l:List AV) (H:List AE.Obj) (a:Aq7) (h:zJl l H=some a):(l,H)=zsp a:=zt (o:=zR4 l H) h
def z7W:Aq7→(AV→List AE.Obj→Ans)→Yq7→Ans:=fun a0 K=>unP fun r_0_0_y=>unP fun r_0_1_y=>unP fun r_0_2_y=>unP fun r_0_3_y=>unP fun r_0_4_y=>unP fun r_0_5_y=>unP fun r_0_6_y=>unP fun r_1_y=>unP fun o0_y o1_y=>K (.tup [.agg [.int .i64 r_0_0_y,.int .i64 r_0_1_y,.int .i64 r_0_2_y,.int .i64 r_0_3_y,.int .i64 r_0_4_y,.int .i64 r_0_5_y,.int .i64 r_0_6_y,.own 0,.own 1],.int .i64 r_1_y]) [.arr (.st (.pair (.int .i64) (.pair (.pair (.int .i64) (.int .i64)) (.pair .str (.pair (.pair (.pair (.int .i64) (.int .i64)) .str) (.pair (.pair (.int .i64) (.int .i64)) .str)))))) o0_y,.arr .bool o1_y]
theorem z8X (a:Aq7) (K:AV→List AE.Obj→Ans):fnE Tryz.tab zfl zd 0 70 7 Tryz.f7.ntmps Tryz.f7.results.toList z7L bq7 (zsp a).1 (zsp a).2 K=zMF a (z7W a K):=by kernel_rfl
def z9S (a:Aq7) (K:AV→List AE.Obj→Ans):Ans:=za (zoF a) fun y=>z7W a K y
def Fq7:List AV→List AE.Obj→(AV→List AE.Obj→Ans)→Ans:=fun l H K=>za (zJl l H) fun a=>z9S a K
theorem ZaW:zO Tryz.prog 7 Fq7:=ZK (hint:=zd) (d:=0) (n:=70) mixed tabOk zAQ Tryz.func7 (zC (by kernel_rfl)) (by decide +kernel) z4g z2j z8X z4O
--@ ref03_Of
noncomputable def Wz:Env:=[]
theorem zh9:zf Tryz.prog Wz:=zf.nil
noncomputable def zK7:Code:=Tryz.f102.body.getD .skip
noncomputable def zpl:Code:=zF [1,1,0,1,0,0,1,0,0,1,1,0,0,1,0] zK7
noncomputable def zuS:Ann := .none
theorem zDM:zq Tryz.prog 33 zpl zuS:=(zb _ _ _)
abbrev jo:=(List UInt8)×(Int)×(Int)×(Int)
abbrev zon:=(Int)
def zAP:jo→St:=fun (t0,t3,t4,t5)=>{ env:=[(0,.str t0),(3,.int .i64 t3),(4,.int .i64 t4),(5,.int .i64 t5)],stk:=[[]],H:=[],blk:=417794 }
def zwV (s:St):Option {x:jo // s=zAP x}:=match s with
  | { env:=[(0,.str t0),(3,.int .i64 t3),(4,.int .i64 t4),(5,.int .i64 t5)],stk:=[[]],H:=[],blk:=417794 }=>some ⟨(t0,t3,t4,t5),rfl⟩
  | _=>none
def zmY (s:St):Option jo:=pk (zwV s)
theorem zIG (s:St) (x:jo) (h:zmY s=some x):s=zAP x:=zt (o:=zwV s) h
def zj0:jo→(Ex→St→Ans)→zon→Ans:=fun (t0,t3,t4,t5) K=>fun t3_y=>K (Ex.norm) { env:=[(0,.str t0),(3,.int .i64 t3_y),(4,.int .i64 t4),(5,.int .i64 t5)],stk:=[[]],H:=[],blk:=417795 }
def zax {β:Type}:jo→(zon→Option β)→Option β:=fun (t0,t3,t4,t5) exit=>(bif Int.tmod t3 (2:Int) == (1:Int) then (exit (IntKind.wrap .i64 (↑(Int.toNat (IntKind.wrap .i64 (Int.tdiv t3 (2:Int)) % (18446744073709551616:Int)) ^^^ (3988292384:Nat)):Int))) else (exit (IntKind.wrap .i64 (Int.tdiv t3 (2:Int)))))
def wl (i:jo):Option zon:=zax i some
theorem zy5 (i:jo) (k:zon→Ans):zax i k=za (wl i) k:=by
  obtain ⟨t0,t3,t4,t5⟩:=i
  simp only [wl,zax,zj,zh,zl,zc,zi,zm,zg]
theorem zGc (i:jo) (K:Ex→St→Ans):zx Tryz.tab Wz zd (zy Tryz.tab Wz zd 0 64) 70 33 zuS zpl (zD 0 (exk [0,3,4,5] [2] []) K) (zAP i)=zax i (zj0 i K):=by kernel_rfl
theorem zOY:zw Tryz.prog 33 zpl (zH zmY wl zj0):=zE mixed tabOk zh9 0 (exk [0,3,4,5] [2] []) zDM zIG zGc zy5
noncomputable def zRz:(Ex→St→Ans)→St→Ans:=(zH zmY wl zj0)
theorem zUQ:zw Tryz.prog 33 zpl zRz:=zOY
noncomputable def zhA:Code:=zF [1,1,0,1,0,0,1,0,0,1,1,0,0] zK7
noncomputable def ziY:Ann := .at 0 [0,3,4,5] (.loop (.seq .none (.seq (.cut 0 [0,3,4,5] zRz) .none)))
theorem zFt:zq Tryz.prog 33 (.loop zhA) ziY:=Zp ⟨(zb _ _ _),⟨zUQ,(zb _ _ _)⟩⟩
abbrev jb:=(List UInt8)×(Int)
abbrev zpD:=(Int)
abbrev wV:=(Int)×(Int)
def zpm:jb→wV→St:=fun (t0,t4) (t3,t5)=>{ env:=[(0,.str t0),(3,.int .i64 t3),(4,.int .i64 t4),(5,.int .i64 t5)],stk:=[[]],H:=[],blk:=417794 }
def zsE (s:St):Option {x:jb×wV // s=zpm x.1 x.2}:=match s with
  | { env:=[(0,.str t0),(3,.int .i64 t3),(4,.int .i64 t4),(5,.int .i64 t5)],stk:=[[]],H:=[],blk:=417794 }=>some ⟨((t0,t4),(t3,t5)),rfl⟩
  | _=>none
def zmg (s:St):Option (jb×wV):=pk (zsE s)
theorem zIU (s:St) (x:jb×wV) (h:zmg s=some x):s=zpm x.1 x.2:=zt (o:=zsE s) h
def zko:jb→(Ex→St→Ans)→zpD→Ans:=fun (t0,t4) K=>fun t3_y=>K (Ex.exit 2) { env:=[(0,.str t0),(3,.int .i64 t3_y),(4,.int .i64 t4)],stk:=[[]],H:=[],blk:=417794 }
def je {β:Type}:jb→wV→(wV→Option β)→(zpD→Option β)→Option β:=fun (t0,t4) (t3,t5) next exit=>(bif decide (t5<(8:Int)) then (za (wl (t0,t3,t4,t5)) fun t3_2=>(next (t3_2,IntKind.wrap .i64 (t5+(1:Int))))) else (exit (t3)))
def yR (i:jb) (v:wV):Option (wV ⊕ zpD):=je i v (fun v=>some (.inl v)) (fun y=>some (.inr y))
theorem zy8 (i:jb) (v:wV) (next:wV→Ans) (exit:zpD→Ans):je i v next exit=za (yR i v) (Sum.elim next exit):=by
  obtain ⟨t0,t4⟩:=i
  obtain ⟨t3,t5⟩:=v
  simp only [yR,je,zj,zh,zl,zc,zi,zm,zg,Sum.elim_inl,Sum.elim_inr]
theorem zE1 (n:Nat) (i:jb) (v:wV) (K:Ex→St→Ans):zx Tryz.tab Wz zd (zy Tryz.tab Wz zd 0 64) (n+1) 33 ziY (.loop zhA) (zD 0 (exk [0,3,4] [2] [(2,[0,3,4])]) K) (zpm i v)=je i v (fun v'=>zx Tryz.tab Wz zd (zy Tryz.tab Wz zd 0 64) n 33 ziY (.loop zhA) (zD 0 (exk [0,3,4] [2] [(2,[0,3,4])]) K) (zpm i v')) (fun y=>zko i K y):=by kernel_rfl
theorem zOR:zw Tryz.prog 33 (.loop zhA) (Zr zmg yR zko):=Zj mixed tabOk zh9 0 (exk [0,3,4] [2] [(2,[0,3,4])]) zFt zIU zE1 zy8
noncomputable def zQx:(Ex→St→Ans)→St→Ans:=(Zr zmg yR zko)
theorem zUN:zw Tryz.prog 33 (.loop zhA) zQx:=zOR
noncomputable def zhl:Code:=zF [1,1,0,1,0,0] zK7
noncomputable def zio:Ann := .at 0 [0,3,4] (.loop (.seq .none (.seq (.block (.seq .none (.seq .none (.block (.cut 0 [0,3,4,5] zQx))))) .none)))
theorem zFp:zq Tryz.prog 33 (.loop zhl) zio:=Zp ⟨(zb _ _ _),⟨⟨(zb _ _ _),⟨(zb _ _ _),zUN⟩⟩,(zb _ _ _)⟩⟩
abbrev QX:=(List UInt8)
abbrev znT:=(Int)
abbrev wK:=(Int)×(Int)
def zpq:QX→wK→St:=fun t0 (t3,t4)=>{ env:=[(0,.str t0),(3,.int .i64 t3),(4,.int .i64 t4)],stk:=[[]],H:=[],blk:=417792 }
def zwH (s:St):Option {x:QX×wK // s=zpq x.1 x.2}:=match s with
  | { env:=[(0,.str t0),(3,.int .i64 t3),(4,.int .i64 t4)],stk:=[[]],H:=[],blk:=417792 }=>some ⟨(t0,(t3,t4)),rfl⟩
  | _=>none
def zjS (s:St):Option (QX×wK):=pk (zwH s)
theorem zKm (s:St) (x:QX×wK) (h:zjS s=some x):s=zpq x.1 x.2:=zt (o:=zwH s) h
def zk6:QX→(Ex→St→Ans)→znT→Ans:=fun t0 K=>fun t3_y=>K (Ex.exit 0) { env:=[(3,.int .i64 t3_y)],stk:=[[]],H:=[],blk:=417792 }
def jk {β:Type}:QX→wK→(wK→Option β)→(znT→Option β)→Option β:=fun t0 (t3,t4) next exit=>(bif decide (t4<(↑(List.length t0):Int)) then (za (nth t0 t4) fun x=>(za (zP (yR (t0,t4)) zZ (IntKind.wrap .i64 (↑(Int.toNat (t3 % (18446744073709551616:Int)) ^^^ Int.toNat (IntKind.wrap .i64 (↑(UInt8.toNat x):Int) % (18446744073709551616:Int))):Int),(0:Int))) fun t3_2=>(next (t3_2,IntKind.wrap .i64 (t4+(1:Int)))))) else (exit (t3)))
def y1 (i:QX) (v:wK):Option (wK ⊕ znT):=jk i v (fun v=>some (.inl v)) (fun y=>some (.inr y))
theorem zAb (i:QX) (v:wK) (next:wK→Ans) (exit:znT→Ans):jk i v next exit=za (y1 i v) (Sum.elim next exit):=by
  obtain z:=i
  obtain ⟨t3,t4⟩:=v
  simp only [y1,jk,zj,zh,zl,zc,zi,zm,zg,Sum.elim_inl,Sum.elim_inr]
theorem zEq (n:Nat) (i:QX) (v:wK) (K:Ex→St→Ans):zx Tryz.tab Wz zd (zy Tryz.tab Wz zd 0 64) (n+1) 33 zio (.loop zhl) (zD 0 (exk [3] [2] [(0,[3])]) K) (zpq i v)=jk i v (fun v'=>zx Tryz.tab Wz zd (zy Tryz.tab Wz zd 0 64) n 33 zio (.loop zhl) (zD 0 (exk [3] [2] [(0,[3])]) K) (zpq i v')) (fun y=>zk6 i K y):=by kernel_rfl
theorem zNt:zw Tryz.prog 33 (.loop zhl) (Zr zjS y1 zk6):=Zj mixed tabOk zh9 0 (exk [3] [2] [(0,[3])]) zFp zKm zEq zAb
noncomputable def zP9:(Ex→St→Ans)→St→Ans:=(Zr zjS y1 zk6)
theorem zWw:zw Tryz.prog 33 (.loop zhl) zP9:=zNt
noncomputable def z1l:Ann:=(.seq .none (.seq .none (.seq (.seq .none (.block (.cut 0 [0,3,4] zP9))) .none)))
theorem zZc:zq Tryz.prog 33 zK7 z1l:=⟨(zb _ _ _),⟨(zb _ _ _),⟨⟨(zb _ _ _),zWw⟩,(zb _ _ _)⟩⟩⟩
abbrev ze5:=(List UInt8)
abbrev zJx:=(Int)
def zw9 {β:Type}:ze5→(zJx→Option β)→Option β:=fun a0 exit=>(za (zP (y1 (a0)) zZ ((4294967295:Int),(0:Int))) fun t3=>(exit (IntKind.wrap .i64 (↑(Int.toNat (t3 % (18446744073709551616:Int)) ^^^ (4294967295:Nat)):Int))))
def zhx (a:ze5):Option zJx:=zw9 a some
theorem z0P (a:ze5) (k:zJx→Ans):zw9 a k=za (zhx a) k:=by
  obtain z:=a
  simp only [zhx,zw9,zj,zh,zl,zc,zi,zm,zg]
def zBW:ze5→List AV:=fun a0=>[.str a0]
def zJ9 (l:List AV):Option {a:ze5 // l=zBW a}:=match l with
  | [.str a0]=>some ⟨(a0),rfl⟩
  | _=>none
def zPx (l:List AV):Option ze5:=pk (zJ9 l)
theorem zXC (l:List AV) (a:ze5) (h:zPx l=some a):l=zBW a:=zt (o:=zJ9 l) h
def zBc:ze5→zJx→AV:=fun a0=>fun r_y => .int .i64 r_y
theorem zVC : ∀(a:ze5) (y:zJx),(zBc a y).closed1=true:=by
  rintro z y <;> first | rfl | exact Empty.elim y
theorem z5c (a:ze5):fnE Tryz.tab Wz zd 0 70 102 Tryz.f102.ntmps Tryz.f102.results.toList z1l zK7 (zBW a) [] (fun v _=>some (v,[]))=zw9 a (fun y=>some (zBc a y,[])):=by kernel_rfl
def ZbX (a:ze5) (K:AV→Ans):Ans:=za (zhx a) fun y=>K (zBc a y)
def z9K:List AV→(AV→Ans)→Ans:=fun l K=>za (zPx l) fun a=>ZbX a K
theorem z8q:zM Tryz.prog 102 z9K:=zL (hint:=zd) (d:=0) (n:=70) mixed tabOk zh9 Tryz.func102 (zC (by kernel_rfl)) (by decide +kernel) zZc zXC z5c z0P zVC
--@ ref03_Tail
noncomputable def zZO:Env:=[(102,.pure z9K)]
theorem z4m:zf Tryz.prog zZO:=zf.cons z8q (zf.nil)
noncomputable def z9J:Code:=Tryz.f60.body.getD .skip
noncomputable def zX8:Ann := .none
theorem z0q:zq Tryz.prog 23 z9J zX8:=(zb _ _ _)
abbrev zdw:=(List UInt8)
abbrev zIm:=(List UInt8)
def zw2 {β:Type}:zdw→(zIm→Option β)→Option β:=fun a0 exit=>(za (zhx (a0)) fun r=>(exit (Zl [IntKind.wrap .u8 (Int.tmod r (256:Int)),IntKind.wrap .u8 (Int.tmod (IntKind.wrap .i64 (Int.tdiv r (256:Int))) (256:Int)),IntKind.wrap .u8 (Int.tmod (IntKind.wrap .i64 (Int.tdiv r (65536:Int))) (256:Int)),IntKind.wrap .u8 (Int.tmod (IntKind.wrap .i64 (Int.tdiv r (16777216:Int))) (256:Int))])))
def zcr (a:zdw):Option zIm:=zw2 a some
theorem z2B (a:zdw) (k:zIm→Ans):zw2 a k=za (zcr a) k:=by
  obtain z:=a
  simp only [zcr,zw2,zj,zh,zl,zc,zi,zm,zg]
def zzU:zdw→List AV:=fun a0=>[.str a0]
def zJo (l:List AV):Option {a:zdw // l=zzU a}:=match l with
  | [.str a0]=>some ⟨(a0),rfl⟩
  | _=>none
def zRD (l:List AV):Option zdw:=pk (zJo l)
theorem zVS (l:List AV) (a:zdw) (h:zRD l=some a):l=zzU a:=zt (o:=zJo l) h
def zzI:zdw→zIm→AV:=fun a0=>fun r_y => .str r_y
theorem zWY : ∀(a:zdw) (y:zIm),(zzI a y).closed1=true:=by
  rintro z y <;> first | rfl | exact Empty.elim y
theorem z5B (a:zdw):fnE Tryz.tab zZO zd 0 70 60 Tryz.f60.ntmps Tryz.f60.results.toList zX8 z9J (zzU a) [] (fun v _=>some (v,[]))=zw2 a (fun y=>some (zzI a y,[])):=by kernel_rfl
def Zcx (a:zdw) (K:AV→Ans):Ans:=za (zcr a) fun y=>K (zzI a y)
def zUI:List AV→(AV→Ans)→Ans:=fun l K=>za (zRD l) fun a=>Zcx a K
theorem zy4:zM Tryz.prog 60 zUI:=zL (hint:=zd) (d:=0) (n:=70) mixed tabOk z4m Tryz.func60 (zC (by kernel_rfl)) (by decide +kernel) z0q zVS z5B z2B zWY
--@ ref04_First
--@ ref04_Get
--@ ref15_Check
noncomputable def zsy:Env:=[]
theorem zLF:zf Tryz.prog zsy:=zf.nil
noncomputable def z7r:Code:=Tryz.f71.body.getD .skip
noncomputable def zpL:Code:=zF [1,0,0] z7r
noncomputable def zwL:Ann := .none
theorem zFn:zq Tryz.prog 31 zpL zwL:=(zb _ _ _)
abbrev ju:=(Int)×(Int)×(Int)
abbrev zp3:=(Bool)
def zyd:ju→St:=fun (o0_0,o0_1,o0_2)=>{ env:=[(1,.ptr 0 0)],stk:=[[]],H:=[.cells [.int .i64 o0_0,.int .i64 o0_1,.int .i64 o0_2]],blk:=290816 }
def zwl (s:St):Option {x:ju // s=zyd x}:=match s with
  | { env:=[(1,.ptr 0 0)],stk:=[[]],H:=[.cells [.int .i64 o0_0,.int .i64 o0_1,.int .i64 o0_2]],blk:=290816 }=>some ⟨(o0_0,o0_1,o0_2),rfl⟩
  | _=>none
def zmu (s:St):Option ju:=pk (zwl s)
theorem zMW (s:St) (x:ju) (h:zmu s=some x):s=zyd x:=zt (o:=zwl s) h
def zk5:ju→(Ex→St→Ans)→zp3→Ans:=fun (o0_0,o0_1,o0_2) K=>fun t30_y=>K (Ex.norm) { env:=[(30,.bool t30_y)],stk:=[[]],H:=[],blk:=290816 }
def JT {β:Type}:ju→(zp3→Option β)→Option β:=fun (o0_0,o0_1,o0_2) exit=>(bif decide (o0_0<(1:Int)) then (exit (true)) else (bif decide (o0_0>(24:Int)) then (exit (true)) else (bif decide (o0_1<(1:Int)) then (exit (true)) else (bif decide (o0_1>(8:Int)) then (exit (true)) else (bif decide (o0_2<(24:Int)) then (exit (true)) else (exit (decide (o0_2>(200:Int)))))))))
def W7 (i:ju):Option zp3:=JT i some
theorem zCF (i:ju) (k:zp3→Ans):JT i k=za (W7 i) k:=by
  obtain ⟨o0_0,o0_1,o0_2⟩:=i
  simp only [W7,JT,zj,zh,zl,zc,zi,zm,zg]
theorem zEF (i:ju) (K:Ex→St→Ans):zx Tryz.tab zsy zd (zy Tryz.tab zsy zd 0 64) 70 31 zwL zpL (zD 0 (exk [30] [2] []) K) (zyd i)=JT i (zk5 i K):=by kernel_rfl
theorem zNP:zw Tryz.prog 31 zpL (zH zmu W7 zk5):=zE mixed tabOk zLF 0 (exk [30] [2] []) zFn zMW zEF zCF
noncomputable def zRV:(Ex→St→Ans)→St→Ans:=(zH zmu W7 zk5)
theorem zTG:zw Tryz.prog 31 zpL zRV:=zNP
noncomputable def zYa:Ann:=(.seq .none (.seq (.seq (.cut 0 [1] zRV) .none) .none))
theorem zZZ:zq Tryz.prog 31 z7r zYa:=⟨(zb _ _ _),⟨⟨zTG,(zb _ _ _)⟩,(zb _ _ _)⟩⟩
abbrev zea:=(Int)×(Int)×(Int)
abbrev zKp:=(Int)
def zwr {β:Type}:zea→(zKp→Option β)→Option β:=fun (a0_0,a0_1,a0_2) exit=>(za (W7 (a0_0,a0_1,a0_2)) fun t30=>(bif t30 then (exit ((3:Int))) else (exit ((0:Int)))))
def zht (a:zea):Option zKp:=zwr a some
theorem z2t (a:zea) (k:zKp→Ans):zwr a k=za (zht a) k:=by
  obtain ⟨a0_0,a0_1,a0_2⟩:=a
  simp only [zht,zwr,zj,zh,zl,zc,zi,zm,zg]
def zxy:zea→List AV:=fun (a0_0,a0_1,a0_2)=>[.agg [.int .i64 a0_0,.int .i64 a0_1,.int .i64 a0_2]]
def zI5 (l:List AV):Option {a:zea // l=zxy a}:=match l with
  | [.agg [.int .i64 a0_0,.int .i64 a0_1,.int .i64 a0_2]]=>some ⟨(a0_0,a0_1,a0_2),rfl⟩
  | _=>none
def zSf (l:List AV):Option zea:=pk (zI5 l)
theorem zVb (l:List AV) (a:zea) (h:zSf l=some a):l=zxy a:=zt (o:=zI5 l) h
def zAq:zea→zKp→AV:=fun (a0_0,a0_1,a0_2)=>fun r_y => .int .i64 r_y
theorem zVB : ∀(a:zea) (y:zKp),(zAq a y).closed1=true:=by
  rintro ⟨a0_0,a0_1,a0_2⟩ y <;> first | rfl | exact Empty.elim y
theorem z4a (a:zea):fnE Tryz.tab zsy zd 0 70 71 Tryz.f71.ntmps Tryz.f71.results.toList zYa z7r (zxy a) [] (fun v _=>some (v,[]))=zwr a (fun y=>some (zAq a y,[])):=by kernel_rfl
def Zct (a:zea) (K:AV→Ans):Ans:=za (zht a) fun y=>K (zAq a y)
def Za0:List AV→(AV→Ans)→Ans:=fun l K=>za (zSf l) fun a=>Zct a K
theorem z82:zM Tryz.prog 71 Za0:=zL (hint:=zd) (d:=0) (n:=70) mixed tabOk zLF Tryz.func71 (zC (by kernel_rfl)) (by decide +kernel) zZZ zVb z4a z2t zVB
--@ ref16_Check
noncomputable def zuy:Env:=[(71,.pure Za0)]
theorem zLr:zf Tryz.prog zuy:=zf.cons z82 (zf.nil)
noncomputable def z6y:Code:=Tryz.f36.body.getD .skip
noncomputable def zpV:Code:=zF [1,0,0] z6y
noncomputable def zwR:Ann := .none
theorem zD2:zq Tryz.prog 50 zpV zwR:=(zb _ _ _)
abbrev jn:=(Int)×(Int)×(Int)×(Int)×(Int)×(Int)×(Int)
abbrev zol:=(Bool)
def zBE:jn→St:=fun (o0_0,o0_1,o0_2,o0_3,o0_4,o0_5,o0_6)=>{ env:=[(1,.ptr 0 0)],stk:=[[]],H:=[.cells [.int .i64 o0_0,.int .i64 o0_1,.int .i64 o0_2,.int .i64 o0_3,.int .i64 o0_4,.int .i64 o0_5,.int .i64 o0_6]],blk:=147456 }
def ztB (s:St):Option {x:jn // s=zBE x}:=match s with
  | { env:=[(1,.ptr 0 0)],stk:=[[]],H:=[.cells [.int .i64 o0_0,.int .i64 o0_1,.int .i64 o0_2,.int .i64 o0_3,.int .i64 o0_4,.int .i64 o0_5,.int .i64 o0_6]],blk:=147456 }=>some ⟨(o0_0,o0_1,o0_2,o0_3,o0_4,o0_5,o0_6),rfl⟩
  | _=>none
def zkJ (s:St):Option jn:=pk (ztB s)
theorem zJ8 (s:St) (x:jn) (h:zkJ s=some x):s=zBE x:=zt (o:=ztB s) h
def zkO:jn→(Ex→St→Ans)→zol→Ans:=fun (o0_0,o0_1,o0_2,o0_3,o0_4,o0_5,o0_6) K=>fun t49_y=>K (Ex.norm) { env:=[(49,.bool t49_y)],stk:=[[]],H:=[],blk:=147456 }
def JK {β:Type}:jn→(zol→Option β)→Option β:=fun (o0_0,o0_1,o0_2,o0_3,o0_4,o0_5,o0_6) exit=>(za (zht (o0_4,o0_5,o0_6)) fun r=>(bif r != (0:Int) then (exit (true)) else (bif decide (o0_0<(0:Int)) then (exit (true)) else (bif decide (o0_0>(1:Int)) then (exit (true)) else (bif decide (o0_1<(0:Int)) then (exit (true)) else (bif decide (o0_1>(1:Int)) then (exit (true)) else (bif decide (o0_2<(0:Int)) then (exit (true)) else (bif decide (o0_2>(16777216:Int)) then (exit (true)) else (bif decide (o0_3<(0:Int)) then (exit (true)) else (exit (decide (o0_3≥o0_4))))))))))))
def W9 (i:jn):Option zol:=JK i some
theorem zCq (i:jn) (k:zol→Ans):JK i k=za (W9 i) k:=by
  obtain ⟨o0_0,o0_1,o0_2,o0_3,o0_4,o0_5,o0_6⟩:=i
  simp only [W9,JK,zj,zh,zl,zc,zi,zm,zg]
theorem zEJ (i:jn) (K:Ex→St→Ans):zx Tryz.tab zuy zd (zy Tryz.tab zuy zd 0 64) 70 50 zwR zpV (zD 0 (exk [49] [2] []) K) (zBE i)=JK i (zkO i K):=by kernel_rfl
theorem zOB:zw Tryz.prog 50 zpV (zH zkJ W9 zkO):=zE mixed tabOk zLr 0 (exk [49] [2] []) zD2 zJ8 zEJ zCq
noncomputable def zQv:(Ex→St→Ans)→St→Ans:=(zH zkJ W9 zkO)
theorem zUx:zw Tryz.prog 50 zpV zQv:=zOB
noncomputable def z0a:Ann:=(.seq .none (.seq (.seq (.cut 0 [1] zQv) .none) .none))
theorem z1Q:zq Tryz.prog 50 z6y z0a:=⟨(zb _ _ _),⟨⟨zUx,(zb _ _ _)⟩,(zb _ _ _)⟩⟩
abbrev zex:=(Int)×(Int)×(Int)×(Int)×(Int)×(Int)×(Int)
abbrev zM8:=(Int)
def ztu {β:Type}:zex→(zM8→Option β)→Option β:=fun (a0_0,a0_1,a0_2,a0_3,a0_4,a0_5,a0_6) exit=>(za (W9 (a0_0,a0_1,a0_2,a0_3,a0_4,a0_5,a0_6)) fun t49=>(bif t49 then (exit ((3:Int))) else (exit ((0:Int)))))
def zdF (a:zex):Option zM8:=ztu a some
theorem zZi (a:zex) (k:zM8→Ans):ztu a k=za (zdF a) k:=by
  obtain ⟨a0_0,a0_1,a0_2,a0_3,a0_4,a0_5,a0_6⟩:=a
  simp only [zdF,ztu,zj,zh,zl,zc,zi,zm,zg]
def zCy:zex→List AV:=fun (a0_0,a0_1,a0_2,a0_3,a0_4,a0_5,a0_6)=>[.agg [.int .i64 a0_0,.int .i64 a0_1,.int .i64 a0_2,.int .i64 a0_3,.int .i64 a0_4,.int .i64 a0_5,.int .i64 a0_6]]
def zHJ (l:List AV):Option {a:zex // l=zCy a}:=match l with
  | [.agg [.int .i64 a0_0,.int .i64 a0_1,.int .i64 a0_2,.int .i64 a0_3,.int .i64 a0_4,.int .i64 a0_5,.int .i64 a0_6]]=>some ⟨(a0_0,a0_1,a0_2,a0_3,a0_4,a0_5,a0_6),rfl⟩
  | _=>none
def zQF (l:List AV):Option zex:=pk (zHJ l)
theorem zTS (l:List AV) (a:zex) (h:zQF l=some a):l=zCy a:=zt (o:=zHJ l) h
def zxw:zex→zM8→AV:=fun (a0_0,a0_1,a0_2,a0_3,a0_4,a0_5,a0_6)=>fun r_y => .int .i64 r_y
theorem zVH : ∀(a:zex) (y:zM8),(zxw a y).closed1=true:=by
  rintro ⟨a0_0,a0_1,a0_2,a0_3,a0_4,a0_5,a0_6⟩ y <;> first | rfl | exact Empty.elim y
theorem z4i (a:zex):fnE Tryz.tab zuy zd 0 70 36 Tryz.f36.ntmps Tryz.f36.results.toList z0a z6y (zCy a) [] (fun v _=>some (v,[]))=ztu a (fun y=>some (zxw a y,[])):=by kernel_rfl
def ZbW (a:zex) (K:AV→Ans):Ans:=za (zdF a) fun y=>K (zxw a y)
def z7f:List AV→(AV→Ans)→Ans:=fun l K=>za (zQF l) fun a=>ZbW a K
theorem zSs:zM Tryz.prog 36 z7f:=zL (hint:=zd) (d:=0) (n:=70) mixed tabOk zLr Tryz.func36 (zC (by kernel_rfl)) (by decide +kernel) z1Q zTS z4i zZi zVH
--@ ref02_Fits
noncomputable def zcj:Env:=[]
theorem zrp:zf Tryz.prog zcj:=zf.nil
noncomputable def zTz:Code:=Tryz.f105.body.getD .skip
noncomputable def zg4:Code:=zF [1,1,0,1,0,0] zTz
noncomputable def ziB:Ann := .at 0 [0,1,5] (.loop .none)
theorem zEw:zq Tryz.prog 25 (.loop zg4) ziB:=Zp (zb _ _ _)
abbrev QQ:=(Int)
abbrev zm6:=(Int)
abbrev w4:=(Int)×(Int)
def zpI:QQ→w4→St:=fun t1 (t0,t5)=>{ env:=[(0,.int .i64 t0),(1,.int .i64 t1),(5,.int .i64 t5)],stk:=[[]],H:=[],blk:=430080 }
def zut (s:St):Option {x:QQ×w4 // s=zpI x.1 x.2}:=match s with
  | { env:=[(0,.int .i64 t0),(1,.int .i64 t1),(5,.int .i64 t5)],stk:=[[]],H:=[],blk:=430080 }=>some ⟨(t1,(t0,t5)),rfl⟩
  | _=>none
def zjJ (s:St):Option (QQ×w4):=pk (zut s)
theorem zJu (s:St) (x:QQ×w4) (h:zjJ s=some x):s=zpI x.1 x.2:=zt (o:=zut s) h
def zlU:QQ→(Ex→St→Ans)→zm6→Ans:=fun t1 K=>fun t0_y=>K (Ex.exit 0) { env:=[(0,.int .i64 t0_y)],stk:=[[]],H:=[],blk:=430080 }
def QO {β:Type}:QQ→w4→(w4→Option β)→(zm6→Option β)→Option β:=fun t1 (t0,t5) next exit=>(bif decide (t5<t1) then (next (IntKind.wrap .i64 (Int.tdiv t0 (256:Int)),IntKind.wrap .i64 (t5+(1:Int)))) else (exit (t0)))
def yT (i:QQ) (v:w4):Option (w4 ⊕ zm6):=QO i v (fun v=>some (.inl v)) (fun y=>some (.inr y))
theorem zyp (i:QQ) (v:w4) (next:w4→Ans) (exit:zm6→Ans):QO i v next exit=za (yT i v) (Sum.elim next exit):=by
  obtain z:=i
  obtain ⟨t0,t5⟩:=v
  simp only [yT,QO,zj,zh,zl,zc,zi,zm,zg,Sum.elim_inl,Sum.elim_inr]
theorem zEL (n:Nat) (i:QQ) (v:w4) (K:Ex→St→Ans):zx Tryz.tab zcj zd (zy Tryz.tab zcj zd 0 64) (n+1) 25 ziB (.loop zg4) (zD 0 (exk [0] [4] [(0,[0])]) K) (zpI i v)=QO i v (fun v'=>zx Tryz.tab zcj zd (zy Tryz.tab zcj zd 0 64) n 25 ziB (.loop zg4) (zD 0 (exk [0] [4] [(0,[0])]) K) (zpI i v')) (fun y=>zlU i K y):=by kernel_rfl
theorem zOl:zw Tryz.prog 25 (.loop zg4) (Zr zjJ yT zlU):=Zj mixed tabOk zrp 0 (exk [0] [4] [(0,[0])]) zEw zJu zEL zyp
noncomputable def zRZ:(Ex→St→Ans)→St→Ans:=(Zr zjJ yT zlU)
theorem zV2:zw Tryz.prog 25 (.loop zg4) zRZ:=zOl
noncomputable def zom:Code:=zF [1,0,0] zTz
noncomputable def ztU:Ann := .none
theorem zEY:zq Tryz.prog 25 zom ztU:=(zb _ _ _)
abbrev jS:=(Int)×(Int)
abbrev zo5:=(Bool)
def zyQ:jS→St:=fun (t0,t1)=>{ env:=[(0,.int .i64 t0),(1,.int .i64 t1)],stk:=[[]],H:=[],blk:=430080 }
def zws (s:St):Option {x:jS // s=zyQ x}:=match s with
  | { env:=[(0,.int .i64 t0),(1,.int .i64 t1)],stk:=[[]],H:=[],blk:=430080 }=>some ⟨(t0,t1),rfl⟩
  | _=>none
def zkX (s:St):Option jS:=pk (zws s)
theorem zIN (s:St) (x:jS) (h:zkX s=some x):s=zyQ x:=zt (o:=zws s) h
def zjP:jS→(Ex→St→Ans)→zo5→Ans:=fun (t0,t1) K=>fun t15_y=>K (Ex.norm) { env:=[(0,.int .i64 t0),(1,.int .i64 t1),(15,.bool t15_y)],stk:=[[]],H:=[],blk:=430080 }
def JP {β:Type}:jS→(zo5→Option β)→Option β:=fun (t0,t1) exit=>(bif decide (t1<(1:Int)) then (exit (true)) else (bif decide (t1>(7:Int)) then (exit (true)) else (exit (decide (t0<(0:Int))))))
def WE (i:jS):Option zo5:=JP i some
theorem zCb (i:jS) (k:zo5→Ans):JP i k=za (WE i) k:=by
  obtain ⟨t0,t1⟩:=i
  simp only [WE,JP,zj,zh,zl,zc,zi,zm,zg]
theorem zDC (i:jS) (K:Ex→St→Ans):zx Tryz.tab zcj zd (zy Tryz.tab zcj zd 0 64) 70 25 ztU zom (zD 0 (exk [0,1,15] [4] []) K) (zyQ i)=JP i (zjP i K):=by kernel_rfl
theorem zO8:zw Tryz.prog 25 zom (zH zkX WE zjP):=zE mixed tabOk zrp 0 (exk [0,1,15] [4] []) zEY zIN zDC zCb
noncomputable def zQB:(Ex→St→Ans)→St→Ans:=(zH zkX WE zjP)
theorem zWF:zw Tryz.prog 25 zom zQB:=zO8
noncomputable def zZ2:Ann:=(.seq .none (.seq (.seq (.cut 0 [0,1] zQB) .none) (.seq (.seq .none (.block (.cut 0 [0,1,5] zRZ))) .none)))
theorem z11:zq Tryz.prog 25 zTz zZ2:=⟨(zb _ _ _),⟨⟨zWF,(zb _ _ _)⟩,⟨⟨(zb _ _ _),zV2⟩,(zb _ _ _)⟩⟩⟩
abbrev zeP:=(Int)×(Int)
abbrev zHv:=(Bool)
def zwe {β:Type}:zeP→(zHv→Option β)→Option β:=fun (a0,a1) exit=>(za (WE (a0,a1)) fun t15=>(bif t15 then (exit (false)) else (za (zP (yT (a1)) zZ (a0,(0:Int))) fun t0=>(exit (t0 == (0:Int))))))
def zg6 (a:zeP):Option zHv:=zwe a some
theorem zZl (a:zeP) (k:zHv→Ans):zwe a k=za (zg6 a) k:=by
  obtain ⟨a0,a1⟩:=a
  simp only [zg6,zwe,zj,zh,zl,zc,zi,zm,zg]
def zzq:zeP→List AV:=fun (a0,a1)=>[.int .i64 a0,.int .i64 a1]
def zKB (l:List AV):Option {a:zeP // l=zzq a}:=match l with
  | [.int .i64 a0,.int .i64 a1]=>some ⟨(a0,a1),rfl⟩
  | _=>none
def zSA (l:List AV):Option zeP:=pk (zKB l)
theorem zU3 (l:List AV) (a:zeP) (h:zSA l=some a):l=zzq a:=zt (o:=zKB l) h
def zzA:zeP→zHv→AV:=fun (a0,a1)=>fun r_y => .bool r_y
theorem zW7 : ∀(a:zeP) (y:zHv),(zzA a y).closed1=true:=by
  rintro ⟨a0,a1⟩ y <;> first | rfl | exact Empty.elim y
theorem z5Q (a:zeP):fnE Tryz.tab zcj zd 0 70 105 Tryz.f105.ntmps Tryz.f105.results.toList zZ2 zTz (zzq a) [] (fun v _=>some (v,[]))=zwe a (fun y=>some (zzA a y,[])):=by kernel_rfl
def ZbT (a:zeP) (K:AV→Ans):Ans:=za (zg6 a) fun y=>K (zzA a y)
def z9M:List AV→(AV→Ans)→Ans:=fun l K=>za (zSA l) fun a=>ZbT a K
theorem z8D:zM Tryz.prog 105 z9M:=zL (hint:=zd) (d:=0) (n:=70) mixed tabOk zrp Tryz.func105 (zC (by kernel_rfl)) (by decide +kernel) z11 zU3 z5Q zZl zW7
--@ ref02_Put
noncomputable def zgp:Env:=[(105,.pure z9M)]
theorem zKH:zf Tryz.prog zgp:=zf.cons z8D (zf.nil)
noncomputable def z5y:Code:=Tryz.f65.body.getD .skip
noncomputable def zhf:Code:=zF [1,1,1,0,1,0,0] z5y
noncomputable def zhB:Ann := .at 0 [0,1,2,7,8] (.loop .none)
theorem zEW:zq Tryz.prog 31 (.loop zhf) zhB:=Zp (zb _ _ _)
abbrev q7:=(List UInt8)×(Int)
abbrev znW:=(List UInt8)
abbrev w7:=(Int)×(List UInt8)×(Int)
def zna:q7→w7→St:=fun (t0,t2) (t1,t7,t8)=>{ env:=[(0,.str t0),(1,.int .i64 t1),(2,.int .i64 t2),(7,.str t7),(8,.int .i64 t8)],stk:=[[]],H:=[],blk:=266240 }
def zv0 (s:St):Option {x:q7×w7 // s=zna x.1 x.2}:=match s with
  | { env:=[(0,.str t0),(1,.int .i64 t1),(2,.int .i64 t2),(7,.str t7),(8,.int .i64 t8)],stk:=[[]],H:=[],blk:=266240 }=>some ⟨((t0,t2),(t1,t7,t8)),rfl⟩
  | _=>none
def zki (s:St):Option (q7×w7):=pk (zv0 s)
theorem zIz (s:St) (x:q7×w7) (h:zki s=some x):s=zna x.1 x.2:=zt (o:=zv0 s) h
def zmr:q7→(Ex→St→Ans)→znW→Ans:=fun (t0,t2) K=>fun t7_y=>K (Ex.exit 0) { env:=[(0,.str t0),(7,.str t7_y)],stk:=[[]],H:=[],blk:=266240 }
def Q7 {β:Type}:q7→w7→(w7→Option β)→(znW→Option β)→Option β:=fun (t0,t2) (t1,t7,t8) next exit=>(bif decide (t8<t2) then (bif Nat.ble (List.length (Zl [IntKind.wrap .u8 (Int.tmod t1 (256:Int))])+List.length t7) (9223372036854775807:Nat) then (next (IntKind.wrap .i64 (Int.tdiv t1 (256:Int)),Zl [IntKind.wrap .u8 (Int.tmod t1 (256:Int))]++t7,IntKind.wrap .i64 (t8+(1:Int)))) else none) else (exit (t7)))
def yW (i:q7) (v:w7):Option (w7 ⊕ znW):=Q7 i v (fun v=>some (.inl v)) (fun y=>some (.inr y))
theorem zAv (i:q7) (v:w7) (next:w7→Ans) (exit:znW→Ans):Q7 i v next exit=za (yW i v) (Sum.elim next exit):=by
  obtain ⟨t0,t2⟩:=i
  obtain ⟨t1,t7,t8⟩:=v
  simp only [yW,Q7,zj,zh,zl,zc,zi,zm,zg,Sum.elim_inl,Sum.elim_inr]
theorem zGC (n:Nat) (i:q7) (v:w7) (K:Ex→St→Ans):zx Tryz.tab zgp zd (zy Tryz.tab zgp zd 0 64) (n+1) 31 zhB (.loop zhf) (zD 0 (exk [0,7] [6] [(0,[0,7])]) K) (zna i v)=Q7 i v (fun v'=>zx Tryz.tab zgp zd (zy Tryz.tab zgp zd 0 64) n 31 zhB (.loop zhf) (zD 0 (exk [0,7] [6] [(0,[0,7])]) K) (zna i v')) (fun y=>zmr i K y):=by kernel_rfl
theorem zOM:zw Tryz.prog 31 (.loop zhf) (Zr zki yW zmr):=Zj mixed tabOk zKH 0 (exk [0,7] [6] [(0,[0,7])]) zEW zIz zGC zAv
noncomputable def zSp:(Ex→St→Ans)→St→Ans:=(Zr zki yW zmr)
theorem zSO:zw Tryz.prog 31 (.loop zhf) zSp:=zOM
noncomputable def zY8:Ann:=(.seq .none (.seq .none (.seq .none (.seq (.seq .none (.block (.cut 0 [0,1,2,7,8] zSp))) .none))))
theorem zYD:zq Tryz.prog 31 z5y zY8:=⟨(zb _ _ _),⟨(zb _ _ _),⟨(zb _ _ _),⟨⟨(zb _ _ _),zSO⟩,(zb _ _ _)⟩⟩⟩⟩
abbrev zeO:=(List UInt8)×(Int)×(Int)
abbrev zJ6:=(List UInt8)
def zsY {β:Type}:zeO→(zJ6→Option β)→Option β:=fun (a0,a1,a2) exit=>(za (zg6 (a1,a2)) fun r=>(bif !r then (exit (a0)) else (za (zP (yW (a0,a2)) zZ (a1,[],(0:Int))) fun t7=>(bif Nat.ble (List.length a0+List.length t7) (9223372036854775807:Nat) then (exit (a0++t7)) else none))))
def Zw (a:zeO):Option zJ6:=zsY a some
theorem z1s (a:zeO) (k:zJ6→Ans):zsY a k=za (Zw a) k:=by
  obtain ⟨a0,a1,a2⟩:=a
  simp only [Zw,zsY,zj,zh,zl,zc,zi,zm,zg]
def zyD:zeO→List AV:=fun (a0,a1,a2)=>[.str a0,.int .i64 a1,.int .i64 a2]
def zJy (l:List AV):Option {a:zeO // l=zyD a}:=match l with
  | [.str a0,.int .i64 a1,.int .i64 a2]=>some ⟨(a0,a1,a2),rfl⟩
  | _=>none
def zQr (l:List AV):Option zeO:=pk (zJy l)
theorem zVJ (l:List AV) (a:zeO) (h:zQr l=some a):l=zyD a:=zt (o:=zJy l) h
def zx5:zeO→zJ6→AV:=fun (a0,a1,a2)=>fun r_y => .str r_y
theorem zWD : ∀(a:zeO) (y:zJ6),(zx5 a y).closed1=true:=by
  rintro ⟨a0,a1,a2⟩ y <;> first | rfl | exact Empty.elim y
theorem z6A (a:zeO):fnE Tryz.tab zgp zd 0 70 65 Tryz.f65.ntmps Tryz.f65.results.toList zY8 z5y (zyD a) [] (fun v _=>some (v,[]))=zsY a (fun y=>some (zx5 a y,[])):=by kernel_rfl
def Zcl (a:zeO) (K:AV→Ans):Ans:=za (Zw a) fun y=>K (zx5 a y)
def zrN:List AV→(AV→Ans)→Ans:=fun l K=>za (zQr l) fun a=>Zcl a K
theorem zdi:zM Tryz.prog 65 zrN:=zL (hint:=zd) (d:=0) (n:=70) mixed tabOk zKH Tryz.func65 (zC (by kernel_rfl)) (by decide +kernel) zYD zVJ z6A z1s zWD
--@ ref09_Pad
noncomputable def zgS:Env:=[]
theorem zJA:zf Tryz.prog zgS:=zf.nil
noncomputable def z7s:Code:=Tryz.f67.body.getD .skip
noncomputable def zhn:Code:=zF [1,0,0,0] z7s
noncomputable def ziT:Ann := .at 0 [0] (.loop .none)
theorem zGJ:zq Tryz.prog 10 (.loop zhn) ziT:=Zp (zb _ _ _)
abbrev Qv:=Unit
abbrev zoN:=(List UInt8)
abbrev wv:=(List UInt8)
def zoO:Qv→wv→St:=fun _ t0=>{ env:=[(0,.str t0)],stk:=[[]],H:=[],blk:=274432 }
def ztd (s:St):Option {x:Qv×wv // s=zoO x.1 x.2}:=match s with
  | { env:=[(0,.str t0)],stk:=[[]],H:=[],blk:=274432 }=>some ⟨((),t0),rfl⟩
  | _=>none
def zjl (s:St):Option (Qv×wv):=pk (ztd s)
theorem zJr (s:St) (x:Qv×wv) (h:zjl s=some x):s=zoO x.1 x.2:=zt (o:=ztd s) h
def zjM:Qv→(Ex→St→Ans)→zoN→Ans:=fun _ K=>fun t0_y=>K (Ex.exit 0) { env:=[(0,.str t0_y)],stk:=[[]],H:=[],blk:=274432 }
def zaZ {β:Type}:Qv→wv→(wv→Option β)→(zoN→Option β)→Option β:=fun _ t0 next exit=>(bif Int.tmod (↑(List.length t0):Int) (64:Int) != (0:Int) then (bif Nat.ble (List.length t0+(1:Nat)) (9223372036854775807:Nat) then (next (t0++[(0:UInt8)])) else none) else (exit (t0)))
def we (i:Qv) (v:wv):Option (wv ⊕ zoN):=zaZ i v (fun v=>some (.inl v)) (fun y=>some (.inr y))
theorem zy9 (i:Qv) (v:wv) (next:wv→Ans) (exit:zoN→Ans):zaZ i v next exit=za (we i v) (Sum.elim next exit):=by
  obtain z:=i
  obtain z:=v
  simp only [we,zaZ,zj,zh,zl,zc,zi,zm,zg,Sum.elim_inl,Sum.elim_inr]
theorem zFw (n:Nat) (i:Qv) (v:wv) (K:Ex→St→Ans):zx Tryz.tab zgS zd (zy Tryz.tab zgS zd 0 64) (n+1) 10 ziT (.loop zhn) (zD 0 (exk [0] [2] [(0,[0])]) K) (zoO i v)=zaZ i v (fun v'=>zx Tryz.tab zgS zd (zy Tryz.tab zgS zd 0 64) n 10 ziT (.loop zhn) (zD 0 (exk [0] [2] [(0,[0])]) K) (zoO i v')) (fun y=>zjM i K y):=by kernel_rfl
theorem zNH:zw Tryz.prog 10 (.loop zhn) (Zr zjl we zjM):=Zj mixed tabOk zJA 0 (exk [0] [2] [(0,[0])]) zGJ zJr zFw zy9
noncomputable def zPo:(Ex→St→Ans)→St→Ans:=(Zr zjl we zjM)
theorem zXA:zw Tryz.prog 10 (.loop zhn) zPo:=zNH
noncomputable def z3C:Ann:=(.seq .none (.seq (.block (.cut 0 [0] zPo)) .none))
theorem zZ0:zq Tryz.prog 10 z7s z3C:=⟨(zb _ _ _),⟨zXA,(zb _ _ _)⟩⟩
abbrev zeL:=(List UInt8)
abbrev zMM:=(List UInt8)
def ztY {β:Type}:zeL→(zMM→Option β)→Option β:=fun a0 exit=>(za (zP (we ()) zZ (a0)) fun t0=>(exit (t0)))
def zga (a:zeL):Option zMM:=ztY a some
theorem zX2 (a:zeL) (k:zMM→Ans):ztY a k=za (zga a) k:=by
  obtain z:=a
  simp only [zga,ztY,zj,zh,zl,zc,zi,zm,zg]
def zzb:zeL→List AV:=fun a0=>[.str a0]
def zKV (l:List AV):Option {a:zeL // l=zzb a}:=match l with
  | [.str a0]=>some ⟨(a0),rfl⟩
  | _=>none
def zPz (l:List AV):Option zeL:=pk (zKV l)
theorem zVh (l:List AV) (a:zeL) (h:zPz l=some a):l=zzb a:=zt (o:=zKV l) h
def zz4:zeL→zMM→AV:=fun a0=>fun r_y => .str r_y
theorem zXU : ∀(a:zeL) (y:zMM),(zz4 a y).closed1=true:=by
  rintro z y <;> first | rfl | exact Empty.elim y
theorem z7h (a:zeL):fnE Tryz.tab zgS zd 0 70 67 Tryz.f67.ntmps Tryz.f67.results.toList z3C z7s (zzb a) [] (fun v _=>some (v,[]))=ztY a (fun y=>some (zz4 a y,[])):=by kernel_rfl
def ZcM (a:zeL) (K:AV→Ans):Ans:=za (zga a) fun y=>K (zz4 a y)
def Za4:List AV→(AV→Ans)→Ans:=fun l K=>za (zPz l) fun a=>ZcM a K
theorem z8V:zM Tryz.prog 67 Za4:=zL (hint:=zd) (d:=0) (n:=70) mixed tabOk zJA Tryz.func67 (zC (by kernel_rfl)) (by decide +kernel) zZ0 zVh z7h zX2 zXU
--@ ref16_Put
noncomputable def z2O:Env:=[(60,.pure zUI),(36,.pure z7f),(65,.pure zrN),(67,.pure Za4)]
theorem z3X:zf Tryz.prog z2O:=zf.cons zy4 (zf.cons zSs (zf.cons zdi (zf.cons z8V (zf.nil))))
noncomputable def ZaA:Code:=Tryz.f32.body.getD .skip
noncomputable def z2u:Ann := .none
theorem zZL:zq Tryz.prog 41 ZaA z2u:=(zb _ _ _)
abbrev zdP:=(Int)×(Int)×(Int)×(Int)×(Int)×(Int)×(Int)
abbrev zMy:=(List UInt8)×(Int)
def ztv {β:Type}:zdP→(zMy→Option β)→Option β:=fun (a0_0,a0_1,a0_2,a0_3,a0_4,a0_5,a0_6) exit=>(za (zdF (a0_0,a0_1,a0_2,a0_3,a0_4,a0_5,a0_6)) fun r=>(bif r != (0:Int) then (exit ([],r)) else (za (Zw ([(83:UInt8)],a0_0,(1:Int))) fun r_2=>(za (Zw (r_2,a0_1,(1:Int))) fun r_3=>(za (Zw (r_3,a0_2,(4:Int))) fun r_4=>(za (Zw (r_4,a0_3,(1:Int))) fun r_5=>(za (Zw (r_5,a0_4,(1:Int))) fun r_6=>(za (Zw (r_6,a0_5,(1:Int))) fun r_7=>(za (Zw (r_7,a0_6,(2:Int))) fun r_8=>(za (zcr (r_8)) fun r_9=>(bif Nat.ble (List.length r_8+List.length r_9) (9223372036854775807:Nat) then (za (zga (r_8++r_9)) fun r_10=>(exit (r_10,(0:Int)))) else none)))))))))))
def zf8 (a:zdP):Option zMy:=ztv a some
theorem z0L (a:zdP) (k:zMy→Ans):ztv a k=za (zf8 a) k:=by
  obtain ⟨a0_0,a0_1,a0_2,a0_3,a0_4,a0_5,a0_6⟩:=a
  simp only [zf8,ztv,zj,zh,zl,zc,zi,zm,zg]
def zBN:zdP→List AV:=fun (a0_0,a0_1,a0_2,a0_3,a0_4,a0_5,a0_6)=>[.agg [.int .i64 a0_0,.int .i64 a0_1,.int .i64 a0_2,.int .i64 a0_3,.int .i64 a0_4,.int .i64 a0_5,.int .i64 a0_6]]
def zMS (l:List AV):Option {a:zdP // l=zBN a}:=match l with
  | [.agg [.int .i64 a0_0,.int .i64 a0_1,.int .i64 a0_2,.int .i64 a0_3,.int .i64 a0_4,.int .i64 a0_5,.int .i64 a0_6]]=>some ⟨(a0_0,a0_1,a0_2,a0_3,a0_4,a0_5,a0_6),rfl⟩
  | _=>none
def zPv (l:List AV):Option zdP:=pk (zMS l)
theorem zUL (l:List AV) (a:zdP) (h:zPv l=some a):l=zBN a:=zt (o:=zMS l) h
def zAV:zdP→zMy→AV:=fun (a0_0,a0_1,a0_2,a0_3,a0_4,a0_5,a0_6)=>unP fun r_0_y r_1_y => .tup [.str r_0_y,.int .i64 r_1_y]
theorem zSQ : ∀(a:zdP) (y:zMy),(zAV a y).closed1=true:=by
  rintro ⟨a0_0,a0_1,a0_2,a0_3,a0_4,a0_5,a0_6⟩ y <;> first | rfl | exact Empty.elim y
theorem z6j (a:zdP):fnE Tryz.tab z2O zd 0 70 32 Tryz.f32.ntmps Tryz.f32.results.toList z2u ZaA (zBN a) [] (fun v _=>some (v,[]))=ztv a (fun y=>some (zAV a y,[])):=by kernel_rfl
def Zci (a:zdP) (K:AV→Ans):Ans:=za (zf8 a) fun y=>K (zAV a y)
def Zaa:List AV→(AV→Ans)→Ans:=fun l K=>za (zPv l) fun a=>Zci a K
theorem z87:zM Tryz.prog 32 Zaa:=zL (hint:=zd) (d:=0) (n:=70) mixed tabOk z3X Tryz.func32 (zC (by kernel_rfl)) (by decide +kernel) zZL zUL z6j z0L zSQ
--@ ref16_Get
end Go.Proofs.R9
namespace Go.Proofs.R9
open Go Go.AE
set_option maxRecDepth 100000
--@ ref02_Reader_Bytes
--@ ref02_Reader_Num
--@ ref23_version
--@ ref02_Reader_End
--@ ref05_Right
noncomputable def ztc:Env:=[]
theorem zK1:zf Tryz.prog ztc:=zf.nil
noncomputable def z5f:Code:=Tryz.f72.body.getD .skip
noncomputable def zpu:Code:=zF [1,0] z5f
noncomputable def zvr:Ann := .none
theorem zF8:zq Tryz.prog 21 zpu zvr:=(zb _ _ _)
abbrev ji:=(Int)×(Int)
abbrev zoI:=(Bool)
def zyI:ji→St:=fun (o0_0,o0_1)=>{ env:=[(1,.ptr 0 0)],stk:=[[]],H:=[.cells [.int .i64 o0_0,.int .i64 o0_1]],blk:=294912 }
def zvL (s:St):Option {x:ji // s=zyI x}:=match s with
  | { env:=[(1,.ptr 0 0)],stk:=[[]],H:=[.cells [.int .i64 o0_0,.int .i64 o0_1]],blk:=294912 }=>some ⟨(o0_0,o0_1),rfl⟩
  | _=>none
def zjG (s:St):Option ji:=pk (zvL s)
theorem zMq (s:St) (x:ji) (h:zjG s=some x):s=zyI x:=zt (o:=zvL s) h
def zmF:ji→(Ex→St→Ans)→zoI→Ans:=fun (o0_0,o0_1) K=>fun t2_y=>K (Ex.norm) { env:=[(2,.bool t2_y)],stk:=[[]],H:=[],blk:=294912 }
def zal {β:Type}:ji→(zoI→Option β)→Option β:=fun (o0_0,o0_1) exit=>(bif decide (o0_0≥(0:Int)) then (bif decide (o0_0≤(1125899906842624:Int)) then (bif decide (o0_1≥(0:Int)) then (exit (decide (o0_1≤(1125899906842624:Int)))) else (exit (false))) else (exit (false))) else (exit (false)))
def WW (i:ji):Option zoI:=zal i some
theorem zCI (i:ji) (k:zoI→Ans):zal i k=za (WW i) k:=by
  obtain ⟨o0_0,o0_1⟩:=i
  simp only [WW,zal,zj,zh,zl,zc,zi,zm,zg]
theorem zFu (i:ji) (K:Ex→St→Ans):zx Tryz.tab ztc zd (zy Tryz.tab ztc zd 0 64) 70 21 zvr zpu (zD 0 (exk [2] [2] []) K) (zyI i)=zal i (zmF i K):=by kernel_rfl
theorem zNF:zw Tryz.prog 21 zpu (zH zjG WW zmF):=zE mixed tabOk zK1 0 (exk [2] [2] []) zF8 zMq zFu zCI
noncomputable def zRf:(Ex→St→Ans)→St→Ans:=(zH zjG WW zmF)
theorem zU1:zw Tryz.prog 21 zpu zRf:=zNF
noncomputable def z2d:Ann:=(.seq .none (.seq (.cut 0 [1] zRf) .none))
theorem z1i:zq Tryz.prog 21 z5f z2d:=⟨(zb _ _ _),⟨zU1,(zb _ _ _)⟩⟩
abbrev zdu:=(Int)×(Int)
abbrev zKI:=(Bool)
def ztQ {β:Type}:zdu→(zKI→Option β)→Option β:=fun (a0_0,a0_1) exit=>(za (WW (a0_0,a0_1)) fun t2=>(exit (t2)))
def zck (a:zdu):Option zKI:=ztQ a some
theorem zZW (a:zdu) (k:zKI→Ans):ztQ a k=za (zck a) k:=by
  obtain ⟨a0_0,a0_1⟩:=a
  simp only [zck,ztQ,zj,zh,zl,zc,zi,zm,zg]
def zAT:zdu→List AV:=fun (a0_0,a0_1)=>[.agg [.int .i64 a0_0,.int .i64 a0_1]]
def zHZ (l:List AV):Option {a:zdu // l=zAT a}:=match l with
  | [.agg [.int .i64 a0_0,.int .i64 a0_1]]=>some ⟨(a0_0,a0_1),rfl⟩
  | _=>none
def zR0 (l:List AV):Option zdu:=pk (zHZ l)
theorem zVa (l:List AV) (a:zdu) (h:zR0 l=some a):l=zAT a:=zt (o:=zHZ l) h
def zCG:zdu→zKI→AV:=fun (a0_0,a0_1)=>fun r_y => .bool r_y
theorem zVe : ∀(a:zdu) (y:zKI),(zCG a y).closed1=true:=by
  rintro ⟨a0_0,a0_1⟩ y <;> first | rfl | exact Empty.elim y
theorem z5P (a:zdu):fnE Tryz.tab ztc zd 0 70 72 Tryz.f72.ntmps Tryz.f72.results.toList z2d z5f (zAT a) [] (fun v _=>some (v,[]))=ztQ a (fun y=>some (zCG a y,[])):=by kernel_rfl
def Zcj (a:zdu) (K:AV→Ans):Ans:=za (zck a) fun y=>K (zCG a y)
def z6m:List AV→(AV→Ans)→Ans:=fun l K=>za (zR0 l) fun a=>Zcj a K
theorem zR6:zM Tryz.prog 72 z6m:=zL (hint:=zd) (d:=0) (n:=70) mixed tabOk zK1 Tryz.func72 (zC (by kernel_rfl)) (by decide +kernel) z1i zVa z5P zZW zVe
--@ ref05_Covers
noncomputable def zwA:Env:=[]
theorem zMZ:zf Tryz.prog zwA:=zf.nil
noncomputable def z65:Code:=Tryz.f146.body.getD .skip
noncomputable def zpe:Code:=zF [1,0] z65
noncomputable def zu9:Ann := .none
theorem zEm:zq Tryz.prog 17 zpe zu9:=(zb _ _ _)
abbrev Q3:=(Int)×(Int)×(Int)×(Int)
abbrev zoa:=(Bool)
def zBK:Q3→St:=fun (o0_0,o0_1,o1_0,o1_1)=>{ env:=[(2,.ptr 0 0),(3,.ptr 1 0)],stk:=[[]],H:=[.cells [.int .i64 o0_0,.int .i64 o0_1],.cells [.int .i64 o1_0,.int .i64 o1_1]],blk:=598016 }
def zvD (s:St):Option {x:Q3 // s=zBK x}:=match s with
  | { env:=[(2,.ptr 0 0),(3,.ptr 1 0)],stk:=[[]],H:=[.cells [.int .i64 o0_0,.int .i64 o0_1],.cells [.int .i64 o1_0,.int .i64 o1_1]],blk:=598016 }=>some ⟨(o0_0,o0_1,o1_0,o1_1),rfl⟩
  | _=>none
def zj7 (s:St):Option Q3:=pk (zvD s)
theorem zKd (s:St) (x:Q3) (h:zj7 s=some x):s=zBK x:=zt (o:=zvD s) h
def zms:Q3→(Ex→St→Ans)→zoa→Ans:=fun (o0_0,o0_1,o1_0,o1_1) K=>fun t4_y=>K (Ex.norm) { env:=[(4,.bool t4_y)],stk:=[[]],H:=[],blk:=598016 }
def zad {β:Type}:Q3→(zoa→Option β)→Option β:=fun (o0_0,o0_1,o1_0,o1_1) exit=>(bif decide (o0_0≥o1_0) then (exit (decide (o0_1≥o1_1))) else (exit (false)))
def qr (i:Q3):Option zoa:=zad i some
theorem zBB (i:Q3) (k:zoa→Ans):zad i k=za (qr i) k:=by
  obtain ⟨o0_0,o0_1,o1_0,o1_1⟩:=i
  simp only [qr,zad,zj,zh,zl,zc,zi,zm,zg]
theorem zFg (i:Q3) (K:Ex→St→Ans):zx Tryz.tab zwA zd (zy Tryz.tab zwA zd 0 64) 70 17 zu9 zpe (zD 0 (exk [4] [4] []) K) (zBK i)=zad i (zms i K):=by kernel_rfl
theorem zN7:zw Tryz.prog 17 zpe (zH zj7 qr zms):=zE mixed tabOk zMZ 0 (exk [4] [4] []) zEm zKd zFg zBB
noncomputable def zQV:(Ex→St→Ans)→St→Ans:=(zH zj7 qr zms)
theorem zXK:zw Tryz.prog 17 zpe zQV:=zN7
noncomputable def z16:Ann:=(.seq .none (.seq (.cut 0 [2,3] zQV) .none))
theorem z1d:zq Tryz.prog 17 z65 z16:=⟨(zb _ _ _),⟨zXK,(zb _ _ _)⟩⟩
abbrev zdA:=(Int)×(Int)×(Int)×(Int)
abbrev zIP:=(Bool)
def zva {β:Type}:zdA→(zIP→Option β)→Option β:=fun (a0_0,a0_1,a1_0,a1_1) exit=>(za (qr (a0_0,a0_1,a1_0,a1_1)) fun t4=>(exit (t4)))
def za9 (a:zdA):Option zIP:=zva a some
theorem z1c (a:zdA) (k:zIP→Ans):zva a k=za (za9 a) k:=by
  obtain ⟨a0_0,a0_1,a1_0,a1_1⟩:=a
  simp only [za9,zva,zj,zh,zl,zc,zi,zm,zg]
def zx6:zdA→List AV:=fun (a0_0,a0_1,a1_0,a1_1)=>[.agg [.int .i64 a0_0,.int .i64 a0_1],.agg [.int .i64 a1_0,.int .i64 a1_1]]
def zLQ (l:List AV):Option {a:zdA // l=zx6 a}:=match l with
  | [.agg [.int .i64 a0_0,.int .i64 a0_1],.agg [.int .i64 a1_0,.int .i64 a1_1]]=>some ⟨(a0_0,a0_1,a1_0,a1_1),rfl⟩
  | _=>none
def zQa (l:List AV):Option zdA:=pk (zLQ l)
theorem zWO (l:List AV) (a:zdA) (h:zQa l=some a):l=zx6 a:=zt (o:=zLQ l) h
def zCN:zdA→zIP→AV:=fun (a0_0,a0_1,a1_0,a1_1)=>fun r_y => .bool r_y
theorem zVt : ∀(a:zdA) (y:zIP),(zCN a y).closed1=true:=by
  rintro ⟨a0_0,a0_1,a1_0,a1_1⟩ y <;> first | rfl | exact Empty.elim y
theorem z7g (a:zdA):fnE Tryz.tab zwA zd 0 70 146 Tryz.f146.ntmps Tryz.f146.results.toList z16 z65 (zx6 a) [] (fun v _=>some (v,[]))=zva a (fun y=>some (zCN a y,[])):=by kernel_rfl
def ZcK (a:zdA) (K:AV→Ans):Ans:=za (za9 a) fun y=>K (zCN a y)
def ZaY:List AV→(AV→Ans)→Ans:=fun l K=>za (zQa l) fun a=>ZcK a K
theorem z8h:zM Tryz.prog 146 ZaY:=zL (hint:=zd) (d:=0) (n:=70) mixed tabOk zMZ Tryz.func146 (zC (by kernel_rfl)) (by decide +kernel) z1d zWO z7g z1c zVt
--@ ref05_Compare
noncomputable def zg0:Env:=[(146,.pure ZaY)]
theorem zq9:zf Tryz.prog zg0:=zf.cons z8h (zf.nil)
noncomputable def zVQ:Code:=Tryz.f107.body.getD .skip
noncomputable def zpZ:Code:=zF [1,0,0,0] zVQ
noncomputable def zuj:Ann := .none
theorem zDY:zq Tryz.prog 22 zpZ zuj:=(zb _ _ _)
abbrev QJ:=(Int)×(Int)×(Int)×(Int)
abbrev zns:=(Bool)
def zza:QJ→St:=fun (o0_0,o0_1,o1_0,o1_1)=>{ env:=[(2,.ptr 0 0),(3,.ptr 1 0)],stk:=[[]],H:=[.cells [.int .i64 o0_0,.int .i64 o0_1],.cells [.int .i64 o1_0,.int .i64 o1_1]],blk:=438272 }
def zux (s:St):Option {x:QJ // s=zza x}:=match s with
  | { env:=[(2,.ptr 0 0),(3,.ptr 1 0)],stk:=[[]],H:=[.cells [.int .i64 o0_0,.int .i64 o0_1],.cells [.int .i64 o1_0,.int .i64 o1_1]],blk:=438272 }=>some ⟨(o0_0,o0_1,o1_0,o1_1),rfl⟩
  | _=>none
def zkT (s:St):Option QJ:=pk (zux s)
theorem zHu (s:St) (x:QJ) (h:zkT s=some x):s=zza x:=zt (o:=zux s) h
def zku:QJ→(Ex→St→Ans)→zns→Ans:=fun (o0_0,o0_1,o1_0,o1_1) K=>fun t5_y=>K (Ex.norm) { env:=[(2,.ptr 0 0),(3,.ptr 1 0),(5,.bool t5_y)],stk:=[[]],H:=[.cells [.int .i64 o0_0,.int .i64 o0_1],.cells [.int .i64 o1_0,.int .i64 o1_1]],blk:=438272 }
def zaL {β:Type}:QJ→(zns→Option β)→Option β:=fun (o0_0,o0_1,o1_0,o1_1) exit=>(za (za9 (o0_0,o0_1,o1_0,o1_1)) fun r=>(bif r then (za (za9 (o1_0,o1_1,o0_0,o0_1)) fun r_2=>(exit (r_2))) else (exit (false))))
def WG (i:QJ):Option zns:=zaL i some
theorem zBo (i:QJ) (k:zns→Ans):zaL i k=za (WG i) k:=by
  obtain ⟨o0_0,o0_1,o1_0,o1_1⟩:=i
  simp only [WG,zaL,zj,zh,zl,zc,zi,zm,zg]
theorem zFk (i:QJ) (K:Ex→St→Ans):zx Tryz.tab zg0 zd (zy Tryz.tab zg0 zd 0 64) 70 22 zuj zpZ (zD 0 (exk [2,3,5] [4] []) K) (zza i)=zaL i (zku i K):=by kernel_rfl
theorem zOc:zw Tryz.prog 22 zpZ (zH zkT WG zku):=zE mixed tabOk zq9 0 (exk [2,3,5] [4] []) zDY zHu zFk zBo
noncomputable def zPt:(Ex→St→Ans)→St→Ans:=(zH zkT WG zku)
theorem zXR:zw Tryz.prog 22 zpZ zPt:=zOc
noncomputable def zqe:Code:=zF [1,0] zVQ
noncomputable def zuK:Ann:=(.block (.seq (.cut 0 [2,3] zPt) .none))
theorem zEG:zq Tryz.prog 22 zqe zuK:=⟨zXR,(zb _ _ _)⟩
abbrev jj:=(Int)×(Int)×(Int)×(Int)
abbrev znj:=((Int)) ⊕ (Unit)
def zCl:jj→St:=fun (o0_0,o0_1,o1_0,o1_1)=>{ env:=[(2,.ptr 0 0),(3,.ptr 1 0)],stk:=[[]],H:=[.cells [.int .i64 o0_0,.int .i64 o0_1],.cells [.int .i64 o1_0,.int .i64 o1_1]],blk:=438272 }
def zvE (s:St):Option {x:jj // s=zCl x}:=match s with
  | { env:=[(2,.ptr 0 0),(3,.ptr 1 0)],stk:=[[]],H:=[.cells [.int .i64 o0_0,.int .i64 o0_1],.cells [.int .i64 o1_0,.int .i64 o1_1]],blk:=438272 }=>some ⟨(o0_0,o0_1,o1_0,o1_1),rfl⟩
  | _=>none
def zmZ (s:St):Option jj:=pk (zvE s)
theorem zLH (s:St) (x:jj) (h:zmZ s=some x):s=zCl x:=zt (o:=zvE s) h
def zkV:jj→(Ex→St→Ans)→znj→Ans:=fun (o0_0,o0_1,o1_0,o1_1) K=>(Sum.elim (fun t4_y=>K (Ex.ret) { env:=[(4,.int .i64 t4_y)],stk:=[[]],H:=[],blk:=438272 }) (fun _=>K (Ex.norm) { env:=[],stk:=[[]],H:=[],blk:=438272 }))
def zaw {β:Type}:jj→(znj→Option β)→Option β:=fun (o0_0,o0_1,o1_0,o1_1) exit=>(za (WG (o0_0,o0_1,o1_0,o1_1)) fun t5=>(bif t5 then (exit (Sum.inl ((0:Int)))) else (za (za9 (o0_0,o0_1,o1_0,o1_1)) fun r=>(bif r then (exit (Sum.inl ((1:Int)))) else (za (za9 (o1_0,o1_1,o0_0,o0_1)) fun r_2=>(bif r_2 then (exit (Sum.inl ((2:Int)))) else (exit (Sum.inr ()))))))))
def qm (i:jj):Option znj:=zaw i some
theorem zB2 (i:jj) (k:znj→Ans):zaw i k=za (qm i) k:=by
  obtain ⟨o0_0,o0_1,o1_0,o1_1⟩:=i
  simp only [qm,zaw,zj,zh,zl,zc,zi,zm,zg]
theorem zEr (i:jj) (K:Ex→St→Ans):zx Tryz.tab zg0 zd (zy Tryz.tab zg0 zd 0 64) 70 22 zuK zqe (zD 0 (exk [] [4] []) K) (zCl i)=zaw i (zkV i K):=by kernel_rfl
theorem zOt:zw Tryz.prog 22 zqe (zH zmZ qm zkV):=zE mixed tabOk zq9 0 (exk [] [4] []) zEG zLH zEr zB2
noncomputable def zPq:(Ex→St→Ans)→St→Ans:=(zH zmZ qm zkV)
theorem zST:zw Tryz.prog 22 zqe zPq:=zOt
noncomputable def zYz:Ann:=(.seq .none (.seq (.cut 0 [2,3] zPq) .none))
theorem z3h:zq Tryz.prog 22 zVQ zYz:=⟨(zb _ _ _),⟨zST,(zb _ _ _)⟩⟩
abbrev zeS:=(Int)×(Int)×(Int)×(Int)
abbrev zM3:=(Int)
def zvH {β:Type}:zeS→(zM3→Option β)→Option β:=fun (a0_0,a0_1,a1_0,a1_1) exit=>(za (qm (a0_0,a0_1,a1_0,a1_1)) (Sum.elim (fun t4=>(exit (t4))) (fun _=>(exit ((3:Int))))))
def zgj (a:zeS):Option zM3:=zvH a some
theorem z3O (a:zeS) (k:zM3→Ans):zvH a k=za (zgj a) k:=by
  obtain ⟨a0_0,a0_1,a1_0,a1_1⟩:=a
  simp only [zgj,zvH,zj,zh,zl,zc,zi,zm,zg]
def zB7:zeS→List AV:=fun (a0_0,a0_1,a1_0,a1_1)=>[.agg [.int .i64 a0_0,.int .i64 a0_1],.agg [.int .i64 a1_0,.int .i64 a1_1]]
def zIE (l:List AV):Option {a:zeS // l=zB7 a}:=match l with
  | [.agg [.int .i64 a0_0,.int .i64 a0_1],.agg [.int .i64 a1_0,.int .i64 a1_1]]=>some ⟨(a0_0,a0_1,a1_0,a1_1),rfl⟩
  | _=>none
def zSB (l:List AV):Option zeS:=pk (zIE l)
theorem zT4 (l:List AV) (a:zeS) (h:zSB l=some a):l=zB7 a:=zt (o:=zIE l) h
def zzR:zeS→zM3→AV:=fun (a0_0,a0_1,a1_0,a1_1)=>fun r_y => .int .i64 r_y
theorem zTg : ∀(a:zeS) (y:zM3),(zzR a y).closed1=true:=by
  rintro ⟨a0_0,a0_1,a1_0,a1_1⟩ y <;> first | rfl | exact Empty.elim y
theorem z4J (a:zeS):fnE Tryz.tab zg0 zd 0 70 107 Tryz.f107.ntmps Tryz.f107.results.toList zYz zVQ (zB7 a) [] (fun v _=>some (v,[]))=zvH a (fun y=>some (zzR a y,[])):=by kernel_rfl
def ZcJ (a:zeS) (K:AV→Ans):Ans:=za (zgj a) fun y=>K (zzR a y)
def z9x:List AV→(AV→Ans)→Ans:=fun l K=>za (zSB l) fun a=>ZcJ a K
theorem z8m:zM Tryz.prog 107 z9x:=zL (hint:=zd) (d:=0) (n:=70) mixed tabOk zq9 Tryz.func107 (zC (by kernel_rfl)) (by decide +kernel) z3h zT4 z4J z3O zTg
--@ ref21_Check
noncomputable def j5:Env:=[(72,.pure z6m),(107,.pure z9x)]
theorem zeA:zf Tryz.prog j5:=zf.cons zR6 (zf.cons z8m (zf.nil))
noncomputable def zxz:Code:=Tryz.f73.body.getD .skip
noncomputable def znJ:Code:=zF [1,0,0,1,1,1,1,0] zxz
noncomputable def zuD:Ann := .none
theorem zFv:zq Tryz.prog 59 znJ zuD:=(zb _ _ _)
abbrev jR:=(Int)×(Int)×(Int)×(List UInt8)×(Int)×(Int)×(List UInt8)
abbrev zoQ:=(Bool)
def zzs:jR→St:=fun (o0_0,o0_1,o0_2,o0_3,o0_4,o0_5,o0_6)=>{ env:=[(1,.ptr 0 0)],stk:=[[]],H:=[.cells [.int .i64 o0_0,.int .i64 o0_1,.int .i64 o0_2,.str o0_3,.int .i64 o0_4,.int .i64 o0_5,.str o0_6]],blk:=299008 }
def zun (s:St):Option {x:jR // s=zzs x}:=match s with
  | { env:=[(1,.ptr 0 0)],stk:=[[]],H:=[.cells [.int .i64 o0_0,.int .i64 o0_1,.int .i64 o0_2,.str o0_3,.int .i64 o0_4,.int .i64 o0_5,.str o0_6]],blk:=299008 }=>some ⟨(o0_0,o0_1,o0_2,o0_3,o0_4,o0_5,o0_6),rfl⟩
  | _=>none
def zlt (s:St):Option jR:=pk (zun s)
theorem zJM (s:St) (x:jR) (h:zlt s=some x):s=zzs x:=zt (o:=zun s) h
def zmC:jR→(Ex→St→Ans)→zoQ→Ans:=fun (o0_0,o0_1,o0_2,o0_3,o0_4,o0_5,o0_6) K=>fun t39_y=>K (Ex.norm) { env:=[(39,.bool t39_y)],stk:=[[]],H:=[],blk:=299008 }
def za8 {β:Type}:jR→(zoQ→Option β)→Option β:=fun (o0_0,o0_1,o0_2,o0_3,o0_4,o0_5,o0_6) exit=>(za (zgj (o0_1,o0_2,o0_4,o0_5)) fun r=>(bif r != (3:Int) then (exit (true)) else (exit (decide (o0_1≤o0_4)))))
def qu (i:jR):Option zoQ:=za8 i some
theorem zBG (i:jR) (k:zoQ→Ans):za8 i k=za (qu i) k:=by
  obtain ⟨o0_0,o0_1,o0_2,o0_3,o0_4,o0_5,o0_6⟩:=i
  simp only [qu,za8,zj,zh,zl,zc,zi,zm,zg]
theorem zDV (i:jR) (K:Ex→St→Ans):zx Tryz.tab j5 zd (zy Tryz.tab j5 zd 0 64) 70 59 zuD znJ (zD 0 (exk [39] [2] []) K) (zzs i)=za8 i (zmC i K):=by kernel_rfl
theorem zPa:zw Tryz.prog 59 znJ (zH zlt qu zmC):=zE mixed tabOk zeA 0 (exk [39] [2] []) zFv zJM zDV zBG
noncomputable def zPF:(Ex→St→Ans)→St→Ans:=(zH zlt qu zmC)
theorem zWx:zw Tryz.prog 59 znJ zPF:=zPa
noncomputable def zpK:Code:=zF [1,0,0,1,1,0] zxz
noncomputable def zvY:Ann := .none
theorem zEs:zq Tryz.prog 59 zpK zvY:=(zb _ _ _)
abbrev QN:=(Int)×(Int)×(Int)×(List UInt8)×(Int)×(Int)×(List UInt8)
abbrev zpt:=(Bool)
def zxZ:QN→St:=fun (o0_0,o0_1,o0_2,o0_3,o0_4,o0_5,o0_6)=>{ env:=[(1,.ptr 0 0)],stk:=[[]],H:=[.cells [.int .i64 o0_0,.int .i64 o0_1,.int .i64 o0_2,.str o0_3,.int .i64 o0_4,.int .i64 o0_5,.str o0_6]],blk:=299008 }
def zsl (s:St):Option {x:QN // s=zxZ x}:=match s with
  | { env:=[(1,.ptr 0 0)],stk:=[[]],H:=[.cells [.int .i64 o0_0,.int .i64 o0_1,.int .i64 o0_2,.str o0_3,.int .i64 o0_4,.int .i64 o0_5,.str o0_6]],blk:=299008 }=>some ⟨(o0_0,o0_1,o0_2,o0_3,o0_4,o0_5,o0_6),rfl⟩
  | _=>none
def zma (s:St):Option QN:=pk (zsl s)
theorem zHC (s:St) (x:QN) (h:zma s=some x):s=zxZ x:=zt (o:=zsl s) h
def zlG:QN→(Ex→St→Ans)→zpt→Ans:=fun (o0_0,o0_1,o0_2,o0_3,o0_4,o0_5,o0_6) K=>fun t26_y=>K (Ex.norm) { env:=[(1,.ptr 0 0),(26,.bool t26_y)],stk:=[[]],H:=[.cells [.int .i64 o0_0,.int .i64 o0_1,.int .i64 o0_2,.str o0_3,.int .i64 o0_4,.int .i64 o0_5,.str o0_6]],blk:=299008 }
def zaU {β:Type}:QN→(zpt→Option β)→Option β:=fun (o0_0,o0_1,o0_2,o0_3,o0_4,o0_5,o0_6) exit=>(bif (↑(List.length o0_3):Int) != (128:Int) then (exit (true)) else (exit ((↑(List.length o0_6):Int) != (128:Int))))
def W2 (i:QN):Option zpt:=zaU i some
theorem zyc (i:QN) (k:zpt→Ans):zaU i k=za (W2 i) k:=by
  obtain ⟨o0_0,o0_1,o0_2,o0_3,o0_4,o0_5,o0_6⟩:=i
  simp only [W2,zaU,zj,zh,zl,zc,zi,zm,zg]
theorem zGb (i:QN) (K:Ex→St→Ans):zx Tryz.tab j5 zd (zy Tryz.tab j5 zd 0 64) 70 59 zvY zpK (zD 0 (exk [1,26] [2] []) K) (zxZ i)=zaU i (zlG i K):=by kernel_rfl
theorem zO2:zw Tryz.prog 59 zpK (zH zma W2 zlG):=zE mixed tabOk zeA 0 (exk [1,26] [2] []) zEs zHC zGb zyc
noncomputable def zPB:(Ex→St→Ans)→St→Ans:=(zH zma W2 zlG)
theorem zTd:zw Tryz.prog 59 zpK zPB:=zO2
noncomputable def zni:Code:=zF [1,0,0,0] zxz
noncomputable def zst:Ann := .none
theorem zFK:zq Tryz.prog 59 zni zst:=(zb _ _ _)
abbrev QS:=(Int)×(Int)×(Int)×(List UInt8)×(Int)×(Int)×(List UInt8)
abbrev zm2:=(Bool)
def zyE:QS→St:=fun (o0_0,o0_1,o0_2,o0_3,o0_4,o0_5,o0_6)=>{ env:=[(1,.ptr 0 0)],stk:=[[]],H:=[.cells [.int .i64 o0_0,.int .i64 o0_1,.int .i64 o0_2,.str o0_3,.int .i64 o0_4,.int .i64 o0_5,.str o0_6]],blk:=299008 }
def zuO (s:St):Option {x:QS // s=zyE x}:=match s with
  | { env:=[(1,.ptr 0 0)],stk:=[[]],H:=[.cells [.int .i64 o0_0,.int .i64 o0_1,.int .i64 o0_2,.str o0_3,.int .i64 o0_4,.int .i64 o0_5,.str o0_6]],blk:=299008 }=>some ⟨(o0_0,o0_1,o0_2,o0_3,o0_4,o0_5,o0_6),rfl⟩
  | _=>none
def zkb (s:St):Option QS:=pk (zuO s)
theorem zIy (s:St) (x:QS) (h:zkb s=some x):s=zyE x:=zt (o:=zuO s) h
def zj4:QS→(Ex→St→Ans)→zm2→Ans:=fun (o0_0,o0_1,o0_2,o0_3,o0_4,o0_5,o0_6) K=>fun t3_y=>K (Ex.norm) { env:=[(1,.ptr 0 0),(3,.bool t3_y)],stk:=[[]],H:=[.cells [.int .i64 o0_0,.int .i64 o0_1,.int .i64 o0_2,.str o0_3,.int .i64 o0_4,.int .i64 o0_5,.str o0_6]],blk:=299008 }
def zaz {β:Type}:QS→(zm2→Option β)→Option β:=fun (o0_0,o0_1,o0_2,o0_3,o0_4,o0_5,o0_6) exit=>(bif decide (o0_0<(0:Int)) then (exit (true)) else (bif decide (o0_0≥(24:Int)) then (exit (true)) else (za (zck (o0_1,o0_2)) fun r=>(bif !r then (exit (true)) else (za (zck (o0_4,o0_5)) fun r_2=>(exit (!r_2)))))))
def qn (i:QS):Option zm2:=zaz i some
theorem zCP (i:QS) (k:zm2→Ans):zaz i k=za (qn i) k:=by
  obtain ⟨o0_0,o0_1,o0_2,o0_3,o0_4,o0_5,o0_6⟩:=i
  simp only [qn,zaz,zj,zh,zl,zc,zi,zm,zg]
theorem zFA (i:QS) (K:Ex→St→Ans):zx Tryz.tab j5 zd (zy Tryz.tab j5 zd 0 64) 70 59 zst zni (zD 0 (exk [1,3] [2] []) K) (zyE i)=zaz i (zj4 i K):=by kernel_rfl
theorem zNL:zw Tryz.prog 59 zni (zH zkb qn zj4):=zE mixed tabOk zeA 0 (exk [1,3] [2] []) zFK zIy zFA zCP
noncomputable def zSw:(Ex→St→Ans)→St→Ans:=(zH zkb qn zj4)
theorem zXY:zw Tryz.prog 59 zni zSw:=zNL
noncomputable def zo8:Code:=zF [1,0] zxz
noncomputable def zuU:Ann:=(.block (.seq (.cut 0 [1] zSw) (.cond .none (.seq (.cut 0 [1] zPB) (.cond .none (.seq (.cut 0 [1] zPF) .none))))))
theorem zGM:zq Tryz.prog 59 zo8 zuU:=⟨zXY,⟨(zb _ _ _),⟨zTd,⟨(zb _ _ _),⟨zWx,(zb _ _ _)⟩⟩⟩⟩⟩
abbrev jN:=(Int)×(Int)×(Int)×(List UInt8)×(Int)×(Int)×(List UInt8)
abbrev zor:=((Int)) ⊕ (Unit)
def zAt:jN→St:=fun (o0_0,o0_1,o0_2,o0_3,o0_4,o0_5,o0_6)=>{ env:=[(1,.ptr 0 0)],stk:=[[]],H:=[.cells [.int .i64 o0_0,.int .i64 o0_1,.int .i64 o0_2,.str o0_3,.int .i64 o0_4,.int .i64 o0_5,.str o0_6]],blk:=299008 }
def zuE (s:St):Option {x:jN // s=zAt x}:=match s with
  | { env:=[(1,.ptr 0 0)],stk:=[[]],H:=[.cells [.int .i64 o0_0,.int .i64 o0_1,.int .i64 o0_2,.str o0_3,.int .i64 o0_4,.int .i64 o0_5,.str o0_6]],blk:=299008 }=>some ⟨(o0_0,o0_1,o0_2,o0_3,o0_4,o0_5,o0_6),rfl⟩
  | _=>none
def zjA (s:St):Option jN:=pk (zuE s)
theorem zIQ (s:St) (x:jN) (h:zjA s=some x):s=zAt x:=zt (o:=zuE s) h
def zkl:jN→(Ex→St→Ans)→zor→Ans:=fun (o0_0,o0_1,o0_2,o0_3,o0_4,o0_5,o0_6) K=>(Sum.elim (fun t2_y=>K (Ex.ret) { env:=[(2,.int .i64 t2_y)],stk:=[[]],H:=[],blk:=299008 }) (fun _=>K (Ex.norm) { env:=[],stk:=[[]],H:=[],blk:=299008 }))
def zac {β:Type}:jN→(zor→Option β)→Option β:=fun (o0_0,o0_1,o0_2,o0_3,o0_4,o0_5,o0_6) exit=>(za (qn (o0_0,o0_1,o0_2,o0_3,o0_4,o0_5,o0_6)) fun t3=>(bif t3 then (exit (Sum.inl ((3:Int)))) else (za (W2 (o0_0,o0_1,o0_2,o0_3,o0_4,o0_5,o0_6)) fun t26=>(bif t26 then (exit (Sum.inl ((12:Int)))) else (za (qu (o0_0,o0_1,o0_2,o0_3,o0_4,o0_5,o0_6)) fun t39=>(bif t39 then (exit (Sum.inl ((10:Int)))) else (exit (Sum.inr ()))))))))
def WH (i:jN):Option zor:=zac i some
theorem zBf (i:jN) (k:zor→Ans):zac i k=za (WH i) k:=by
  obtain ⟨o0_0,o0_1,o0_2,o0_3,o0_4,o0_5,o0_6⟩:=i
  simp only [WH,zac,zj,zh,zl,zc,zi,zm,zg]
theorem zFo (i:jN) (K:Ex→St→Ans):zx Tryz.tab j5 zd (zy Tryz.tab j5 zd 0 64) 70 59 zuU zo8 (zD 0 (exk [] [2] []) K) (zAt i)=zac i (zkl i K):=by kernel_rfl
theorem zN3:zw Tryz.prog 59 zo8 (zH zjA WH zkl):=zE mixed tabOk zeA 0 (exk [] [2] []) zGM zIQ zFo zBf
noncomputable def zSz:(Ex→St→Ans)→St→Ans:=(zH zjA WH zkl)
theorem zUF:zw Tryz.prog 59 zo8 zSz:=zN3
noncomputable def z3n:Ann:=(.seq .none (.seq (.cut 0 [1] zSz) .none))
theorem z1v:zq Tryz.prog 59 zxz z3n:=⟨(zb _ _ _),⟨zUF,(zb _ _ _)⟩⟩
abbrev zeJ:=(Int)×(Int)×(Int)×(List UInt8)×(Int)×(Int)×(List UInt8)
abbrev zI2:=(Int)
def ztz {β:Type}:zeJ→(zI2→Option β)→Option β:=fun (a0_0,a0_1,a0_2,a0_3,a0_4,a0_5,a0_6) exit=>(za (WH (a0_0,a0_1,a0_2,a0_3,a0_4,a0_5,a0_6)) (Sum.elim (fun t2=>(exit (t2))) (fun _=>(exit ((0:Int))))))
def zg2 (a:zeJ):Option zI2:=ztz a some
theorem z08 (a:zeJ) (k:zI2→Ans):ztz a k=za (zg2 a) k:=by
  obtain ⟨a0_0,a0_1,a0_2,a0_3,a0_4,a0_5,a0_6⟩:=a
  simp only [zg2,ztz,zj,zh,zl,zc,zi,zm,zg]
def zyU:zeJ→List AV:=fun (a0_0,a0_1,a0_2,a0_3,a0_4,a0_5,a0_6)=>[.agg [.int .i64 a0_0,.int .i64 a0_1,.int .i64 a0_2,.str a0_3,.int .i64 a0_4,.int .i64 a0_5,.str a0_6]]
def zIS (l:List AV):Option {a:zeJ // l=zyU a}:=match l with
  | [.agg [.int .i64 a0_0,.int .i64 a0_1,.int .i64 a0_2,.str a0_3,.int .i64 a0_4,.int .i64 a0_5,.str a0_6]]=>some ⟨(a0_0,a0_1,a0_2,a0_3,a0_4,a0_5,a0_6),rfl⟩
  | _=>none
def zQP (l:List AV):Option zeJ:=pk (zIS l)
theorem zXM (l:List AV) (a:zeJ) (h:zQP l=some a):l=zyU a:=zt (o:=zIS l) h
def zzH:zeJ→zI2→AV:=fun (a0_0,a0_1,a0_2,a0_3,a0_4,a0_5,a0_6)=>fun r_y => .int .i64 r_y
theorem zXZ : ∀(a:zeJ) (y:zI2),(zzH a y).closed1=true:=by
  rintro ⟨a0_0,a0_1,a0_2,a0_3,a0_4,a0_5,a0_6⟩ y <;> first | rfl | exact Empty.elim y
theorem z33 (a:zeJ):fnE Tryz.tab j5 zd 0 70 73 Tryz.f73.ntmps Tryz.f73.results.toList z3n zxz (zyU a) [] (fun v _=>some (v,[]))=ztz a (fun y=>some (zzH a y,[])):=by kernel_rfl
def Zcy (a:zeJ) (K:AV→Ans):Ans:=za (zg2 a) fun y=>K (zzH a y)
def Zaw:List AV→(AV→Ans)→Ans:=fun l K=>za (zQP l) fun a=>Zcy a K
theorem z8O:zM Tryz.prog 73 Zaw:=zL (hint:=zd) (d:=0) (n:=70) mixed tabOk zeA Tryz.func73 (zC (by kernel_rfl)) (by decide +kernel) z1v zXM z33 z08 zXZ
--@ ref23_Check
noncomputable def zca:Env:=[(72,.pure z6m),(73,.pure Zaw)]
theorem zhN:zf Tryz.prog zca:=zf.cons zR6 (zf.cons z8O (zf.nil))
noncomputable def zJD:Code:=Tryz.f37.body.getD .skip
noncomputable def zop:Code:=zF [1,1,0,1,0,1,1,1,0,1,0,0] zJD
noncomputable def ztZ:Ann := .none
theorem zGE:zq Tryz.prog 67 zop ztZ:=(zb _ _ _)
abbrev jJ:=(Int)×(Int)×(Int)×(Int)×(List UInt8)×(Int)×(Int)×(List UInt8)×(Int)×(Int)×(List UInt8)
abbrev zpb:=(Bool)
def zxp:jJ→St:=fun (t4,o0_0,o0_1,o0_2,o0_3,o0_4,o0_5,o0_6,o0_7,o0_8,o0_9)=>{ env:=[(1,.ptr 0 0),(4,.int .i64 t4)],stk:=[[]],H:=[.cells [.int .i64 o0_0,.int .i64 o0_1,.int .i64 o0_2,.str o0_3,.int .i64 o0_4,.int .i64 o0_5,.str o0_6,.int .i64 o0_7,.int .i64 o0_8,.str o0_9]],blk:=151552 }
def zvU (s:St):Option {x:jJ // s=zxp x}:=match s with
  | { env:=[(1,.ptr 0 0),(4,.int .i64 t4)],stk:=[[]],H:=[.cells [.int .i64 o0_0,.int .i64 o0_1,.int .i64 o0_2,.str o0_3,.int .i64 o0_4,.int .i64 o0_5,.str o0_6,.int .i64 o0_7,.int .i64 o0_8,.str o0_9]],blk:=151552 }=>some ⟨(t4,o0_0,o0_1,o0_2,o0_3,o0_4,o0_5,o0_6,o0_7,o0_8,o0_9),rfl⟩
  | _=>none
def zjZ (s:St):Option jJ:=pk (zvU s)
theorem zKQ (s:St) (x:jJ) (h:zjZ s=some x):s=zxp x:=zt (o:=zvU s) h
def zkP:jJ→(Ex→St→Ans)→zpb→Ans:=fun (t4,o0_0,o0_1,o0_2,o0_3,o0_4,o0_5,o0_6,o0_7,o0_8,o0_9) K=>fun t65_y=>K (Ex.norm) { env:=[(4,.int .i64 t4),(65,.bool t65_y)],stk:=[[]],H:=[],blk:=151552 }
def zaa {β:Type}:jJ→(zpb→Option β)→Option β:=fun (t4,o0_0,o0_1,o0_2,o0_3,o0_4,o0_5,o0_6,o0_7,o0_8,o0_9) exit=>(bif t4 == (0:Int) then (bif o0_1 != o0_4 then (exit (true)) else (bif o0_2 != o0_8 then (exit (true)) else (exit (!o0_3 == [])))) else (exit (false)))
def W4 (i:jJ):Option zpb:=zaa i some
theorem zCm (i:jJ) (k:zpb→Ans):zaa i k=za (W4 i) k:=by
  obtain ⟨t4,o0_0,o0_1,o0_2,o0_3,o0_4,o0_5,o0_6,o0_7,o0_8,o0_9⟩:=i
  simp only [W4,zaa,zj,zh,zl,zc,zi,zm,zg]
theorem zFN (i:jJ) (K:Ex→St→Ans):zx Tryz.tab zca zd (zy Tryz.tab zca zd 0 64) 70 67 ztZ zop (zD 0 (exk [4,65] [2] []) K) (zxp i)=zaa i (zkP i K):=by kernel_rfl
theorem zOS:zw Tryz.prog 67 zop (zH zjZ W4 zkP):=zE mixed tabOk zhN 0 (exk [4,65] [2] []) zGE zKQ zFN zCm
noncomputable def zSo:(Ex→St→Ans)→St→Ans:=(zH zjZ W4 zkP)
theorem zWk:zw Tryz.prog 67 zop zSo:=zOS
noncomputable def zpT:Code:=zF [1,1,0,1,0,1,0,0,0,1,1,1,1,0] zJD
noncomputable def ztP:Ann := .none
theorem zDF:zq Tryz.prog 67 zpT ztP:=(zb _ _ _)
abbrev Qh:=(Int)×(Int)×(Int)×(List UInt8)×(Int)×(Int)×(List UInt8)×(Int)×(Int)×(List UInt8)
abbrev znL:=(Bool)
def zxN:Qh→St:=fun (o0_0,o0_1,o0_2,o0_3,o0_4,o0_5,o0_6,o0_7,o0_8,o0_9)=>{ env:=[(1,.ptr 0 0),(3,.ptr 1 0)],stk:=[[]],H:=[.cells [.int .i64 o0_0,.int .i64 o0_1,.int .i64 o0_2,.str o0_3,.int .i64 o0_4,.int .i64 o0_5,.str o0_6,.int .i64 o0_7,.int .i64 o0_8,.str o0_9],.cells [.int .i64 (0),.int .i64 (0),.str ([])]],blk:=151553 }
def zsw (s:St):Option {x:Qh // s=zxN x}:=match s with
  | { env:=[(1,.ptr 0 0),(3,.ptr 1 0)],stk:=[[]],H:=[.cells [.int .i64 o0_0,.int .i64 o0_1,.int .i64 o0_2,.str o0_3,.int .i64 o0_4,.int .i64 o0_5,.str o0_6,.int .i64 o0_7,.int .i64 o0_8,.str o0_9],.cells [.int .i64 r10,.int .i64 r11,.str r12]],blk:=151553 }=>if h10:r10=0 then if h11:r11=0 then if h12:r12=[] then some ⟨(o0_0,o0_1,o0_2,o0_3,o0_4,o0_5,o0_6,o0_7,o0_8,o0_9),by subst h10 h11 h12;rfl⟩ else none else none else none
  | _=>none
def zmt (s:St):Option Qh:=pk (zsw s)
theorem zLt (s:St) (x:Qh) (h:zmt s=some x):s=zxN x:=zt (o:=zsw s) h
def zmN:Qh→(Ex→St→Ans)→znL→Ans:=fun (o0_0,o0_1,o0_2,o0_3,o0_4,o0_5,o0_6,o0_7,o0_8,o0_9) K=>fun t20_y=>K (Ex.norm) { env:=[(20,.bool t20_y)],stk:=[[]],H:=[],blk:=151553 }
def J4 {β:Type}:Qh→(znL→Option β)→Option β:=fun (o0_0,o0_1,o0_2,o0_3,o0_4,o0_5,o0_6,o0_7,o0_8,o0_9) exit=>(bif !(o0_4 == (0:Int)&&(o0_5 == (0:Int)&&true)&&(o0_6 == []&&true)) then (exit (true)) else (exit (!(o0_7 == (0:Int)&&(o0_8 == (0:Int)&&true)&&(o0_9 == []&&true)))))
def qf (i:Qh):Option znL:=J4 i some
theorem zAS (i:Qh) (k:znL→Ans):J4 i k=za (qf i) k:=by
  obtain ⟨o0_0,o0_1,o0_2,o0_3,o0_4,o0_5,o0_6,o0_7,o0_8,o0_9⟩:=i
  simp only [qf,J4,zj,zh,zl,zc,zi,zm,zg]
theorem zFj (i:Qh) (K:Ex→St→Ans):zx Tryz.tab zca zd (zy Tryz.tab zca zd 0 64) 70 67 ztP zpT (zD 0 (exk [20] [2] []) K) (zxN i)=J4 i (zmN i K):=by kernel_rfl
theorem zNp:zw Tryz.prog 67 zpT (zH zmt qf zmN):=zE mixed tabOk zhN 0 (exk [20] [2] []) zDF zLt zFj zAS
noncomputable def zSj:(Ex→St→Ans)→St→Ans:=(zH zmt qf zmN)
theorem zU6:zw Tryz.prog 67 zpT zSj:=zNp
noncomputable def zpj:Code:=zF [1,1,0,1,0,1,0,0] zJD
noncomputable def zwP:Ann:=(.block (.seq .none (.cond .none (.seq .none (.cond .none (.seq (.cut 0 [1,3] zSj) .none))))))
theorem zEB:zq Tryz.prog 67 zpj zwP:=⟨(zb _ _ _),⟨(zb _ _ _),⟨(zb _ _ _),⟨(zb _ _ _),⟨zU6,(zb _ _ _)⟩⟩⟩⟩⟩
abbrev QZ:=(Int)×(Int)×(Int)×(List UInt8)×(Int)×(Int)×(List UInt8)×(Int)×(Int)×(List UInt8)
abbrev zpQ:=((Int)) ⊕ (Unit)
def zCc:QZ→St:=fun (o0_0,o0_1,o0_2,o0_3,o0_4,o0_5,o0_6,o0_7,o0_8,o0_9)=>{ env:=[(1,.ptr 0 0),(3,.ptr 1 0)],stk:=[[]],H:=[.cells [.int .i64 o0_0,.int .i64 o0_1,.int .i64 o0_2,.str o0_3,.int .i64 o0_4,.int .i64 o0_5,.str o0_6,.int .i64 o0_7,.int .i64 o0_8,.str o0_9],.cells [.int .i64 (0),.int .i64 (0),.str ([])]],blk:=151552 }
def zvh (s:St):Option {x:QZ // s=zCc x}:=match s with
  | { env:=[(1,.ptr 0 0),(3,.ptr 1 0)],stk:=[[]],H:=[.cells [.int .i64 o0_0,.int .i64 o0_1,.int .i64 o0_2,.str o0_3,.int .i64 o0_4,.int .i64 o0_5,.str o0_6,.int .i64 o0_7,.int .i64 o0_8,.str o0_9],.cells [.int .i64 r10,.int .i64 r11,.str r12]],blk:=151552 }=>if h10:r10=0 then if h11:r11=0 then if h12:r12=[] then some ⟨(o0_0,o0_1,o0_2,o0_3,o0_4,o0_5,o0_6,o0_7,o0_8,o0_9),by subst h10 h11 h12;rfl⟩ else none else none else none
  | _=>none
def zj1 (s:St):Option QZ:=pk (zvh s)
theorem zMh (s:St) (x:QZ) (h:zj1 s=some x):s=zCc x:=zt (o:=zvh s) h
def zmG:QZ→(Ex→St→Ans)→zpQ→Ans:=fun (o0_0,o0_1,o0_2,o0_3,o0_4,o0_5,o0_6,o0_7,o0_8,o0_9) K=>(Sum.elim (fun t2_y=>K (Ex.ret) { env:=[(2,.int .i64 t2_y)],stk:=[[]],H:=[],blk:=151553 }) (fun _=>K (Ex.norm) { env:=[],stk:=[[]],H:=[],blk:=151553 }))
def zbd {β:Type}:QZ→(zpQ→Option β)→Option β:=fun (o0_0,o0_1,o0_2,o0_3,o0_4,o0_5,o0_6,o0_7,o0_8,o0_9) exit=>(za (zck (o0_1,o0_2)) fun r=>(bif !r then (exit (Sum.inl ((3:Int)))) else (bif (↑(List.length o0_3):Int) != (128:Int) then (exit (Sum.inl ((12:Int)))) else (za (qf (o0_0,o0_1,o0_2,o0_3,o0_4,o0_5,o0_6,o0_7,o0_8,o0_9)) fun t20=>(bif t20 then (exit (Sum.inl ((4:Int)))) else (exit (Sum.inr ())))))))
def qc (i:QZ):Option zpQ:=zbd i some
theorem zAu (i:QZ) (k:zpQ→Ans):zbd i k=za (qc i) k:=by
  obtain ⟨o0_0,o0_1,o0_2,o0_3,o0_4,o0_5,o0_6,o0_7,o0_8,o0_9⟩:=i
  simp only [qc,zbd,zj,zh,zl,zc,zi,zm,zg]
theorem zFx (i:QZ) (K:Ex→St→Ans):zx Tryz.tab zca zd (zy Tryz.tab zca zd 0 64) 70 67 zwP zpj (zD 0 (exk [] [2] []) K) (zCc i)=zbd i (zmG i K):=by kernel_rfl
theorem zN0:zw Tryz.prog 67 zpj (zH zj1 qc zmG):=zE mixed tabOk zhN 0 (exk [] [2] []) zEB zMh zFx zAu
noncomputable def zPj:(Ex→St→Ans)→St→Ans:=(zH zj1 qc zmG)
theorem zVq:zw Tryz.prog 67 zpj zPj:=zN0
noncomputable def z1P:Ann:=(.seq .none (.seq .none (.seq (.seq .none (.block (.seq .none (.cond (.seq (.cut 0 [1,3] zPj) .none) (.seq .none (.cond (.seq .none (.seq (.seq (.cut 0 [1,4] zSo) .none) .none)) .none)))))) .none)))
theorem zY0:zq Tryz.prog 67 zJD z1P:=⟨(zb _ _ _),⟨(zb _ _ _),⟨⟨(zb _ _ _),⟨(zb _ _ _),⟨⟨zVq,(zb _ _ _)⟩,⟨(zb _ _ _),⟨⟨(zb _ _ _),⟨⟨zWk,(zb _ _ _)⟩,(zb _ _ _)⟩⟩,(zb _ _ _)⟩⟩⟩⟩⟩,(zb _ _ _)⟩⟩⟩
abbrev zei:=(Int)×(Int)×(Int)×(List UInt8)×(Int)×(Int)×(List UInt8)×(Int)×(Int)×(List UInt8)
abbrev zKC:=(Int)
def zxc {β:Type}:zei→(zKC→Option β)→Option β:=fun (a0_0,a0_1,a0_2,a0_3,a0_4,a0_5,a0_6,a0_7,a0_8,a0_9) exit=>(bif a0_0 == (0:Int) then (za (qc (a0_0,a0_1,a0_2,a0_3,a0_4,a0_5,a0_6,a0_7,a0_8,a0_9)) (Sum.elim (fun t2=>(exit (t2))) (fun _=>(exit ((0:Int)))))) else (bif a0_0 == (1:Int) then (za (zg2 ((0:Int),a0_4,a0_5,a0_6,a0_7,a0_8,a0_9)) fun r=>(za (W4 (r,a0_0,a0_1,a0_2,a0_3,a0_4,a0_5,a0_6,a0_7,a0_8,a0_9)) fun t65=>(bif t65 then (exit ((4:Int))) else (exit (r))))) else (exit ((7:Int)))))
def zcu (a:zei):Option zKC:=zxc a some
theorem zZB (a:zei) (k:zKC→Ans):zxc a k=za (zcu a) k:=by
  obtain ⟨a0_0,a0_1,a0_2,a0_3,a0_4,a0_5,a0_6,a0_7,a0_8,a0_9⟩:=a
  simp only [zcu,zxc,zj,zh,zl,zc,zi,zm,zg]
def zzw:zei→List AV:=fun (a0_0,a0_1,a0_2,a0_3,a0_4,a0_5,a0_6,a0_7,a0_8,a0_9)=>[.agg [.int .i64 a0_0,.int .i64 a0_1,.int .i64 a0_2,.str a0_3,.int .i64 a0_4,.int .i64 a0_5,.str a0_6,.int .i64 a0_7,.int .i64 a0_8,.str a0_9]]
def zHF (l:List AV):Option {a:zei // l=zzw a}:=match l with
  | [.agg [.int .i64 a0_0,.int .i64 a0_1,.int .i64 a0_2,.str a0_3,.int .i64 a0_4,.int .i64 a0_5,.str a0_6,.int .i64 a0_7,.int .i64 a0_8,.str a0_9]]=>some ⟨(a0_0,a0_1,a0_2,a0_3,a0_4,a0_5,a0_6,a0_7,a0_8,a0_9),rfl⟩
  | _=>none
def zPA (l:List AV):Option zei:=pk (zHF l)
theorem zV7 (l:List AV) (a:zei) (h:zPA l=some a):l=zzw a:=zt (o:=zHF l) h
def zxk:zei→zKC→AV:=fun (a0_0,a0_1,a0_2,a0_3,a0_4,a0_5,a0_6,a0_7,a0_8,a0_9)=>fun r_y => .int .i64 r_y
theorem zVx : ∀(a:zei) (y:zKC),(zxk a y).closed1=true:=by
  rintro ⟨a0_0,a0_1,a0_2,a0_3,a0_4,a0_5,a0_6,a0_7,a0_8,a0_9⟩ y <;> first | rfl | exact Empty.elim y
theorem z6R (a:zei):fnE Tryz.tab zca zd 0 70 37 Tryz.f37.ntmps Tryz.f37.results.toList z1P zJD (zzw a) [] (fun v _=>some (v,[]))=zxc a (fun y=>some (zxk a y,[])):=by kernel_rfl
def ZbL (a:zei) (K:AV→Ans):Ans:=za (zcu a) fun y=>K (zxk a y)
def z58:List AV→(AV→Ans)→Ans:=fun l K=>za (zPA l) fun a=>ZbL a K
theorem zRh:zM Tryz.prog 37 z58:=zL (hint:=zd) (d:=0) (n:=70) mixed tabOk zhN Tryz.func37 (zC (by kernel_rfl)) (by decide +kernel) zY0 zV7 z6R zZB zVx
--@ ref23_Get
--@ ref05_Put
noncomputable def z1D:Env:=[(65,.pure zrN)]
theorem z5N:zf Tryz.prog z1D:=zf.cons zdi (zf.nil)
noncomputable def Zbe:Code:=Tryz.f104.body.getD .skip
noncomputable def zZh:Ann := .none
theorem zYZ:zq Tryz.prog 12 Zbe zZh:=(zb _ _ _)
abbrev zd4:=(List UInt8)×(Int)×(Int)
abbrev zHt:=(List UInt8)
def ztR {β:Type}:zd4→(zHt→Option β)→Option β:=fun (a0,a1_0,a1_1) exit=>(za (Zw (a0,a1_0,(7:Int))) fun r=>(za (Zw (r,a1_1,(7:Int))) fun r_2=>(exit (r_2))))
def zcv (a:zd4):Option zHt:=ztR a some
theorem zYm (a:zd4) (k:zHt→Ans):ztR a k=za (zcv a) k:=by
  obtain ⟨a0,a1_0,a1_1⟩:=a
  simp only [zcv,ztR,zj,zh,zl,zc,zi,zm,zg]
def zzh:zd4→List AV:=fun (a0,a1_0,a1_1)=>[.str a0,.agg [.int .i64 a1_0,.int .i64 a1_1]]
def zKN (l:List AV):Option {a:zd4 // l=zzh a}:=match l with
  | [.str a0,.agg [.int .i64 a1_0,.int .i64 a1_1]]=>some ⟨(a0,a1_0,a1_1),rfl⟩
  | _=>none
def zQz (l:List AV):Option zd4:=pk (zKN l)
theorem zUt (l:List AV) (a:zd4) (h:zQz l=some a):l=zzh a:=zt (o:=zKN l) h
def zzN:zd4→zHt→AV:=fun (a0,a1_0,a1_1)=>fun r_y => .str r_y
theorem zUD : ∀(a:zd4) (y:zHt),(zzN a y).closed1=true:=by
  rintro ⟨a0,a1_0,a1_1⟩ y <;> first | rfl | exact Empty.elim y
theorem z4c (a:zd4):fnE Tryz.tab z1D zd 0 70 104 Tryz.f104.ntmps Tryz.f104.results.toList zZh Zbe (zzh a) [] (fun v _=>some (v,[]))=ztR a (fun y=>some (zzN a y,[])):=by kernel_rfl
def ZcG (a:zd4) (K:AV→Ans):Ans:=za (zcv a) fun y=>K (zzN a y)
def Zad:List AV→(AV→Ans)→Ans:=fun l K=>za (zQz l) fun a=>ZcG a K
theorem z9r:zM Tryz.prog 104 Zad:=zL (hint:=zd) (d:=0) (n:=70) mixed tabOk z5N Tryz.func104 (zC (by kernel_rfl)) (by decide +kernel) zYZ zUt z4c zYm zUD
--@ ref23_Put
noncomputable def zZ4:Env:=[(65,.pure zrN),(37,.pure z58),(104,.pure Zad)]
theorem z6s:zf Tryz.prog zZ4:=zf.cons zdi (zf.cons zRh (zf.cons z9r (zf.nil)))
noncomputable def ZaU:Code:=Tryz.f64.body.getD .skip
noncomputable def z04:Ann := .none
theorem zZ3:zq Tryz.prog 41 ZaU z04:=(zb _ _ _)
abbrev zdG:=(Int)×(Int)×(Int)×(List UInt8)×(Int)×(Int)×(List UInt8)×(Int)×(Int)×(List UInt8)
abbrev zIK:=(List UInt8)×(Int)
def zwQ {β:Type}:zdG→(zIK→Option β)→Option β:=fun (a0_0,a0_1,a0_2,a0_3,a0_4,a0_5,a0_6,a0_7,a0_8,a0_9) exit=>(za (zcu (a0_0,a0_1,a0_2,a0_3,a0_4,a0_5,a0_6,a0_7,a0_8,a0_9)) fun r=>(bif r != (0:Int) then (exit ([],r)) else (za (Zw ([],a0_0,(1:Int))) fun r_2=>(bif a0_0 == (0:Int) then (za (zcv (r_2,a0_1,a0_2)) fun r_3=>(bif Nat.ble (List.length r_3+List.length a0_3) (9223372036854775807:Nat) then (exit (r_3++a0_3,(0:Int))) else none)) else (za (zcv (r_2,a0_4,a0_5)) fun r_3=>(bif Nat.ble (List.length r_3+List.length a0_6) (9223372036854775807:Nat) then (za (zcv (r_3++a0_6,a0_7,a0_8)) fun r_4=>(bif Nat.ble (List.length r_4+List.length a0_9) (9223372036854775807:Nat) then (exit (r_4++a0_9,(0:Int))) else none)) else none))))))
def zhr (a:zdG):Option zIK:=zwQ a some
theorem zZx (a:zdG) (k:zIK→Ans):zwQ a k=za (zhr a) k:=by
  obtain ⟨a0_0,a0_1,a0_2,a0_3,a0_4,a0_5,a0_6,a0_7,a0_8,a0_9⟩:=a
  simp only [zhr,zwQ,zj,zh,zl,zc,zi,zm,zg]
def zyh:zdG→List AV:=fun (a0_0,a0_1,a0_2,a0_3,a0_4,a0_5,a0_6,a0_7,a0_8,a0_9)=>[.agg [.int .i64 a0_0,.int .i64 a0_1,.int .i64 a0_2,.str a0_3,.int .i64 a0_4,.int .i64 a0_5,.str a0_6,.int .i64 a0_7,.int .i64 a0_8,.str a0_9]]
def zJt (l:List AV):Option {a:zdG // l=zyh a}:=match l with
  | [.agg [.int .i64 a0_0,.int .i64 a0_1,.int .i64 a0_2,.str a0_3,.int .i64 a0_4,.int .i64 a0_5,.str a0_6,.int .i64 a0_7,.int .i64 a0_8,.str a0_9]]=>some ⟨(a0_0,a0_1,a0_2,a0_3,a0_4,a0_5,a0_6,a0_7,a0_8,a0_9),rfl⟩
  | _=>none
def zQC (l:List AV):Option zdG:=pk (zJt l)
theorem zTf (l:List AV) (a:zdG) (h:zQC l=some a):l=zyh a:=zt (o:=zJt l) h
def zzx:zdG→zIK→AV:=fun (a0_0,a0_1,a0_2,a0_3,a0_4,a0_5,a0_6,a0_7,a0_8,a0_9)=>unP fun r_0_y r_1_y => .tup [.str r_0_y,.int .i64 r_1_y]
theorem zUc : ∀(a:zdG) (y:zIK),(zzx a y).closed1=true:=by
  rintro ⟨a0_0,a0_1,a0_2,a0_3,a0_4,a0_5,a0_6,a0_7,a0_8,a0_9⟩ y <;> first | rfl | exact Empty.elim y
theorem z6Z (a:zdG):fnE Tryz.tab zZ4 zd 0 70 64 Tryz.f64.ntmps Tryz.f64.results.toList z04 ZaU (zyh a) [] (fun v _=>some (v,[]))=zwQ a (fun y=>some (zzx a y,[])):=by kernel_rfl
def Zca (a:zdG) (K:AV→Ans):Ans:=za (zhr a) fun y=>K (zzx a y)
def ZaT:List AV→(AV→Ans)→Ans:=fun l K=>za (zQC l) fun a=>Zca a K
theorem z8L:zM Tryz.prog 64 ZaT:=zL (hint:=zd) (d:=0) (n:=70) mixed tabOk z6s Tryz.func64 (zC (by kernel_rfl)) (by decide +kernel) zZ3 zTf z6Z zZx zUc
--@ ref43_line
noncomputable def ztm:Env:=[(65,.pure zrN),(64,.pure ZaT)]
theorem zIt:zf Tryz.prog ztm:=zf.cons zdi (zf.cons z8L (zf.nil))
noncomputable def z30:Code:=Tryz.f26.body.getD .skip
noncomputable def zpy:Code:=zF [1,1,1,0,1] z30
noncomputable def zu6:Ann := .none
theorem zFM:zq Tryz.prog 22 zpy zu6:=(zb _ _ _)
abbrev jc:=(Int)×(List UInt8)×(Bool)
abbrev znr:=(Int)
def zBm:jc→St:=fun (t0,t7,t15)=>{ env:=[(0,.int .i64 t0),(7,.str t7),(9,.int .i64 (0)),(15,.bool t15)],stk:=[[]],H:=[],blk:=106496 }
def zww (s:St):Option {x:jc // s=zBm x}:=match s with
  | { env:=[(0,.int .i64 t0),(7,.str t7),(9,.int .i64 r2),(15,.bool t15)],stk:=[[]],H:=[],blk:=106496 }=>if h2:r2=0 then some ⟨(t0,t7,t15),by subst h2;rfl⟩ else none
  | _=>none
def zl9 (s:St):Option jc:=pk (zww s)
theorem zMd (s:St) (x:jc) (h:zl9 s=some x):s=zBm x:=zt (o:=zww s) h
def zlI:jc→(Ex→St→Ans)→znr→Ans:=fun (t0,t7,t15) K=>fun t9_y=>K (Ex.norm) { env:=[(0,.int .i64 t0),(7,.str t7),(9,.int .i64 t9_y)],stk:=[[]],H:=[],blk:=106496 }
def zam {β:Type}:jc→(znr→Option β)→Option β:=fun (t0,t7,t15) exit=>(bif t15 then (exit ((1:Int))) else (exit ((0:Int))))
def wk (i:jc):Option znr:=zam i some
theorem zBp (i:jc) (k:znr→Ans):zam i k=za (wk i) k:=by
  obtain ⟨t0,t7,t15⟩:=i
  simp only [wk,zam,zj,zh,zl,zc,zi,zm,zg]
theorem zES (i:jc) (K:Ex→St→Ans):zx Tryz.tab ztm zd (zy Tryz.tab ztm zd 0 64) 70 22 zu6 zpy (zD 0 (exk [0,7,9] [6] []) K) (zBm i)=zam i (zlI i K):=by kernel_rfl
theorem zOX:zw Tryz.prog 22 zpy (zH zl9 wk zlI):=zE mixed tabOk zIt 0 (exk [0,7,9] [6] []) zFM zMd zES zBp
noncomputable def zPd:(Ex→St→Ans)→St→Ans:=(zH zl9 wk zlI)
theorem zWA:zw Tryz.prog 22 zpy zPd:=zOX
noncomputable def z2v:Ann:=(.seq .none (.seq .none (.seq .none (.seq (.seq .none (.cut 0 [0,7,9,15] zPd)) .none))))
theorem z1g:zq Tryz.prog 22 z30 z2v:=⟨(zb _ _ _),⟨(zb _ _ _),⟨(zb _ _ _),⟨⟨(zb _ _ _),zWA⟩,(zb _ _ _)⟩⟩⟩⟩
abbrev zeT:=(Int)×(Int)×(Int)×(Int)×(List UInt8)×(Int)×(Int)×(List UInt8)×(Int)×(Int)×(List UInt8)×(Bool)
abbrev zHV:=(List UInt8)
def zwz {β:Type}:zeT→(zHV→Option β)→Option β:=fun (a0,a1_0,a1_1,a1_2,a1_3,a1_4,a1_5,a1_6,a1_7,a1_8,a1_9,a2) exit=>(za (zhr (a1_0,a1_1,a1_2,a1_3,a1_4,a1_5,a1_6,a1_7,a1_8,a1_9)) (unP fun r_0 r_1=>(za (wk (a0,r_0,a2)) fun t9=>(za (Zw ([],a0,(1:Int))) fun r=>(za (Zw (r,t9,(1:Int))) fun r_2=>(bif Nat.ble (List.length r_2+List.length r_0) (9223372036854775807:Nat) then (exit (r_2++r_0)) else none))))))
def zdZ (a:zeT):Option zHV:=zwz a some
theorem z3A (a:zeT) (k:zHV→Ans):zwz a k=za (zdZ a) k:=by
  obtain ⟨a0,a1_0,a1_1,a1_2,a1_3,a1_4,a1_5,a1_6,a1_7,a1_8,a1_9,a2⟩:=a
  simp only [zdZ,zwz,zj,zh,zl,zc,zi,zm,zg]
def zxV:zeT→List AV:=fun (a0,a1_0,a1_1,a1_2,a1_3,a1_4,a1_5,a1_6,a1_7,a1_8,a1_9,a2)=>[.int .i64 a0,.agg [.int .i64 a1_0,.int .i64 a1_1,.int .i64 a1_2,.str a1_3,.int .i64 a1_4,.int .i64 a1_5,.str a1_6,.int .i64 a1_7,.int .i64 a1_8,.str a1_9],.bool a2]
def zMj (l:List AV):Option {a:zeT // l=zxV a}:=match l with
  | [.int .i64 a0,.agg [.int .i64 a1_0,.int .i64 a1_1,.int .i64 a1_2,.str a1_3,.int .i64 a1_4,.int .i64 a1_5,.str a1_6,.int .i64 a1_7,.int .i64 a1_8,.str a1_9],.bool a2]=>some ⟨(a0,a1_0,a1_1,a1_2,a1_3,a1_4,a1_5,a1_6,a1_7,a1_8,a1_9,a2),rfl⟩
  | _=>none
def zP6 (l:List AV):Option zeT:=pk (zMj l)
theorem zU7 (l:List AV) (a:zeT) (h:zP6 l=some a):l=zxV a:=zt (o:=zMj l) h
def zBZ:zeT→zHV→AV:=fun (a0,a1_0,a1_1,a1_2,a1_3,a1_4,a1_5,a1_6,a1_7,a1_8,a1_9,a2)=>fun r_y => .str r_y
theorem zXE : ∀(a:zeT) (y:zHV),(zBZ a y).closed1=true:=by
  rintro ⟨a0,a1_0,a1_1,a1_2,a1_3,a1_4,a1_5,a1_6,a1_7,a1_8,a1_9,a2⟩ y <;> first | rfl | exact Empty.elim y
theorem z43 (a:zeT):fnE Tryz.tab ztm zd 0 70 26 Tryz.f26.ntmps Tryz.f26.results.toList z2v z30 (zxV a) [] (fun v _=>some (v,[]))=zwz a (fun y=>some (zBZ a y,[])):=by kernel_rfl
def ZbQ (a:zeT) (K:AV→Ans):Ans:=za (zdZ a) fun y=>K (zBZ a y)
def z9G:List AV→(AV→Ans)→Ans:=fun l K=>za (zP6 l) fun a=>ZbQ a K
theorem z84:zM Tryz.prog 26 z9G:=zL (hint:=zd) (d:=0) (n:=70) mixed tabOk zIt Tryz.func26 (zC (by kernel_rfl)) (by decide +kernel) z1g zU7 z43 z3A zXE
--@ ref43_end
noncomputable def zg5:Env:=[(60,.pure zUI),(65,.pure zrN)]
theorem zLI:zf Tryz.prog zg5:=zf.cons zy4 (zf.cons zdi (zf.nil))
noncomputable def z7n:Code:=Tryz.f27.body.getD .skip
noncomputable def zgL:Code:=zF [1,1,0,1,0,0] z7n
noncomputable def zhP:Ann := .at 0 [0,3,4] (.loop .none)
theorem zEt:zq Tryz.prog 23 (.loop zgL) zhP:=Zp (zb _ _ _)
abbrev QF:=(List (List UInt8))
abbrev zoZ:=(List UInt8)
abbrev wF:=(List UInt8)×(Int)
def zn0:QF→wF→St:=fun t0 (t3,t4)=>{ env:=[(0,.ro .str t0),(3,.str t3),(4,.int .i64 t4)],stk:=[[]],H:=[],blk:=110592 }
def zvc (s:St):Option {x:QF×wF // s=zn0 x.1 x.2}:=match s with
  | { env:=[(0,.ro .str t0),(3,.str t3),(4,.int .i64 t4)],stk:=[[]],H:=[],blk:=110592 }=>some ⟨(t0,(t3,t4)),rfl⟩
  | _=>none
def zk8 (s:St):Option (QF×wF):=pk (zvc s)
theorem zMA (s:St) (x:QF×wF) (h:zk8 s=some x):s=zn0 x.1 x.2:=zt (o:=zvc s) h
def zkv:QF→(Ex→St→Ans)→zoZ→Ans:=fun t0 K=>fun t3_y=>K (Ex.exit 0) { env:=[(0,.ro .str t0),(3,.str t3_y)],stk:=[[]],H:=[],blk:=110592 }
def QH {β:Type}:QF→wF→(wF→Option β)→(zoZ→Option β)→Option β:=fun t0 (t3,t4) next exit=>(bif decide (t4<(↑(List.length t0):Int)) then (za (nth t0 t4) fun x=>(bif Nat.ble (List.length t3+List.length x) (9223372036854775807:Nat) then (next (t3++x,IntKind.wrap .i64 (t4+(1:Int)))) else none)) else (exit (t3)))
def yP (i:QF) (v:wF):Option (wF ⊕ zoZ):=QH i v (fun v=>some (.inl v)) (fun y=>some (.inr y))
theorem zAf (i:QF) (v:wF) (next:wF→Ans) (exit:zoZ→Ans):QH i v next exit=za (yP i v) (Sum.elim next exit):=by
  obtain z:=i
  obtain ⟨t3,t4⟩:=v
  simp only [yP,QH,zj,zh,zl,zc,zi,zm,zg,Sum.elim_inl,Sum.elim_inr]
theorem zDK (n:Nat) (i:QF) (v:wF) (K:Ex→St→Ans):zx Tryz.tab zg5 zd (zy Tryz.tab zg5 zd 0 64) (n+1) 23 zhP (.loop zgL) (zD 0 (exk [0,3] [2] [(0,[0,3])]) K) (zn0 i v)=QH i v (fun v'=>zx Tryz.tab zg5 zd (zy Tryz.tab zg5 zd 0 64) n 23 zhP (.loop zgL) (zD 0 (exk [0,3] [2] [(0,[0,3])]) K) (zn0 i v')) (fun y=>zkv i K y):=by kernel_rfl
theorem zNr:zw Tryz.prog 23 (.loop zgL) (Zr zk8 yP zkv):=Zj mixed tabOk zLI 0 (exk [0,3] [2] [(0,[0,3])]) zEt zMA zDK zAf
noncomputable def zSr:(Ex→St→Ans)→St→Ans:=(Zr zk8 yP zkv)
theorem zTa:zw Tryz.prog 23 (.loop zgL) zSr:=zNr
noncomputable def zYQ:Ann:=(.seq .none (.seq .none (.seq (.seq .none (.block (.cut 0 [0,3,4] zSr))) .none)))
theorem z0M:zq Tryz.prog 23 z7n zYQ:=⟨(zb _ _ _),⟨(zb _ _ _),⟨⟨(zb _ _ _),zTa⟩,(zb _ _ _)⟩⟩⟩
abbrev zeg:=(List (List UInt8))
abbrev zJg:=(List UInt8)
def zt6 {β:Type}:zeg→(zJg→Option β)→Option β:=fun a0 exit=>(za (zP (yP (a0)) zZ ([],(0:Int))) fun t3=>(za (Zw ([],(↑(List.length a0):Int),(2:Int))) fun r=>(za (zcr (t3)) fun r_2=>(bif Nat.ble (List.length r+List.length r_2) (9223372036854775807:Nat) then (exit (r++r_2)) else none))))
def zhu (a:zeg):Option zJg:=zt6 a some
theorem z2A (a:zeg) (k:zJg→Ans):zt6 a k=za (zhu a) k:=by
  obtain z:=a
  simp only [zhu,zt6,zj,zh,zl,zc,zi,zm,zg]
def zxY:zeg→List AV:=fun a0=>[.ro .str a0]
def zLx (l:List AV):Option {a:zeg // l=zxY a}:=match l with
  | [.ro .str a0]=>some ⟨(a0),rfl⟩
  | _=>none
def zRl (l:List AV):Option zeg:=pk (zLx l)
theorem zWc (l:List AV) (a:zeg) (h:zRl l=some a):l=zxY a:=zt (o:=zLx l) h
def zxC:zeg→zJg→AV:=fun a0=>fun r_y => .str r_y
theorem zXu : ∀(a:zeg) (y:zJg),(zxC a y).closed1=true:=by
  rintro z y <;> first | rfl | exact Empty.elim y
theorem z4Y (a:zeg):fnE Tryz.tab zg5 zd 0 70 27 Tryz.f27.ntmps Tryz.f27.results.toList zYQ z7n (zxY a) [] (fun v _=>some (v,[]))=zt6 a (fun y=>some (zxC a y,[])):=by kernel_rfl
def Zcn (a:zeg) (K:AV→Ans):Ans:=za (zhu a) fun y=>K (zxC a y)
def ZbA:List AV→(AV→Ans)→Ans:=fun l K=>za (zRl l) fun a=>Zcn a K
theorem z9s:zM Tryz.prog 27 ZbA:=zL (hint:=zd) (d:=0) (n:=70) mixed tabOk zLI Tryz.func27 (zC (by kernel_rfl)) (by decide +kernel) z0M zWc z4Y z2A zXu
--@ ref43_Check
noncomputable def zco:Env:=[(36,.pure z7f),(37,.pure z58)]
theorem zrt:zf Tryz.prog zco:=zf.cons zSs (zf.cons zRh (zf.nil))
noncomputable def zT9:Code:=Tryz.f15.body.getD .skip
noncomputable def zgd:Code:=zF [1,1,1,1,1,0,1,0,0] zT9
noncomputable def zin:Ann := .at 0 [1,4,5] (.loop .none)
theorem zFe:zq Tryz.prog 61 (.loop zgd) zin:=Zp (zb _ _ _)
abbrev QW:=(Int)×(Int)×(Int)×(Int)×(Int)×(Int)×(Int)×(List (Int×(Int×Int)×List UInt8×((Int×Int)×List UInt8)×(Int×Int)×List UInt8))×(List Bool)
abbrev zqf:=((Int)) ⊕ ((Int))
abbrev wu:=(Int)×(Int)
def zpM:QW→wu→St:=fun (o0_0,o0_1,o0_2,o0_3,o0_4,o0_5,o0_6,o0_7,o0_8) (t4,t5)=>{ env:=[(1,.ptr 0 0),(4,.int .i64 t4),(5,.int .i64 t5)],stk:=[[]],H:=[.cells [.int .i64 o0_0,.int .i64 o0_1,.int .i64 o0_2,.int .i64 o0_3,.int .i64 o0_4,.int .i64 o0_5,.int .i64 o0_6,.ro (.st (.pair (.int .i64) (.pair (.pair (.int .i64) (.int .i64)) (.pair .str (.pair (.pair (.pair (.int .i64) (.int .i64)) .str) (.pair (.pair (.int .i64) (.int .i64)) .str)))))) o0_7,.ro .bool o0_8]],blk:=61440 }
def zt2 (s:St):Option {x:QW×wu // s=zpM x.1 x.2}:=match s with
  | { env:=[(1,.ptr 0 0),(4,.int .i64 t4),(5,.int .i64 t5)],stk:=[[]],H:=[.cells [.int .i64 o0_0,.int .i64 o0_1,.int .i64 o0_2,.int .i64 o0_3,.int .i64 o0_4,.int .i64 o0_5,.int .i64 o0_6,.ro (.st (.pair (.int .i64) (.pair (.pair (.int .i64) (.int .i64)) (.pair .str (.pair (.pair (.pair (.int .i64) (.int .i64)) .str) (.pair (.pair (.int .i64) (.int .i64)) .str)))))) o0_7,.ro .bool o0_8]],blk:=61440 }=>some ⟨((o0_0,o0_1,o0_2,o0_3,o0_4,o0_5,o0_6,o0_7,o0_8),(t4,t5)),rfl⟩
  | _=>none
def zmo (s:St):Option (QW×wu):=pk (zt2 s)
theorem zIB (s:St) (x:QW×wu) (h:zmo s=some x):s=zpM x.1 x.2:=zt (o:=zt2 s) h
def zj2:QW→(Ex→St→Ans)→zqf→Ans:=fun (o0_0,o0_1,o0_2,o0_3,o0_4,o0_5,o0_6,o0_7,o0_8) K=>(Sum.elim (fun t2_y=>K (Ex.ret) { env:=[(2,.int .i64 t2_y)],stk:=[[]],H:=[],blk:=61441 }) (fun t4_y=>K (Ex.exit 0) { env:=[(1,.ptr 0 0),(4,.int .i64 t4_y)],stk:=[[]],H:=[.cells [.int .i64 o0_0,.int .i64 o0_1,.int .i64 o0_2,.int .i64 o0_3,.int .i64 o0_4,.int .i64 o0_5,.int .i64 o0_6,.ro (.st (.pair (.int .i64) (.pair (.pair (.int .i64) (.int .i64)) (.pair .str (.pair (.pair (.pair (.int .i64) (.int .i64)) .str) (.pair (.pair (.int .i64) (.int .i64)) .str)))))) o0_7,.ro .bool o0_8]],blk:=61440 }))
def Wo {β:Type}:QW→wu→(wu→Option β)→(zqf→Option β)→Option β:=fun (o0_0,o0_1,o0_2,o0_3,o0_4,o0_5,o0_6,o0_7,o0_8) (t4,t5) next exit=>(bif decide (t5<(↑(List.length o0_7):Int)) then (za (nth o0_7 t5) fun x=>(za (zcu (x.fst,x.snd.fst.fst,x.snd.fst.snd,x.snd.snd.fst,x.snd.snd.snd.fst.fst.fst,x.snd.snd.snd.fst.fst.snd,x.snd.snd.snd.fst.snd,x.snd.snd.snd.snd.fst.fst,x.snd.snd.snd.snd.fst.snd,x.snd.snd.snd.snd.snd)) fun r=>(bif r != (0:Int) then (exit (Sum.inl (r))) else (za (nth o0_7 t5) fun x_2=>(next (IntKind.wrap .i64 (t4+x_2.fst),IntKind.wrap .i64 (t5+(1:Int)))))))) else (exit (Sum.inr (t4))))
def yq (i:QW) (v:wu):Option (wu ⊕ zqf):=Wo i v (fun v=>some (.inl v)) (fun y=>some (.inr y))
theorem zye (i:QW) (v:wu) (next:wu→Ans) (exit:zqf→Ans):Wo i v next exit=za (yq i v) (Sum.elim next exit):=by
  obtain ⟨o0_0,o0_1,o0_2,o0_3,o0_4,o0_5,o0_6,o0_7,o0_8⟩:=i
  obtain ⟨t4,t5⟩:=v
  simp only [yq,Wo,zj,zh,zl,zc,zi,zm,zg,Sum.elim_inl,Sum.elim_inr]
theorem zGd (n:Nat) (i:QW) (v:wu) (K:Ex→St→Ans):zx Tryz.tab zco zd (zy Tryz.tab zco zd 0 64) (n+1) 61 zin (.loop zgd) (zD 0 (exk [1,4] [2] [(0,[1,4])]) K) (zpM i v)=Wo i v (fun v'=>zx Tryz.tab zco zd (zy Tryz.tab zco zd 0 64) n 61 zin (.loop zgd) (zD 0 (exk [1,4] [2] [(0,[1,4])]) K) (zpM i v')) (fun y=>zj2 i K y):=by kernel_rfl
theorem zOe:zw Tryz.prog 61 (.loop zgd) (Zr zmo yq zj2):=Zj mixed tabOk zrt 0 (exk [1,4] [2] [(0,[1,4])]) zFe zIB zGd zye
noncomputable def zQc:(Ex→St→Ans)→St→Ans:=(Zr zmo yq zj2)
theorem zTL:zw Tryz.prog 61 (.loop zgd) zQc:=zOe
noncomputable def zp4:Code:=zF [1,1,1,0,0] zT9
noncomputable def zwo:Ann := .none
theorem zDv:zq Tryz.prog 61 zp4 zwo:=(zb _ _ _)
abbrev Q1:=(Int)×(Int)×(Int)×(Int)×(Int)×(Int)×(Int)×(List (Int×(Int×Int)×List UInt8×((Int×Int)×List UInt8)×(Int×Int)×List UInt8))×(List Bool)
abbrev zm7:=(Bool)
def zBz:Q1→St:=fun (o0_0,o0_1,o0_2,o0_3,o0_4,o0_5,o0_6,o0_7,o0_8)=>{ env:=[(1,.ptr 0 0)],stk:=[[]],H:=[.cells [.int .i64 o0_0,.int .i64 o0_1,.int .i64 o0_2,.int .i64 o0_3,.int .i64 o0_4,.int .i64 o0_5,.int .i64 o0_6,.ro (.st (.pair (.int .i64) (.pair (.pair (.int .i64) (.int .i64)) (.pair .str (.pair (.pair (.pair (.int .i64) (.int .i64)) .str) (.pair (.pair (.int .i64) (.int .i64)) .str)))))) o0_7,.ro .bool o0_8]],blk:=61440 }
def zwT (s:St):Option {x:Q1 // s=zBz x}:=match s with
  | { env:=[(1,.ptr 0 0)],stk:=[[]],H:=[.cells [.int .i64 o0_0,.int .i64 o0_1,.int .i64 o0_2,.int .i64 o0_3,.int .i64 o0_4,.int .i64 o0_5,.int .i64 o0_6,.ro (.st (.pair (.int .i64) (.pair (.pair (.int .i64) (.int .i64)) (.pair .str (.pair (.pair (.pair (.int .i64) (.int .i64)) .str) (.pair (.pair (.int .i64) (.int .i64)) .str)))))) o0_7,.ro .bool o0_8]],blk:=61440 }=>some ⟨(o0_0,o0_1,o0_2,o0_3,o0_4,o0_5,o0_6,o0_7,o0_8),rfl⟩
  | _=>none
def zmW (s:St):Option Q1:=pk (zwT s)
theorem zH8 (s:St) (x:Q1) (h:zmW s=some x):s=zBz x:=zt (o:=zwT s) h
def zmk:Q1→(Ex→St→Ans)→zm7→Ans:=fun (o0_0,o0_1,o0_2,o0_3,o0_4,o0_5,o0_6,o0_7,o0_8) K=>fun t30_y=>K (Ex.norm) { env:=[(1,.ptr 0 0),(30,.bool t30_y)],stk:=[[]],H:=[.cells [.int .i64 o0_0,.int .i64 o0_1,.int .i64 o0_2,.int .i64 o0_3,.int .i64 o0_4,.int .i64 o0_5,.int .i64 o0_6,.ro (.st (.pair (.int .i64) (.pair (.pair (.int .i64) (.int .i64)) (.pair .str (.pair (.pair (.pair (.int .i64) (.int .i64)) .str) (.pair (.pair (.int .i64) (.int .i64)) .str)))))) o0_7,.ro .bool o0_8]],blk:=61440 }
def zbm {β:Type}:Q1→(zm7→Option β)→Option β:=fun (o0_0,o0_1,o0_2,o0_3,o0_4,o0_5,o0_6,o0_7,o0_8) exit=>(bif (↑(List.length o0_7):Int) != o0_4 then (exit (true)) else (exit ((↑(List.length o0_8):Int) != o0_4)))
def qe (i:Q1):Option zm7:=zbm i some
theorem zBS (i:Q1) (k:zm7→Ans):zbm i k=za (qe i) k:=by
  obtain ⟨o0_0,o0_1,o0_2,o0_3,o0_4,o0_5,o0_6,o0_7,o0_8⟩:=i
  simp only [qe,zbm,zj,zh,zl,zc,zi,zm,zg]
theorem zDQ (i:Q1) (K:Ex→St→Ans):zx Tryz.tab zco zd (zy Tryz.tab zco zd 0 64) 70 61 zwo zp4 (zD 0 (exk [1,30] [2] []) K) (zBz i)=zbm i (zmk i K):=by kernel_rfl
theorem zOw:zw Tryz.prog 61 zp4 (zH zmW qe zmk):=zE mixed tabOk zrt 0 (exk [1,30] [2] []) zDv zH8 zDQ zBS
noncomputable def zQI:(Ex→St→Ans)→St→Ans:=(zH zmW qe zmk)
theorem zXN:zw Tryz.prog 61 zp4 zQI:=zOw
noncomputable def z2p:Ann:=(.seq .none (.seq .none (.seq .none (.seq (.seq (.cut 0 [1] zQI) .none) (.seq .none (.seq (.seq .none (.block (.cut 0 [1,4,5] zQc))) .none))))))
theorem z0w:zq Tryz.prog 61 zT9 z2p:=⟨(zb _ _ _),⟨(zb _ _ _),⟨(zb _ _ _),⟨⟨zXN,(zb _ _ _)⟩,⟨(zb _ _ _),⟨⟨(zb _ _ _),zTL⟩,(zb _ _ _)⟩⟩⟩⟩⟩⟩
abbrev zee:=(Int)×(Int)×(Int)×(Int)×(Int)×(Int)×(Int)×(List (Int×(Int×Int)×List UInt8×((Int×Int)×List UInt8)×(Int×Int)×List UInt8))×(List Bool)
abbrev zM5:=(Int)
def zwU {β:Type}:zee→(zM5→Option β)→Option β:=fun (a0_0,a0_1,a0_2,a0_3,a0_4,a0_5,a0_6,a0_7,a0_8) exit=>(za (zdF (a0_0,a0_1,a0_2,a0_3,a0_4,a0_5,a0_6)) fun r=>(bif r != (0:Int) then (exit (r)) else (za (qe (a0_0,a0_1,a0_2,a0_3,a0_4,a0_5,a0_6,a0_7,a0_8)) fun t30=>(bif t30 then (exit ((12:Int))) else (za (zP (yq (a0_0,a0_1,a0_2,a0_3,a0_4,a0_5,a0_6,a0_7,a0_8)) zZ ((0:Int),(0:Int))) (Sum.elim (fun t2=>(exit (t2))) (fun t4=>(bif decide (t4>a0_5) then (exit ((16:Int))) else (exit ((0:Int)))))))))))
def zcB (a:zee):Option zM5:=zwU a some
theorem zZq (a:zee) (k:zM5→Ans):zwU a k=za (zcB a) k:=by
  obtain ⟨a0_0,a0_1,a0_2,a0_3,a0_4,a0_5,a0_6,a0_7,a0_8⟩:=a
  simp only [zcB,zwU,zj,zh,zl,zc,zi,zm,zg]
def zya:zee→List AV:=fun (a0_0,a0_1,a0_2,a0_3,a0_4,a0_5,a0_6,a0_7,a0_8)=>[.agg [.int .i64 a0_0,.int .i64 a0_1,.int .i64 a0_2,.int .i64 a0_3,.int .i64 a0_4,.int .i64 a0_5,.int .i64 a0_6,.ro (.st (.pair (.int .i64) (.pair (.pair (.int .i64) (.int .i64)) (.pair .str (.pair (.pair (.pair (.int .i64) (.int .i64)) .str) (.pair (.pair (.int .i64) (.int .i64)) .str)))))) a0_7,.ro .bool a0_8]]
def zIl (l:List AV):Option {a:zee // l=zya a}:=match l with
  | [.agg [.int .i64 a0_0,.int .i64 a0_1,.int .i64 a0_2,.int .i64 a0_3,.int .i64 a0_4,.int .i64 a0_5,.int .i64 a0_6,.ro (.st (.pair (.int .i64) (.pair (.pair (.int .i64) (.int .i64)) (.pair .str (.pair (.pair (.pair (.int .i64) (.int .i64)) .str) (.pair (.pair (.int .i64) (.int .i64)) .str)))))) a0_7,.ro .bool a0_8]]=>some ⟨(a0_0,a0_1,a0_2,a0_3,a0_4,a0_5,a0_6,a0_7,a0_8),rfl⟩
  | _=>none
def zQ9 (l:List AV):Option zee:=pk (zIl l)
theorem zXi (l:List AV) (a:zee) (h:zQ9 l=some a):l=zya a:=zt (o:=zIl l) h
def zz1:zee→zM5→AV:=fun (a0_0,a0_1,a0_2,a0_3,a0_4,a0_5,a0_6,a0_7,a0_8)=>fun r_y => .int .i64 r_y
theorem zTA : ∀(a:zee) (y:zM5),(zz1 a y).closed1=true:=by
  rintro ⟨a0_0,a0_1,a0_2,a0_3,a0_4,a0_5,a0_6,a0_7,a0_8⟩ y <;> first | rfl | exact Empty.elim y
theorem z44 (a:zee):fnE Tryz.tab zco zd 0 70 15 Tryz.f15.ntmps Tryz.f15.results.toList z2p zT9 (zya a) [] (fun v _=>some (v,[]))=zwU a (fun y=>some (zz1 a y,[])):=by kernel_rfl
def Zcp (a:zee) (K:AV→Ans):Ans:=za (zcB a) fun y=>K (zz1 a y)
def z5x:List AV→(AV→Ans)→Ans:=fun l K=>za (zQ9 l) fun a=>Zcp a K
theorem zQJ:zM Tryz.prog 15 z5x:=zL (hint:=zd) (d:=0) (n:=70) mixed tabOk zrt Tryz.func15 (zC (by kernel_rfl)) (by decide +kernel) z0w zXi z44 zZq zTA
end Go.Proofs.R9
