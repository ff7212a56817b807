/- What the functions that DumpGetsCardSaid reaches compute: part 3. -/
import Derived.Test.YthfoooplgceaoaaGreatDoorOwnDumpGetsCardSaid2
set_option linter.unusedVariables false
set_option linter.unusedSimpArgs false
namespace Go.Proofs.R9
open Go Go.AE
set_option maxRecDepth 100000
--@ dump_read
noncomputable def zgO:Env:=[(49,.func zBB),(50,.func zsx),(51,.func zsg),(55,.func zZ3),(54,.pure z8s),(56,.pure zWz)]
theorem zsm:zf Tryz.prog zgO:=zf.cons zgK (zf.cons zdC (zf.cons zdB (zf.cons zDs (zf.cons zTq (zf.cons zBb (zf.nil))))))
noncomputable def zUU:Code:=Tryz.f21.body.getD .skip
noncomputable def zq4:Code:=zF [1,1,1,1,1,1,1,0] zUU
noncomputable def zwn:Ann := .none
theorem zIn:zq Tryz.prog 65 zq4 zwn:=(zb _ _ _)
abbrev wJ:=(Int)×(Int)×(Int)×(Int)×(Int)×(Int)×(Int)×(Int)×(List (Int×(Int×Int)×List UInt8×((Int×Int)×List UInt8)×(Int×Int)×List UInt8))×(List Bool)×(Int)×(Int)×(Int)×(List UInt8)×(Int)×(Int)×(List UInt8)×(Int)×(Int)×(List UInt8)
abbrev zdK:=(List (Int×(Int×Int)×List UInt8×((Int×Int)×List UInt8)×(Int×Int)×List UInt8))×(List Bool)
def zyB:wJ→St:=fun (t8,o0_0,o0_1,o0_2,o0_3,o0_4,o0_5,o0_6,o1,o2,o3_0,o3_1,o3_2,o3_3,o3_4,o3_5,o3_6,o3_7,o3_8,o3_9)=>{ env:=[(0,.ptr 0 0),(8,.int .i64 t8),(9,.ptr 3 0)],stk:=[[(0,.ptr 0 0)]],H:=[.cells [.int .i64 o0_0,.int .i64 o0_1,.int .i64 o0_2,.int .i64 o0_3,.int .i64 o0_4,.int .i64 o0_5,.int .i64 o0_6,.own 1,.own 2],.arr (.st (.pair (.int .i64) (.pair (.pair (.int .i64) (.int .i64)) (.pair .str (.pair (.pair (.pair (.int .i64) (.int .i64)) .str) (.pair (.pair (.int .i64) (.int .i64)) .str)))))) o1,.arr .bool o2,.cells [.int .i64 o3_0,.int .i64 o3_1,.int .i64 o3_2,.str o3_3,.int .i64 o3_4,.int .i64 o3_5,.str o3_6,.int .i64 o3_7,.int .i64 o3_8,.str o3_9]],blk:=86016 }
def zwU (s:St):Option {x:wJ // s=zyB x}:=match s with
  | { env:=[(0,.ptr 0 0),(8,.int .i64 t8),(9,.ptr 3 0)],stk:=[[(0,.ptr 0 0)]],H:=[.cells [.int .i64 o0_0,.int .i64 o0_1,.int .i64 o0_2,.int .i64 o0_3,.int .i64 o0_4,.int .i64 o0_5,.int .i64 o0_6,.own 1,.own 2],.arr (.st (.pair (.int .i64) (.pair (.pair (.int .i64) (.int .i64)) (.pair .str (.pair (.pair (.pair (.int .i64) (.int .i64)) .str) (.pair (.pair (.int .i64) (.int .i64)) .str)))))) o1,.arr .bool o2,.cells [.int .i64 o3_0,.int .i64 o3_1,.int .i64 o3_2,.str o3_3,.int .i64 o3_4,.int .i64 o3_5,.str o3_6,.int .i64 o3_7,.int .i64 o3_8,.str o3_9]],blk:=86016 }=>some ⟨(t8,o0_0,o0_1,o0_2,o0_3,o0_4,o0_5,o0_6,o1,o2,o3_0,o3_1,o3_2,o3_3,o3_4,o3_5,o3_6,o3_7,o3_8,o3_9),rfl⟩
  | _=>none
def znE (s:St):Option wJ:=pk (zwU s)
theorem zJb (s:St) (x:wJ) (h:znE s=some x):s=zyB x:=zt (o:=zwU s) h
def zkW:wJ→(Ex→St→Ans)→zdK→Ans:=fun (t8,o0_0,o0_1,o0_2,o0_3,o0_4,o0_5,o0_6,o1,o2,o3_0,o3_1,o3_2,o3_3,o3_4,o3_5,o3_6,o3_7,o3_8,o3_9) K=>unP fun o1_y o2_y=>K (Ex.norm) { env:=[],stk:=[[(0,.ptr 0 0)]],H:=[.cells [.int .i64 o0_0,.int .i64 o0_1,.int .i64 o0_2,.int .i64 o0_3,.int .i64 o0_4,.int .i64 o0_5,.int .i64 o0_6,.own 1,.own 2],.arr (.st (.pair (.int .i64) (.pair (.pair (.int .i64) (.int .i64)) (.pair .str (.pair (.pair (.pair (.int .i64) (.int .i64)) .str) (.pair (.pair (.int .i64) (.int .i64)) .str)))))) o1_y,.arr .bool o2_y],blk:=86016 }
def Wg {β:Type}:wJ→(zdK→Option β)→Option β:=fun (t8,o0_0,o0_1,o0_2,o0_3,o0_4,o0_5,o0_6,o1,o2,o3_0,o3_1,o3_2,o3_3,o3_4,o3_5,o3_6,o3_7,o3_8,o3_9) exit=>(bif Nat.ble ((List.length o1+List.length [(o3_0,(o3_1,o3_2),o3_3,((o3_4,o3_5),o3_6),(o3_7,o3_8),o3_9)])*(104:Nat)) (140737488355328:Nat) then (bif Nat.ble ((List.length o2+List.length [t8 == (1:Int)])*(1:Nat)) (140737488355328:Nat) then (exit (o1++[(o3_0,(o3_1,o3_2),o3_3,((o3_4,o3_5),o3_6),(o3_7,o3_8),o3_9)],o2++[t8 == (1:Int)])) else none) else none)
def qa (i:wJ):Option zdK:=Wg i some
theorem zEj (i:wJ) (k:zdK→Ans):Wg i k=za (qa i) k:=by
  obtain ⟨t8,o0_0,o0_1,o0_2,o0_3,o0_4,o0_5,o0_6,o1,o2,o3_0,o3_1,o3_2,o3_3,o3_4,o3_5,o3_6,o3_7,o3_8,o3_9⟩:=i
  simp only [qa,Wg,zi,zh,zl,zc,zj,zm,zg]
noncomputable def zfI {β:Type}:wJ→(zdK→Option β)→Option β:=fun (t8,o0_0,o0_1,o0_2,o0_3,o0_4,o0_5,o0_6,o1,o2,o3_0,o3_1,o3_2,o3_3,o3_4,o3_5,o3_6,o3_7,o3_8,o3_9) exit=>(ziD (ziD (bif Nat.ble ((List.length o1+List.length [(o3_0,(o3_1,o3_2),o3_3,((o3_4,o3_5),o3_6),(o3_7,o3_8),o3_9)])*(104:Nat)) (140737488355328:Nat) then (bif Nat.ble ((List.length o2+List.length [t8 == (1:Int)])*(1:Nat)) (140737488355328:Nat) then (exit (o1++[(o3_0,(o3_1,o3_2),o3_3,((o3_4,o3_5),o3_6),(o3_7,o3_8),o3_9)],o2++[t8 == (1:Int)])) else none) else none) (bif Nat.ble ((List.length o1+List.length [(o3_0,(o3_1,o3_2),o3_3,((o3_4,o3_5),o3_6),(o3_7,o3_8),o3_9)])*(104:Nat)) (140737488355328:Nat) then (bif Nat.ble ((List.length o2+List.length [t8 == (1:Int)])*(1:Nat)) (140737488355328:Nat) then (exit (o1++[(o3_0,(o3_1,o3_2),o3_3,((o3_4,o3_5),o3_6),(o3_7,o3_8),o3_9)],o2++[t8 == (1:Int)])) else none) else none)) (bif Nat.ble ((List.length o1+List.length [(o3_0,(o3_1,o3_2),o3_3,((o3_4,o3_5),o3_6),(o3_7,o3_8),o3_9)])*(104:Nat)) (140737488355328:Nat) then (bif Nat.ble ((List.length o2+List.length [t8 == (1:Int)])*(1:Nat)) (140737488355328:Nat) then (exit (o1++[(o3_0,(o3_1,o3_2),o3_3,((o3_4,o3_5),o3_6),(o3_7,o3_8),o3_9)],o2++[t8 == (1:Int)])) else none) else none))
theorem zBV : ∀(i:wJ) (exit:zdK→Ans),zfI i exit=Wg i exit:=by
  rintro ⟨t8,o0_0,o0_1,o0_2,o0_3,o0_4,o0_5,o0_6,o1,o2,o3_0,o3_1,o3_2,o3_3,o3_4,o3_5,o3_6,o3_7,o3_8,o3_9⟩ exit
  simp only [zfI,Wg,zX6]
theorem zGS (i:wJ) (K:Ex→St→Ans):zx Tryz.tab zgO zd (zy Tryz.tab zgO zd 0 64) 70 65 zwn zq4 (zB 3 (exk [] [6] []) K) (zyB i)=Wg i (zkW i K):=(show _=zfI i _ from by kernel_rfl).trans (zBV _ _)
theorem zPH:zw Tryz.prog 65 zq4 (zG znE qa zkW):=zA mixed tabOk zsm 3 (exk [] [6] []) zIn zJb zGS zEj
noncomputable def zSa:(Ex→St→Ans)→St→Ans:=(zG znE qa zkW)
theorem zW6:zw Tryz.prog 65 zq4 zSa:=zPH
noncomputable def zrf:Code:=zF [1,1,1,1,1,1,0,1,0] zUU
noncomputable def zui:Ann := .none
theorem zF1:zq Tryz.prog 65 zrf zui:=(zb _ _ _)
abbrev jU:=(List UInt8)×(Int)×(List UInt8)×(Int)×(Int)×(Int)×(Int)×(Int)×(Int)×(Int)×(Int)×(List (Int×(Int×Int)×List UInt8×((Int×Int)×List UInt8)×(Int×Int)×List UInt8))×(List Bool)×(Int)×(Int)×(Int)×(List UInt8)×(Int)×(Int)×(List UInt8)×(Int)×(Int)×(List UInt8)
abbrev zqM:=(Bool)
def zAJ:jU→St:=fun (t2,t8,t11,t12,o0_0,o0_1,o0_2,o0_3,o0_4,o0_5,o0_6,o1,o2,o3_0,o3_1,o3_2,o3_3,o3_4,o3_5,o3_6,o3_7,o3_8,o3_9)=>{ env:=[(0,.ptr 0 0),(2,.str t2),(8,.int .i64 t8),(9,.ptr 3 0),(11,.str t11),(12,.int .i64 t12)],stk:=[[(0,.ptr 0 0)]],H:=[.cells [.int .i64 o0_0,.int .i64 o0_1,.int .i64 o0_2,.int .i64 o0_3,.int .i64 o0_4,.int .i64 o0_5,.int .i64 o0_6,.own 1,.own 2],.arr (.st (.pair (.int .i64) (.pair (.pair (.int .i64) (.int .i64)) (.pair .str (.pair (.pair (.pair (.int .i64) (.int .i64)) .str) (.pair (.pair (.int .i64) (.int .i64)) .str)))))) o1,.arr .bool o2,.cells [.int .i64 o3_0,.int .i64 o3_1,.int .i64 o3_2,.str o3_3,.int .i64 o3_4,.int .i64 o3_5,.str o3_6,.int .i64 o3_7,.int .i64 o3_8,.str o3_9]],blk:=86016 }
def zvk (s:St):Option {x:jU // s=zAJ x}:=match s with
  | { env:=[(0,.ptr 0 0),(2,.str t2),(8,.int .i64 t8),(9,.ptr 3 0),(11,.str t11),(12,.int .i64 t12)],stk:=[[(0,.ptr 0 0)]],H:=[.cells [.int .i64 o0_0,.int .i64 o0_1,.int .i64 o0_2,.int .i64 o0_3,.int .i64 o0_4,.int .i64 o0_5,.int .i64 o0_6,.own 1,.own 2],.arr (.st (.pair (.int .i64) (.pair (.pair (.int .i64) (.int .i64)) (.pair .str (.pair (.pair (.pair (.int .i64) (.int .i64)) .str) (.pair (.pair (.int .i64) (.int .i64)) .str)))))) o1,.arr .bool o2,.cells [.int .i64 o3_0,.int .i64 o3_1,.int .i64 o3_2,.str o3_3,.int .i64 o3_4,.int .i64 o3_5,.str o3_6,.int .i64 o3_7,.int .i64 o3_8,.str o3_9]],blk:=86016 }=>some ⟨(t2,t8,t11,t12,o0_0,o0_1,o0_2,o0_3,o0_4,o0_5,o0_6,o1,o2,o3_0,o3_1,o3_2,o3_3,o3_4,o3_5,o3_6,o3_7,o3_8,o3_9),rfl⟩
  | _=>none
def zmW (s:St):Option jU:=pk (zvk s)
theorem zK0 (s:St) (x:jU) (h:zmW s=some x):s=zAJ x:=zt (o:=zvk s) h
def zmB:jU→(Ex→St→Ans)→zqM→Ans:=fun (t2,t8,t11,t12,o0_0,o0_1,o0_2,o0_3,o0_4,o0_5,o0_6,o1,o2,o3_0,o3_1,o3_2,o3_3,o3_4,o3_5,o3_6,o3_7,o3_8,o3_9) K=>fun t43_y=>K (Ex.norm) { env:=[(0,.ptr 0 0),(8,.int .i64 t8),(9,.ptr 3 0),(43,.bool t43_y)],stk:=[[(0,.ptr 0 0)]],H:=[.cells [.int .i64 o0_0,.int .i64 o0_1,.int .i64 o0_2,.int .i64 o0_3,.int .i64 o0_4,.int .i64 o0_5,.int .i64 o0_6,.own 1,.own 2],.arr (.st (.pair (.int .i64) (.pair (.pair (.int .i64) (.int .i64)) (.pair .str (.pair (.pair (.pair (.int .i64) (.int .i64)) .str) (.pair (.pair (.int .i64) (.int .i64)) .str)))))) o1,.arr .bool o2,.cells [.int .i64 o3_0,.int .i64 o3_1,.int .i64 o3_2,.str o3_3,.int .i64 o3_4,.int .i64 o3_5,.str o3_6,.int .i64 o3_7,.int .i64 o3_8,.str o3_9]],blk:=86016 }
def zaX {β:Type}:jU→(zqM→Option β)→Option β:=fun (t2,t8,t11,t12,o0_0,o0_1,o0_2,o0_3,o0_4,o0_5,o0_6,o1,o2,o3_0,o3_1,o3_2,o3_3,o3_4,o3_5,o3_6,o3_7,o3_8,o3_9) exit=>(bif t12 != (0:Int) then (exit (true)) else (exit (!t11 == t2)))
def WH (i:jU):Option zqM:=zaX i some
theorem zza (i:jU) (k:zqM→Ans):zaX i k=za (WH i) k:=by
  obtain ⟨t2,t8,t11,t12,o0_0,o0_1,o0_2,o0_3,o0_4,o0_5,o0_6,o1,o2,o3_0,o3_1,o3_2,o3_3,o3_4,o3_5,o3_6,o3_7,o3_8,o3_9⟩:=i
  simp only [WH,zaX,zi,zh,zl,zc,zj,zm,zg]
theorem zGs (i:jU) (K:Ex→St→Ans):zx Tryz.tab zgO zd (zy Tryz.tab zgO zd 0 64) 70 65 zui zrf (zB 3 (exk [0,8,9,43] [6] []) K) (zAJ i)=zaX i (zmB i K):=by kernel_rfl
theorem zQ1:zw Tryz.prog 65 zrf (zG zmW WH zmB):=zA mixed tabOk zsm 3 (exk [0,8,9,43] [6] []) zF1 zK0 zGs zza
noncomputable def zTA:(Ex→St→Ans)→St→Ans:=(zG zmW WH zmB)
theorem z0g:zw Tryz.prog 65 zrf zTA:=zQ1
noncomputable def z0P:Ann:=(.seq .none (.seq .none (.seq .none (.seq .none (.seq .none (.seq .none (.seq (.seq .none (.seq (.cut 3 [0,2,8,9,11,12] zTA) .none)) (.seq (.cut 3 [0,8,9] zSa) .none))))))))
theorem z4W:zq Tryz.prog 65 zUU z0P:=⟨(zb _ _ _),⟨(zb _ _ _),⟨(zb _ _ _),⟨(zb _ _ _),⟨(zb _ _ _),⟨(zb _ _ _),⟨⟨(zb _ _ _),⟨z0g,(zb _ _ _)⟩⟩,⟨zW6,(zb _ _ _)⟩⟩⟩⟩⟩⟩⟩⟩
abbrev zfX:=(Int)×(List UInt8)×(Int)×(Int)×(Int)×(Int)×(Int)×(Int)×(Int)×(List (Int×(Int×Int)×List UInt8×((Int×Int)×List UInt8)×(Int×Int)×List UInt8))×(List Bool)
abbrev zZo:=(Int)×(List (Int×(Int×Int)×List UInt8×((Int×Int)×List UInt8)×(Int×Int)×List UInt8))×(List Bool)
def zoK {β:Type}:zfX→(zZo→Option β)→Option β:=fun (a1,a2,o0_0,o0_1,o0_2,o0_3,o0_4,o0_5,o0_6,o1,o2) exit=>(za (Wq (a2)) fun _=>(za (ZZ ((1:Int),a2,(0:Int))) (unP fun r=>unP fun o0_0_2 o0_1_2=>(za (ZZ ((1:Int),o0_0_2,o0_1_2)) (unP fun r_2=>unP fun o0_0_3 o0_1_3=>(za (zcP (o0_0_3,o0_1_3)) fun r_3=>(za (yB (r_3,o0_0_3,o0_1_3)) (unP fun r_4=>unP fun o0_0_4 o0_1_4=>(za (zgs (r_4)) (unP fun r_0_0=>unP fun r_0_1=>unP fun r_0_2=>unP fun r_0_3=>unP fun r_0_4=>unP fun r_0_5=>unP fun r_0_6=>unP fun r_0_7=>unP fun r_0_8=>unP fun r_0_9 r_1=>(bif r_1 != (0:Int) then (exit ((4:Int),o1,o2)) else (za (zcx (a1,r_0_0,r_0_1,r_0_2,r_0_3,r_0_4,r_0_5,r_0_6,r_0_7,r_0_8,r_0_9,r_2 == (1:Int))) (unP fun r_0 r_1_2=>(za (WH (a2,r_2,r_0,r_1_2,o0_0,o0_1,o0_2,o0_3,o0_4,o0_5,o0_6,o1,o2,r_0_0,r_0_1,r_0_2,r_0_3,r_0_4,r_0_5,r_0_6,r_0_7,r_0_8,r_0_9)) fun t43=>(bif t43 then (exit ((4:Int),o1,o2)) else (za (qa (r_2,o0_0,o0_1,o0_2,o0_3,o0_4,o0_5,o0_6,o1,o2,r_0_0,r_0_1,r_0_2,r_0_3,r_0_4,r_0_5,r_0_6,r_0_7,r_0_8,r_0_9)) (unP fun o1_2 o2_2=>(exit ((0:Int),o1_2,o2_2)))))))))))))))))))
def zeA (a:zfX):Option zZo:=zoK a some
theorem z0L (a:zfX) (k:zZo→Ans):zoK a k=za (zeA a) k:=by
  obtain ⟨a1,a2,o0_0,o0_1,o0_2,o0_3,o0_4,o0_5,o0_6,o1,o2⟩:=a
  simp only [zeA,zoK,zi,zh,zl,zc,zj,zm,zg]
def zp3:zfX→List AV×List AE.Obj:=fun (a1,a2,o0_0,o0_1,o0_2,o0_3,o0_4,o0_5,o0_6,o1,o2)=>([.ptr 0 0,.int .i64 a1,.str a2],[.cells [.int .i64 o0_0,.int .i64 o0_1,.int .i64 o0_2,.int .i64 o0_3,.int .i64 o0_4,.int .i64 o0_5,.int .i64 o0_6,.own 1,.own 2],.arr (.st (.pair (.int .i64) (.pair (.pair (.int .i64) (.int .i64)) (.pair .str (.pair (.pair (.pair (.int .i64) (.int .i64)) .str) (.pair (.pair (.int .i64) (.int .i64)) .str)))))) o1,.arr .bool o2])
def zMf (l:List AV) (H:List AE.Obj):Option {a:zfX // (l,H)=zp3 a}:=match l,H with
  | [.ptr 0 0,.int .i64 a1,.str a2],[.cells [.int .i64 o0_0,.int .i64 o0_1,.int .i64 o0_2,.int .i64 o0_3,.int .i64 o0_4,.int .i64 o0_5,.int .i64 o0_6,.own 1,.own 2],.arr (.st (.pair (.int .i64) (.pair (.pair (.int .i64) (.int .i64)) (.pair .str (.pair (.pair (.pair (.int .i64) (.int .i64)) .str) (.pair (.pair (.int .i64) (.int .i64)) .str)))))) o1,.arr .bool o2]=>some ⟨(a1,a2,o0_0,o0_1,o0_2,o0_3,o0_4,o0_5,o0_6,o1,o2),rfl⟩
  | _,_=>none
def zR8 (l:List AV) (H:List AE.Obj):Option zfX:=pk (zMf l H)
theorem zYr (l:List AV) (H:List AE.Obj) (a:zfX) (h:zR8 l H=some a):(l,H)=zp3 a:=zt (o:=zMf l H) h
def z4n:zfX→(AV→List AE.Obj→Ans)→zZo→Ans:=fun (a1,a2,o0_0,o0_1,o0_2,o0_3,o0_4,o0_5,o0_6,o1,o2) K=>unP fun r_y=>unP fun o1_y o2_y=>K (.int .i64 r_y) [.cells [.int .i64 o0_0,.int .i64 o0_1,.int .i64 o0_2,.int .i64 o0_3,.int .i64 o0_4,.int .i64 o0_5,.int .i64 o0_6,.own 1,.own 2],.arr (.st (.pair (.int .i64) (.pair (.pair (.int .i64) (.int .i64)) (.pair .str (.pair (.pair (.pair (.int .i64) (.int .i64)) .str) (.pair (.pair (.int .i64) (.int .i64)) .str)))))) o1_y,.arr .bool o2_y]
theorem z6u (a:zfX) (K:AV→List AE.Obj→Ans):fnE Tryz.tab zgO zd 0 70 21 Tryz.f21.ntmps Tryz.f21.results.toList z0P zUU (zp3 a).1 (zp3 a).2 K=zoK a (z4n a K):=by kernel_rfl
def Zfg (a:zfX) (K:AV→List AE.Obj→Ans):Ans:=za (zeA a) fun y=>z4n a K y
def ZdX:List AV→List AE.Obj→(AV→List AE.Obj→Ans)→Ans:=fun l H K=>za (zR8 l H) fun a=>Zfg a K
theorem ZbP:zQ Tryz.prog 21 ZdX:=Zu (hint:=zd) (d:=0) (n:=70) mixed tabOk zsm Tryz.func21 (zE (by kernel_rfl)) (by decide +kernel) z4W zYr z6u z0L
--@ dump_end
noncomputable def z1Z:Env:=[(58,.pure JG),(52,.pure Fq4),(57,.pure zmY)]
theorem z9L:zf Tryz.prog z1Z:=zf.cons zd4 (zf.cons zgB (zf.cons zbR (zf.nil)))
noncomputable def Zdy:Code:=Tryz.f22.body.getD .skip
noncomputable def z2F:Ann := .none
theorem z56:zq Tryz.prog 10 Zdy z2F:=(zb _ _ _)
abbrev zeV:=(List (List UInt8))
abbrev zNi:=(List UInt8)
def ztZ {β:Type}:zeV→(zNi→Option β)→Option β:=fun a0 exit=>(za (Zw ([],(↑(List.length a0):Int),(2:Int))) fun r=>(za (YZ (a0,[])) fun r_2=>(za (zcj (r_2)) fun r_3=>(bif Nat.ble (List.length r+List.length r_3) (9223372036854775807:Nat) then (exit (r++r_3)) else none))))
def zdS (a:zeV):Option zNi:=ztZ a some
theorem z1l (a:zeV) (k:zNi→Ans):ztZ a k=za (zdS a) k:=by
  obtain z:=a
  simp only [zdS,ztZ,zi,zh,zl,zc,zj,zm,zg]
def zDY:zeV→List AV:=fun a0=>[.ro .str a0]
def zJ4 (l:List AV):Option {a:zeV // l=zDY a}:=match l with
  | [.ro .str a0]=>some ⟨(a0),rfl⟩
  | _=>none
def zUx (l:List AV):Option zeV:=pk (zJ4 l)
theorem zVc (l:List AV) (a:zeV) (h:zUx l=some a):l=zDY a:=zt (o:=zJ4 l) h
def zzP:zeV→zNi→AV:=fun a0=>fun r_y => .str r_y
theorem zV9 : ∀(a:zeV) (y:zNi),(zzP a y).closed1=true:=by
  rintro z y <;> first | rfl | exact Empty.elim y
theorem z6P (a:zeV):fnE Tryz.tab z1Z zd 0 70 22 Tryz.f22.ntmps Tryz.f22.results.toList z2F Zdy (zDY a) [] (fun v _=>some (v,[]))=ztZ a (fun y=>some (zzP a y,[])):=by kernel_rfl
def ZeQ (a:zeV) (K:AV→Ans):Ans:=za (zdS a) fun y=>K (zzP a y)
def zZC:List AV→(AV→Ans)→Ans:=fun l K=>za (zUx l) fun a=>ZeQ a K
theorem zBm:zM Tryz.prog 22 zZC:=zL (hint:=zd) (d:=0) (n:=70) mixed tabOk z9L Tryz.func22 (zE (by kernel_rfl)) (by decide +kernel) z56 zVc z6P z1l zV9
--@ dump_Check
noncomputable def zcn:Env:=[(34,.pure zU2),(35,.pure zNE)]
theorem zq2:zf Tryz.prog zcn:=zf.cons zBA (zf.cons zob (zf.nil))
noncomputable def bq6:Code:=Tryz.f14.body.getD .skip
noncomputable def zwl:Code:=zF [1,1,1,1,0,1,0,0,1,1,0] bq6
noncomputable def zEQ:Ann := .none
theorem zLF:zq Tryz.prog 55 zwl zEQ:=(zb _ _ _)
abbrev zay:=(Int)×(List (Int×(Int×Int)×List UInt8×((Int×Int)×List UInt8)×(Int×Int)×List UInt8))×(Int)×(Int)×(Int)×(Int)×(Int)×(Int)×(Int)×(Int)×(Int)×(List (Int×(Int×Int)×List UInt8×((Int×Int)×List UInt8)×(Int×Int)×List UInt8))×(List Bool)
abbrev zxf:=((Int)) ⊕ ((Int))
def zM1:zay→St:=fun (t5,t32,t33,t34,o0_0,o0_1,o0_2,o0_3,o0_4,o0_5,o0_6,o0_7,o0_8)=>{ env:=[(1,.ptr 0 0),(5,.int .i64 t5),(32,.ro (.st (.pair (.int .i64) (.pair (.pair (.int .i64) (.int .i64)) (.pair .str (.pair (.pair (.pair (.int .i64) (.int .i64)) .str) (.pair (.pair (.int .i64) (.int .i64)) .str)))))) t32),(33,.int .i64 t33),(34,.int .i64 t34)],stk:=[[]],H:=[.cells [.int .i64 o0_0,.int .i64 o0_1,.int .i64 o0_2,.int .i64 o0_3,.int .i64 o0_4,.int .i64 o0_5,.int .i64 o0_6,.ro (.st (.pair (.int .i64) (.pair (.pair (.int .i64) (.int .i64)) (.pair .str (.pair (.pair (.pair (.int .i64) (.int .i64)) .str) (.pair (.pair (.int .i64) (.int .i64)) .str)))))) o0_7,.ro .bool o0_8]],blk:=57344 }
def zE1 (s:St):Option {x:zay // s=zM1 x}:=match s with
  | { env:=[(1,.ptr 0 0),(5,.int .i64 t5),(32,.ro (.st (.pair (.int .i64) (.pair (.pair (.int .i64) (.int .i64)) (.pair .str (.pair (.pair (.pair (.int .i64) (.int .i64)) .str) (.pair (.pair (.int .i64) (.int .i64)) .str)))))) t32),(33,.int .i64 t33),(34,.int .i64 t34)],stk:=[[]],H:=[.cells [.int .i64 o0_0,.int .i64 o0_1,.int .i64 o0_2,.int .i64 o0_3,.int .i64 o0_4,.int .i64 o0_5,.int .i64 o0_6,.ro (.st (.pair (.int .i64) (.pair (.pair (.int .i64) (.int .i64)) (.pair .str (.pair (.pair (.pair (.int .i64) (.int .i64)) .str) (.pair (.pair (.int .i64) (.int .i64)) .str)))))) o0_7,.ro .bool o0_8]],blk:=57344 }=>some ⟨(t5,t32,t33,t34,o0_0,o0_1,o0_2,o0_3,o0_4,o0_5,o0_6,o0_7,o0_8),rfl⟩
  | _=>none
def zsk (s:St):Option zay:=pk (zE1 s)
theorem zQ0 (s:St) (x:zay) (h:zsk s=some x):s=zM1 x:=zt (o:=zE1 s) h
def zrY:zay→(Ex→St→Ans)→zxf→Ans:=fun (t5,t32,t33,t34,o0_0,o0_1,o0_2,o0_3,o0_4,o0_5,o0_6,o0_7,o0_8) K=>(Sum.elim (fun t2_y=>K (Ex.ret) { env:=[(2,.int .i64 t2_y)],stk:=[[]],H:=[],blk:=57345 }) (fun t5_y=>K (Ex.norm) { env:=[(1,.ptr 0 0),(5,.int .i64 t5_y),(32,.ro (.st (.pair (.int .i64) (.pair (.pair (.int .i64) (.int .i64)) (.pair .str (.pair (.pair (.pair (.int .i64) (.int .i64)) .str) (.pair (.pair (.int .i64) (.int .i64)) .str)))))) t32),(33,.int .i64 t33),(34,.int .i64 t34)],stk:=[[]],H:=[.cells [.int .i64 o0_0,.int .i64 o0_1,.int .i64 o0_2,.int .i64 o0_3,.int .i64 o0_4,.int .i64 o0_5,.int .i64 o0_6,.ro (.st (.pair (.int .i64) (.pair (.pair (.int .i64) (.int .i64)) (.pair .str (.pair (.pair (.pair (.int .i64) (.int .i64)) .str) (.pair (.pair (.int .i64) (.int .i64)) .str)))))) o0_7,.ro .bool o0_8]],blk:=57345 }))
def JX {β:Type}:zay→(zxf→Option β)→Option β:=fun (t5,t32,t33,t34,o0_0,o0_1,o0_2,o0_3,o0_4,o0_5,o0_6,o0_7,o0_8) exit=>(za (nth t32 t34) fun x=>(za (zbF (x.fst,x.snd.fst.fst,x.snd.fst.snd,x.snd.snd.fst,x.snd.snd.snd.fst.fst.fst,x.snd.snd.snd.fst.fst.snd,x.snd.snd.snd.fst.snd,x.snd.snd.snd.snd.fst.fst,x.snd.snd.snd.snd.fst.snd,x.snd.snd.snd.snd.snd)) fun r=>(bif r != (0:Int) then (exit (Sum.inl (r))) else (bif x.fst == (1:Int) then (exit (Sum.inr (IntKind.wrap .i64 (t5+(1:Int))))) else (exit (Sum.inr (t5)))))))
def Wd (i:zay):Option zxf:=JX i some
theorem zFH (i:zay) (k:zxf→Ans):JX i k=za (Wd i) k:=by
  obtain ⟨t5,t32,t33,t34,o0_0,o0_1,o0_2,o0_3,o0_4,o0_5,o0_6,o0_7,o0_8⟩:=i
  simp only [Wd,JX,zi,zh,zl,zc,zj,zm,zg]
theorem zNL (i:zay) (K:Ex→St→Ans):zx Tryz.tab zcn zd (zy Tryz.tab zcn zd 0 64) 70 55 zEQ zwl (zB 0 (exk [1,5,32,33,34] [2] []) K) (zM1 i)=JX i (zrY i K):=by kernel_rfl
theorem zVx:zw Tryz.prog 55 zwl (zG zsk Wd zrY):=zA mixed tabOk zq2 0 (exk [1,5,32,33,34] [2] []) zLF zQ0 zNL zFH
noncomputable def z3k:(Ex→St→Ans)→St→Ans:=(zG zsk Wd zrY)
theorem z6o:zw Tryz.prog 55 zwl z3k:=zVx
noncomputable def zlC:Code:=zF [1,1,1,1,0,1,0,0] bq6
noncomputable def zky:Ann := .at 0 [1,5,32,33,34] (.loop (.seq .none (.seq .none (.seq (.cut 0 [1,5,32,33,34] z3k) .none))))
theorem zKU:zq Tryz.prog 55 (.loop zlC) zky:=Zi ⟨(zb _ _ _),⟨(zb _ _ _),⟨z6o,(zb _ _ _)⟩⟩⟩
abbrev zaQ:=(List (Int×(Int×Int)×List UInt8×((Int×Int)×List UInt8)×(Int×Int)×List UInt8))×(Int)×(Int)×(Int)×(Int)×(Int)×(Int)×(Int)×(Int)×(List (Int×(Int×Int)×List UInt8×((Int×Int)×List UInt8)×(Int×Int)×List UInt8))×(List Bool)
abbrev zuv:=((Int)) ⊕ ((Int))
abbrev q8:=(Int)×(Int)
def zvC:zaQ→q8→St:=fun (t32,t33,o0_0,o0_1,o0_2,o0_3,o0_4,o0_5,o0_6,o0_7,o0_8) (t5,t34)=>{ env:=[(1,.ptr 0 0),(5,.int .i64 t5),(32,.ro (.st (.pair (.int .i64) (.pair (.pair (.int .i64) (.int .i64)) (.pair .str (.pair (.pair (.pair (.int .i64) (.int .i64)) .str) (.pair (.pair (.int .i64) (.int .i64)) .str)))))) t32),(33,.int .i64 t33),(34,.int .i64 t34)],stk:=[[]],H:=[.cells [.int .i64 o0_0,.int .i64 o0_1,.int .i64 o0_2,.int .i64 o0_3,.int .i64 o0_4,.int .i64 o0_5,.int .i64 o0_6,.ro (.st (.pair (.int .i64) (.pair (.pair (.int .i64) (.int .i64)) (.pair .str (.pair (.pair (.pair (.int .i64) (.int .i64)) .str) (.pair (.pair (.int .i64) (.int .i64)) .str)))))) o0_7,.ro .bool o0_8]],blk:=57344 }
def zEu (s:St):Option {x:zaQ×q8 // s=zvC x.1 x.2}:=match s with
  | { env:=[(1,.ptr 0 0),(5,.int .i64 t5),(32,.ro (.st (.pair (.int .i64) (.pair (.pair (.int .i64) (.int .i64)) (.pair .str (.pair (.pair (.pair (.int .i64) (.int .i64)) .str) (.pair (.pair (.int .i64) (.int .i64)) .str)))))) t32),(33,.int .i64 t33),(34,.int .i64 t34)],stk:=[[]],H:=[.cells [.int .i64 o0_0,.int .i64 o0_1,.int .i64 o0_2,.int .i64 o0_3,.int .i64 o0_4,.int .i64 o0_5,.int .i64 o0_6,.ro (.st (.pair (.int .i64) (.pair (.pair (.int .i64) (.int .i64)) (.pair .str (.pair (.pair (.pair (.int .i64) (.int .i64)) .str) (.pair (.pair (.int .i64) (.int .i64)) .str)))))) o0_7,.ro .bool o0_8]],blk:=57344 }=>some ⟨((t32,t33,o0_0,o0_1,o0_2,o0_3,o0_4,o0_5,o0_6,o0_7,o0_8),(t5,t34)),rfl⟩
  | _=>none
def zsN (s:St):Option (zaQ×q8):=pk (zEu s)
theorem zPm (s:St) (x:zaQ×q8) (h:zsN s=some x):s=zvC x.1 x.2:=zt (o:=zEu s) h
def zr0:zaQ→(Ex→St→Ans)→zuv→Ans:=fun (t32,t33,o0_0,o0_1,o0_2,o0_3,o0_4,o0_5,o0_6,o0_7,o0_8) K=>(Sum.elim (fun t2_y=>K (Ex.ret) { env:=[(2,.int .i64 t2_y)],stk:=[[]],H:=[],blk:=57345 }) (fun t5_y=>K (Ex.exit 0) { env:=[(1,.ptr 0 0),(5,.int .i64 t5_y)],stk:=[[]],H:=[.cells [.int .i64 o0_0,.int .i64 o0_1,.int .i64 o0_2,.int .i64 o0_3,.int .i64 o0_4,.int .i64 o0_5,.int .i64 o0_6,.ro (.st (.pair (.int .i64) (.pair (.pair (.int .i64) (.int .i64)) (.pair .str (.pair (.pair (.pair (.int .i64) (.int .i64)) .str) (.pair (.pair (.int .i64) (.int .i64)) .str)))))) o0_7,.ro .bool o0_8]],blk:=57344 }))
def qT {β:Type}:zaQ→q8→(q8→Option β)→(zuv→Option β)→Option β:=fun (t32,t33,o0_0,o0_1,o0_2,o0_3,o0_4,o0_5,o0_6,o0_7,o0_8) (t5,t34) next exit=>(bif decide (t34<t33) then (za (Wd (t5,t32,t33,t34,o0_0,o0_1,o0_2,o0_3,o0_4,o0_5,o0_6,o0_7,o0_8)) (Sum.elim (fun t2=>(exit (Sum.inl (t2)))) (fun t5_2=>(next (t5_2,IntKind.wrap .i64 (t34+(1:Int))))))) else (exit (Sum.inr (t5))))
def yS (i:zaQ) (v:q8):Option (q8 ⊕ zuv):=qT i v (fun v=>some (.inl v)) (fun y=>some (.inr y))
theorem zGy (i:zaQ) (v:q8) (next:q8→Ans) (exit:zuv→Ans):qT i v next exit=za (yS i v) (Sum.elim next exit):=by
  obtain ⟨t32,t33,o0_0,o0_1,o0_2,o0_3,o0_4,o0_5,o0_6,o0_7,o0_8⟩:=i
  obtain ⟨t5,t34⟩:=v
  simp only [yS,qT,zi,zh,zl,zc,zj,zm,zg,Sum.elim_inl,Sum.elim_inr]
theorem zK6 (n:Nat) (i:zaQ) (v:q8) (K:Ex→St→Ans):zx Tryz.tab zcn zd (zy Tryz.tab zcn zd 0 64) (n+1) 55 zky (.loop zlC) (zB 0 (exk [1,5] [2] [(0,[1,5])]) K) (zvC i v)=qT i v (fun v'=>zx Tryz.tab zcn zd (zy Tryz.tab zcn zd 0 64) n 55 zky (.loop zlC) (zB 0 (exk [1,5] [2] [(0,[1,5])]) K) (zvC i v')) (fun y=>zr0 i K y):=by kernel_rfl
theorem zVo:zw Tryz.prog 55 (.loop zlC) (Zm zsN yS zr0):=Zf mixed tabOk zq2 0 (exk [1,5] [2] [(0,[1,5])]) zKU zPm zK6 zGy
noncomputable def z2X:(Ex→St→Ans)→St→Ans:=(Zm zsN yS zr0)
theorem z18:zw Tryz.prog 55 (.loop zlC) z2X:=zVo
noncomputable def zwh:Code:=zF [1,1,0,1,0] bq6
noncomputable def zEX:Ann := .none
theorem zLk:zq Tryz.prog 55 zwh zEX:=(zb _ _ _)
abbrev zbJ:=(Int)×(Int)×(Int)×(Int)×(Int)×(Int)×(Int)×(Int)×(List (Int×(Int×Int)×List UInt8×((Int×Int)×List UInt8)×(Int×Int)×List UInt8))×(List Bool)
abbrev zuk:=(Bool)
def zMZ:zbJ→St:=fun (t4,o0_0,o0_1,o0_2,o0_3,o0_4,o0_5,o0_6,o0_7,o0_8)=>{ env:=[(1,.ptr 0 0),(4,.int .i64 t4)],stk:=[[]],H:=[.cells [.int .i64 o0_0,.int .i64 o0_1,.int .i64 o0_2,.int .i64 o0_3,.int .i64 o0_4,.int .i64 o0_5,.int .i64 o0_6,.ro (.st (.pair (.int .i64) (.pair (.pair (.int .i64) (.int .i64)) (.pair .str (.pair (.pair (.pair (.int .i64) (.int .i64)) .str) (.pair (.pair (.int .i64) (.int .i64)) .str)))))) o0_7,.ro .bool o0_8]],blk:=57344 }
def zEZ (s:St):Option {x:zbJ // s=zMZ x}:=match s with
  | { env:=[(1,.ptr 0 0),(4,.int .i64 t4)],stk:=[[]],H:=[.cells [.int .i64 o0_0,.int .i64 o0_1,.int .i64 o0_2,.int .i64 o0_3,.int .i64 o0_4,.int .i64 o0_5,.int .i64 o0_6,.ro (.st (.pair (.int .i64) (.pair (.pair (.int .i64) (.int .i64)) (.pair .str (.pair (.pair (.pair (.int .i64) (.int .i64)) .str) (.pair (.pair (.int .i64) (.int .i64)) .str)))))) o0_7,.ro .bool o0_8]],blk:=57344 }=>some ⟨(t4,o0_0,o0_1,o0_2,o0_3,o0_4,o0_5,o0_6,o0_7,o0_8),rfl⟩
  | _=>none
def zsj (s:St):Option zbJ:=pk (zEZ s)
theorem zPF (s:St) (x:zbJ) (h:zsj s=some x):s=zMZ x:=zt (o:=zEZ s) h
def zs5:zbJ→(Ex→St→Ans)→zuk→Ans:=fun (t4,o0_0,o0_1,o0_2,o0_3,o0_4,o0_5,o0_6,o0_7,o0_8) K=>fun t30_y=>K (Ex.norm) { env:=[(1,.ptr 0 0),(30,.bool t30_y)],stk:=[[]],H:=[.cells [.int .i64 o0_0,.int .i64 o0_1,.int .i64 o0_2,.int .i64 o0_3,.int .i64 o0_4,.int .i64 o0_5,.int .i64 o0_6,.ro (.st (.pair (.int .i64) (.pair (.pair (.int .i64) (.int .i64)) (.pair .str (.pair (.pair (.pair (.int .i64) (.int .i64)) .str) (.pair (.pair (.int .i64) (.int .i64)) .str)))))) o0_7,.ro .bool o0_8]],blk:=57344 }
def zcA {β:Type}:zbJ→(zuk→Option β)→Option β:=fun (t4,o0_0,o0_1,o0_2,o0_3,o0_4,o0_5,o0_6,o0_7,o0_8) exit=>(bif (↑(List.length o0_7):Int) != t4 then (exit (true)) else (exit ((↑(List.length o0_8):Int) != t4)))
def jN (i:zbJ):Option zuk:=zcA i some
theorem zFS (i:zbJ) (k:zuk→Ans):zcA i k=za (jN i) k:=by
  obtain ⟨t4,o0_0,o0_1,o0_2,o0_3,o0_4,o0_5,o0_6,o0_7,o0_8⟩:=i
  simp only [jN,zcA,zi,zh,zl,zc,zj,zm,zg]
theorem zNs (i:zbJ) (K:Ex→St→Ans):zx Tryz.tab zcn zd (zy Tryz.tab zcn zd 0 64) 70 55 zEX zwh (zB 0 (exk [1,30] [2] []) K) (zMZ i)=zcA i (zs5 i K):=by kernel_rfl
theorem zWW:zw Tryz.prog 55 zwh (zG zsj jN zs5):=zA mixed tabOk zq2 0 (exk [1,30] [2] []) zLk zPF zNs zFS
noncomputable def z26:(Ex→St→Ans)→St→Ans:=(zG zsj jN zs5)
theorem z0V:zw Tryz.prog 55 zwh z26:=zWW
noncomputable def Zai:Ann:=(.seq .none (.seq .none (.seq (.seq .none (.seq (.cut 0 [1,4] z26) .none)) (.seq .none (.seq (.seq .none (.block (.cut 0 [1,5,32,33,34] z2X))) .none)))))
theorem z7W:zq Tryz.prog 55 bq6 Zai:=⟨(zb _ _ _),⟨(zb _ _ _),⟨⟨(zb _ _ _),⟨z0V,(zb _ _ _)⟩⟩,⟨(zb _ _ _),⟨⟨(zb _ _ _),z18⟩,(zb _ _ _)⟩⟩⟩⟩⟩
abbrev Aq6:=(Int)×(Int)×(Int)×(Int)×(Int)×(Int)×(Int)×(List (Int×(Int×Int)×List UInt8×((Int×Int)×List UInt8)×(Int×Int)×List UInt8))×(List Bool)
abbrev Yq6:=(Int)
def zLt {β:Type}:Aq6→(Yq6→Option β)→Option β:=fun (a0_0,a0_1,a0_2,a0_3,a0_4,a0_5,a0_6,a0_7,a0_8) exit=>(za (zep (a0_0,a0_1,a0_2,a0_3,a0_4,a0_5,a0_6)) fun r=>(bif r != (0:Int) then (exit (r)) else (za (jN (a0_4,a0_0,a0_1,a0_2,a0_3,a0_4,a0_5,a0_6,a0_7,a0_8)) fun t30=>(bif t30 then (exit ((12:Int))) else (za (zO (yS (a0_7,(↑(List.length a0_7):Int),a0_0,a0_1,a0_2,a0_3,a0_4,a0_5,a0_6,a0_7,a0_8)) zY ((0:Int),(0:Int))) (Sum.elim (fun t2=>(exit (t2))) (fun t5=>(bif decide (t5>a0_5) then (exit ((16:Int))) else (exit ((0:Int)))))))))))
def ziQ (a:Aq6):Option Yq6:=zLt a some
theorem z7g (a:Aq6) (k:Yq6→Ans):zLt a k=za (ziQ a) k:=by
  obtain ⟨a0_0,a0_1,a0_2,a0_3,a0_4,a0_5,a0_6,a0_7,a0_8⟩:=a
  simp only [ziQ,zLt,zi,zh,zl,zc,zj,zm,zg]
def zLV:Aq6→List AV:=fun (a0_0,a0_1,a0_2,a0_3,a0_4,a0_5,a0_6,a0_7,a0_8)=>[.agg [.int .i64 a0_0,.int .i64 a0_1,.int .i64 a0_2,.int .i64 a0_3,.int .i64 a0_4,.int .i64 a0_5,.int .i64 a0_6,.ro (.st (.pair (.int .i64) (.pair (.pair (.int .i64) (.int .i64)) (.pair .str (.pair (.pair (.pair (.int .i64) (.int .i64)) .str) (.pair (.pair (.int .i64) (.int .i64)) .str)))))) a0_7,.ro .bool a0_8]]
def zTE (l:List AV):Option {a:Aq6 // l=zLV a}:=match l with
  | [.agg [.int .i64 a0_0,.int .i64 a0_1,.int .i64 a0_2,.int .i64 a0_3,.int .i64 a0_4,.int .i64 a0_5,.int .i64 a0_6,.ro (.st (.pair (.int .i64) (.pair (.pair (.int .i64) (.int .i64)) (.pair .str (.pair (.pair (.pair (.int .i64) (.int .i64)) .str) (.pair (.pair (.int .i64) (.int .i64)) .str)))))) a0_7,.ro .bool a0_8]]=>some ⟨(a0_0,a0_1,a0_2,a0_3,a0_4,a0_5,a0_6,a0_7,a0_8),rfl⟩
  | _=>none
def z3c (l:List AV):Option Aq6:=pk (zTE l)
theorem z0W (l:List AV) (a:Aq6) (h:z3c l=some a):l=zLV a:=zt (o:=zTE l) h
def zKa:Aq6→Yq6→AV:=fun (a0_0,a0_1,a0_2,a0_3,a0_4,a0_5,a0_6,a0_7,a0_8)=>fun r_y => .int .i64 r_y
theorem z1m : ∀(a:Aq6) (y:Yq6),(zKa a y).closed1=true:=by
  rintro ⟨a0_0,a0_1,a0_2,a0_3,a0_4,a0_5,a0_6,a0_7,a0_8⟩ y <;> first | rfl | exact Empty.elim y
theorem ZbX (a:Aq6):fnE Tryz.tab zcn zd 0 70 14 Tryz.f14.ntmps Tryz.f14.results.toList Zai bq6 (zLV a) [] (fun v _=>some (v,[]))=zLt a (fun y=>some (zKa a y,[])):=by kernel_rfl
def Zfr (a:Aq6) (K:AV→Ans):Ans:=za (ziQ a) fun y=>K (zKa a y)
def Fq6:List AV→(AV→Ans)→Ans:=fun l K=>za (z3c l) fun a=>Zfr a K
theorem zOA:zM Tryz.prog 14 Fq6:=zL (hint:=zd) (d:=0) (n:=70) mixed tabOk zq2 Tryz.func14 (zE (by kernel_rfl)) (by decide +kernel) z7W z0W ZbX z7g z1m
--@ dump_Get
noncomputable def zfo:Env:=[(19,.func z8y),(20,.pure z9W),(21,.func ZdX),(22,.pure zZC),(14,.pure Fq6)]
theorem zCJ:zf Tryz.prog zfo:=zf.cons zSw (zf.cons zUC (zf.cons ZbP (zf.cons zBm (zf.cons zOA (zf.nil)))))
noncomputable def bq7:Code:=Tryz.f7.body.getD .skip
noncomputable def zkB:Code:=zF [1,1,1,1,1,1,1,0,1,0,0] bq7
noncomputable def zkY:Ann := .at 0 [0,2,4,5,6,8,51,52,53] (.loop .none)
theorem zJf:zq Tryz.prog 83 (.loop zkB) zkY:=Zi (zb _ _ _)
abbrev zab:=(List (List UInt8))×(Int)×(Nat)×(Int)×(Int)×(Int)×(Int)×(Int)×(Int)×(Int)×(Int)×(List (List UInt8))
abbrev zxI:=((Int)) ⊕ ((List (Int×(Int×Int)×List UInt8×((Int×Int)×List UInt8)×(Int×Int)×List UInt8))×(List Bool))
abbrev qQ:=(Int)×(List (Int×(Int×Int)×List UInt8×((Int×Int)×List UInt8)×(Int×Int)×List UInt8))×(List Bool)
def zwa:zab→qQ→St:=fun (t0,t8,t51_2,t52,o2_0,o2_1,o2_2,o2_3,o2_4,o2_5,o2_6,o3) (t53,o8,o9)=>{ env:=[(0,.ro .str t0),(2,.ptr 0 0),(4,.ptr 1 0),(5,.ptr 2 0),(6,.own 3),(8,.int .i64 t8),(51,.sub 3 (1) t51_2 1),(52,.int .i64 t52),(53,.int .i64 t53)],stk:=[[]],H:=[.cells [.int .i64 (0),.int .i64 (0),.int .i64 (0),.int .i64 (0),.int .i64 (0),.int .i64 (0),.int .i64 (0),.own 4,.own 5],.cells [.int .i64 (0),.int .i64 (0),.int .i64 (0),.int .i64 (0),.int .i64 (0),.int .i64 (0),.int .i64 (0),.own 6,.own 7],.cells [.int .i64 o2_0,.int .i64 o2_1,.int .i64 o2_2,.int .i64 o2_3,.int .i64 o2_4,.int .i64 o2_5,.int .i64 o2_6,.own 8,.own 9],.arr .str o3,.arr (.st (.pair (.int .i64) (.pair (.pair (.int .i64) (.int .i64)) (.pair .str (.pair (.pair (.pair (.int .i64) (.int .i64)) .str) (.pair (.pair (.int .i64) (.int .i64)) .str)))))) ([]),.arr .bool ([]),.arr (.st (.pair (.int .i64) (.pair (.pair (.int .i64) (.int .i64)) (.pair .str (.pair (.pair (.pair (.int .i64) (.int .i64)) .str) (.pair (.pair (.int .i64) (.int .i64)) .str)))))) ([]),.arr .bool ([]),.arr (.st (.pair (.int .i64) (.pair (.pair (.int .i64) (.int .i64)) (.pair .str (.pair (.pair (.pair (.int .i64) (.int .i64)) .str) (.pair (.pair (.int .i64) (.int .i64)) .str)))))) o8,.arr .bool o9],blk:=28672 }
def zEL (s:St):Option {x:zab×qQ // s=zwa x.1 x.2}:=match s with
  | { env:=[(0,.ro .str t0),(2,.ptr 0 0),(4,.ptr 1 0),(5,.ptr 2 0),(6,.own 3),(8,.int .i64 t8),(51,.sub 3 r2 t51_2 1),(52,.int .i64 t52),(53,.int .i64 t53)],stk:=[[]],H:=[.cells [.int .i64 r6,.int .i64 r7,.int .i64 r8,.int .i64 r9,.int .i64 r10,.int .i64 r11,.int .i64 r12,.own 4,.own 5],.cells [.int .i64 r13,.int .i64 r14,.int .i64 r15,.int .i64 r16,.int .i64 r17,.int .i64 r18,.int .i64 r19,.own 6,.own 7],.cells [.int .i64 o2_0,.int .i64 o2_1,.int .i64 o2_2,.int .i64 o2_3,.int .i64 o2_4,.int .i64 o2_5,.int .i64 o2_6,.own 8,.own 9],.arr .str o3,.arr (.st (.pair (.int .i64) (.pair (.pair (.int .i64) (.int .i64)) (.pair .str (.pair (.pair (.pair (.int .i64) (.int .i64)) .str) (.pair (.pair (.int .i64) (.int .i64)) .str)))))) r28,.arr .bool r29,.arr (.st (.pair (.int .i64) (.pair (.pair (.int .i64) (.int .i64)) (.pair .str (.pair (.pair (.pair (.int .i64) (.int .i64)) .str) (.pair (.pair (.int .i64) (.int .i64)) .str)))))) r30,.arr .bool r31,.arr (.st (.pair (.int .i64) (.pair (.pair (.int .i64) (.int .i64)) (.pair .str (.pair (.pair (.pair (.int .i64) (.int .i64)) .str) (.pair (.pair (.int .i64) (.int .i64)) .str)))))) o8,.arr .bool o9],blk:=28672 }=>if h2:r2=1 then if h6:r6=0 then if h7:r7=0 then if h8:r8=0 then if h9:r9=0 then if h10:r10=0 then if h11:r11=0 then if h12:r12=0 then if h13:r13=0 then if h14:r14=0 then if h15:r15=0 then if h16:r16=0 then if h17:r17=0 then if h18:r18=0 then if h19:r19=0 then if h28:r28=[] then if h29:r29=[] then if h30:r30=[] then if h31:r31=[] then some ⟨((t0,t8,t51_2,t52,o2_0,o2_1,o2_2,o2_3,o2_4,o2_5,o2_6,o3),(t53,o8,o9)),by subst h2 h6 h7 h8 h9 h10 h11 h12 h13 h14 h15 h16 h17 h18 h19 h28 h29 h30 h31;rfl⟩ else none else none else none else none else none else none else none else none else none else none else none else none else none else none else none else none else none else none else none
  | _=>none
def zsc (s:St):Option (zab×qQ):=pk (zEL s)
theorem zPM (s:St) (x:zab×qQ) (h:zsc s=some x):s=zwa x.1 x.2:=zt (o:=zEL s) h
def zr9:zab→(Ex→St→Ans)→zxI→Ans:=fun (t0,t8,t51_2,t52,o2_0,o2_1,o2_2,o2_3,o2_4,o2_5,o2_6,o3) K=>(Sum.elim (fun t3_y=>K (Ex.ret) { env:=[(2,.ptr 0 0),(3,.int .i64 t3_y)],stk:=[[]],H:=[.cells [.int .i64 (0),.int .i64 (0),.int .i64 (0),.int .i64 (0),.int .i64 (0),.int .i64 (0),.int .i64 (0),.own 1,.own 2],.arr (.st (.pair (.int .i64) (.pair (.pair (.int .i64) (.int .i64)) (.pair .str (.pair (.pair (.pair (.int .i64) (.int .i64)) .str) (.pair (.pair (.int .i64) (.int .i64)) .str)))))) ([]),.arr .bool ([])],blk:=28673 }) (unP fun o8_y o9_y=>K (Ex.exit 0) { env:=[(0,.ro .str t0),(2,.ptr 0 0),(4,.ptr 1 0),(5,.ptr 2 0),(6,.own 3),(8,.int .i64 t8)],stk:=[[]],H:=[.cells [.int .i64 (0),.int .i64 (0),.int .i64 (0),.int .i64 (0),.int .i64 (0),.int .i64 (0),.int .i64 (0),.own 4,.own 5],.cells [.int .i64 (0),.int .i64 (0),.int .i64 (0),.int .i64 (0),.int .i64 (0),.int .i64 (0),.int .i64 (0),.own 6,.own 7],.cells [.int .i64 o2_0,.int .i64 o2_1,.int .i64 o2_2,.int .i64 o2_3,.int .i64 o2_4,.int .i64 o2_5,.int .i64 o2_6,.own 8,.own 9],.arr .str o3,.arr (.st (.pair (.int .i64) (.pair (.pair (.int .i64) (.int .i64)) (.pair .str (.pair (.pair (.pair (.int .i64) (.int .i64)) .str) (.pair (.pair (.int .i64) (.int .i64)) .str)))))) ([]),.arr .bool ([]),.arr (.st (.pair (.int .i64) (.pair (.pair (.int .i64) (.int .i64)) (.pair .str (.pair (.pair (.pair (.int .i64) (.int .i64)) .str) (.pair (.pair (.int .i64) (.int .i64)) .str)))))) ([]),.arr .bool ([]),.arr (.st (.pair (.int .i64) (.pair (.pair (.int .i64) (.int .i64)) (.pair .str (.pair (.pair (.pair (.int .i64) (.int .i64)) .str) (.pair (.pair (.int .i64) (.int .i64)) .str)))))) o8_y,.arr .bool o9_y],blk:=28672 }))
def J3 {β:Type}:zab→qQ→(qQ→Option β)→(zxI→Option β)→Option β:=fun (t0,t8,t51_2,t52,o2_0,o2_1,o2_2,o2_3,o2_4,o2_5,o2_6,o3) (t53,o8,o9) next exit=>(bif decide (t53<t52) then (bif inR t53 t51_2 then (za (o3[nat_lit 1+Int.toNat t53]?) fun x=>(za (zeA (t53,x,o2_0,o2_1,o2_2,o2_3,o2_4,o2_5,o2_6,o8,o9)) (unP fun r=>unP fun o1 o2=>(bif r != (0:Int) then (exit (Sum.inl (r))) else (next (IntKind.wrap .i64 (t53+(1:Int)),o1,o2)))))) else none) else (exit (Sum.inr (o8,o9))))
def y5 (i:zab) (v:qQ):Option (qQ ⊕ zxI):=J3 i v (fun v=>some (.inl v)) (fun y=>some (.inr y))
theorem zE4 (i:zab) (v:qQ) (next:qQ→Ans) (exit:zxI→Ans):J3 i v next exit=za (y5 i v) (Sum.elim next exit):=by
  obtain ⟨t0,t8,t51_2,t52,o2_0,o2_1,o2_2,o2_3,o2_4,o2_5,o2_6,o3⟩:=i
  obtain ⟨t53,o8,o9⟩:=v
  simp only [y5,J3,zi,zh,zl,zc,zj,zm,zg,Sum.elim_inl,Sum.elim_inr]
theorem zMc (n:Nat) (i:zab) (v:qQ) (K:Ex→St→Ans):zx Tryz.tab zfo zd (zy Tryz.tab zfo zd 0 64) (n+1) 83 zkY (.loop zkB) (zB 0 (exk [0,2,4,5,6,8] [2,3] [(0,[0,2,4,5,6,8])]) K) (zwa i v)=J3 i v (fun v'=>zx Tryz.tab zfo zd (zy Tryz.tab zfo zd 0 64) n 83 zkY (.loop zkB) (zB 0 (exk [0,2,4,5,6,8] [2,3] [(0,[0,2,4,5,6,8])]) K) (zwa i v')) (fun y=>zr9 i K y):=by kernel_rfl
theorem zXV:zw Tryz.prog 83 (.loop zkB) (Zm zsc y5 zr9):=Zf mixed tabOk zCJ 0 (exk [0,2,4,5,6,8] [2,3] [(0,[0,2,4,5,6,8])]) zJf zPM zMc zE4
noncomputable def z4F:(Ex→St→Ans)→St→Ans:=(Zm zsc y5 zr9)
theorem z2W:zw Tryz.prog 83 (.loop zkB) z4F:=zXV
noncomputable def zth:Code:=zF [1,1,1,1,1,1,0,1,0] bq7
noncomputable def zEn:Ann := .none
theorem zKP:zq Tryz.prog 83 zth zEn:=(zb _ _ _)
abbrev zbG:=(List (List UInt8))×(Int)×(Int)×(Int)×(Int)×(Int)×(Int)×(Int)×(Int)×(Int)×(List (List UInt8))
abbrev zyq:=(Bool)
def zKW:zbG→St:=fun (t0,t7,t8,o2_0,o2_1,o2_2,o2_3,o2_4,o2_5,o2_6,o3)=>{ env:=[(0,.ro .str t0),(2,.ptr 0 0),(4,.ptr 1 0),(5,.ptr 2 0),(6,.own 3),(7,.int .i64 t7),(8,.int .i64 t8)],stk:=[[]],H:=[.cells [.int .i64 (0),.int .i64 (0),.int .i64 (0),.int .i64 (0),.int .i64 (0),.int .i64 (0),.int .i64 (0),.own 4,.own 5],.cells [.int .i64 (0),.int .i64 (0),.int .i64 (0),.int .i64 (0),.int .i64 (0),.int .i64 (0),.int .i64 (0),.own 6,.own 7],.cells [.int .i64 o2_0,.int .i64 o2_1,.int .i64 o2_2,.int .i64 o2_3,.int .i64 o2_4,.int .i64 o2_5,.int .i64 o2_6,.own 8,.own 9],.arr .str o3,.arr (.st (.pair (.int .i64) (.pair (.pair (.int .i64) (.int .i64)) (.pair .str (.pair (.pair (.pair (.int .i64) (.int .i64)) .str) (.pair (.pair (.int .i64) (.int .i64)) .str)))))) ([]),.arr .bool ([]),.arr (.st (.pair (.int .i64) (.pair (.pair (.int .i64) (.int .i64)) (.pair .str (.pair (.pair (.pair (.int .i64) (.int .i64)) .str) (.pair (.pair (.int .i64) (.int .i64)) .str)))))) ([]),.arr .bool ([]),.arr (.st (.pair (.int .i64) (.pair (.pair (.int .i64) (.int .i64)) (.pair .str (.pair (.pair (.pair (.int .i64) (.int .i64)) .str) (.pair (.pair (.int .i64) (.int .i64)) .str)))))) ([]),.arr .bool ([])],blk:=28672 }
def zES (s:St):Option {x:zbG // s=zKW x}:=match s with
  | { env:=[(0,.ro .str t0),(2,.ptr 0 0),(4,.ptr 1 0),(5,.ptr 2 0),(6,.own 3),(7,.int .i64 t7),(8,.int .i64 t8)],stk:=[[]],H:=[.cells [.int .i64 r3,.int .i64 r4,.int .i64 r5,.int .i64 r6,.int .i64 r7,.int .i64 r8,.int .i64 r9,.own 4,.own 5],.cells [.int .i64 r10,.int .i64 r11,.int .i64 r12,.int .i64 r13,.int .i64 r14,.int .i64 r15,.int .i64 r16,.own 6,.own 7],.cells [.int .i64 o2_0,.int .i64 o2_1,.int .i64 o2_2,.int .i64 o2_3,.int .i64 o2_4,.int .i64 o2_5,.int .i64 o2_6,.own 8,.own 9],.arr .str o3,.arr (.st (.pair (.int .i64) (.pair (.pair (.int .i64) (.int .i64)) (.pair .str (.pair (.pair (.pair (.int .i64) (.int .i64)) .str) (.pair (.pair (.int .i64) (.int .i64)) .str)))))) r25,.arr .bool r26,.arr (.st (.pair (.int .i64) (.pair (.pair (.int .i64) (.int .i64)) (.pair .str (.pair (.pair (.pair (.int .i64) (.int .i64)) .str) (.pair (.pair (.int .i64) (.int .i64)) .str)))))) r27,.arr .bool r28,.arr (.st (.pair (.int .i64) (.pair (.pair (.int .i64) (.int .i64)) (.pair .str (.pair (.pair (.pair (.int .i64) (.int .i64)) .str) (.pair (.pair (.int .i64) (.int .i64)) .str)))))) r29,.arr .bool r30],blk:=28672 }=>if h3:r3=0 then if h4:r4=0 then if h5:r5=0 then if h6:r6=0 then if h7:r7=0 then if h8:r8=0 then if h9:r9=0 then if h10:r10=0 then if h11:r11=0 then if h12:r12=0 then if h13:r13=0 then if h14:r14=0 then if h15:r15=0 then if h16:r16=0 then if h25:r25=[] then if h26:r26=[] then if h27:r27=[] then if h28:r28=[] then if h29:r29=[] then if h30:r30=[] then some ⟨(t0,t7,t8,o2_0,o2_1,o2_2,o2_3,o2_4,o2_5,o2_6,o3),by subst h3 h4 h5 h6 h7 h8 h9 h10 h11 h12 h13 h14 h15 h16 h25 h26 h27 h28 h29 h30;rfl⟩ else none else none else none else none else none else none else none else none else none else none else none else none else none else none else none else none else none else none else none else none
  | _=>none
def zrV (s:St):Option zbG:=pk (zES s)
theorem zQS (s:St) (x:zbG) (h:zrV s=some x):s=zKW x:=zt (o:=zES s) h
def zsv:zbG→(Ex→St→Ans)→zyq→Ans:=fun (t0,t7,t8,o2_0,o2_1,o2_2,o2_3,o2_4,o2_5,o2_6,o3) K=>fun t47_y=>K (Ex.norm) { env:=[(0,.ro .str t0),(2,.ptr 0 0),(4,.ptr 1 0),(5,.ptr 2 0),(6,.own 3),(8,.int .i64 t8),(47,.bool t47_y)],stk:=[[]],H:=[.cells [.int .i64 (0),.int .i64 (0),.int .i64 (0),.int .i64 (0),.int .i64 (0),.int .i64 (0),.int .i64 (0),.own 4,.own 5],.cells [.int .i64 (0),.int .i64 (0),.int .i64 (0),.int .i64 (0),.int .i64 (0),.int .i64 (0),.int .i64 (0),.own 6,.own 7],.cells [.int .i64 o2_0,.int .i64 o2_1,.int .i64 o2_2,.int .i64 o2_3,.int .i64 o2_4,.int .i64 o2_5,.int .i64 o2_6,.own 8,.own 9],.arr .str o3,.arr (.st (.pair (.int .i64) (.pair (.pair (.int .i64) (.int .i64)) (.pair .str (.pair (.pair (.pair (.int .i64) (.int .i64)) .str) (.pair (.pair (.int .i64) (.int .i64)) .str)))))) ([]),.arr .bool ([]),.arr (.st (.pair (.int .i64) (.pair (.pair (.int .i64) (.int .i64)) (.pair .str (.pair (.pair (.pair (.int .i64) (.int .i64)) .str) (.pair (.pair (.int .i64) (.int .i64)) .str)))))) ([]),.arr .bool ([]),.arr (.st (.pair (.int .i64) (.pair (.pair (.int .i64) (.int .i64)) (.pair .str (.pair (.pair (.pair (.int .i64) (.int .i64)) .str) (.pair (.pair (.int .i64) (.int .i64)) .str)))))) ([]),.arr .bool ([])],blk:=28672 }
def zcG {β:Type}:zbG→(zyq→Option β)→Option β:=fun (t0,t7,t8,o2_0,o2_1,o2_2,o2_3,o2_4,o2_5,o2_6,o3) exit=>(bif t7 != (0:Int) then (exit (true)) else (exit (o2_4 != IntKind.wrap .i64 (t8 - (1:Int)))))
def jl (i:zbG):Option zyq:=zcG i some
theorem zGe (i:zbG) (k:zyq→Ans):zcG i k=za (jl i) k:=by
  obtain ⟨t0,t7,t8,o2_0,o2_1,o2_2,o2_3,o2_4,o2_5,o2_6,o3⟩:=i
  simp only [jl,zcG,zi,zh,zl,zc,zj,zm,zg]
theorem zMp (i:zbG) (K:Ex→St→Ans):zx Tryz.tab zfo zd (zy Tryz.tab zfo zd 0 64) 70 83 zEn zth (zB 0 (exk [0,2,4,5,6,8,47] [2,3] []) K) (zKW i)=zcG i (zsv i K):=by kernel_rfl
theorem z0o:zw Tryz.prog 83 zth (zG zrV jl zsv):=zA mixed tabOk zCJ 0 (exk [0,2,4,5,6,8,47] [2,3] []) zKP zQS zMp zGe
noncomputable def z3R:(Ex→St→Ans)→St→Ans:=(zG zrV jl zsv)
theorem z4a:zw Tryz.prog 83 zth z3R:=z0o
noncomputable def Zae:Ann:=(.seq .none (.seq .none (.seq .none (.seq .none (.seq .none (.seq .none (.seq (.seq .none (.seq (.cut 0 [0,2,4,5,6,7,8] z3R) .none)) (.seq (.seq .none (.block (.cut 0 [0,2,4,5,6,8,51,52,53] z4F))) .none))))))))
theorem z7K:zq Tryz.prog 83 bq7 Zae:=⟨(zb _ _ _),⟨(zb _ _ _),⟨(zb _ _ _),⟨(zb _ _ _),⟨(zb _ _ _),⟨(zb _ _ _),⟨⟨(zb _ _ _),⟨z4a,(zb _ _ _)⟩⟩,⟨⟨(zb _ _ _),z2W⟩,(zb _ _ _)⟩⟩⟩⟩⟩⟩⟩⟩
abbrev Aq7:=(List (List UInt8))
abbrev Yq7:=(Int)×(Int)×(Int)×(Int)×(Int)×(Int)×(Int)×(Int)×(List (Int×(Int×Int)×List UInt8×((Int×Int)×List UInt8)×(Int×Int)×List UInt8))×(List Bool)
def zL1 {β:Type}:Aq7→(Yq7→Option β)→Option β:=fun a0 exit=>(bif decide ((↑(List.length a0):Int)<(2:Int)) then (exit ((0:Int),(0:Int),(0:Int),(0:Int),(0:Int),(0:Int),(0:Int),(1:Int),[],[])) else (za (zht (a0)) (unP fun r_1 o0=>(bif r_1 != (0:Int) then (exit ((0:Int),(0:Int),(0:Int),(0:Int),(0:Int),(0:Int),(0:Int),r_1,[],[])) else (bif inR (0:Int) (List.length o0) then (za (o0[(0:Nat)]?) fun x=>(za (zgt (x)) (unP fun r_0_0=>unP fun r_0_1=>unP fun r_0_2=>unP fun r_0_3=>unP fun r_0_4=>unP fun r_0_5=>unP fun r_0_6 r_1_2=>(za (jl (a0,r_1_2,IntKind.wrap .i64 ((↑(List.length o0):Int) - (1:Int)),r_0_0,r_0_1,r_0_2,r_0_3,r_0_4,r_0_5,r_0_6,o0)) fun t47=>(bif t47 then (exit ((0:Int),(0:Int),(0:Int),(0:Int),(0:Int),(0:Int),(0:Int),(4:Int),[],[])) else (bif inR (IntKind.wrap .i64 ((↑(List.length o0):Int) - (1:Int))) (List.length o0+(1:Nat))&&inR (1:Int) (Int.toNat (IntKind.wrap .i64 ((↑(List.length o0):Int) - (1:Int)))+(1:Nat)) then (za (zO (y5 (a0,IntKind.wrap .i64 ((↑(List.length o0):Int) - (1:Int)),Int.toNat (IntKind.wrap .i64 ((↑(List.length o0):Int) - (1:Int))) - (1:Nat),(↑(Int.toNat (IntKind.wrap .i64 ((↑(List.length o0):Int) - (1:Int))) - (1:Nat)):Int),r_0_0,r_0_1,r_0_2,r_0_3,r_0_4,r_0_5,r_0_6,o0)) zY ((0:Int),[],[])) (Sum.elim (fun t3=>(exit ((0:Int),(0:Int),(0:Int),(0:Int),(0:Int),(0:Int),(0:Int),t3,[],[]))) (unP fun o8 o9=>(bif inR (IntKind.wrap .i64 ((↑(List.length o0):Int) - (1:Int))) (List.length o0) then (za (o0[Int.toNat (IntKind.wrap .i64 ((↑(List.length o0):Int) - (1:Int)))]?) fun x_2=>(bif inR (IntKind.wrap .i64 ((↑(List.length o0):Int) - (1:Int))) (List.length a0+(1:Nat)) then (za (zdS (List.take (Int.toNat (IntKind.wrap .i64 ((↑(List.length o0):Int) - (1:Int)))) a0)) fun r=>(bif !x_2 == r then (exit ((0:Int),(0:Int),(0:Int),(0:Int),(0:Int),(0:Int),(0:Int),(5:Int),[],[])) else (za (ziQ (r_0_0,r_0_1,r_0_2,r_0_3,r_0_4,r_0_5,r_0_6,o8,o9)) fun r_2=>(bif r_2 != (0:Int) then (exit ((0:Int),(0:Int),(0:Int),(0:Int),(0:Int),(0:Int),(0:Int),r_2,[],[])) else (exit (r_0_0,r_0_1,r_0_2,r_0_3,r_0_4,r_0_5,r_0_6,(0:Int),o8,o9)))))) else none)) else none)))) else none)))))) else none)))))
def zn1 (a:Aq7):Option Yq7:=zL1 a some
theorem z7M (a:Aq7) (k:Yq7→Ans):zL1 a k=za (zn1 a) k:=by
  obtain z:=a
  simp only [zn1,zL1,zi,zh,zl,zc,zj,zm,zg]
def ztL:Aq7→List AV×List AE.Obj:=fun a0=>([.ro .str a0],[])
def zSS (l:List AV) (H:List AE.Obj):Option {a:Aq7 // (l,H)=ztL a}:=match l,H with
  | [.ro .str a0],[]=>some ⟨(a0),rfl⟩
  | _,_=>none
def z0s (l:List AV) (H:List AE.Obj):Option Aq7:=pk (zSS l H)
theorem z27 (l:List AV) (H:List AE.Obj) (a:Aq7) (h:z0s l H=some a):(l,H)=ztL a:=zt (o:=zSS l H) h
def Zay:Aq7→(AV→List AE.Obj→Ans)→Yq7→Ans:=fun a0 K=>unP fun r_0_0_y=>unP fun r_0_1_y=>unP fun r_0_2_y=>unP fun r_0_3_y=>unP fun r_0_4_y=>unP fun r_0_5_y=>unP fun r_0_6_y=>unP fun r_1_y=>unP fun o0_y o1_y=>K (.tup [.agg [.int .i64 r_0_0_y,.int .i64 r_0_1_y,.int .i64 r_0_2_y,.int .i64 r_0_3_y,.int .i64 r_0_4_y,.int .i64 r_0_5_y,.int .i64 r_0_6_y,.own 0,.own 1],.int .i64 r_1_y]) [.arr (.st (.pair (.int .i64) (.pair (.pair (.int .i64) (.int .i64)) (.pair .str (.pair (.pair (.pair (.int .i64) (.int .i64)) .str) (.pair (.pair (.int .i64) (.int .i64)) .str)))))) o0_y,.arr .bool o1_y]
theorem ZbY (a:Aq7) (K:AV→List AE.Obj→Ans):fnE Tryz.tab zfo zd 0 70 7 Tryz.f7.ntmps Tryz.f7.results.toList Zae bq7 (ztL a).1 (ztL a).2 K=zL1 a (Zay a K):=by kernel_rfl
def Zfy (a:Aq7) (K:AV→List AE.Obj→Ans):Ans:=za (zn1 a) fun y=>Zay a K y
def Fq7:List AV→List AE.Obj→(AV→List AE.Obj→Ans)→Ans:=fun l H K=>za (z0s l H) fun a=>Zfy a K
theorem ZdU:zQ Tryz.prog 7 Fq7:=Zu (hint:=zd) (d:=0) (n:=70) mixed tabOk zCJ Tryz.func7 (zE (by kernel_rfl)) (by decide +kernel) z7K z27 ZbY z7M
--@ ref03_Of
noncomputable def Wz:Env:=[]
theorem ziB:zf Tryz.prog Wz:=zf.nil
noncomputable def zM4:Code:=Tryz.f102.body.getD .skip
noncomputable def zn2:Code:=zF [1,1,0,1,0,0,1,0,0,1,1,0,0,1,0] zM4
noncomputable def zwv:Ann := .none
theorem zGk:zq Tryz.prog 33 zn2 zwv:=(zb _ _ _)
abbrev QL:=(List UInt8)×(Int)×(Int)×(Int)
abbrev zn6:=(Int)
def zzx:QL→St:=fun (t0,t3,t4,t5)=>{ env:=[(0,.str t0),(3,.int .i64 t3),(4,.int .i64 t4),(5,.int .i64 t5)],stk:=[[]],H:=[],blk:=417794 }
def zwP (s:St):Option {x:QL // s=zzx x}:=match s with
  | { env:=[(0,.str t0),(3,.int .i64 t3),(4,.int .i64 t4),(5,.int .i64 t5)],stk:=[[]],H:=[],blk:=417794 }=>some ⟨(t0,t3,t4,t5),rfl⟩
  | _=>none
def zm4 (s:St):Option QL:=pk (zwP s)
theorem zMy (s:St) (x:QL) (h:zm4 s=some x):s=zzx x:=zt (o:=zwP s) h
def zku:QL→(Ex→St→Ans)→zn6→Ans:=fun (t0,t3,t4,t5) K=>fun t3_y=>K (Ex.norm) { env:=[(0,.str t0),(3,.int .i64 t3_y),(4,.int .i64 t4),(5,.int .i64 t5)],stk:=[[]],H:=[],blk:=417795 }
def za4 {β:Type}:QL→(zn6→Option β)→Option β:=fun (t0,t3,t4,t5) exit=>(bif Int.tmod t3 (2:Int) == (1:Int) then (exit (IntKind.wrap .i64 (↑(Int.toNat (IntKind.wrap .i64 (Int.tdiv t3 (2:Int)) % (18446744073709551616:Int)) ^^^ (3988292384:Nat)):Int))) else (exit (IntKind.wrap .i64 (Int.tdiv t3 (2:Int)))))
def wg (i:QL):Option zn6:=za4 i some
theorem zBP (i:QL) (k:zn6→Ans):za4 i k=za (wg i) k:=by
  obtain ⟨t0,t3,t4,t5⟩:=i
  simp only [wg,za4,zi,zh,zl,zc,zj,zm,zg]
theorem zFI (i:QL) (K:Ex→St→Ans):zx Tryz.tab Wz zd (zy Tryz.tab Wz zd 0 64) 70 33 zwv zn2 (zB 0 (exk [0,3,4,5] [2] []) K) (zzx i)=za4 i (zku i K):=by kernel_rfl
theorem zQ2:zw Tryz.prog 33 zn2 (zG zm4 wg zku):=zA mixed tabOk ziB 0 (exk [0,3,4,5] [2] []) zGk zMy zFI zBP
noncomputable def zUq:(Ex→St→Ans)→St→Ans:=(zG zm4 wg zku)
theorem zVJ:zw Tryz.prog 33 zn2 zUq:=zQ2
noncomputable def zhB:Code:=zF [1,1,0,1,0,0,1,0,0,1,1,0,0] zM4
noncomputable def zij:Ann := .at 0 [0,3,4,5] (.loop (.seq .none (.seq (.cut 0 [0,3,4,5] zUq) .none)))
theorem zHD:zq Tryz.prog 33 (.loop zhB) zij:=Zi ⟨(zb _ _ _),⟨zVJ,(zb _ _ _)⟩⟩
abbrev jD:=(List UInt8)×(Int)
abbrev znM:=(Int)
abbrev wO:=(Int)×(Int)
def zpT:jD→wO→St:=fun (t0,t4) (t3,t5)=>{ env:=[(0,.str t0),(3,.int .i64 t3),(4,.int .i64 t4),(5,.int .i64 t5)],stk:=[[]],H:=[],blk:=417794 }
def zva (s:St):Option {x:jD×wO // s=zpT x.1 x.2}:=match s with
  | { env:=[(0,.str t0),(3,.int .i64 t3),(4,.int .i64 t4),(5,.int .i64 t5)],stk:=[[]],H:=[],blk:=417794 }=>some ⟨((t0,t4),(t3,t5)),rfl⟩
  | _=>none
def znh (s:St):Option (jD×wO):=pk (zva s)
theorem zNX (s:St) (x:jD×wO) (h:znh s=some x):s=zpT x.1 x.2:=zt (o:=zva s) h
def zlX:jD→(Ex→St→Ans)→znM→Ans:=fun (t0,t4) K=>fun t3_y=>K (Ex.exit 2) { env:=[(0,.str t0),(3,.int .i64 t3_y),(4,.int .i64 t4)],stk:=[[]],H:=[],blk:=417794 }
def Qs {β:Type}:jD→wO→(wO→Option β)→(znM→Option β)→Option β:=fun (t0,t4) (t3,t5) next exit=>(bif decide (t5<(8:Int)) then (za (wg (t0,t3,t4,t5)) fun t3_2=>(next (t3_2,IntKind.wrap .i64 (t5+(1:Int))))) else (exit (t3)))
def yO (i:jD) (v:wO):Option (wO ⊕ znM):=Qs i v (fun v=>some (.inl v)) (fun y=>some (.inr y))
theorem zBd (i:jD) (v:wO) (next:wO→Ans) (exit:znM→Ans):Qs i v next exit=za (yO i v) (Sum.elim next exit):=by
  obtain ⟨t0,t4⟩:=i
  obtain ⟨t3,t5⟩:=v
  simp only [yO,Qs,zi,zh,zl,zc,zj,zm,zg,Sum.elim_inl,Sum.elim_inr]
theorem zHy (n:Nat) (i:jD) (v:wO) (K:Ex→St→Ans):zx Tryz.tab Wz zd (zy Tryz.tab Wz zd 0 64) (n+1) 33 zij (.loop zhB) (zB 0 (exk [0,3,4] [2] [(2,[0,3,4])]) K) (zpT i v)=Qs i v (fun v'=>zx Tryz.tab Wz zd (zy Tryz.tab Wz zd 0 64) n 33 zij (.loop zhB) (zB 0 (exk [0,3,4] [2] [(2,[0,3,4])]) K) (zpT i v')) (fun y=>zlX i K y):=by kernel_rfl
theorem zPh:zw Tryz.prog 33 (.loop zhB) (Zm znh yO zlX):=Zf mixed tabOk ziB 0 (exk [0,3,4] [2] [(2,[0,3,4])]) zHD zNX zHy zBd
noncomputable def zR2:(Ex→St→Ans)→St→Ans:=(Zm znh yO zlX)
theorem zYV:zw Tryz.prog 33 (.loop zhB) zR2:=zPh
noncomputable def zgk:Code:=zF [1,1,0,1,0,0] zM4
noncomputable def zia:Ann := .at 0 [0,3,4] (.loop (.seq .none (.seq (.block (.seq .none (.seq .none (.block (.cut 0 [0,3,4,5] zR2))))) .none)))
theorem zH6:zq Tryz.prog 33 (.loop zgk) zia:=Zi ⟨(zb _ _ _),⟨⟨(zb _ _ _),⟨(zb _ _ _),zYV⟩⟩,(zb _ _ _)⟩⟩
abbrev Jc:=(List UInt8)
abbrev zpD:=(Int)
abbrev wy:=(Int)×(Int)
def zqZ:Jc→wy→St:=fun t0 (t3,t4)=>{ env:=[(0,.str t0),(3,.int .i64 t3),(4,.int .i64 t4)],stk:=[[]],H:=[],blk:=417792 }
def zxg (s:St):Option {x:Jc×wy // s=zqZ x.1 x.2}:=match s with
  | { env:=[(0,.str t0),(3,.int .i64 t3),(4,.int .i64 t4)],stk:=[[]],H:=[],blk:=417792 }=>some ⟨(t0,(t3,t4)),rfl⟩
  | _=>none
def zlj (s:St):Option (Jc×wy):=pk (zxg s)
theorem zLO (s:St) (x:Jc×wy) (h:zlj s=some x):s=zqZ x.1 x.2:=zt (o:=zxg s) h
def zk1:Jc→(Ex→St→Ans)→zpD→Ans:=fun t0 K=>fun t3_y=>K (Ex.exit 0) { env:=[(3,.int .i64 t3_y)],stk:=[[]],H:=[],blk:=417792 }
def jJ {β:Type}:Jc→wy→(wy→Option β)→(zpD→Option β)→Option β:=fun t0 (t3,t4) next exit=>(bif decide (t4<(↑(List.length t0):Int)) then (za (nth t0 t4) fun x=>(za (zO (yO (t0,t4)) zY (IntKind.wrap .i64 (↑(Int.toNat (t3 % (18446744073709551616:Int)) ^^^ Int.toNat (IntKind.wrap .i64 (↑(UInt8.toNat x):Int) % (18446744073709551616:Int))):Int),(0:Int))) fun t3_2=>(next (t3_2,IntKind.wrap .i64 (t4+(1:Int)))))) else (exit (t3)))
def yH (i:Jc) (v:wy):Option (wy ⊕ zpD):=jJ i v (fun v=>some (.inl v)) (fun y=>some (.inr y))
theorem zCK (i:Jc) (v:wy) (next:wy→Ans) (exit:zpD→Ans):jJ i v next exit=za (yH i v) (Sum.elim next exit):=by
  obtain z:=i
  obtain ⟨t3,t4⟩:=v
  simp only [yH,jJ,zi,zh,zl,zc,zj,zm,zg,Sum.elim_inl,Sum.elim_inr]
theorem zHQ (n:Nat) (i:Jc) (v:wy) (K:Ex→St→Ans):zx Tryz.tab Wz zd (zy Tryz.tab Wz zd 0 64) (n+1) 33 zia (.loop zgk) (zB 0 (exk [3] [2] [(0,[3])]) K) (zqZ i v)=jJ i v (fun v'=>zx Tryz.tab Wz zd (zy Tryz.tab Wz zd 0 64) n 33 zia (.loop zgk) (zB 0 (exk [3] [2] [(0,[3])]) K) (zqZ i v')) (fun y=>zk1 i K y):=by kernel_rfl
theorem zPX:zw Tryz.prog 33 (.loop zgk) (Zm zlj yH zk1):=Zf mixed tabOk ziB 0 (exk [3] [2] [(0,[3])]) zH6 zLO zHQ zCK
noncomputable def zUi:(Ex→St→Ans)→St→Ans:=(Zm zlj yH zk1)
theorem zW2:zw Tryz.prog 33 (.loop zgk) zUi:=zPX
noncomputable def z1a:Ann:=(.seq .none (.seq .none (.seq (.seq .none (.block (.cut 0 [0,3,4] zUi))) .none)))
theorem z1O:zq Tryz.prog 33 zM4 z1a:=⟨(zb _ _ _),⟨(zb _ _ _),⟨⟨(zb _ _ _),zW2⟩,(zb _ _ _)⟩⟩⟩
abbrev zdX:=(List UInt8)
abbrev zKF:=(Int)
def zxu {β:Type}:zdX→(zKF→Option β)→Option β:=fun a0 exit=>(za (zO (yH (a0)) zY ((4294967295:Int),(0:Int))) fun t3=>(exit (IntKind.wrap .i64 (↑(Int.toNat (t3 % (18446744073709551616:Int)) ^^^ (4294967295:Nat)):Int))))
def zgV (a:zdX):Option zKF:=zxu a some
theorem z4Q (a:zdX) (k:zKF→Ans):zxu a k=za (zgV a) k:=by
  obtain z:=a
  simp only [zgV,zxu,zi,zh,zl,zc,zj,zm,zg]
def zCD:zdX→List AV:=fun a0=>[.str a0]
def zML (l:List AV):Option {a:zdX // l=zCD a}:=match l with
  | [.str a0]=>some ⟨(a0),rfl⟩
  | _=>none
def zRW (l:List AV):Option zdX:=pk (zML l)
theorem zY6 (l:List AV) (a:zdX) (h:zRW l=some a):l=zCD a:=zt (o:=zML l) h
def zCo:zdX→zKF→AV:=fun a0=>fun r_y => .int .i64 r_y
theorem z0i : ∀(a:zdX) (y:zKF),(zCo a y).closed1=true:=by
  rintro z y <;> first | rfl | exact Empty.elim y
theorem z9s (a:zdX):fnE Tryz.tab Wz zd 0 70 102 Tryz.f102.ntmps Tryz.f102.results.toList z1a zM4 (zCD a) [] (fun v _=>some (v,[]))=zxu a (fun y=>some (zCo a y,[])):=by kernel_rfl
def Zel (a:zdX) (K:AV→Ans):Ans:=za (zgV a) fun y=>K (zCo a y)
def ZcT:List AV→(AV→Ans)→Ans:=fun l K=>za (zRW l) fun a=>Zel a K
theorem ZaO:zM Tryz.prog 102 ZcT:=zL (hint:=zd) (d:=0) (n:=70) mixed tabOk ziB Tryz.func102 (zE (by kernel_rfl)) (by decide +kernel) z1O zY6 z9s z4Q z0i
--@ ref03_Tail
noncomputable def z0F:Env:=[(102,.pure ZcT)]
theorem z73:zf Tryz.prog z0F:=zf.cons ZaO (zf.nil)
noncomputable def ZdH:Code:=Tryz.f60.body.getD .skip
noncomputable def z1U:Ann := .none
theorem z52:zq Tryz.prog 23 ZdH z1U:=(zb _ _ _)
abbrev zeQ:=(List UInt8)
abbrev zNP:=(List UInt8)
def zuH {β:Type}:zeQ→(zNP→Option β)→Option β:=fun a0 exit=>(za (zgV (a0)) fun r=>(exit (Zh [IntKind.wrap .u8 (Int.tmod r (256:Int)),IntKind.wrap .u8 (Int.tmod (IntKind.wrap .i64 (Int.tdiv r (256:Int))) (256:Int)),IntKind.wrap .u8 (Int.tmod (IntKind.wrap .i64 (Int.tdiv r (65536:Int))) (256:Int)),IntKind.wrap .u8 (Int.tmod (IntKind.wrap .i64 (Int.tdiv r (16777216:Int))) (256:Int))])))
def zbN (a:zeQ):Option zNP:=zuH a some
theorem z4Y (a:zeQ) (k:zNP→Ans):zuH a k=za (zbN a) k:=by
  obtain z:=a
  simp only [zbN,zuH,zi,zh,zl,zc,zj,zm,zg]
def zBg:zeQ→List AV:=fun a0=>[.str a0]
def zMO (l:List AV):Option {a:zeQ // l=zBg a}:=match l with
  | [.str a0]=>some ⟨(a0),rfl⟩
  | _=>none
def zTO (l:List AV):Option zeQ:=pk (zMO l)
theorem zZA (l:List AV) (a:zeQ) (h:zTO l=some a):l=zBg a:=zt (o:=zMO l) h
def zAa:zeQ→zNP→AV:=fun a0=>fun r_y => .str r_y
theorem zVs : ∀(a:zeQ) (y:zNP),(zAa a y).closed1=true:=by
  rintro z y <;> first | rfl | exact Empty.elim y
theorem z7E (a:zeQ):fnE Tryz.tab z0F zd 0 70 60 Tryz.f60.ntmps Tryz.f60.results.toList z1U ZdH (zBg a) [] (fun v _=>some (v,[]))=zuH a (fun y=>some (zAa a y,[])):=by kernel_rfl
def Zeg (a:zeQ) (K:AV→Ans):Ans:=za (zbN a) fun y=>K (zAa a y)
def zMH:List AV→(AV→Ans)→Ans:=fun l K=>za (zTO l) fun a=>Zeg a K
theorem zqX:zM Tryz.prog 60 zMH:=zL (hint:=zd) (d:=0) (n:=70) mixed tabOk z73 Tryz.func60 (zE (by kernel_rfl)) (by decide +kernel) z52 zZA z7E z4Y zVs
--@ ref04_First
noncomputable def z0E:Env:=[(60,.pure zMH)]
theorem z6O:zf Tryz.prog z0E:=zf.cons zqX (zf.nil)
noncomputable def Zb5:Code:=Tryz.f59.body.getD .skip
noncomputable def z2m:Ann := .none
theorem z4D:zq Tryz.prog 51 Zb5 z2m:=(zb _ _ _)
abbrev zfj:=(List UInt8)
abbrev zNh:=(Int)×(List UInt8)×(List UInt8)×(Int)
def zwf {β:Type}:zfj→(zNh→Option β)→Option β:=fun a0 exit=>(bif decide ((↑(List.length a0):Int)<(7:Int)) then (exit ((0:Int),[],[],(1:Int))) else (za (nth a0 (1:Int)) fun x=>(za (nth a0 (2:Int)) fun x_2=>(bif decide (IntKind.wrap .i64 (IntKind.wrap .i64 ((256:Int)*IntKind.wrap .i64 (↑(UInt8.toNat x):Int))+IntKind.wrap .i64 (↑(UInt8.toNat x_2):Int))>(600:Int)) then (exit ((0:Int),[],[],(11:Int))) else (bif decide (IntKind.wrap .i64 (IntKind.wrap .i64 ((256:Int)*IntKind.wrap .i64 (↑(UInt8.toNat x):Int))+IntKind.wrap .i64 (↑(UInt8.toNat x_2):Int))>IntKind.wrap .i64 ((↑(List.length a0):Int) - (7:Int))) then (exit ((0:Int),[],[],(1:Int))) else (bif inR (IntKind.wrap .i64 ((7:Int)+IntKind.wrap .i64 (IntKind.wrap .i64 ((256:Int)*IntKind.wrap .i64 (↑(UInt8.toNat x):Int))+IntKind.wrap .i64 (↑(UInt8.toNat x_2):Int)))) (List.length a0+(1:Nat))&&inR (IntKind.wrap .i64 ((3:Int)+IntKind.wrap .i64 (IntKind.wrap .i64 ((256:Int)*IntKind.wrap .i64 (↑(UInt8.toNat x):Int))+IntKind.wrap .i64 (↑(UInt8.toNat x_2):Int)))) (Int.toNat (IntKind.wrap .i64 ((7:Int)+IntKind.wrap .i64 (IntKind.wrap .i64 ((256:Int)*IntKind.wrap .i64 (↑(UInt8.toNat x):Int))+IntKind.wrap .i64 (↑(UInt8.toNat x_2):Int))))+(1:Nat)) then (bif inR (IntKind.wrap .i64 ((3:Int)+IntKind.wrap .i64 (IntKind.wrap .i64 ((256:Int)*IntKind.wrap .i64 (↑(UInt8.toNat x):Int))+IntKind.wrap .i64 (↑(UInt8.toNat x_2):Int)))) (List.length a0+(1:Nat)) then (za (zbN (List.take (Int.toNat (IntKind.wrap .i64 ((3:Int)+IntKind.wrap .i64 (IntKind.wrap .i64 ((256:Int)*IntKind.wrap .i64 (↑(UInt8.toNat x):Int))+IntKind.wrap .i64 (↑(UInt8.toNat x_2):Int))))) a0)) fun r=>(bif !List.take (Int.toNat (IntKind.wrap .i64 ((7:Int)+IntKind.wrap .i64 (IntKind.wrap .i64 ((256:Int)*IntKind.wrap .i64 (↑(UInt8.toNat x):Int))+IntKind.wrap .i64 (↑(UInt8.toNat x_2):Int)))) - Int.toNat (IntKind.wrap .i64 ((3:Int)+IntKind.wrap .i64 (IntKind.wrap .i64 ((256:Int)*IntKind.wrap .i64 (↑(UInt8.toNat x):Int))+IntKind.wrap .i64 (↑(UInt8.toNat x_2):Int))))) (List.drop (Int.toNat (IntKind.wrap .i64 ((3:Int)+IntKind.wrap .i64 (IntKind.wrap .i64 ((256:Int)*IntKind.wrap .i64 (↑(UInt8.toNat x):Int))+IntKind.wrap .i64 (↑(UInt8.toNat x_2):Int))))) a0) == r then (exit ((0:Int),[],[],(5:Int))) else (za (nth a0 (0:Int)) fun x_3=>(bif inR (IntKind.wrap .i64 ((3:Int)+IntKind.wrap .i64 (IntKind.wrap .i64 ((256:Int)*IntKind.wrap .i64 (↑(UInt8.toNat x):Int))+IntKind.wrap .i64 (↑(UInt8.toNat x_2):Int)))) (List.length a0+(1:Nat))&&inR (3:Int) (Int.toNat (IntKind.wrap .i64 ((3:Int)+IntKind.wrap .i64 (IntKind.wrap .i64 ((256:Int)*IntKind.wrap .i64 (↑(UInt8.toNat x):Int))+IntKind.wrap .i64 (↑(UInt8.toNat x_2):Int))))+(1:Nat)) then (bif inR (IntKind.wrap .i64 ((7:Int)+IntKind.wrap .i64 (IntKind.wrap .i64 ((256:Int)*IntKind.wrap .i64 (↑(UInt8.toNat x):Int))+IntKind.wrap .i64 (↑(UInt8.toNat x_2):Int)))) (List.length a0+(1:Nat)) then (exit (IntKind.wrap .i64 (↑(UInt8.toNat x_3):Int),List.take (Int.toNat (IntKind.wrap .i64 ((3:Int)+IntKind.wrap .i64 (IntKind.wrap .i64 ((256:Int)*IntKind.wrap .i64 (↑(UInt8.toNat x):Int))+IntKind.wrap .i64 (↑(UInt8.toNat x_2):Int)))) - (3:Nat)) (List.drop (3:Nat) a0),List.drop (Int.toNat (IntKind.wrap .i64 ((7:Int)+IntKind.wrap .i64 (IntKind.wrap .i64 ((256:Int)*IntKind.wrap .i64 (↑(UInt8.toNat x):Int))+IntKind.wrap .i64 (↑(UInt8.toNat x_2):Int))))) a0,(0:Int))) else none) else none)))) else none) else none))))))
def zms (a:zfj):Option zNh:=zwf a some
theorem z1G (a:zfj) (k:zNh→Ans):zwf a k=za (zms a) k:=by
  obtain z:=a
  simp only [zms,zwf,zi,zh,zl,zc,zj,zm,zg]
def zD5:zfj→List AV:=fun a0=>[.str a0]
def zKl (l:List AV):Option {a:zfj // l=zD5 a}:=match l with
  | [.str a0]=>some ⟨(a0),rfl⟩
  | _=>none
def zRx (l:List AV):Option zfj:=pk (zKl l)
theorem zZX (l:List AV) (a:zfj) (h:zRx l=some a):l=zD5 a:=zt (o:=zKl l) h
def zBQ:zfj→zNh→AV:=fun a0=>unP fun r_0_y=>unP fun r_1_y=>unP fun r_2_y r_3_y => .tup [.int .i64 r_0_y,.str r_1_y,.str r_2_y,.int .i64 r_3_y]
theorem zYs : ∀(a:zfj) (y:zNh),(zBQ a y).closed1=true:=by
  rintro z y <;> first | rfl | exact Empty.elim y
theorem z6I (a:zfj):fnE Tryz.tab z0E zd 0 70 59 Tryz.f59.ntmps Tryz.f59.results.toList z2m Zb5 (zD5 a) [] (fun v _=>some (v,[]))=zwf a (fun y=>some (zBQ a y,[])):=by kernel_rfl
def Zet (a:zfj) (K:AV→Ans):Ans:=za (zms a) fun y=>K (zBQ a y)
def ZcD:List AV→(AV→Ans)→Ans:=fun l K=>za (zRx l) fun a=>Zet a K
theorem Za8:zM Tryz.prog 59 ZcD:=zL (hint:=zd) (d:=0) (n:=70) mixed tabOk z6O Tryz.func59 (zE (by kernel_rfl)) (by decide +kernel) z4D zZX z6I z1G zYs
--@ ref04_Get
noncomputable def z36:Env:=[(59,.pure ZcD)]
theorem z8i:zf Tryz.prog z36:=zf.cons Za8 (zf.nil)
noncomputable def Zch:Code:=Tryz.f23.body.getD .skip
noncomputable def z5d:Ann := .none
theorem z1n:zq Tryz.prog 25 Zch z5d:=(zb _ _ _)
abbrev zd6:=(List UInt8)
abbrev zJd:=(Int)×(List UInt8)×(Int)
def zx8 {β:Type}:zd6→(zJd→Option β)→Option β:=fun a0 exit=>(za (zms (a0)) (unP fun r_0=>unP fun r_1=>unP fun r_2 r_3=>(bif r_3 != (0:Int) then (exit ((0:Int),[],r_3)) else (bif !r_2 == [] then (exit ((0:Int),[],(2:Int))) else (exit (r_0,r_1,(0:Int)))))))
def zgM (a:zd6):Option zJd:=zx8 a some
theorem z4K (a:zd6) (k:zJd→Ans):zx8 a k=za (zgM a) k:=by
  obtain z:=a
  simp only [zgM,zx8,zi,zh,zl,zc,zj,zm,zg]
def zz5:zd6→List AV:=fun a0=>[.str a0]
def zLf (l:List AV):Option {a:zd6 // l=zz5 a}:=match l with
  | [.str a0]=>some ⟨(a0),rfl⟩
  | _=>none
def zRz (l:List AV):Option zd6:=pk (zLf l)
theorem zYn (l:List AV) (a:zd6) (h:zRz l=some a):l=zz5 a:=zt (o:=zLf l) h
def zz6:zd6→zJd→AV:=fun a0=>unP fun r_0_y=>unP fun r_1_y r_2_y => .tup [.int .i64 r_0_y,.str r_1_y,.int .i64 r_2_y]
theorem zZU : ∀(a:zd6) (y:zJd),(zz6 a y).closed1=true:=by
  rintro z y <;> first | rfl | exact Empty.elim y
theorem z66 (a:zd6):fnE Tryz.tab z36 zd 0 70 23 Tryz.f23.ntmps Tryz.f23.results.toList z5d Zch (zz5 a) [] (fun v _=>some (v,[]))=zx8 a (fun y=>some (zz6 a y,[])):=by kernel_rfl
def Zeh (a:zd6) (K:AV→Ans):Ans:=za (zgM a) fun y=>K (zz6 a y)
def ZdW:List AV→(AV→Ans)→Ans:=fun l K=>za (zRz l) fun a=>Zeh a K
theorem ZaK:zM Tryz.prog 23 ZdW:=zL (hint:=zd) (d:=0) (n:=70) mixed tabOk z8i Tryz.func23 (zE (by kernel_rfl)) (by decide +kernel) z1n zYn z66 z4K zZU
--@ ref15_Check
noncomputable def zxX:Env:=[]
theorem zKZ:zf Tryz.prog zxX:=zf.nil
noncomputable def z7L:Code:=Tryz.f71.body.getD .skip
noncomputable def zpy:Code:=zF [1,0,0] z7L
noncomputable def zvm:Ann := .none
theorem zHY:zq Tryz.prog 31 zpy zvm:=(zb _ _ _)
abbrev Qg:=(Int)×(Int)×(Int)
abbrev zn8:=(Bool)
def zCl:Qg→St:=fun (o0_0,o0_1,o0_2)=>{ env:=[(1,.ptr 0 0)],stk:=[[]],H:=[.cells [.int .i64 o0_0,.int .i64 o0_1,.int .i64 o0_2]],blk:=290816 }
def zyo (s:St):Option {x:Qg // s=zCl x}:=match s with
  | { env:=[(1,.ptr 0 0)],stk:=[[]],H:=[.cells [.int .i64 o0_0,.int .i64 o0_1,.int .i64 o0_2]],blk:=290816 }=>some ⟨(o0_0,o0_1,o0_2),rfl⟩
  | _=>none
def zk9 (s:St):Option Qg:=pk (zyo s)
theorem zJg (s:St) (x:Qg) (h:zk9 s=some x):s=zCl x:=zt (o:=zyo s) h
def zjT:Qg→(Ex→St→Ans)→zn8→Ans:=fun (o0_0,o0_1,o0_2) K=>fun t30_y=>K (Ex.norm) { env:=[(30,.bool t30_y)],stk:=[[]],H:=[],blk:=290816 }
def zao {β:Type}:Qg→(zn8→Option β)→Option β:=fun (o0_0,o0_1,o0_2) exit=>(bif decide (o0_0<(1:Int)) then (exit (true)) else (bif decide (o0_0>(24:Int)) then (exit (true)) else (bif decide (o0_1<(1:Int)) then (exit (true)) else (bif decide (o0_1>(8:Int)) then (exit (true)) else (bif decide (o0_2<(24:Int)) then (exit (true)) else (exit (decide (o0_2>(200:Int)))))))))
def qy (i:Qg):Option zn8:=zao i some
theorem zyF (i:Qg) (k:zn8→Ans):zao i k=za (qy i) k:=by
  obtain ⟨o0_0,o0_1,o0_2⟩:=i
  simp only [qy,zao,zi,zh,zl,zc,zj,zm,zg]
theorem zIf (i:Qg) (K:Ex→St→Ans):zx Tryz.tab zxX zd (zy Tryz.tab zxX zd 0 64) 70 31 zvm zpy (zB 0 (exk [30] [2] []) K) (zCl i)=zao i (zjT i K):=by kernel_rfl
theorem zQO:zw Tryz.prog 31 zpy (zG zk9 qy zjT):=zA mixed tabOk zKZ 0 (exk [30] [2] []) zHY zJg zIf zyF
noncomputable def zRs:(Ex→St→Ans)→St→Ans:=(zG zk9 qy zjT)
theorem zUW:zw Tryz.prog 31 zpy zRs:=zQO
noncomputable def z0G:Ann:=(.seq .none (.seq (.seq (.cut 0 [1] zRs) .none) .none))
theorem z48:zq Tryz.prog 31 z7L z0G:=⟨(zb _ _ _),⟨⟨zUW,(zb _ _ _)⟩,(zb _ _ _)⟩⟩
abbrev ze8:=(Int)×(Int)×(Int)
abbrev zOz:=(Int)
def zt7 {β:Type}:ze8→(zOz→Option β)→Option β:=fun (a0_0,a0_1,a0_2) exit=>(za (qy (a0_0,a0_1,a0_2)) fun t30=>(bif t30 then (exit ((3:Int))) else (exit ((0:Int)))))
def zhh (a:ze8):Option zOz:=zt7 a some
theorem z4R (a:ze8) (k:zOz→Ans):zt7 a k=za (zhh a) k:=by
  obtain ⟨a0_0,a0_1,a0_2⟩:=a
  simp only [zhh,zt7,zi,zh,zl,zc,zj,zm,zg]
def zCh:ze8→List AV:=fun (a0_0,a0_1,a0_2)=>[.agg [.int .i64 a0_0,.int .i64 a0_1,.int .i64 a0_2]]
def zKc (l:List AV):Option {a:ze8 // l=zCh a}:=match l with
  | [.agg [.int .i64 a0_0,.int .i64 a0_1,.int .i64 a0_2]]=>some ⟨(a0_0,a0_1,a0_2),rfl⟩
  | _=>none
def zSn (l:List AV):Option ze8:=pk (zKc l)
theorem zYK (l:List AV) (a:ze8) (h:zSn l=some a):l=zCh a:=zt (o:=zKc l) h
def zDj:ze8→zOz→AV:=fun (a0_0,a0_1,a0_2)=>fun r_y => .int .i64 r_y
theorem zWA : ∀(a:ze8) (y:zOz),(zDj a y).closed1=true:=by
  rintro ⟨a0_0,a0_1,a0_2⟩ y <;> first | rfl | exact Empty.elim y
theorem z7Q (a:ze8):fnE Tryz.tab zxX zd 0 70 71 Tryz.f71.ntmps Tryz.f71.results.toList z0G z7L (zCh a) [] (fun v _=>some (v,[]))=zt7 a (fun y=>some (zDj a y,[])):=by kernel_rfl
def Ze0 (a:ze8) (K:AV→Ans):Ans:=za (zhh a) fun y=>K (zDj a y)
def Zdh:List AV→(AV→Ans)→Ans:=fun l K=>za (zSn l) fun a=>Ze0 a K
theorem Zbg:zM Tryz.prog 71 Zdh:=zL (hint:=zd) (d:=0) (n:=70) mixed tabOk zKZ Tryz.func71 (zE (by kernel_rfl)) (by decide +kernel) z48 zYK z7Q z4R zWA
--@ ref16_Check
noncomputable def zty:Env:=[(71,.pure Zdh)]
theorem zKg:zf Tryz.prog zty:=zf.cons Zbg (zf.nil)
noncomputable def z6C:Code:=Tryz.f36.body.getD .skip
noncomputable def zpm:Code:=zF [1,0,0] z6C
noncomputable def zun:Ann := .none
theorem zHn:zq Tryz.prog 50 zpm zun:=(zb _ _ _)
abbrev Ja:=(Int)×(Int)×(Int)×(Int)×(Int)×(Int)×(Int)
abbrev zp2:=(Bool)
def zC8:Ja→St:=fun (o0_0,o0_1,o0_2,o0_3,o0_4,o0_5,o0_6)=>{ env:=[(1,.ptr 0 0)],stk:=[[]],H:=[.cells [.int .i64 o0_0,.int .i64 o0_1,.int .i64 o0_2,.int .i64 o0_3,.int .i64 o0_4,.int .i64 o0_5,.int .i64 o0_6]],blk:=147456 }
def zti (s:St):Option {x:Ja // s=zC8 x}:=match s with
  | { env:=[(1,.ptr 0 0)],stk:=[[]],H:=[.cells [.int .i64 o0_0,.int .i64 o0_1,.int .i64 o0_2,.int .i64 o0_3,.int .i64 o0_4,.int .i64 o0_5,.int .i64 o0_6]],blk:=147456 }=>some ⟨(o0_0,o0_1,o0_2,o0_3,o0_4,o0_5,o0_6),rfl⟩
  | _=>none
def znx (s:St):Option Ja:=pk (zti s)
theorem zOS (s:St) (x:Ja) (h:znx s=some x):s=zC8 x:=zt (o:=zti s) h
def zm6:Ja→(Ex→St→Ans)→zp2→Ans:=fun (o0_0,o0_1,o0_2,o0_3,o0_4,o0_5,o0_6) K=>fun t49_y=>K (Ex.norm) { env:=[(49,.bool t49_y)],stk:=[[]],H:=[],blk:=147456 }
def zbg {β:Type}:Ja→(zp2→Option β)→Option β:=fun (o0_0,o0_1,o0_2,o0_3,o0_4,o0_5,o0_6) exit=>(za (zhh (o0_4,o0_5,o0_6)) fun r=>(bif r != (0:Int) then (exit (true)) else (bif decide (o0_0<(0:Int)) then (exit (true)) else (bif decide (o0_0>(1:Int)) then (exit (true)) else (bif decide (o0_1<(0:Int)) then (exit (true)) else (bif decide (o0_1>(1:Int)) then (exit (true)) else (bif decide (o0_2<(0:Int)) then (exit (true)) else (bif decide (o0_2>(16777216:Int)) then (exit (true)) else (bif decide (o0_3<(0:Int)) then (exit (true)) else (exit (decide (o0_3≥o0_4))))))))))))
def W4 (i:Ja):Option zp2:=zbg i some
theorem zCk (i:Ja) (k:zp2→Ans):zbg i k=za (W4 i) k:=by
  obtain ⟨o0_0,o0_1,o0_2,o0_3,o0_4,o0_5,o0_6⟩:=i
  simp only [W4,zbg,zi,zh,zl,zc,zj,zm,zg]
theorem zFy (i:Ja) (K:Ex→St→Ans):zx Tryz.tab zty zd (zy Tryz.tab zty zd 0 64) 70 50 zun zpm (zB 0 (exk [49] [2] []) K) (zC8 i)=zbg i (zm6 i K):=by kernel_rfl
theorem zQz:zw Tryz.prog 50 zpm (zG znx W4 zm6):=zA mixed tabOk zKg 0 (exk [49] [2] []) zHn zOS zFy zCk
noncomputable def zSu:(Ex→St→Ans)→St→Ans:=(zG znx W4 zm6)
theorem zYx:zw Tryz.prog 50 zpm zSu:=zQz
noncomputable def z2M:Ann:=(.seq .none (.seq (.seq (.cut 0 [1] zSu) .none) .none))
theorem z2r:zq Tryz.prog 50 z6C z2M:=⟨(zb _ _ _),⟨⟨zYx,(zb _ _ _)⟩,(zb _ _ _)⟩⟩
abbrev zeh:=(Int)×(Int)×(Int)×(Int)×(Int)×(Int)×(Int)
abbrev zLj:=(Int)
def zyf {β:Type}:zeh→(zLj→Option β)→Option β:=fun (a0_0,a0_1,a0_2,a0_3,a0_4,a0_5,a0_6) exit=>(za (W4 (a0_0,a0_1,a0_2,a0_3,a0_4,a0_5,a0_6)) fun t49=>(bif t49 then (exit ((3:Int))) else (exit ((0:Int)))))
def zez (a:zeh):Option zLj:=zyf a some
theorem z1d (a:zeh) (k:zLj→Ans):zyf a k=za (zez a) k:=by
  obtain ⟨a0_0,a0_1,a0_2,a0_3,a0_4,a0_5,a0_6⟩:=a
  simp only [zez,zyf,zi,zh,zl,zc,zj,zm,zg]
def zy9:zeh→List AV:=fun (a0_0,a0_1,a0_2,a0_3,a0_4,a0_5,a0_6)=>[.agg [.int .i64 a0_0,.int .i64 a0_1,.int .i64 a0_2,.int .i64 a0_3,.int .i64 a0_4,.int .i64 a0_5,.int .i64 a0_6]]
def zLs (l:List AV):Option {a:zeh // l=zy9 a}:=match l with
  | [.agg [.int .i64 a0_0,.int .i64 a0_1,.int .i64 a0_2,.int .i64 a0_3,.int .i64 a0_4,.int .i64 a0_5,.int .i64 a0_6]]=>some ⟨(a0_0,a0_1,a0_2,a0_3,a0_4,a0_5,a0_6),rfl⟩
  | _=>none
def zSj (l:List AV):Option zeh:=pk (zLs l)
theorem zVn (l:List AV) (a:zeh) (h:zSj l=some a):l=zy9 a:=zt (o:=zLs l) h
def zDl:zeh→zLj→AV:=fun (a0_0,a0_1,a0_2,a0_3,a0_4,a0_5,a0_6)=>fun r_y => .int .i64 r_y
theorem zUT : ∀(a:zeh) (y:zLj),(zDl a y).closed1=true:=by
  rintro ⟨a0_0,a0_1,a0_2,a0_3,a0_4,a0_5,a0_6⟩ y <;> first | rfl | exact Empty.elim y
theorem z8V (a:zeh):fnE Tryz.tab zty zd 0 70 36 Tryz.f36.ntmps Tryz.f36.results.toList z2M z6C (zy9 a) [] (fun v _=>some (v,[]))=zyf a (fun y=>some (zDl a y,[])):=by kernel_rfl
def Ze5 (a:zeh) (K:AV→Ans):Ans:=za (zez a) fun y=>K (zDl a y)
def z85:List AV→(AV→Ans)→Ans:=fun l K=>za (zSj l) fun a=>Ze5 a K
theorem zSV:zM Tryz.prog 36 z85:=zL (hint:=zd) (d:=0) (n:=70) mixed tabOk zKg Tryz.func36 (zE (by kernel_rfl)) (by decide +kernel) z2r zVn z8V z1d zUT
--@ ref02_Fits
noncomputable def zcS:Env:=[]
theorem zsS:zf Tryz.prog zcS:=zf.nil
noncomputable def zZV:Code:=Tryz.f105.body.getD .skip
noncomputable def zgp:Code:=zF [1,1,0,1,0,0] zZV
noncomputable def ziT:Ann := .at 0 [0,1,5] (.loop .none)
theorem zFF:zq Tryz.prog 25 (.loop zgp) ziT:=Zi (zb _ _ _)
abbrev jn:=(Int)
abbrev zoj:=(Int)
abbrev wW:=(Int)×(Int)
def zo9:jn→wW→St:=fun t1 (t0,t5)=>{ env:=[(0,.int .i64 t0),(1,.int .i64 t1),(5,.int .i64 t5)],stk:=[[]],H:=[],blk:=430080 }
def zuA (s:St):Option {x:jn×wW // s=zo9 x.1 x.2}:=match s with
  | { env:=[(0,.int .i64 t0),(1,.int .i64 t1),(5,.int .i64 t5)],stk:=[[]],H:=[],blk:=430080 }=>some ⟨(t1,(t0,t5)),rfl⟩
  | _=>none
def zme (s:St):Option (jn×wW):=pk (zuA s)
theorem zJm (s:St) (x:jn×wW) (h:zme s=some x):s=zo9 x.1 x.2:=zt (o:=zuA s) h
def zmh:jn→(Ex→St→Ans)→zoj→Ans:=fun t1 K=>fun t0_y=>K (Ex.exit 0) { env:=[(0,.int .i64 t0_y)],stk:=[[]],H:=[],blk:=430080 }
def QG {β:Type}:jn→wW→(wW→Option β)→(zoj→Option β)→Option β:=fun t1 (t0,t5) next exit=>(bif decide (t5<t1) then (next (IntKind.wrap .i64 (Int.tdiv t0 (256:Int)),IntKind.wrap .i64 (t5+(1:Int)))) else (exit (t0)))
def yU (i:jn) (v:wW):Option (wW ⊕ zoj):=QG i v (fun v=>some (.inl v)) (fun y=>some (.inr y))
theorem zB9 (i:jn) (v:wW) (next:wW→Ans) (exit:zoj→Ans):QG i v next exit=za (yU i v) (Sum.elim next exit):=by
  obtain z:=i
  obtain ⟨t0,t5⟩:=v
  simp only [yU,QG,zi,zh,zl,zc,zj,zm,zg,Sum.elim_inl,Sum.elim_inr]
theorem zGG (n:Nat) (i:jn) (v:wW) (K:Ex→St→Ans):zx Tryz.tab zcS zd (zy Tryz.tab zcS zd 0 64) (n+1) 25 ziT (.loop zgp) (zB 0 (exk [0] [4] [(0,[0])]) K) (zo9 i v)=QG i v (fun v'=>zx Tryz.tab zcS zd (zy Tryz.tab zcS zd 0 64) n 25 ziT (.loop zgp) (zB 0 (exk [0] [4] [(0,[0])]) K) (zo9 i v')) (fun y=>zmh i K y):=by kernel_rfl
theorem zPZ:zw Tryz.prog 25 (.loop zgp) (Zm zme yU zmh):=Zf mixed tabOk zsS 0 (exk [0] [4] [(0,[0])]) zFF zJm zGG zB9
noncomputable def zS7:(Ex→St→Ans)→St→Ans:=(Zm zme yU zmh)
theorem zWh:zw Tryz.prog 25 (.loop zgp) zS7:=zPZ
noncomputable def zqH:Code:=zF [1,0,0] zZV
noncomputable def zu7:Ann := .none
theorem zGK:zq Tryz.prog 25 zqH zu7:=(zb _ _ _)
abbrev QY:=(Int)×(Int)
abbrev zoB:=(Bool)
def zEg:QY→St:=fun (t0,t1)=>{ env:=[(0,.int .i64 t0),(1,.int .i64 t1)],stk:=[[]],H:=[],blk:=430080 }
def zuB (s:St):Option {x:QY // s=zEg x}:=match s with
  | { env:=[(0,.int .i64 t0),(1,.int .i64 t1)],stk:=[[]],H:=[],blk:=430080 }=>some ⟨(t0,t1),rfl⟩
  | _=>none
def zlt (s:St):Option QY:=pk (zuB s)
theorem zMd (s:St) (x:QY) (h:zlt s=some x):s=zEg x:=zt (o:=zuB s) h
def zlq:QY→(Ex→St→Ans)→zoB→Ans:=fun (t0,t1) K=>fun t15_y=>K (Ex.norm) { env:=[(0,.int .i64 t0),(1,.int .i64 t1),(15,.bool t15_y)],stk:=[[]],H:=[],blk:=430080 }
def za6 {β:Type}:QY→(zoB→Option β)→Option β:=fun (t0,t1) exit=>(bif decide (t1<(1:Int)) then (exit (true)) else (bif decide (t1>(7:Int)) then (exit (true)) else (exit (decide (t0<(0:Int))))))
def WJ (i:QY):Option zoB:=za6 i some
theorem zAQ (i:QY) (k:zoB→Ans):za6 i k=za (WJ i) k:=by
  obtain ⟨t0,t1⟩:=i
  simp only [WJ,za6,zi,zh,zl,zc,zj,zm,zg]
theorem zHq (i:QY) (K:Ex→St→Ans):zx Tryz.tab zcS zd (zy Tryz.tab zcS zd 0 64) 70 25 zu7 zqH (zB 0 (exk [0,1,15] [4] []) K) (zEg i)=za6 i (zlq i K):=by kernel_rfl
theorem zQm:zw Tryz.prog 25 zqH (zG zlt WJ zlq):=zA mixed tabOk zsS 0 (exk [0,1,15] [4] []) zGK zMd zHq zAQ
noncomputable def zSt:(Ex→St→Ans)→St→Ans:=(zG zlt WJ zlq)
theorem zW8:zw Tryz.prog 25 zqH zSt:=zQm
noncomputable def z2O:Ann:=(.seq .none (.seq (.seq (.cut 0 [0,1] zSt) .none) (.seq (.seq .none (.block (.cut 0 [0,1,5] zS7))) .none)))
theorem z2N:zq Tryz.prog 25 zZV z2O:=⟨(zb _ _ _),⟨⟨zW8,(zb _ _ _)⟩,⟨⟨(zb _ _ _),zWh⟩,(zb _ _ _)⟩⟩⟩
abbrev ze2:=(Int)×(Int)
abbrev zMw:=(Bool)
def zvt {β:Type}:ze2→(zMw→Option β)→Option β:=fun (a0,a1) exit=>(za (WJ (a0,a1)) fun t15=>(bif t15 then (exit (false)) else (za (zO (yU (a1)) zY (a0,(0:Int))) fun t0=>(exit (t0 == (0:Int))))))
def zha (a:ze2):Option zMw:=zvt a some
theorem z1c (a:ze2) (k:zMw→Ans):zvt a k=za (zha a) k:=by
  obtain ⟨a0,a1⟩:=a
  simp only [zha,zvt,zi,zh,zl,zc,zj,zm,zg]
def zD6:ze2→List AV:=fun (a0,a1)=>[.int .i64 a0,.int .i64 a1]
def zLN (l:List AV):Option {a:ze2 // l=zD6 a}:=match l with
  | [.int .i64 a0,.int .i64 a1]=>some ⟨(a0,a1),rfl⟩
  | _=>none
def zUP (l:List AV):Option ze2:=pk (zLN l)
theorem zYu (l:List AV) (a:ze2) (h:zUP l=some a):l=zD6 a:=zt (o:=zLN l) h
def zCU:ze2→zMw→AV:=fun (a0,a1)=>fun r_y => .bool r_y
theorem zWC : ∀(a:ze2) (y:zMw),(zCU a y).closed1=true:=by
  rintro ⟨a0,a1⟩ y <;> first | rfl | exact Empty.elim y
theorem z8T (a:ze2):fnE Tryz.tab zcS zd 0 70 105 Tryz.f105.ntmps Tryz.f105.results.toList z2O zZV (zD6 a) [] (fun v _=>some (v,[]))=zvt a (fun y=>some (zCU a y,[])):=by kernel_rfl
def Zeq (a:ze2) (K:AV→Ans):Ans:=za (zha a) fun y=>K (zCU a y)
def ZdC:List AV→(AV→Ans)→Ans:=fun l K=>za (zUP l) fun a=>Zeq a K
theorem Zbz:zM Tryz.prog 105 ZdC:=zL (hint:=zd) (d:=0) (n:=70) mixed tabOk zsS Tryz.func105 (zE (by kernel_rfl)) (by decide +kernel) z2N zYu z8T z1c zWC
--@ ref02_Put
noncomputable def zhI:Env:=[(105,.pure ZdC)]
theorem zO5:zf Tryz.prog zhI:=zf.cons Zbz (zf.nil)
noncomputable def z8x:Code:=Tryz.f65.body.getD .skip
noncomputable def zhr:Code:=zF [1,1,1,0,1,0,0] z8x
noncomputable def zjn:Ann := .at 0 [0,1,2,7,8] (.loop .none)
theorem zF9:zq Tryz.prog 31 (.loop zhr) zjn:=Zi (zb _ _ _)
abbrev jE:=(List UInt8)×(Int)
abbrev zoh:=(List UInt8)
abbrev wI:=(Int)×(List UInt8)×(Int)
def zra:jE→wI→St:=fun (t0,t2) (t1,t7,t8)=>{ env:=[(0,.str t0),(1,.int .i64 t1),(2,.int .i64 t2),(7,.str t7),(8,.int .i64 t8)],stk:=[[]],H:=[],blk:=266240 }
def zwC (s:St):Option {x:jE×wI // s=zra x.1 x.2}:=match s with
  | { env:=[(0,.str t0),(1,.int .i64 t1),(2,.int .i64 t2),(7,.str t7),(8,.int .i64 t8)],stk:=[[]],H:=[],blk:=266240 }=>some ⟨((t0,t2),(t1,t7,t8)),rfl⟩
  | _=>none
def zjM (s:St):Option (jE×wI):=pk (zwC s)
theorem zOi (s:St) (x:jE×wI) (h:zjM s=some x):s=zra x.1 x.2:=zt (o:=zwC s) h
def zns:jE→(Ex→St→Ans)→zoh→Ans:=fun (t0,t2) K=>fun t7_y=>K (Ex.exit 0) { env:=[(0,.str t0),(7,.str t7_y)],stk:=[[]],H:=[],blk:=266240 }
def Qh {β:Type}:jE→wI→(wI→Option β)→(zoh→Option β)→Option β:=fun (t0,t2) (t1,t7,t8) next exit=>(bif decide (t8<t2) then (bif Nat.ble (List.length (Zh [IntKind.wrap .u8 (Int.tmod t1 (256:Int))])+List.length t7) (9223372036854775807:Nat) then (next (IntKind.wrap .i64 (Int.tdiv t1 (256:Int)),Zh [IntKind.wrap .u8 (Int.tmod t1 (256:Int))]++t7,IntKind.wrap .i64 (t8+(1:Int)))) else none) else (exit (t7)))
def yQ (i:jE) (v:wI):Option (wI ⊕ zoh):=Qh i v (fun v=>some (.inl v)) (fun y=>some (.inr y))
theorem zyN (i:jE) (v:wI) (next:wI→Ans) (exit:zoh→Ans):Qh i v next exit=za (yQ i v) (Sum.elim next exit):=by
  obtain ⟨t0,t2⟩:=i
  obtain ⟨t1,t7,t8⟩:=v
  simp only [yQ,Qh,zi,zh,zl,zc,zj,zm,zg,Sum.elim_inl,Sum.elim_inr]
theorem zF7 (n:Nat) (i:jE) (v:wI) (K:Ex→St→Ans):zx Tryz.tab zhI zd (zy Tryz.tab zhI zd 0 64) (n+1) 31 zjn (.loop zhr) (zB 0 (exk [0,7] [6] [(0,[0,7])]) K) (zra i v)=Qh i v (fun v'=>zx Tryz.tab zhI zd (zy Tryz.tab zhI zd 0 64) n 31 zjn (.loop zhr) (zB 0 (exk [0,7] [6] [(0,[0,7])]) K) (zra i v')) (fun y=>zns i K y):=by kernel_rfl
theorem zPV:zw Tryz.prog 31 (.loop zhr) (Zm zjM yQ zns):=Zf mixed tabOk zO5 0 (exk [0,7] [6] [(0,[0,7])]) zF9 zOi zF7 zyN
noncomputable def zUr:(Ex→St→Ans)→St→Ans:=(Zm zjM yQ zns)
theorem zVf:zw Tryz.prog 31 (.loop zhr) zUr:=zPV
noncomputable def z1s:Ann:=(.seq .none (.seq .none (.seq .none (.seq (.seq .none (.block (.cut 0 [0,1,2,7,8] zUr))) .none))))
theorem z4f:zq Tryz.prog 31 z8x z1s:=⟨(zb _ _ _),⟨(zb _ _ _),⟨(zb _ _ _),⟨⟨(zb _ _ _),zVf⟩,(zb _ _ _)⟩⟩⟩⟩
abbrev zd9:=(List UInt8)×(Int)×(Int)
abbrev zOT:=(List UInt8)
def zvw {β:Type}:zd9→(zOT→Option β)→Option β:=fun (a0,a1,a2) exit=>(za (zha (a1,a2)) fun r=>(bif !r then (exit (a0)) else (za (zO (yQ (a0,a2)) zY (a1,[],(0:Int))) fun t7=>(bif Nat.ble (List.length a0+List.length t7) (9223372036854775807:Nat) then (exit (a0++t7)) else none))))
def Zy (a:zd9):Option zOT:=zvw a some
theorem z4V (a:zd9) (k:zOT→Ans):zvw a k=za (Zy a) k:=by
  obtain ⟨a0,a1,a2⟩:=a
  simp only [Zy,zvw,zi,zh,zl,zc,zj,zm,zg]
def zCn:zd9→List AV:=fun (a0,a1,a2)=>[.str a0,.int .i64 a1,.int .i64 a2]
def zNe (l:List AV):Option {a:zd9 // l=zCn a}:=match l with
  | [.str a0,.int .i64 a1,.int .i64 a2]=>some ⟨(a0,a1,a2),rfl⟩
  | _=>none
def zTm (l:List AV):Option zd9:=pk (zNe l)
theorem zVW (l:List AV) (a:zd9) (h:zTm l=some a):l=zCn a:=zt (o:=zNe l) h
def zDP:zd9→zOT→AV:=fun (a0,a1,a2)=>fun r_y => .str r_y
theorem zU4 : ∀(a:zd9) (y:zOT),(zDP a y).closed1=true:=by
  rintro ⟨a0,a1,a2⟩ y <;> first | rfl | exact Empty.elim y
theorem z69 (a:zd9):fnE Tryz.tab zhI zd 0 70 65 Tryz.f65.ntmps Tryz.f65.results.toList z1s z8x (zCn a) [] (fun v _=>some (v,[]))=zvw a (fun y=>some (zDP a y,[])):=by kernel_rfl
def ZeC (a:zd9) (K:AV→Ans):Ans:=za (Zy a) fun y=>K (zDP a y)
def zDZ:List AV→(AV→Ans)→Ans:=fun l K=>za (zTm l) fun a=>ZeC a K
theorem zgY:zM Tryz.prog 65 zDZ:=zL (hint:=zd) (d:=0) (n:=70) mixed tabOk zO5 Tryz.func65 (zE (by kernel_rfl)) (by decide +kernel) z4f zVW z69 z4V zU4
--@ ref09_Pad
noncomputable def zgH:Env:=[]
theorem zOJ:zf Tryz.prog zgH:=zf.nil
noncomputable def z87:Code:=Tryz.f67.body.getD .skip
noncomputable def zhD:Code:=zF [1,0,0,0] z87
noncomputable def zhY:Ann := .at 0 [0] (.loop .none)
theorem zHF:zq Tryz.prog 10 (.loop zhD) zhY:=Zi (zb _ _ _)
abbrev QC:=Unit
abbrev znZ:=(List UInt8)
abbrev wK:=(List UInt8)
def zos:QC→wK→St:=fun _ t0=>{ env:=[(0,.str t0)],stk:=[[]],H:=[],blk:=274432 }
def zwY (s:St):Option {x:QC×wK // s=zos x.1 x.2}:=match s with
  | { env:=[(0,.str t0)],stk:=[[]],H:=[],blk:=274432 }=>some ⟨((),t0),rfl⟩
  | _=>none
def zm5 (s:St):Option (QC×wK):=pk (zwY s)
theorem zKh (s:St) (x:QC×wK) (h:zm5 s=some x):s=zos x.1 x.2:=zt (o:=zwY s) h
def zj9:QC→(Ex→St→Ans)→znZ→Ans:=fun _ K=>fun t0_y=>K (Ex.exit 0) { env:=[(0,.str t0_y)],stk:=[[]],H:=[],blk:=274432 }
def zah {β:Type}:QC→wK→(wK→Option β)→(znZ→Option β)→Option β:=fun _ t0 next exit=>(bif Int.tmod (↑(List.length t0):Int) (64:Int) != (0:Int) then (bif Nat.ble (List.length t0+(1:Nat)) (9223372036854775807:Nat) then (next (t0++[(0:UInt8)])) else none) else (exit (t0)))
def wh (i:QC) (v:wK):Option (wK ⊕ znZ):=zah i v (fun v=>some (.inl v)) (fun y=>some (.inr y))
theorem zDi (i:QC) (v:wK) (next:wK→Ans) (exit:znZ→Ans):zah i v next exit=za (wh i v) (Sum.elim next exit):=by
  obtain z:=i
  obtain z:=v
  simp only [wh,zah,zi,zh,zl,zc,zj,zm,zg,Sum.elim_inl,Sum.elim_inr]
theorem zFj (n:Nat) (i:QC) (v:wK) (K:Ex→St→Ans):zx Tryz.tab zgH zd (zy Tryz.tab zgH zd 0 64) (n+1) 10 zhY (.loop zhD) (zB 0 (exk [0] [2] [(0,[0])]) K) (zos i v)=zah i v (fun v'=>zx Tryz.tab zgH zd (zy Tryz.tab zgH zd 0 64) n 10 zhY (.loop zhD) (zB 0 (exk [0] [2] [(0,[0])]) K) (zos i v')) (fun y=>zj9 i K y):=by kernel_rfl
theorem zPe:zw Tryz.prog 10 (.loop zhD) (Zm zm5 wh zj9):=Zf mixed tabOk zOJ 0 (exk [0] [2] [(0,[0])]) zHF zKh zFj zDi
noncomputable def zS2:(Ex→St→Ans)→St→Ans:=(Zm zm5 wh zj9)
theorem zWy:zw Tryz.prog 10 (.loop zhD) zS2:=zPe
noncomputable def z3X:Ann:=(.seq .none (.seq (.block (.cut 0 [0] zS2)) .none))
theorem z4t:zq Tryz.prog 10 z87 z3X:=⟨(zb _ _ _),⟨zWy,(zb _ _ _)⟩⟩
abbrev zdV:=(List UInt8)
abbrev zLo:=(List UInt8)
def zxZ {β:Type}:zdV→(zLo→Option β)→Option β:=fun a0 exit=>(za (zO (wh ()) zY (a0)) fun t0=>(exit (t0)))
def zg7 (a:zdV):Option zLo:=zxZ a some
theorem z3M (a:zdV) (k:zLo→Ans):zxZ a k=za (zg7 a) k:=by
  obtain z:=a
  simp only [zg7,zxZ,zi,zh,zl,zc,zj,zm,zg]
def zDE:zdV→List AV:=fun a0=>[.str a0]
def zKN (l:List AV):Option {a:zdV // l=zDE a}:=match l with
  | [.str a0]=>some ⟨(a0),rfl⟩
  | _=>none
def zSK (l:List AV):Option zdV:=pk (zKN l)
theorem zWm (l:List AV) (a:zdV) (h:zSK l=some a):l=zDE a:=zt (o:=zKN l) h
def zzH:zdV→zLo→AV:=fun a0=>fun r_y => .str r_y
theorem zWX : ∀(a:zdV) (y:zLo),(zzH a y).closed1=true:=by
  rintro z y <;> first | rfl | exact Empty.elim y
theorem z9b (a:zdV):fnE Tryz.tab zgH zd 0 70 67 Tryz.f67.ntmps Tryz.f67.results.toList z3X z87 (zDE a) [] (fun v _=>some (v,[]))=zxZ a (fun y=>some (zzH a y,[])):=by kernel_rfl
def ZeH (a:zdV) (K:AV→Ans):Ans:=za (zg7 a) fun y=>K (zzH a y)
def Zdz:List AV→(AV→Ans)→Ans:=fun l K=>za (zSK l) fun a=>ZeH a K
theorem Zbi:zM Tryz.prog 67 Zdz:=zL (hint:=zd) (d:=0) (n:=70) mixed tabOk zOJ Tryz.func67 (zE (by kernel_rfl)) (by decide +kernel) z4t zWm z9b z3M zWX
--@ ref16_Put
noncomputable def z3a:Env:=[(60,.pure zMH),(36,.pure z85),(65,.pure zDZ),(67,.pure Zdz)]
theorem z7e:zf Tryz.prog z3a:=zf.cons zqX (zf.cons zSV (zf.cons zgY (zf.cons Zbi (zf.nil))))
noncomputable def Zci:Code:=Tryz.f32.body.getD .skip
noncomputable def z4m:Ann := .none
theorem z6h:zq Tryz.prog 41 Zci z4m:=(zb _ _ _)
abbrev zej:=(Int)×(Int)×(Int)×(Int)×(Int)×(Int)×(Int)
abbrev zMn:=(List UInt8)×(Int)
def zxF {β:Type}:zej→(zMn→Option β)→Option β:=fun (a0_0,a0_1,a0_2,a0_3,a0_4,a0_5,a0_6) exit=>(za (zez (a0_0,a0_1,a0_2,a0_3,a0_4,a0_5,a0_6)) fun r=>(bif r != (0:Int) then (exit ([],r)) else (za (Zy ([(83:UInt8)],a0_0,(1:Int))) fun r_2=>(za (Zy (r_2,a0_1,(1:Int))) fun r_3=>(za (Zy (r_3,a0_2,(4:Int))) fun r_4=>(za (Zy (r_4,a0_3,(1:Int))) fun r_5=>(za (Zy (r_5,a0_4,(1:Int))) fun r_6=>(za (Zy (r_6,a0_5,(1:Int))) fun r_7=>(za (Zy (r_7,a0_6,(2:Int))) fun r_8=>(za (zbN (r_8)) fun r_9=>(bif Nat.ble (List.length r_8+List.length r_9) (9223372036854775807:Nat) then (za (zg7 (r_8++r_9)) fun r_10=>(exit (r_10,(0:Int)))) else none)))))))))))
def zgq (a:zej):Option zMn:=zxF a some
theorem z5H (a:zej) (k:zMn→Ans):zxF a k=za (zgq a) k:=by
  obtain ⟨a0_0,a0_1,a0_2,a0_3,a0_4,a0_5,a0_6⟩:=a
  simp only [zgq,zxF,zi,zh,zl,zc,zj,zm,zg]
def zy8:zej→List AV:=fun (a0_0,a0_1,a0_2,a0_3,a0_4,a0_5,a0_6)=>[.agg [.int .i64 a0_0,.int .i64 a0_1,.int .i64 a0_2,.int .i64 a0_3,.int .i64 a0_4,.int .i64 a0_5,.int .i64 a0_6]]
def zJj (l:List AV):Option {a:zej // l=zy8 a}:=match l with
  | [.agg [.int .i64 a0_0,.int .i64 a0_1,.int .i64 a0_2,.int .i64 a0_3,.int .i64 a0_4,.int .i64 a0_5,.int .i64 a0_6]]=>some ⟨(a0_0,a0_1,a0_2,a0_3,a0_4,a0_5,a0_6),rfl⟩
  | _=>none
def zUN (l:List AV):Option zej:=pk (zJj l)
theorem zYM (l:List AV) (a:zej) (h:zUN l=some a):l=zy8 a:=zt (o:=zJj l) h
def zBH:zej→zMn→AV:=fun (a0_0,a0_1,a0_2,a0_3,a0_4,a0_5,a0_6)=>unP fun r_0_y r_1_y => .tup [.str r_0_y,.int .i64 r_1_y]
theorem zVT : ∀(a:zej) (y:zMn),(zBH a y).closed1=true:=by
  rintro ⟨a0_0,a0_1,a0_2,a0_3,a0_4,a0_5,a0_6⟩ y <;> first | rfl | exact Empty.elim y
theorem z8Q (a:zej):fnE Tryz.tab z3a zd 0 70 32 Tryz.f32.ntmps Tryz.f32.results.toList z4m Zci (zy8 a) [] (fun v _=>some (v,[]))=zxF a (fun y=>some (zBH a y,[])):=by kernel_rfl
def Ze3 (a:zej) (K:AV→Ans):Ans:=za (zgq a) fun y=>K (zBH a y)
def Zdj:List AV→(AV→Ans)→Ans:=fun l K=>za (zUN l) fun a=>Ze3 a K
theorem ZbT:zM Tryz.prog 32 Zdj:=zL (hint:=zd) (d:=0) (n:=70) mixed tabOk z7e Tryz.func32 (zE (by kernel_rfl)) (by decide +kernel) z6h zYM z8Q z5H zVT
--@ ref16_Get
noncomputable def zyA:Env:=[(60,.pure zMH),(32,.pure Zdj)]
theorem zMh:zf Tryz.prog zyA:=zf.cons zqX (zf.cons ZbT (zf.nil))
noncomputable def z6S:Code:=Tryz.f24.body.getD .skip
noncomputable def zqy:Code:=zF [1,1,1,1,0,0] z6S
noncomputable def zv1:Ann := .none
theorem zFu:zq Tryz.prog 82 zqy zv1:=(zb _ _ _)
abbrev jV:=(List UInt8)×(List UInt8)×(Int)×(Int)×(Int)×(Int)×(Int)×(Int)×(Int)×(Int)
abbrev zoX:=(Bool)
def zDQ:jV→St:=fun (t0,t5,t6,o1_0,o1_1,o1_2,o1_3,o1_4,o1_5,o1_6)=>{ env:=[(0,.str t0),(2,.ptr 0 0),(4,.ptr 1 0),(5,.str t5),(6,.int .i64 t6)],stk:=[[]],H:=[.cells [.int .i64 (0),.int .i64 (0),.int .i64 (0),.int .i64 (0),.int .i64 (0),.int .i64 (0),.int .i64 (0)],.cells [.int .i64 o1_0,.int .i64 o1_1,.int .i64 o1_2,.int .i64 o1_3,.int .i64 o1_4,.int .i64 o1_5,.int .i64 o1_6]],blk:=98304 }
def zwu (s:St):Option {x:jV // s=zDQ x}:=match s with
  | { env:=[(0,.str t0),(2,.ptr 0 0),(4,.ptr 1 0),(5,.str t5),(6,.int .i64 t6)],stk:=[[]],H:=[.cells [.int .i64 r3,.int .i64 r4,.int .i64 r5,.int .i64 r6,.int .i64 r7,.int .i64 r8,.int .i64 r9],.cells [.int .i64 o1_0,.int .i64 o1_1,.int .i64 o1_2,.int .i64 o1_3,.int .i64 o1_4,.int .i64 o1_5,.int .i64 o1_6]],blk:=98304 }=>if h3:r3=0 then if h4:r4=0 then if h5:r5=0 then if h6:r6=0 then if h7:r7=0 then if h8:r8=0 then if h9:r9=0 then some ⟨(t0,t5,t6,o1_0,o1_1,o1_2,o1_3,o1_4,o1_5,o1_6),by subst h3 h4 h5 h6 h7 h8 h9;rfl⟩ else none else none else none else none else none else none else none
  | _=>none
def znl (s:St):Option jV:=pk (zwu s)
theorem zJY (s:St) (x:jV) (h:znl s=some x):s=zDQ x:=zt (o:=zwu s) h
def zkX:jV→(Ex→St→Ans)→zoX→Ans:=fun (t0,t5,t6,o1_0,o1_1,o1_2,o1_3,o1_4,o1_5,o1_6) K=>fun t79_y=>K (Ex.norm) { env:=[(2,.ptr 0 0),(4,.ptr 1 0),(79,.bool t79_y)],stk:=[[]],H:=[.cells [.int .i64 (0),.int .i64 (0),.int .i64 (0),.int .i64 (0),.int .i64 (0),.int .i64 (0),.int .i64 (0)],.cells [.int .i64 o1_0,.int .i64 o1_1,.int .i64 o1_2,.int .i64 o1_3,.int .i64 o1_4,.int .i64 o1_5,.int .i64 o1_6]],blk:=98304 }
def zaI {β:Type}:jV→(zoX→Option β)→Option β:=fun (t0,t5,t6,o1_0,o1_1,o1_2,o1_3,o1_4,o1_5,o1_6) exit=>(bif t6 != (0:Int) then (exit (true)) else (exit (!t5 == t0)))
def Y7 (i:jV):Option zoX:=zaI i some
theorem zzn (i:jV) (k:zoX→Ans):zaI i k=za (Y7 i) k:=by
  obtain ⟨t0,t5,t6,o1_0,o1_1,o1_2,o1_3,o1_4,o1_5,o1_6⟩:=i
  simp only [Y7,zaI,zi,zh,zl,zc,zj,zm,zg]
theorem zG7 (i:jV) (K:Ex→St→Ans):zx Tryz.tab zyA zd (zy Tryz.tab zyA zd 0 64) 70 82 zv1 zqy (zB 0 (exk [2,4,79] [2,3] []) K) (zDQ i)=zaI i (zkX i K):=by kernel_rfl
theorem zP6:zw Tryz.prog 82 zqy (zG znl Y7 zkX):=zA mixed tabOk zMh 0 (exk [2,4,79] [2,3] []) zFu zJY zG7 zzn
noncomputable def zSJ:(Ex→St→Ans)→St→Ans:=(zG znl Y7 zkX)
theorem zVi:zw Tryz.prog 82 zqy zSJ:=zP6
noncomputable def z09:Ann:=(.seq .none (.seq .none (.seq .none (.seq .none (.seq (.seq (.cut 0 [0,2,4,5,6] zSJ) .none) .none)))))
theorem z1J:zq Tryz.prog 82 z6S z09:=⟨(zb _ _ _),⟨(zb _ _ _),⟨(zb _ _ _),⟨(zb _ _ _),⟨⟨zVi,(zb _ _ _)⟩,(zb _ _ _)⟩⟩⟩⟩⟩
abbrev zen:=(List UInt8)
abbrev zMV:=(Int)×(Int)×(Int)×(Int)×(Int)×(Int)×(Int)×(Int)
def zvK {β:Type}:zen→(zMV→Option β)→Option β:=fun a0 exit=>(bif (↑(List.length a0):Int) != (64:Int) then (exit ((0:Int),(0:Int),(0:Int),(0:Int),(0:Int),(0:Int),(0:Int),(12:Int))) else (za (nth a0 (0:Int)) fun x=>(bif (↑(UInt8.toNat x):Int) != (83:Int) then (exit ((0:Int),(0:Int),(0:Int),(0:Int),(0:Int),(0:Int),(0:Int),(4:Int))) else (bif inR (16:Int) (List.length a0+(1:Nat))&&true then (bif inR (12:Int) (List.length a0+(1:Nat)) then (za (zbN (List.take (12:Nat) a0)) fun r=>(bif !List.take ((16:Nat) - (12:Nat)) (List.drop (12:Nat) a0) == r then (exit ((0:Int),(0:Int),(0:Int),(0:Int),(0:Int),(0:Int),(0:Int),(5:Int))) else (za (nth a0 (1:Int)) fun x_2=>(za (nth a0 (2:Int)) fun x_3=>(za (nth a0 (3:Int)) fun x_4=>(za (nth a0 (4:Int)) fun x_5=>(za (nth a0 (5:Int)) fun x_6=>(za (nth a0 (6:Int)) fun x_7=>(za (nth a0 (7:Int)) fun x_8=>(za (nth a0 (8:Int)) fun x_9=>(za (nth a0 (9:Int)) fun x_10=>(za (nth a0 (10:Int)) fun x_11=>(za (nth a0 (11:Int)) fun x_12=>(za (zgq (IntKind.wrap .i64 (↑(UInt8.toNat x_2):Int),IntKind.wrap .i64 (↑(UInt8.toNat x_3):Int),IntKind.wrap .i64 (IntKind.wrap .i64 (IntKind.wrap .i64 (IntKind.wrap .i64 ((16777216:Int)*IntKind.wrap .i64 (↑(UInt8.toNat x_4):Int))+IntKind.wrap .i64 ((65536:Int)*IntKind.wrap .i64 (↑(UInt8.toNat x_5):Int)))+IntKind.wrap .i64 ((256:Int)*IntKind.wrap .i64 (↑(UInt8.toNat x_6):Int)))+IntKind.wrap .i64 (↑(UInt8.toNat x_7):Int)),IntKind.wrap .i64 (↑(UInt8.toNat x_8):Int),IntKind.wrap .i64 (↑(UInt8.toNat x_9):Int),IntKind.wrap .i64 (↑(UInt8.toNat x_10):Int),IntKind.wrap .i64 (IntKind.wrap .i64 ((256:Int)*IntKind.wrap .i64 (↑(UInt8.toNat x_11):Int))+IntKind.wrap .i64 (↑(UInt8.toNat x_12):Int)))) (unP fun r_0 r_1=>(za (Y7 (a0,r_0,r_1,IntKind.wrap .i64 (↑(UInt8.toNat x_2):Int),IntKind.wrap .i64 (↑(UInt8.toNat x_3):Int),IntKind.wrap .i64 (IntKind.wrap .i64 (IntKind.wrap .i64 (IntKind.wrap .i64 ((16777216:Int)*IntKind.wrap .i64 (↑(UInt8.toNat x_4):Int))+IntKind.wrap .i64 ((65536:Int)*IntKind.wrap .i64 (↑(UInt8.toNat x_5):Int)))+IntKind.wrap .i64 ((256:Int)*IntKind.wrap .i64 (↑(UInt8.toNat x_6):Int)))+IntKind.wrap .i64 (↑(UInt8.toNat x_7):Int)),IntKind.wrap .i64 (↑(UInt8.toNat x_8):Int),IntKind.wrap .i64 (↑(UInt8.toNat x_9):Int),IntKind.wrap .i64 (↑(UInt8.toNat x_10):Int),IntKind.wrap .i64 (IntKind.wrap .i64 ((256:Int)*IntKind.wrap .i64 (↑(UInt8.toNat x_11):Int))+IntKind.wrap .i64 (↑(UInt8.toNat x_12):Int)))) fun t79=>(bif t79 then (exit ((0:Int),(0:Int),(0:Int),(0:Int),(0:Int),(0:Int),(0:Int),(4:Int))) else (exit (IntKind.wrap .i64 (↑(UInt8.toNat x_2):Int),IntKind.wrap .i64 (↑(UInt8.toNat x_3):Int),IntKind.wrap .i64 (IntKind.wrap .i64 (IntKind.wrap .i64 (IntKind.wrap .i64 ((16777216:Int)*IntKind.wrap .i64 (↑(UInt8.toNat x_4):Int))+IntKind.wrap .i64 ((65536:Int)*IntKind.wrap .i64 (↑(UInt8.toNat x_5):Int)))+IntKind.wrap .i64 ((256:Int)*IntKind.wrap .i64 (↑(UInt8.toNat x_6):Int)))+IntKind.wrap .i64 (↑(UInt8.toNat x_7):Int)),IntKind.wrap .i64 (↑(UInt8.toNat x_8):Int),IntKind.wrap .i64 (↑(UInt8.toNat x_9):Int),IntKind.wrap .i64 (↑(UInt8.toNat x_10):Int),IntKind.wrap .i64 (IntKind.wrap .i64 ((256:Int)*IntKind.wrap .i64 (↑(UInt8.toNat x_11):Int))+IntKind.wrap .i64 (↑(UInt8.toNat x_12):Int)),(0:Int)))))))))))))))))))) else none) else none))))
def zgQ (a:zen):Option zMV:=zvK a some
theorem z3j (a:zen) (k:zMV→Ans):zvK a k=za (zgQ a) k:=by
  obtain z:=a
  simp only [zgQ,zvK,zi,zh,zl,zc,zj,zm,zg]
def zz0:zen→List AV:=fun a0=>[.str a0]
def zOx (l:List AV):Option {a:zen // l=zz0 a}:=match l with
  | [.str a0]=>some ⟨(a0),rfl⟩
  | _=>none
def zTu (l:List AV):Option zen:=pk (zOx l)
theorem zVy (l:List AV) (a:zen) (h:zTu l=some a):l=zz0 a:=zt (o:=zOx l) h
def zyH:zen→zMV→AV:=fun a0=>unP fun r_0_0_y=>unP fun r_0_1_y=>unP fun r_0_2_y=>unP fun r_0_3_y=>unP fun r_0_4_y=>unP fun r_0_5_y=>unP fun r_0_6_y r_1_y => .tup [.agg [.int .i64 r_0_0_y,.int .i64 r_0_1_y,.int .i64 r_0_2_y,.int .i64 r_0_3_y,.int .i64 r_0_4_y,.int .i64 r_0_5_y,.int .i64 r_0_6_y],.int .i64 r_1_y]
theorem zVU : ∀(a:zen) (y:zMV),(zyH a y).closed1=true:=by
  rintro z y <;> first | rfl | exact Empty.elim y
theorem z8C (a:zen):fnE Tryz.tab zyA zd 0 70 24 Tryz.f24.ntmps Tryz.f24.results.toList z09 z6S (zz0 a) [] (fun v _=>some (v,[]))=zvK a (fun y=>some (zyH a y,[])):=by kernel_rfl
def ZeV (a:zen) (K:AV→Ans):Ans:=za (zgQ a) fun y=>K (zyH a y)
def Zc7:List AV→(AV→Ans)→Ans:=fun l K=>za (zTu l) fun a=>ZeV a K
theorem ZaM:zM Tryz.prog 24 Zc7:=zL (hint:=zd) (d:=0) (n:=70) mixed tabOk zMh Tryz.func24 (zE (by kernel_rfl)) (by decide +kernel) z1J zVy z8C z3j zVU
end Go.Proofs.R9
