/- What the functions that DumpGetsCardSaid reaches compute: part 4. -/
import Derived.Test.YthfoooplgceaoaaGreatDoorOwnDumpGetsCardSaid3
set_option linter.unusedVariables false
set_option linter.unusedSimpArgs false
namespace Go.Proofs.R9
open Go Go.AE
set_option maxRecDepth 100000
--@ ref02_Reader_Bytes
noncomputable def zvE:Env:=[]
theorem zKq:zf Tryz.prog zvE:=zf.nil
noncomputable def z9B:Code:=Tryz.f103.body.getD .skip
noncomputable def zre:Code:=zF [1,0] z9B
noncomputable def zuj:Ann := .none
theorem zE2:zq Tryz.prog 57 zre zuj:=(zb _ _ _)
abbrev QO:=(Int)×(List UInt8)×(Int)×(Int)
abbrev zq0:=((Int)) ⊕ ((List UInt8)×(Int))
def zC7:QO→St:=fun (t1,o0_0,o0_1,o0_2)=>{ env:=[(0,.ptr 0 0),(1,.int .i64 t1)],stk:=[[(0,.ptr 0 0)]],H:=[.cells [.str o0_0,.int .i64 o0_1,.int .i64 o0_2]],blk:=421888 }
def zuW (s:St):Option {x:QO // s=zC7 x}:=match s with
  | { env:=[(0,.ptr 0 0),(1,.int .i64 t1)],stk:=[[(0,.ptr 0 0)]],H:=[.cells [.str o0_0,.int .i64 o0_1,.int .i64 o0_2]],blk:=421888 }=>some ⟨(t1,o0_0,o0_1,o0_2),rfl⟩
  | _=>none
def zj7 (s:St):Option QO:=pk (zuW s)
theorem zO3 (s:St) (x:QO) (h:zj7 s=some x):s=zC7 x:=zt (o:=zuW s) h
def zlQ:QO→(Ex→St→Ans)→zq0→Ans:=fun (t1,o0_0,o0_1,o0_2) K=>(Sum.elim (fun o0_2_y=>K (Ex.norm) { env:=[],stk:=[[(0,.ptr 0 0)]],H:=[.cells [.str o0_0,.int .i64 o0_1,.int .i64 o0_2_y]],blk:=421888 }) (unP fun t4_y o0_1_y=>K (Ex.ret) { env:=[(4,.str t4_y)],stk:=[[(0,.ptr 0 0)]],H:=[.cells [.str o0_0,.int .i64 o0_1_y,.int .i64 o0_2]],blk:=421888 }))
def Wo {β:Type}:QO→(zq0→Option β)→Option β:=fun (t1,o0_0,o0_1,o0_2) exit=>(bif o0_2 != (0:Int) then (exit (Sum.inl (o0_2))) else (bif decide (t1<(0:Int)) then (exit (Sum.inl ((3:Int)))) else (bif decide (t1>IntKind.wrap .i64 ((↑(List.length o0_0):Int) - o0_1)) then (exit (Sum.inl ((1:Int)))) else (bif inR (IntKind.wrap .i64 (o0_1+t1)) (List.length o0_0+(1:Nat))&&inR (IntKind.wrap .i64 (IntKind.wrap .i64 (o0_1+t1) - t1)) (Int.toNat (IntKind.wrap .i64 (o0_1+t1))+(1:Nat)) then (exit (Sum.inr (List.take (Int.toNat (IntKind.wrap .i64 (o0_1+t1)) - Int.toNat (IntKind.wrap .i64 (IntKind.wrap .i64 (o0_1+t1) - t1))) (List.drop (Int.toNat (IntKind.wrap .i64 (IntKind.wrap .i64 (o0_1+t1) - t1))) o0_0),IntKind.wrap .i64 (o0_1+t1)))) else none))))
def Yc (i:QO):Option zq0:=Wo i some
theorem zAR (i:QO) (k:zq0→Ans):Wo i k=za (Yc i) k:=by
  obtain ⟨t1,o0_0,o0_1,o0_2⟩:=i
  simp only [Yc,Wo,zi,zh,zl,zc,zj,zm,zg]
theorem zHf (i:QO) (K:Ex→St→Ans):zx Tryz.tab zvE zd (zy Tryz.tab zvE zd 0 64) 70 57 zuj zre (zB 1 (exk [] [4] []) K) (zC7 i)=Wo i (zlQ i K):=by kernel_rfl
theorem zO8:zw Tryz.prog 57 zre (zG zj7 Yc zlQ):=zA mixed tabOk zKq 1 (exk [] [4] []) zE2 zO3 zHf zAR
noncomputable def zR3:(Ex→St→Ans)→St→Ans:=(zG zj7 Yc zlQ)
theorem zYo:zw Tryz.prog 57 zre zR3:=zO8
noncomputable def z2u:Ann:=(.seq .none (.seq (.cut 1 [0,1] zR3) .none))
theorem z15:zq Tryz.prog 57 z9B z2u:=⟨(zb _ _ _),⟨zYo,(zb _ _ _)⟩⟩
abbrev zfQ:=(Int)×(List UInt8)×(Int)×(Int)
abbrev zZb:=(List UInt8)×(Int)×(Int)
def zh9 {β:Type}:zfQ→(zZb→Option β)→Option β:=fun (a1,o0_0,o0_1,o0_2) exit=>(za (Yc (a1,o0_0,o0_1,o0_2)) (Sum.elim (fun o0_2_2=>(exit ([],o0_1,o0_2_2))) (unP fun t4 o0_1_2=>(exit (t4,o0_1_2,o0_2)))))
def zaF (a:zfQ):Option zZb:=zh9 a some
theorem z4s (a:zfQ) (k:zZb→Ans):zh9 a k=za (zaF a) k:=by
  obtain ⟨a1,o0_0,o0_1,o0_2⟩:=a
  simp only [zaF,zh9,zi,zh,zl,zc,zj,zm,zg]
def zoI:zfQ→List AV×List AE.Obj:=fun (a1,o0_0,o0_1,o0_2)=>([.ptr 0 0,.int .i64 a1],[.cells [.str o0_0,.int .i64 o0_1,.int .i64 o0_2]])
def zJ8 (l:List AV) (H:List AE.Obj):Option {a:zfQ // (l,H)=zoI a}:=match l,H with
  | [.ptr 0 0,.int .i64 a1],[.cells [.str o0_0,.int .i64 o0_1,.int .i64 o0_2]]=>some ⟨(a1,o0_0,o0_1,o0_2),rfl⟩
  | _,_=>none
def zRj (l:List AV) (H:List AE.Obj):Option zfQ:=pk (zJ8 l H)
theorem zYk (l:List AV) (H:List AE.Obj) (a:zfQ) (h:zRj l H=some a):(l,H)=zoI a:=zt (o:=zJ8 l H) h
def z4g:zfQ→(AV→List AE.Obj→Ans)→zZb→Ans:=fun (a1,o0_0,o0_1,o0_2) K=>unP fun r_y=>unP fun o0_1_y o0_2_y=>K (.str r_y) [.cells [.str o0_0,.int .i64 o0_1_y,.int .i64 o0_2_y]]
theorem z9j (a:zfQ) (K:AV→List AE.Obj→Ans):fnE Tryz.tab zvE zd 0 70 103 Tryz.f103.ntmps Tryz.f103.results.toList z2u z9B (zoI a).1 (zoI a).2 K=zh9 a (z4g a K):=by kernel_rfl
def ZeD (a:zfQ) (K:AV→List AE.Obj→Ans):Ans:=za (zaF a) fun y=>z4g a K y
def z65:List AV→List AE.Obj→(AV→List AE.Obj→Ans)→Ans:=fun l H K=>za (zRj l H) fun a=>ZeD a K
theorem zTy:zQ Tryz.prog 103 z65:=Zu (hint:=zd) (d:=0) (n:=70) mixed tabOk zKq Tryz.func103 (zE (by kernel_rfl)) (by decide +kernel) z15 zYk z9j z4s
--@ ref02_Reader_Num
noncomputable def JA:Env:=[(103,.func z65)]
theorem ziz:zf Tryz.prog JA:=zf.cons zTy (zf.nil)
noncomputable def zJU:Code:=Tryz.f61.body.getD .skip
noncomputable def zg9:Code:=zF [1,1,1,1,0,1,0,0] zJU
noncomputable def zi9:Ann := .at 1 [5,6,7] (.loop .none)
theorem zGz:zq Tryz.prog 41 (.loop zg9) zi9:=Zi (zb _ _ _)
abbrev Qo:=(List UInt8)×(List UInt8)×(Int)×(Int)
abbrev zoS:=(Int)
abbrev wN:=(Int)×(Int)
def zpn:Qo→wN→St:=fun (t5,o0_0,o0_1,o0_2) (t6,t7)=>{ env:=[(5,.str t5),(6,.int .i64 t6),(7,.int .i64 t7)],stk:=[[(0,.ptr 0 0)]],H:=[.cells [.str o0_0,.int .i64 o0_1,.int .i64 o0_2]],blk:=249856 }
def zuS (s:St):Option {x:Qo×wN // s=zpn x.1 x.2}:=match s with
  | { env:=[(5,.str t5),(6,.int .i64 t6),(7,.int .i64 t7)],stk:=[[(0,.ptr 0 0)]],H:=[.cells [.str o0_0,.int .i64 o0_1,.int .i64 o0_2]],blk:=249856 }=>some ⟨((t5,o0_0,o0_1,o0_2),(t6,t7)),rfl⟩
  | _=>none
def zjD (s:St):Option (Qo×wN):=pk (zuS s)
theorem zJI (s:St) (x:Qo×wN) (h:zjD s=some x):s=zpn x.1 x.2:=zt (o:=zuS s) h
def zmX:Qo→(Ex→St→Ans)→zoS→Ans:=fun (t5,o0_0,o0_1,o0_2) K=>fun t6_y=>K (Ex.exit 0) { env:=[(6,.int .i64 t6_y)],stk:=[[(0,.ptr 0 0)]],H:=[.cells [.str o0_0,.int .i64 o0_1,.int .i64 o0_2]],blk:=249856 }
def Qx {β:Type}:Qo→wN→(wN→Option β)→(zoS→Option β)→Option β:=fun (t5,o0_0,o0_1,o0_2) (t6,t7) next exit=>(bif decide (t7<(↑(List.length t5):Int)) then (za (nth t5 t7) fun x=>(next (IntKind.wrap .i64 (IntKind.wrap .i64 ((256:Int)*t6)+IntKind.wrap .i64 (↑(UInt8.toNat x):Int)),IntKind.wrap .i64 (t7+(1:Int))))) else (exit (t6)))
def Yg (i:Qo) (v:wN):Option (wN ⊕ zoS):=Qx i v (fun v=>some (.inl v)) (fun y=>some (.inr y))
theorem zCP (i:Qo) (v:wN) (next:wN→Ans) (exit:zoS→Ans):Qx i v next exit=za (Yg i v) (Sum.elim next exit):=by
  obtain ⟨t5,o0_0,o0_1,o0_2⟩:=i
  obtain ⟨t6,t7⟩:=v
  simp only [Yg,Qx,zi,zh,zl,zc,zj,zm,zg,Sum.elim_inl,Sum.elim_inr]
theorem zFP (n:Nat) (i:Qo) (v:wN) (K:Ex→St→Ans):zx Tryz.tab JA zd (zy Tryz.tab JA zd 0 64) (n+1) 41 zi9 (.loop zg9) (zB 1 (exk [6] [4] [(0,[6])]) K) (zpn i v)=Qx i v (fun v'=>zx Tryz.tab JA zd (zy Tryz.tab JA zd 0 64) n 41 zi9 (.loop zg9) (zB 1 (exk [6] [4] [(0,[6])]) K) (zpn i v')) (fun y=>zmX i K y):=by kernel_rfl
theorem zPK:zw Tryz.prog 41 (.loop zg9) (Zm zjD Yg zmX):=Zf mixed tabOk ziz 1 (exk [6] [4] [(0,[6])]) zGz zJI zFP zCP
noncomputable def zSc:(Ex→St→Ans)→St→Ans:=(Zm zjD Yg zmX)
theorem zVa:zw Tryz.prog 41 (.loop zg9) zSc:=zPK
noncomputable def zqf:Code:=zF [1,0,1] zJU
noncomputable def zxC:Ann := .none
theorem zH0:zq Tryz.prog 41 zqf zxC:=(zb _ _ _)
abbrev jx:=(Int)×(Bool)×(List UInt8)×(Int)×(Int)
abbrev zog:=(Int)
def zBO:jx→St:=fun (t1,t20,o0_0,o0_1,o0_2)=>{ env:=[(0,.ptr 0 0),(1,.int .i64 t1),(20,.bool t20)],stk:=[[(0,.ptr 0 0)]],H:=[.cells [.str o0_0,.int .i64 o0_1,.int .i64 o0_2]],blk:=249856 }
def zv3 (s:St):Option {x:jx // s=zBO x}:=match s with
  | { env:=[(0,.ptr 0 0),(1,.int .i64 t1),(20,.bool t20)],stk:=[[(0,.ptr 0 0)]],H:=[.cells [.str o0_0,.int .i64 o0_1,.int .i64 o0_2]],blk:=249856 }=>some ⟨(t1,t20,o0_0,o0_1,o0_2),rfl⟩
  | _=>none
def zkb (s:St):Option jx:=pk (zv3 s)
theorem zLK (s:St) (x:jx) (h:zkb s=some x):s=zBO x:=zt (o:=zv3 s) h
def zno:jx→(Ex→St→Ans)→zog→Ans:=fun (t1,t20,o0_0,o0_1,o0_2) K=>fun o0_2_y=>K (Ex.norm) { env:=[(0,.ptr 0 0),(1,.int .i64 t1)],stk:=[[(0,.ptr 0 0)]],H:=[.cells [.str o0_0,.int .i64 o0_1,.int .i64 o0_2_y]],blk:=249856 }
def zaU {β:Type}:jx→(zog→Option β)→Option β:=fun (t1,t20,o0_0,o0_1,o0_2) exit=>(bif t20 then (exit ((3:Int))) else (exit (o0_2)))
def qk (i:jx):Option zog:=zaU i some
theorem zCe (i:jx) (k:zog→Ans):zaU i k=za (qk i) k:=by
  obtain ⟨t1,t20,o0_0,o0_1,o0_2⟩:=i
  simp only [qk,zaU,zi,zh,zl,zc,zj,zm,zg]
theorem zF3 (i:jx) (K:Ex→St→Ans):zx Tryz.tab JA zd (zy Tryz.tab JA zd 0 64) 70 41 zxC zqf (zB 1 (exk [0,1] [4] []) K) (zBO i)=zaU i (zno i K):=by kernel_rfl
theorem zPa:zw Tryz.prog 41 zqf (zG zkb qk zno):=zA mixed tabOk ziz 1 (exk [0,1] [4] []) zH0 zLK zF3 zCe
noncomputable def zRC:(Ex→St→Ans)→St→Ans:=(zG zkb qk zno)
theorem zXA:zw Tryz.prog 41 zqf zRC:=zPa
noncomputable def zpA:Code:=zF [1,0,0] zJU
noncomputable def zuR:Ann := .none
theorem zGE:zq Tryz.prog 41 zpA zuR:=(zb _ _ _)
abbrev jk:=(Int)×(List UInt8)×(Int)×(Int)
abbrev zqP:=(Bool)
def zAO:jk→St:=fun (t1,o0_0,o0_1,o0_2)=>{ env:=[(0,.ptr 0 0),(1,.int .i64 t1)],stk:=[[(0,.ptr 0 0)]],H:=[.cells [.str o0_0,.int .i64 o0_1,.int .i64 o0_2]],blk:=249856 }
def zw7 (s:St):Option {x:jk // s=zAO x}:=match s with
  | { env:=[(0,.ptr 0 0),(1,.int .i64 t1)],stk:=[[(0,.ptr 0 0)]],H:=[.cells [.str o0_0,.int .i64 o0_1,.int .i64 o0_2]],blk:=249856 }=>some ⟨(t1,o0_0,o0_1,o0_2),rfl⟩
  | _=>none
def zkE (s:St):Option jk:=pk (zw7 s)
theorem zMI (s:St) (x:jk) (h:zkE s=some x):s=zAO x:=zt (o:=zw7 s) h
def zkK:jk→(Ex→St→Ans)→zqP→Ans:=fun (t1,o0_0,o0_1,o0_2) K=>fun t20_y=>K (Ex.norm) { env:=[(0,.ptr 0 0),(1,.int .i64 t1),(20,.bool t20_y)],stk:=[[(0,.ptr 0 0)]],H:=[.cells [.str o0_0,.int .i64 o0_1,.int .i64 o0_2]],blk:=249856 }
def zai {β:Type}:jk→(zqP→Option β)→Option β:=fun (t1,o0_0,o0_1,o0_2) exit=>(bif o0_2 == (0:Int) then (bif decide (t1<(1:Int)) then (exit (true)) else (exit (decide (t1>(7:Int))))) else (exit (false)))
def WM (i:jk):Option zqP:=zai i some
theorem zAc (i:jk) (k:zqP→Ans):zai i k=za (WM i) k:=by
  obtain ⟨t1,o0_0,o0_1,o0_2⟩:=i
  simp only [WM,zai,zi,zh,zl,zc,zj,zm,zg]
theorem zIF (i:jk) (K:Ex→St→Ans):zx Tryz.tab JA zd (zy Tryz.tab JA zd 0 64) 70 41 zuR zpA (zB 1 (exk [0,1,20] [4] []) K) (zAO i)=zai i (zkK i K):=by kernel_rfl
theorem zQT:zw Tryz.prog 41 zpA (zG zkE WM zkK):=zA mixed tabOk ziz 1 (exk [0,1,20] [4] []) zGE zMI zIF zAc
noncomputable def zRD:(Ex→St→Ans)→St→Ans:=(zG zkE WM zkK)
theorem zZK:zw Tryz.prog 41 zpA zRD:=zQT
noncomputable def z0K:Ann:=(.seq .none (.seq (.seq (.cut 1 [0,1] zRD) (.cut 1 [0,1,20] zRC)) (.seq .none (.seq .none (.seq (.seq .none (.block (.cut 1 [5,6,7] zSc))) .none)))))
theorem z2q:zq Tryz.prog 41 zJU z0K:=⟨(zb _ _ _),⟨⟨zZK,zXA⟩,⟨(zb _ _ _),⟨(zb _ _ _),⟨⟨(zb _ _ _),zVa⟩,(zb _ _ _)⟩⟩⟩⟩⟩
abbrev zfN:=(Int)×(List UInt8)×(Int)×(Int)
abbrev zYz:=(Int)×(Int)×(Int)
def ztD {β:Type}:zfN→(zYz→Option β)→Option β:=fun (a1,o0_0,o0_1,o0_2) exit=>(za (WM (a1,o0_0,o0_1,o0_2)) fun t20=>(za (qk (a1,t20,o0_0,o0_1,o0_2)) fun o0_2_2=>(za (zaF (a1,o0_0,o0_1,o0_2_2)) (unP fun r=>unP fun o0_1_2 o0_2_3=>(za (zO (Yg (r,o0_0,o0_1_2,o0_2_3)) zY ((0:Int),(0:Int))) fun t6=>(exit (t6,o0_1_2,o0_2_3)))))))
def zaA (a:zfN):Option zYz:=ztD a some
theorem z1L (a:zfN) (k:zYz→Ans):ztD a k=za (zaA a) k:=by
  obtain ⟨a1,o0_0,o0_1,o0_2⟩:=a
  simp only [zaA,ztD,zi,zh,zl,zc,zj,zm,zg]
def zoe:zfN→List AV×List AE.Obj:=fun (a1,o0_0,o0_1,o0_2)=>([.ptr 0 0,.int .i64 a1],[.cells [.str o0_0,.int .i64 o0_1,.int .i64 o0_2]])
def zKK (l:List AV) (H:List AE.Obj):Option {a:zfN // (l,H)=zoe a}:=match l,H with
  | [.ptr 0 0,.int .i64 a1],[.cells [.str o0_0,.int .i64 o0_1,.int .i64 o0_2]]=>some ⟨(a1,o0_0,o0_1,o0_2),rfl⟩
  | _,_=>none
def zS5 (l:List AV) (H:List AE.Obj):Option zfN:=pk (zKK l H)
theorem zYh (l:List AV) (H:List AE.Obj) (a:zfN) (h:zS5 l H=some a):(l,H)=zoe a:=zt (o:=zKK l H) h
def z2J:zfN→(AV→List AE.Obj→Ans)→zYz→Ans:=fun (a1,o0_0,o0_1,o0_2) K=>unP fun r_y=>unP fun o0_1_y o0_2_y=>K (.int .i64 r_y) [.cells [.str o0_0,.int .i64 o0_1_y,.int .i64 o0_2_y]]
theorem z8z (a:zfN) (K:AV→List AE.Obj→Ans):fnE Tryz.tab JA zd 0 70 61 Tryz.f61.ntmps Tryz.f61.results.toList z0K zJU (zoe a).1 (zoe a).2 K=ztD a (z2J a K):=by kernel_rfl
def Zek (a:zfN) (K:AV→List AE.Obj→Ans):Ans:=za (zaA a) fun y=>z2J a K y
def z6V:List AV→List AE.Obj→(AV→List AE.Obj→Ans)→Ans:=fun l H K=>za (zS5 l H) fun a=>Zek a K
theorem zSU:zQ Tryz.prog 61 z6V:=Zu (hint:=zd) (d:=0) (n:=70) mixed tabOk ziz Tryz.func61 (zE (by kernel_rfl)) (by decide +kernel) z2q zYh z8z z1L
--@ ref23_version
noncomputable def z3G:Env:=[(103,.func z65),(61,.func z6V)]
theorem z8r:zf Tryz.prog z3G:=zf.cons zTy (zf.cons zSU (zf.nil))
noncomputable def Zcp:Code:=Tryz.f62.body.getD .skip
noncomputable def z1h:Ann := .none
theorem z2P:zq Tryz.prog 15 Zcp z1h:=(zb _ _ _)
abbrev zf5:=(List UInt8)×(Int)×(Int)
abbrev zYY:=(Int)×(Int)×(List UInt8)×(Int)×(Int)
def zvJ {β:Type}:zf5→(zYY→Option β)→Option β:=fun (o0_0,o0_1,o0_2) exit=>(za (zaA ((7:Int),o0_0,o0_1,o0_2)) (unP fun r=>unP fun o0_1_2 o0_2_2=>(za (zaA ((7:Int),o0_0,o0_1_2,o0_2_2)) (unP fun r_2=>unP fun o0_1_3 o0_2_3=>(za (zaF ((128:Int),o0_0,o0_1_3,o0_2_3)) (unP fun r_3=>unP fun o0_1_4 o0_2_4=>(exit (r,r_2,r_3,o0_1_4,o0_2_4))))))))
def zcB (a:zf5):Option zYY:=zvJ a some
theorem z0R (a:zf5) (k:zYY→Ans):zvJ a k=za (zcB a) k:=by
  obtain ⟨o0_0,o0_1,o0_2⟩:=a
  simp only [zcB,zvJ,zi,zh,zl,zc,zj,zm,zg]
def zo2:zf5→List AV×List AE.Obj:=fun (o0_0,o0_1,o0_2)=>([.ptr 0 0],[.cells [.str o0_0,.int .i64 o0_1,.int .i64 o0_2]])
def zJF (l:List AV) (H:List AE.Obj):Option {a:zf5 // (l,H)=zo2 a}:=match l,H with
  | [.ptr 0 0],[.cells [.str o0_0,.int .i64 o0_1,.int .i64 o0_2]]=>some ⟨(o0_0,o0_1,o0_2),rfl⟩
  | _,_=>none
def zTK (l:List AV) (H:List AE.Obj):Option zf5:=pk (zJF l H)
theorem zVk (l:List AV) (H:List AE.Obj) (a:zf5) (h:zTK l H=some a):(l,H)=zo2 a:=zt (o:=zJF l H) h
def z49:zf5→(AV→List AE.Obj→Ans)→zYY→Ans:=fun (o0_0,o0_1,o0_2) K=>unP fun r_0_y=>unP fun r_1_y=>unP fun r_2_y=>unP fun o0_1_y o0_2_y=>K (.agg [.int .i64 r_0_y,.int .i64 r_1_y,.str r_2_y]) [.cells [.str o0_0,.int .i64 o0_1_y,.int .i64 o0_2_y]]
theorem z8M (a:zf5) (K:AV→List AE.Obj→Ans):fnE Tryz.tab z3G zd 0 70 62 Tryz.f62.ntmps Tryz.f62.results.toList z1h Zcp (zo2 a).1 (zo2 a).2 K=zvJ a (z49 a K):=by kernel_rfl
def Zfh (a:zf5) (K:AV→List AE.Obj→Ans):Ans:=za (zcB a) fun y=>z49 a K y
def Zdv:List AV→List AE.Obj→(AV→List AE.Obj→Ans)→Ans:=fun l H K=>za (zTK l H) fun a=>Zfh a K
theorem Zbq:zQ Tryz.prog 62 Zdv:=Zu (hint:=zd) (d:=0) (n:=70) mixed tabOk z8r Tryz.func62 (zE (by kernel_rfl)) (by decide +kernel) z2P zVk z8M z0R
--@ ref02_Reader_End
noncomputable def zyw:Env:=[]
theorem zJP:zf Tryz.prog zyw:=zf.nil
noncomputable def z8q:Code:=Tryz.f63.body.getD .skip
noncomputable def zqF:Code:=zF [1,0,0] z8q
noncomputable def ztr:Ann := .none
theorem zE9:zq Tryz.prog 24 zqF ztr:=(zb _ _ _)
abbrev QZ:=(List UInt8)×(Int)×(Int)
abbrev zqr:=(Bool)
def zAG:QZ→St:=fun (o0_0,o0_1,o0_2)=>{ env:=[(0,.ptr 0 0)],stk:=[[(0,.ptr 0 0)]],H:=[.cells [.str o0_0,.int .i64 o0_1,.int .i64 o0_2]],blk:=258048 }
def zxM (s:St):Option {x:QZ // s=zAG x}:=match s with
  | { env:=[(0,.ptr 0 0)],stk:=[[(0,.ptr 0 0)]],H:=[.cells [.str o0_0,.int .i64 o0_1,.int .i64 o0_2]],blk:=258048 }=>some ⟨(o0_0,o0_1,o0_2),rfl⟩
  | _=>none
def zlP (s:St):Option QZ:=pk (zxM s)
theorem zJK (s:St) (x:QZ) (h:zlP s=some x):s=zAG x:=zt (o:=zxM s) h
def zmv:QZ→(Ex→St→Ans)→zqr→Ans:=fun (o0_0,o0_1,o0_2) K=>fun t19_y=>K (Ex.norm) { env:=[(0,.ptr 0 0),(19,.bool t19_y)],stk:=[[(0,.ptr 0 0)]],H:=[.cells [.str o0_0,.int .i64 o0_1,.int .i64 o0_2]],blk:=258048 }
def zaa {β:Type}:QZ→(zqr→Option β)→Option β:=fun (o0_0,o0_1,o0_2) exit=>(bif o0_2 == (0:Int) then (exit (decide (o0_1<(↑(List.length o0_0):Int)))) else (exit (false)))
def qh (i:QZ):Option zqr:=zaa i some
theorem zBk (i:QZ) (k:zqr→Ans):zaa i k=za (qh i) k:=by
  obtain ⟨o0_0,o0_1,o0_2⟩:=i
  simp only [qh,zaa,zi,zh,zl,zc,zj,zm,zg]
theorem zG5 (i:QZ) (K:Ex→St→Ans):zx Tryz.tab zyw zd (zy Tryz.tab zyw zd 0 64) 70 24 ztr zqF (zB 1 (exk [0,19] [2] []) K) (zAG i)=zaa i (zmv i K):=by kernel_rfl
theorem zPr:zw Tryz.prog 24 zqF (zG zlP qh zmv):=zA mixed tabOk zJP 1 (exk [0,19] [2] []) zE9 zJK zG5 zBk
noncomputable def zSz:(Ex→St→Ans)→St→Ans:=(zG zlP qh zmv)
theorem zZ9:zw Tryz.prog 24 zqF zSz:=zPr
noncomputable def z5P:Ann:=(.seq .none (.seq (.seq (.cut 1 [0] zSz) .none) .none))
theorem z5z:zq Tryz.prog 24 z8q z5P:=⟨(zb _ _ _),⟨⟨zZ9,(zb _ _ _)⟩,(zb _ _ _)⟩⟩
abbrev zf1:=(List UInt8)×(Int)×(Int)
abbrev zW0:=(Int)
def zxE {β:Type}:zf1→(zW0→Option β)→Option β:=fun (o0_0,o0_1,o0_2) exit=>(za (qh (o0_0,o0_1,o0_2)) fun t19=>(bif t19 then (exit ((2:Int))) else (exit (o0_2))))
def zhy (a:zf1):Option zW0:=zxE a some
theorem z34 (a:zf1) (k:zW0→Ans):zxE a k=za (zhy a) k:=by
  obtain ⟨o0_0,o0_1,o0_2⟩:=a
  simp only [zhy,zxE,zi,zh,zl,zc,zj,zm,zg]
def zqQ:zf1→List AV×List AE.Obj:=fun (o0_0,o0_1,o0_2)=>([.ptr 0 0],[.cells [.str o0_0,.int .i64 o0_1,.int .i64 o0_2]])
def zKt (l:List AV) (H:List AE.Obj):Option {a:zf1 // (l,H)=zqQ a}:=match l,H with
  | [.ptr 0 0],[.cells [.str o0_0,.int .i64 o0_1,.int .i64 o0_2]]=>some ⟨(o0_0,o0_1,o0_2),rfl⟩
  | _,_=>none
def zUn (l:List AV) (H:List AE.Obj):Option zf1:=pk (zKt l H)
theorem zZy (l:List AV) (H:List AE.Obj) (a:zf1) (h:zUn l H=some a):(l,H)=zqQ a:=zt (o:=zKt l H) h
def z4l:zf1→(AV→List AE.Obj→Ans)→zW0→Ans:=fun (o0_0,o0_1,o0_2) K=>fun r_y=>K (.int .i64 r_y) [.cells [.str o0_0,.int .i64 o0_1,.int .i64 o0_2]]
theorem z60 (a:zf1) (K:AV→List AE.Obj→Ans):fnE Tryz.tab zyw zd 0 70 63 Tryz.f63.ntmps Tryz.f63.results.toList z5P z8q (zqQ a).1 (zqQ a).2 K=zxE a (z4l a K):=by kernel_rfl
def ZeR (a:zf1) (K:AV→List AE.Obj→Ans):Ans:=za (zhy a) fun y=>z4l a K y
def ZdB:List AV→List AE.Obj→(AV→List AE.Obj→Ans)→Ans:=fun l H K=>za (zUn l H) fun a=>ZeR a K
theorem ZbZ:zQ Tryz.prog 63 ZdB:=Zu (hint:=zd) (d:=0) (n:=70) mixed tabOk zJP Tryz.func63 (zE (by kernel_rfl)) (by decide +kernel) z5z zZy z60 z34
--@ ref05_Right
noncomputable def zuM:Env:=[]
theorem zNO:zf Tryz.prog zuM:=zf.nil
noncomputable def z84:Code:=Tryz.f72.body.getD .skip
noncomputable def zqw:Code:=zF [1,0] z84
noncomputable def zt4:Ann := .none
theorem zIr:zq Tryz.prog 21 zqw zt4:=(zb _ _ _)
abbrev QF:=(Int)×(Int)
abbrev zp0:=(Bool)
def zzL:QF→St:=fun (o0_0,o0_1)=>{ env:=[(1,.ptr 0 0)],stk:=[[]],H:=[.cells [.int .i64 o0_0,.int .i64 o0_1]],blk:=294912 }
def zye (s:St):Option {x:QF // s=zzL x}:=match s with
  | { env:=[(1,.ptr 0 0)],stk:=[[]],H:=[.cells [.int .i64 o0_0,.int .i64 o0_1]],blk:=294912 }=>some ⟨(o0_0,o0_1),rfl⟩
  | _=>none
def zl4 (s:St):Option QF:=pk (zye s)
theorem zLz (s:St) (x:QF) (h:zl4 s=some x):s=zzL x:=zt (o:=zye s) h
def zlB:QF→(Ex→St→Ans)→zp0→Ans:=fun (o0_0,o0_1) K=>fun t2_y=>K (Ex.norm) { env:=[(2,.bool t2_y)],stk:=[[]],H:=[],blk:=294912 }
def zbc {β:Type}:QF→(zp0→Option β)→Option β:=fun (o0_0,o0_1) exit=>(bif decide (o0_0≥(0:Int)) then (bif decide (o0_0≤(1125899906842624:Int)) then (bif decide (o0_1≥(0:Int)) then (exit (decide (o0_1≤(1125899906842624:Int)))) else (exit (false))) else (exit (false))) else (exit (false)))
def W8 (i:QF):Option zp0:=zbc i some
theorem zzB (i:QF) (k:zp0→Ans):zbc i k=za (W8 i) k:=by
  obtain ⟨o0_0,o0_1⟩:=i
  simp only [W8,zbc,zi,zh,zl,zc,zj,zm,zg]
theorem zHd (i:QF) (K:Ex→St→Ans):zx Tryz.tab zuM zd (zy Tryz.tab zuM zd 0 64) 70 21 zt4 zqw (zB 0 (exk [2] [2] []) K) (zzL i)=zbc i (zlB i K):=by kernel_rfl
theorem zQM:zw Tryz.prog 21 zqw (zG zl4 W8 zlB):=zA mixed tabOk zNO 0 (exk [2] [2] []) zIr zLz zHd zzB
noncomputable def zSW:(Ex→St→Ans)→St→Ans:=(zG zl4 W8 zlB)
theorem zVL:zw Tryz.prog 21 zqw zSW:=zQM
noncomputable def z5j:Ann:=(.seq .none (.seq (.cut 0 [1] zSW) .none))
theorem z0H:zq Tryz.prog 21 z84 z5j:=⟨(zb _ _ _),⟨zVL,(zb _ _ _)⟩⟩
abbrev zeg:=(Int)×(Int)
abbrev zO1:=(Bool)
def zt9 {β:Type}:zeg→(zO1→Option β)→Option β:=fun (a0_0,a0_1) exit=>(za (W8 (a0_0,a0_1)) fun t2=>(exit (t2)))
def zc0 (a:zeg):Option zO1:=zt9 a some
theorem z4B (a:zeg) (k:zO1→Ans):zt9 a k=za (zc0 a) k:=by
  obtain ⟨a0_0,a0_1⟩:=a
  simp only [zc0,zt9,zi,zh,zl,zc,zj,zm,zg]
def zDX:zeg→List AV:=fun (a0_0,a0_1)=>[.agg [.int .i64 a0_0,.int .i64 a0_1]]
def zJh (l:List AV):Option {a:zeg // l=zDX a}:=match l with
  | [.agg [.int .i64 a0_0,.int .i64 a0_1]]=>some ⟨(a0_0,a0_1),rfl⟩
  | _=>none
def zSQ (l:List AV):Option zeg:=pk (zJh l)
theorem zWJ (l:List AV) (a:zeg) (h:zSQ l=some a):l=zDX a:=zt (o:=zJh l) h
def zDD:zeg→zO1→AV:=fun (a0_0,a0_1)=>fun r_y => .bool r_y
theorem zZq : ∀(a:zeg) (y:zO1),(zDD a y).closed1=true:=by
  rintro ⟨a0_0,a0_1⟩ y <;> first | rfl | exact Empty.elim y
theorem z7P (a:zeg):fnE Tryz.tab zuM zd 0 70 72 Tryz.f72.ntmps Tryz.f72.results.toList z5j z84 (zDX a) [] (fun v _=>some (v,[]))=zt9 a (fun y=>some (zDD a y,[])):=by kernel_rfl
def ZeN (a:zeg) (K:AV→Ans):Ans:=za (zc0 a) fun y=>K (zDD a y)
def z9J:List AV→(AV→Ans)→Ans:=fun l K=>za (zSQ l) fun a=>ZeN a K
theorem zUm:zM Tryz.prog 72 z9J:=zL (hint:=zd) (d:=0) (n:=70) mixed tabOk zNO Tryz.func72 (zE (by kernel_rfl)) (by decide +kernel) z0H zWJ z7P z4B zZq
--@ ref05_Covers
noncomputable def zws:Env:=[]
theorem zMe:zf Tryz.prog zws:=zf.nil
noncomputable def z6w:Code:=Tryz.f146.body.getD .skip
noncomputable def zpb:Code:=zF [1,0] z6w
noncomputable def zuu:Ann := .none
theorem zGf:zq Tryz.prog 17 zpb zuu:=(zb _ _ _)
abbrev Jd:=(Int)×(Int)×(Int)×(Int)
abbrev zqC:=(Bool)
def zBC:Jd→St:=fun (o0_0,o0_1,o1_0,o1_1)=>{ env:=[(2,.ptr 0 0),(3,.ptr 1 0)],stk:=[[]],H:=[.cells [.int .i64 o0_0,.int .i64 o0_1],.cells [.int .i64 o1_0,.int .i64 o1_1]],blk:=598016 }
def zwJ (s:St):Option {x:Jd // s=zBC x}:=match s with
  | { env:=[(2,.ptr 0 0),(3,.ptr 1 0)],stk:=[[]],H:=[.cells [.int .i64 o0_0,.int .i64 o0_1],.cells [.int .i64 o1_0,.int .i64 o1_1]],blk:=598016 }=>some ⟨(o0_0,o0_1,o1_0,o1_1),rfl⟩
  | _=>none
def zk3 (s:St):Option Jd:=pk (zwJ s)
theorem zNY (s:St) (x:Jd) (h:zk3 s=some x):s=zBC x:=zt (o:=zwJ s) h
def zmA:Jd→(Ex→St→Ans)→zqC→Ans:=fun (o0_0,o0_1,o1_0,o1_1) K=>fun t4_y=>K (Ex.norm) { env:=[(4,.bool t4_y)],stk:=[[]],H:=[],blk:=598016 }
def zbi {β:Type}:Jd→(zqC→Option β)→Option β:=fun (o0_0,o0_1,o1_0,o1_1) exit=>(bif decide (o0_0≥o1_0) then (exit (decide (o0_1≥o1_1))) else (exit (false)))
def qp (i:Jd):Option zqC:=zbi i some
theorem zCV (i:Jd) (k:zqC→Ans):zbi i k=za (qp i) k:=by
  obtain ⟨o0_0,o0_1,o1_0,o1_1⟩:=i
  simp only [qp,zbi,zi,zh,zl,zc,zj,zm,zg]
theorem zFv (i:Jd) (K:Ex→St→Ans):zx Tryz.tab zws zd (zy Tryz.tab zws zd 0 64) 70 17 zuu zpb (zB 0 (exk [4] [4] []) K) (zBC i)=zbi i (zmA i K):=by kernel_rfl
theorem zPU:zw Tryz.prog 17 zpb (zG zk3 qp zmA):=zA mixed tabOk zMe 0 (exk [4] [4] []) zGf zNY zFv zCV
noncomputable def zRS:(Ex→St→Ans)→St→Ans:=(zG zk3 qp zmA)
theorem zX8:zw Tryz.prog 17 zpb zRS:=zPU
noncomputable def z4o:Ann:=(.seq .none (.seq (.cut 0 [2,3] zRS) .none))
theorem z6k:zq Tryz.prog 17 z6w z4o:=⟨(zb _ _ _),⟨zX8,(zb _ _ _)⟩⟩
abbrev zei:=(Int)×(Int)×(Int)×(Int)
abbrev zOU:=(Bool)
def ztK {β:Type}:zei→(zOU→Option β)→Option β:=fun (a0_0,a0_1,a1_0,a1_1) exit=>(za (qp (a0_0,a0_1,a1_0,a1_1)) fun t4=>(exit (t4)))
def zax (a:zei):Option zOU:=ztK a some
theorem z1Y (a:zei) (k:zOU→Ans):ztK a k=za (zax a) k:=by
  obtain ⟨a0_0,a0_1,a1_0,a1_1⟩:=a
  simp only [zax,ztK,zi,zh,zl,zc,zj,zm,zg]
def zDF:zei→List AV:=fun (a0_0,a0_1,a1_0,a1_1)=>[.agg [.int .i64 a0_0,.int .i64 a0_1],.agg [.int .i64 a1_0,.int .i64 a1_1]]
def zLY (l:List AV):Option {a:zei // l=zDF a}:=match l with
  | [.agg [.int .i64 a0_0,.int .i64 a0_1],.agg [.int .i64 a1_0,.int .i64 a1_1]]=>some ⟨(a0_0,a0_1,a1_0,a1_1),rfl⟩
  | _=>none
def zTp (l:List AV):Option zei:=pk (zLY l)
theorem zZI (l:List AV) (a:zei) (h:zTp l=some a):l=zDF a:=zt (o:=zLY l) h
def zB0:zei→zOU→AV:=fun (a0_0,a0_1,a1_0,a1_1)=>fun r_y => .bool r_y
theorem zYb : ∀(a:zei) (y:zOU),(zB0 a y).closed1=true:=by
  rintro ⟨a0_0,a0_1,a1_0,a1_1⟩ y <;> first | rfl | exact Empty.elim y
theorem z8O (a:zei):fnE Tryz.tab zws zd 0 70 146 Tryz.f146.ntmps Tryz.f146.results.toList z4o z6w (zDF a) [] (fun v _=>some (v,[]))=ztK a (fun y=>some (zB0 a y,[])):=by kernel_rfl
def Zfm (a:zei) (K:AV→Ans):Ans:=za (zax a) fun y=>K (zB0 a y)
def Zea:List AV→(AV→Ans)→Ans:=fun l K=>za (zTp l) fun a=>Zfm a K
theorem Zbv:zM Tryz.prog 146 Zea:=zL (hint:=zd) (d:=0) (n:=70) mixed tabOk zMe Tryz.func146 (zE (by kernel_rfl)) (by decide +kernel) z6k zZI z8O z1Y zYb
--@ ref05_Compare
noncomputable def zhp:Env:=[(146,.pure Zea)]
theorem zsD:zf Tryz.prog zhp:=zf.cons Zbv (zf.nil)
noncomputable def zZ5:Code:=Tryz.f107.body.getD .skip
noncomputable def zpU:Code:=zF [1,0,0,0] zZ5
noncomputable def zyr:Ann := .none
theorem zE3:zq Tryz.prog 22 zpU zyr:=(zb _ _ _)
abbrev j9:=(Int)×(Int)×(Int)×(Int)
abbrev zoJ:=(Bool)
def zzK:j9→St:=fun (o0_0,o0_1,o1_0,o1_1)=>{ env:=[(2,.ptr 0 0),(3,.ptr 1 0)],stk:=[[]],H:=[.cells [.int .i64 o0_0,.int .i64 o0_1],.cells [.int .i64 o1_0,.int .i64 o1_1]],blk:=438272 }
def zue (s:St):Option {x:j9 // s=zzK x}:=match s with
  | { env:=[(2,.ptr 0 0),(3,.ptr 1 0)],stk:=[[]],H:=[.cells [.int .i64 o0_0,.int .i64 o0_1],.cells [.int .i64 o1_0,.int .i64 o1_1]],blk:=438272 }=>some ⟨(o0_0,o0_1,o1_0,o1_1),rfl⟩
  | _=>none
def zmZ (s:St):Option j9:=pk (zue s)
theorem zMb (s:St) (x:j9) (h:zmZ s=some x):s=zzK x:=zt (o:=zue s) h
def znA:j9→(Ex→St→Ans)→zoJ→Ans:=fun (o0_0,o0_1,o1_0,o1_1) K=>fun t5_y=>K (Ex.norm) { env:=[(2,.ptr 0 0),(3,.ptr 1 0),(5,.bool t5_y)],stk:=[[]],H:=[.cells [.int .i64 o0_0,.int .i64 o0_1],.cells [.int .i64 o1_0,.int .i64 o1_1]],blk:=438272 }
def zbL {β:Type}:j9→(zoJ→Option β)→Option β:=fun (o0_0,o0_1,o1_0,o1_1) exit=>(za (zax (o0_0,o0_1,o1_0,o1_1)) fun r=>(bif r then (za (zax (o1_0,o1_1,o0_0,o0_1)) fun r_2=>(exit (r_2))) else (exit (false))))
def W9 (i:j9):Option zoJ:=zbL i some
theorem zAh (i:j9) (k:zoJ→Ans):zbL i k=za (W9 i) k:=by
  obtain ⟨o0_0,o0_1,o1_0,o1_1⟩:=i
  simp only [W9,zbL,zi,zh,zl,zc,zj,zm,zg]
theorem zHp (i:j9) (K:Ex→St→Ans):zx Tryz.tab zhp zd (zy Tryz.tab zhp zd 0 64) 70 22 zyr zpU (zB 0 (exk [2,3,5] [4] []) K) (zzK i)=zbL i (znA i K):=by kernel_rfl
theorem zPu:zw Tryz.prog 22 zpU (zG zmZ W9 znA):=zA mixed tabOk zsD 0 (exk [2,3,5] [4] []) zE3 zMb zHp zAh
noncomputable def zTj:(Ex→St→Ans)→St→Ans:=(zG zmZ W9 znA)
theorem zZl:zw Tryz.prog 22 zpU zTj:=zPu
noncomputable def zph:Code:=zF [1,0] zZ5
noncomputable def zwZ:Ann:=(.block (.seq (.cut 0 [2,3] zTj) .none))
theorem zHO:zq Tryz.prog 22 zph zwZ:=⟨zZl,(zb _ _ _)⟩
abbrev jt:=(Int)×(Int)×(Int)×(Int)
abbrev zoM:=((Int)) ⊕ (Unit)
def zBR:jt→St:=fun (o0_0,o0_1,o1_0,o1_1)=>{ env:=[(2,.ptr 0 0),(3,.ptr 1 0)],stk:=[[]],H:=[.cells [.int .i64 o0_0,.int .i64 o0_1],.cells [.int .i64 o1_0,.int .i64 o1_1]],blk:=438272 }
def zvT (s:St):Option {x:jt // s=zBR x}:=match s with
  | { env:=[(2,.ptr 0 0),(3,.ptr 1 0)],stk:=[[]],H:=[.cells [.int .i64 o0_0,.int .i64 o0_1],.cells [.int .i64 o1_0,.int .i64 o1_1]],blk:=438272 }=>some ⟨(o0_0,o0_1,o1_0,o1_1),rfl⟩
  | _=>none
def zlD (s:St):Option jt:=pk (zvT s)
theorem zN0 (s:St) (x:jt) (h:zlD s=some x):s=zBR x:=zt (o:=zvT s) h
def zna:jt→(Ex→St→Ans)→zoM→Ans:=fun (o0_0,o0_1,o1_0,o1_1) K=>(Sum.elim (fun t4_y=>K (Ex.ret) { env:=[(4,.int .i64 t4_y)],stk:=[[]],H:=[],blk:=438272 }) (fun _=>K (Ex.norm) { env:=[],stk:=[[]],H:=[],blk:=438272 }))
def zbu {β:Type}:jt→(zoM→Option β)→Option β:=fun (o0_0,o0_1,o1_0,o1_1) exit=>(za (W9 (o0_0,o0_1,o1_0,o1_1)) fun t5=>(bif t5 then (exit (Sum.inl ((0:Int)))) else (za (zax (o0_0,o0_1,o1_0,o1_1)) fun r=>(bif r then (exit (Sum.inl ((1:Int)))) else (za (zax (o1_0,o1_1,o0_0,o0_1)) fun r_2=>(bif r_2 then (exit (Sum.inl ((2:Int)))) else (exit (Sum.inr ()))))))))
def qc (i:jt):Option zoM:=zbu i some
theorem zCx (i:jt) (k:zoM→Ans):zbu i k=za (qc i) k:=by
  obtain ⟨o0_0,o0_1,o1_0,o1_1⟩:=i
  simp only [qc,zbu,zi,zh,zl,zc,zj,zm,zg]
theorem zG8 (i:jt) (K:Ex→St→Ans):zx Tryz.tab zhp zd (zy Tryz.tab zhp zd 0 64) 70 22 zwZ zph (zB 0 (exk [] [4] []) K) (zBR i)=zbu i (zna i K):=by kernel_rfl
theorem zPY:zw Tryz.prog 22 zph (zG zlD qc zna):=zA mixed tabOk zsD 0 (exk [] [4] []) zHO zN0 zG8 zCx
noncomputable def zT3:(Ex→St→Ans)→St→Ans:=(zG zlD qc zna)
theorem zXs:zw Tryz.prog 22 zph zT3:=zPY
noncomputable def z4O:Ann:=(.seq .none (.seq (.cut 0 [2,3] zT3) .none))
theorem z3p:zq Tryz.prog 22 zZ5 z4O:=⟨(zb _ _ _),⟨zXs,(zb _ _ _)⟩⟩
abbrev zeb:=(Int)×(Int)×(Int)×(Int)
abbrev zLp:=(Int)
def ztq {β:Type}:zeb→(zLp→Option β)→Option β:=fun (a0_0,a0_1,a1_0,a1_1) exit=>(za (qc (a0_0,a0_1,a1_0,a1_1)) (Sum.elim (fun t4=>(exit (t4))) (fun _=>(exit ((3:Int))))))
def zgu (a:zeb):Option zLp:=ztq a some
theorem z5f (a:zeb) (k:zLp→Ans):ztq a k=za (zgu a) k:=by
  obtain ⟨a0_0,a0_1,a1_0,a1_1⟩:=a
  simp only [zgu,ztq,zi,zh,zl,zc,zj,zm,zg]
def zBe:zeb→List AV:=fun (a0_0,a0_1,a1_0,a1_1)=>[.agg [.int .i64 a0_0,.int .i64 a0_1],.agg [.int .i64 a1_0,.int .i64 a1_1]]
def zOc (l:List AV):Option {a:zeb // l=zBe a}:=match l with
  | [.agg [.int .i64 a0_0,.int .i64 a0_1],.agg [.int .i64 a1_0,.int .i64 a1_1]]=>some ⟨(a0_0,a0_1,a1_0,a1_1),rfl⟩
  | _=>none
def zRG (l:List AV):Option zeb:=pk (zOc l)
theorem zYa (l:List AV) (a:zeb) (h:zRG l=some a):l=zBe a:=zt (o:=zOc l) h
def zC4:zeb→zLp→AV:=fun (a0_0,a0_1,a1_0,a1_1)=>fun r_y => .int .i64 r_y
theorem zZp : ∀(a:zeb) (y:zLp),(zC4 a y).closed1=true:=by
  rintro ⟨a0_0,a0_1,a1_0,a1_1⟩ y <;> first | rfl | exact Empty.elim y
theorem z67 (a:zeb):fnE Tryz.tab zhp zd 0 70 107 Tryz.f107.ntmps Tryz.f107.results.toList z4O zZ5 (zBe a) [] (fun v _=>some (v,[]))=ztq a (fun y=>some (zC4 a y,[])):=by kernel_rfl
def Zen (a:zeb) (K:AV→Ans):Ans:=za (zgu a) fun y=>K (zC4 a y)
def Zd2:List AV→(AV→Ans)→Ans:=fun l K=>za (zRG l) fun a=>Zen a K
theorem ZbO:zM Tryz.prog 107 Zd2:=zL (hint:=zd) (d:=0) (n:=70) mixed tabOk zsD Tryz.func107 (zE (by kernel_rfl)) (by decide +kernel) z3p zYa z67 z5f zZp
--@ ref21_Check
noncomputable def Jq:Env:=[(72,.pure z9J),(107,.pure Zd2)]
theorem zfd:zf Tryz.prog Jq:=zf.cons zUm (zf.cons ZbO (zf.nil))
noncomputable def zzD:Code:=Tryz.f73.body.getD .skip
noncomputable def zqu:Code:=zF [1,0,0,1,1,1,1,0] zzD
noncomputable def zx0:Ann := .none
theorem zIm:zq Tryz.prog 59 zqu zx0:=(zb _ _ _)
abbrev QA:=(Int)×(Int)×(Int)×(List UInt8)×(Int)×(Int)×(List UInt8)
abbrev zoa:=(Bool)
def zBI:QA→St:=fun (o0_0,o0_1,o0_2,o0_3,o0_4,o0_5,o0_6)=>{ env:=[(1,.ptr 0 0)],stk:=[[]],H:=[.cells [.int .i64 o0_0,.int .i64 o0_1,.int .i64 o0_2,.str o0_3,.int .i64 o0_4,.int .i64 o0_5,.str o0_6]],blk:=299008 }
def zxW (s:St):Option {x:QA // s=zBI x}:=match s with
  | { env:=[(1,.ptr 0 0)],stk:=[[]],H:=[.cells [.int .i64 o0_0,.int .i64 o0_1,.int .i64 o0_2,.str o0_3,.int .i64 o0_4,.int .i64 o0_5,.str o0_6]],blk:=299008 }=>some ⟨(o0_0,o0_1,o0_2,o0_3,o0_4,o0_5,o0_6),rfl⟩
  | _=>none
def zlR (s:St):Option QA:=pk (zxW s)
theorem zNj (s:St) (x:QA) (h:zlR s=some x):s=zBI x:=zt (o:=zxW s) h
def zmc:QA→(Ex→St→Ans)→zoa→Ans:=fun (o0_0,o0_1,o0_2,o0_3,o0_4,o0_5,o0_6) K=>fun t39_y=>K (Ex.norm) { env:=[(39,.bool t39_y)],stk:=[[]],H:=[],blk:=299008 }
def za5 {β:Type}:QA→(zoa→Option β)→Option β:=fun (o0_0,o0_1,o0_2,o0_3,o0_4,o0_5,o0_6) exit=>(za (zgu (o0_1,o0_2,o0_4,o0_5)) fun r=>(bif r != (3:Int) then (exit (true)) else (exit (decide (o0_1≤o0_4)))))
def qw (i:QA):Option zoa:=za5 i some
theorem zAB (i:QA) (k:zoa→Ans):za5 i k=za (qw i) k:=by
  obtain ⟨o0_0,o0_1,o0_2,o0_3,o0_4,o0_5,o0_6⟩:=i
  simp only [qw,za5,zi,zh,zl,zc,zj,zm,zg]
theorem zFg (i:QA) (K:Ex→St→Ans):zx Tryz.tab Jq zd (zy Tryz.tab Jq zd 0 64) 70 59 zx0 zqu (zB 0 (exk [39] [2] []) K) (zBI i)=za5 i (zmc i K):=by kernel_rfl
theorem zQa:zw Tryz.prog 59 zqu (zG zlR qw zmc):=zA mixed tabOk zfd 0 (exk [39] [2] []) zIm zNj zFg zAB
noncomputable def zUH:(Ex→St→Ans)→St→Ans:=(zG zlR qw zmc)
theorem zY2:zw Tryz.prog 59 zqu zUH:=zQa
noncomputable def zoV:Code:=zF [1,0,0,1,1,0] zzD
noncomputable def zxl:Ann := .none
theorem zFe:zq Tryz.prog 59 zoV zxl:=(zb _ _ _)
abbrev Q0:=(Int)×(Int)×(Int)×(List UInt8)×(Int)×(Int)×(List UInt8)
abbrev zpR:=(Bool)
def zBY:Q0→St:=fun (o0_0,o0_1,o0_2,o0_3,o0_4,o0_5,o0_6)=>{ env:=[(1,.ptr 0 0)],stk:=[[]],H:=[.cells [.int .i64 o0_0,.int .i64 o0_1,.int .i64 o0_2,.str o0_3,.int .i64 o0_4,.int .i64 o0_5,.str o0_6]],blk:=299008 }
def zuI (s:St):Option {x:Q0 // s=zBY x}:=match s with
  | { env:=[(1,.ptr 0 0)],stk:=[[]],H:=[.cells [.int .i64 o0_0,.int .i64 o0_1,.int .i64 o0_2,.str o0_3,.int .i64 o0_4,.int .i64 o0_5,.str o0_6]],blk:=299008 }=>some ⟨(o0_0,o0_1,o0_2,o0_3,o0_4,o0_5,o0_6),rfl⟩
  | _=>none
def zll (s:St):Option Q0:=pk (zuI s)
theorem zMY (s:St) (x:Q0) (h:zll s=some x):s=zBY x:=zt (o:=zuI s) h
def zjO:Q0→(Ex→St→Ans)→zpR→Ans:=fun (o0_0,o0_1,o0_2,o0_3,o0_4,o0_5,o0_6) K=>fun t26_y=>K (Ex.norm) { env:=[(1,.ptr 0 0),(26,.bool t26_y)],stk:=[[]],H:=[.cells [.int .i64 o0_0,.int .i64 o0_1,.int .i64 o0_2,.str o0_3,.int .i64 o0_4,.int .i64 o0_5,.str o0_6]],blk:=299008 }
def zbp {β:Type}:Q0→(zpR→Option β)→Option β:=fun (o0_0,o0_1,o0_2,o0_3,o0_4,o0_5,o0_6) exit=>(bif (↑(List.length o0_3):Int) != (128:Int) then (exit (true)) else (exit ((↑(List.length o0_6):Int) != (128:Int))))
def qu (i:Q0):Option zpR:=zbp i some
theorem zAA (i:Q0) (k:zpR→Ans):zbp i k=za (qu i) k:=by
  obtain ⟨o0_0,o0_1,o0_2,o0_3,o0_4,o0_5,o0_6⟩:=i
  simp only [qu,zbp,zi,zh,zl,zc,zj,zm,zg]
theorem zGW (i:Q0) (K:Ex→St→Ans):zx Tryz.tab Jq zd (zy Tryz.tab Jq zd 0 64) 70 59 zxl zoV (zB 0 (exk [1,26] [2] []) K) (zBY i)=zbp i (zjO i K):=by kernel_rfl
theorem zQd:zw Tryz.prog 59 zoV (zG zll qu zjO):=zA mixed tabOk zfd 0 (exk [1,26] [2] []) zFe zMY zGW zAA
noncomputable def zTP:(Ex→St→Ans)→St→Ans:=(zG zll qu zjO)
theorem zVr:zw Tryz.prog 59 zoV zTP:=zQd
noncomputable def zp6:Code:=zF [1,0,0,0] zzD
noncomputable def zv0:Ann := .none
theorem zIu:zq Tryz.prog 59 zp6 zv0:=(zb _ _ _)
abbrev Qw:=(Int)×(Int)×(Int)×(List UInt8)×(Int)×(Int)×(List UInt8)
abbrev znJ:=(Bool)
def zA5:Qw→St:=fun (o0_0,o0_1,o0_2,o0_3,o0_4,o0_5,o0_6)=>{ env:=[(1,.ptr 0 0)],stk:=[[]],H:=[.cells [.int .i64 o0_0,.int .i64 o0_1,.int .i64 o0_2,.str o0_3,.int .i64 o0_4,.int .i64 o0_5,.str o0_6]],blk:=299008 }
def zw1 (s:St):Option {x:Qw // s=zA5 x}:=match s with
  | { env:=[(1,.ptr 0 0)],stk:=[[]],H:=[.cells [.int .i64 o0_0,.int .i64 o0_1,.int .i64 o0_2,.str o0_3,.int .i64 o0_4,.int .i64 o0_5,.str o0_6]],blk:=299008 }=>some ⟨(o0_0,o0_1,o0_2,o0_3,o0_4,o0_5,o0_6),rfl⟩
  | _=>none
def zjC (s:St):Option Qw:=pk (zw1 s)
theorem zI8 (s:St) (x:Qw) (h:zjC s=some x):s=zA5 x:=zt (o:=zw1 s) h
def zmK:Qw→(Ex→St→Ans)→znJ→Ans:=fun (o0_0,o0_1,o0_2,o0_3,o0_4,o0_5,o0_6) K=>fun t3_y=>K (Ex.norm) { env:=[(1,.ptr 0 0),(3,.bool t3_y)],stk:=[[]],H:=[.cells [.int .i64 o0_0,.int .i64 o0_1,.int .i64 o0_2,.str o0_3,.int .i64 o0_4,.int .i64 o0_5,.str o0_6]],blk:=299008 }
def zbq {β:Type}:Qw→(znJ→Option β)→Option β:=fun (o0_0,o0_1,o0_2,o0_3,o0_4,o0_5,o0_6) exit=>(bif decide (o0_0<(0:Int)) then (exit (true)) else (bif decide (o0_0≥(24:Int)) then (exit (true)) else (za (zc0 (o0_1,o0_2)) fun r=>(bif !r then (exit (true)) else (za (zc0 (o0_4,o0_5)) fun r_2=>(exit (!r_2)))))))
def qe (i:Qw):Option znJ:=zbq i some
theorem zEf (i:Qw) (k:znJ→Ans):zbq i k=za (qe i) k:=by
  obtain ⟨o0_0,o0_1,o0_2,o0_3,o0_4,o0_5,o0_6⟩:=i
  simp only [qe,zbq,zi,zh,zl,zc,zj,zm,zg]
theorem zG9 (i:Qw) (K:Ex→St→Ans):zx Tryz.tab Jq zd (zy Tryz.tab Jq zd 0 64) 70 59 zv0 zp6 (zB 0 (exk [1,3] [2] []) K) (zA5 i)=zbq i (zmK i K):=by kernel_rfl
theorem zQL:zw Tryz.prog 59 zp6 (zG zjC qe zmK):=zA mixed tabOk zfd 0 (exk [1,3] [2] []) zIu zI8 zG9 zEf
noncomputable def zUL:(Ex→St→Ans)→St→Ans:=(zG zjC qe zmK)
theorem zVb:zw Tryz.prog 59 zp6 zUL:=zQL
noncomputable def zpv:Code:=zF [1,0] zzD
noncomputable def zuo:Ann:=(.block (.seq (.cut 0 [1] zUL) (.cond .none (.seq (.cut 0 [1] zTP) (.cond .none (.seq (.cut 0 [1] zUH) .none))))))
theorem zIA:zq Tryz.prog 59 zpv zuo:=⟨zVb,⟨(zb _ _ _),⟨zVr,⟨(zb _ _ _),⟨zY2,(zb _ _ _)⟩⟩⟩⟩⟩
abbrev jG:=(Int)×(Int)×(Int)×(List UInt8)×(Int)×(Int)×(List UInt8)
abbrev zoi:=((Int)) ⊕ (Unit)
def zAY:jG→St:=fun (o0_0,o0_1,o0_2,o0_3,o0_4,o0_5,o0_6)=>{ env:=[(1,.ptr 0 0)],stk:=[[]],H:=[.cells [.int .i64 o0_0,.int .i64 o0_1,.int .i64 o0_2,.str o0_3,.int .i64 o0_4,.int .i64 o0_5,.str o0_6]],blk:=299008 }
def zuE (s:St):Option {x:jG // s=zAY x}:=match s with
  | { env:=[(1,.ptr 0 0)],stk:=[[]],H:=[.cells [.int .i64 o0_0,.int .i64 o0_1,.int .i64 o0_2,.str o0_3,.int .i64 o0_4,.int .i64 o0_5,.str o0_6]],blk:=299008 }=>some ⟨(o0_0,o0_1,o0_2,o0_3,o0_4,o0_5,o0_6),rfl⟩
  | _=>none
def znp (s:St):Option jG:=pk (zuE s)
theorem zMU (s:St) (x:jG) (h:znp s=some x):s=zAY x:=zt (o:=zuE s) h
def zj6:jG→(Ex→St→Ans)→zoi→Ans:=fun (o0_0,o0_1,o0_2,o0_3,o0_4,o0_5,o0_6) K=>(Sum.elim (fun t2_y=>K (Ex.ret) { env:=[(2,.int .i64 t2_y)],stk:=[[]],H:=[],blk:=299008 }) (fun _=>K (Ex.norm) { env:=[],stk:=[[]],H:=[],blk:=299008 }))
def zae {β:Type}:jG→(zoi→Option β)→Option β:=fun (o0_0,o0_1,o0_2,o0_3,o0_4,o0_5,o0_6) exit=>(za (qe (o0_0,o0_1,o0_2,o0_3,o0_4,o0_5,o0_6)) fun t3=>(bif t3 then (exit (Sum.inl ((3:Int)))) else (za (qu (o0_0,o0_1,o0_2,o0_3,o0_4,o0_5,o0_6)) fun t26=>(bif t26 then (exit (Sum.inl ((12:Int)))) else (za (qw (o0_0,o0_1,o0_2,o0_3,o0_4,o0_5,o0_6)) fun t39=>(bif t39 then (exit (Sum.inl ((10:Int)))) else (exit (Sum.inr ()))))))))
def qz (i:jG):Option zoi:=zae i some
theorem zCs (i:jG) (k:zoi→Ans):zae i k=za (qz i) k:=by
  obtain ⟨o0_0,o0_1,o0_2,o0_3,o0_4,o0_5,o0_6⟩:=i
  simp only [qz,zae,zi,zh,zl,zc,zj,zm,zg]
theorem zF6 (i:jG) (K:Ex→St→Ans):zx Tryz.tab Jq zd (zy Tryz.tab Jq zd 0 64) 70 59 zuo zpv (zB 0 (exk [] [2] []) K) (zAY i)=zae i (zj6 i K):=by kernel_rfl
theorem zPT:zw Tryz.prog 59 zpv (zG znp qz zj6):=zA mixed tabOk zfd 0 (exk [] [2] []) zIA zMU zF6 zCs
noncomputable def zSB:(Ex→St→Ans)→St→Ans:=(zG znp qz zj6)
theorem zVd:zw Tryz.prog 59 zpv zSB:=zPT
noncomputable def z0u:Ann:=(.seq .none (.seq (.cut 0 [1] zSB) .none))
theorem z33:zq Tryz.prog 59 zzD z0u:=⟨(zb _ _ _),⟨zVd,(zb _ _ _)⟩⟩
abbrev ze5:=(Int)×(Int)×(Int)×(List UInt8)×(Int)×(Int)×(List UInt8)
abbrev zMr:=(Int)
def zyp {β:Type}:ze5→(zMr→Option β)→Option β:=fun (a0_0,a0_1,a0_2,a0_3,a0_4,a0_5,a0_6) exit=>(za (qz (a0_0,a0_1,a0_2,a0_3,a0_4,a0_5,a0_6)) (Sum.elim (fun t2=>(exit (t2))) (fun _=>(exit ((0:Int))))))
def zgU (a:ze5):Option zMr:=zyp a some
theorem z3B (a:ze5) (k:zMr→Ans):zyp a k=za (zgU a) k:=by
  obtain ⟨a0_0,a0_1,a0_2,a0_3,a0_4,a0_5,a0_6⟩:=a
  simp only [zgU,zyp,zi,zh,zl,zc,zj,zm,zg]
def zAq:ze5→List AV:=fun (a0_0,a0_1,a0_2,a0_3,a0_4,a0_5,a0_6)=>[.agg [.int .i64 a0_0,.int .i64 a0_1,.int .i64 a0_2,.str a0_3,.int .i64 a0_4,.int .i64 a0_5,.str a0_6]]
def zJv (l:List AV):Option {a:ze5 // l=zAq a}:=match l with
  | [.agg [.int .i64 a0_0,.int .i64 a0_1,.int .i64 a0_2,.str a0_3,.int .i64 a0_4,.int .i64 a0_5,.str a0_6]]=>some ⟨(a0_0,a0_1,a0_2,a0_3,a0_4,a0_5,a0_6),rfl⟩
  | _=>none
def zTn (l:List AV):Option ze5:=pk (zJv l)
theorem zZL (l:List AV) (a:ze5) (h:zTn l=some a):l=zAq a:=zt (o:=zJv l) h
def zyR:ze5→zMr→AV:=fun (a0_0,a0_1,a0_2,a0_3,a0_4,a0_5,a0_6)=>fun r_y => .int .i64 r_y
theorem zYv : ∀(a:ze5) (y:zMr),(zyR a y).closed1=true:=by
  rintro ⟨a0_0,a0_1,a0_2,a0_3,a0_4,a0_5,a0_6⟩ y <;> first | rfl | exact Empty.elim y
theorem z88 (a:ze5):fnE Tryz.tab Jq zd 0 70 73 Tryz.f73.ntmps Tryz.f73.results.toList z0u zzD (zAq a) [] (fun v _=>some (v,[]))=zyp a (fun y=>some (zyR a y,[])):=by kernel_rfl
def ZeL (a:ze5) (K:AV→Ans):Ans:=za (zgU a) fun y=>K (zyR a y)
def ZcL:List AV→(AV→Ans)→Ans:=fun l K=>za (zTn l) fun a=>ZeL a K
theorem ZbI:zM Tryz.prog 73 ZcL:=zL (hint:=zd) (d:=0) (n:=70) mixed tabOk zfd Tryz.func73 (zE (by kernel_rfl)) (by decide +kernel) z33 zZL z88 z3B zYv
--@ ref23_Check
noncomputable def zcJ:Env:=[(72,.pure z9J),(73,.pure ZcL)]
theorem zin:zf Tryz.prog zcJ:=zf.cons zUm (zf.cons ZbI (zf.nil))
noncomputable def zLZ:Code:=Tryz.f37.body.getD .skip
noncomputable def zpH:Code:=zF [1,1,0,1,0,1,1,1,0,1,0,0] zLZ
noncomputable def zw8:Ann := .none
theorem zF5:zq Tryz.prog 67 zpH zw8:=(zb _ _ _)
abbrev ja:=(Int)×(Int)×(Int)×(Int)×(List UInt8)×(Int)×(Int)×(List UInt8)×(Int)×(Int)×(List UInt8)
abbrev znQ:=(Bool)
def zAU:ja→St:=fun (t4,o0_0,o0_1,o0_2,o0_3,o0_4,o0_5,o0_6,o0_7,o0_8,o0_9)=>{ env:=[(1,.ptr 0 0),(4,.int .i64 t4)],stk:=[[]],H:=[.cells [.int .i64 o0_0,.int .i64 o0_1,.int .i64 o0_2,.str o0_3,.int .i64 o0_4,.int .i64 o0_5,.str o0_6,.int .i64 o0_7,.int .i64 o0_8,.str o0_9]],blk:=151552 }
def zvn (s:St):Option {x:ja // s=zAU x}:=match s with
  | { env:=[(1,.ptr 0 0),(4,.int .i64 t4)],stk:=[[]],H:=[.cells [.int .i64 o0_0,.int .i64 o0_1,.int .i64 o0_2,.str o0_3,.int .i64 o0_4,.int .i64 o0_5,.str o0_6,.int .i64 o0_7,.int .i64 o0_8,.str o0_9]],blk:=151552 }=>some ⟨(t4,o0_0,o0_1,o0_2,o0_3,o0_4,o0_5,o0_6,o0_7,o0_8,o0_9),rfl⟩
  | _=>none
def zlc (s:St):Option ja:=pk (zvn s)
theorem zI5 (s:St) (x:ja) (h:zlc s=some x):s=zAU x:=zt (o:=zvn s) h
def zk0:ja→(Ex→St→Ans)→znQ→Ans:=fun (t4,o0_0,o0_1,o0_2,o0_3,o0_4,o0_5,o0_6,o0_7,o0_8,o0_9) K=>fun t65_y=>K (Ex.norm) { env:=[(4,.int .i64 t4),(65,.bool t65_y)],stk:=[[]],H:=[],blk:=151552 }
def zaE {β:Type}:ja→(znQ→Option β)→Option β:=fun (t4,o0_0,o0_1,o0_2,o0_3,o0_4,o0_5,o0_6,o0_7,o0_8,o0_9) exit=>(bif t4 == (0:Int) then (bif o0_1 != o0_4 then (exit (true)) else (bif o0_2 != o0_8 then (exit (true)) else (exit (!o0_3 == [])))) else (exit (false)))
def WG (i:ja):Option znQ:=zaE i some
theorem zyP (i:ja) (k:znQ→Ans):zaE i k=za (WG i) k:=by
  obtain ⟨t4,o0_0,o0_1,o0_2,o0_3,o0_4,o0_5,o0_6,o0_7,o0_8,o0_9⟩:=i
  simp only [WG,zaE,zi,zh,zl,zc,zj,zm,zg]
theorem zHk (i:ja) (K:Ex→St→Ans):zx Tryz.tab zcJ zd (zy Tryz.tab zcJ zd 0 64) 70 67 zw8 zpH (zB 0 (exk [4,65] [2] []) K) (zAU i)=zaE i (zk0 i K):=by kernel_rfl
theorem zQB:zw Tryz.prog 67 zpH (zG zlc WG zk0):=zA mixed tabOk zin 0 (exk [4,65] [2] []) zF5 zI5 zHk zyP
noncomputable def zTQ:(Ex→St→Ans)→St→Ans:=(zG zlc WG zk0)
theorem zYP:zw Tryz.prog 67 zpH zTQ:=zQB
noncomputable def znW:Code:=zF [1,1,0,1,0,1,0,0,0,1,1,1,1,0] zLZ
noncomputable def zvZ:Ann := .none
theorem zIy:zq Tryz.prog 67 znW zvZ:=(zb _ _ _)
abbrev ju:=(Int)×(Int)×(Int)×(List UInt8)×(Int)×(Int)×(List UInt8)×(Int)×(Int)×(List UInt8)
abbrev zrh:=(Bool)
def zCv:ju→St:=fun (o0_0,o0_1,o0_2,o0_3,o0_4,o0_5,o0_6,o0_7,o0_8,o0_9)=>{ env:=[(1,.ptr 0 0),(3,.ptr 1 0)],stk:=[[]],H:=[.cells [.int .i64 o0_0,.int .i64 o0_1,.int .i64 o0_2,.str o0_3,.int .i64 o0_4,.int .i64 o0_5,.str o0_6,.int .i64 o0_7,.int .i64 o0_8,.str o0_9],.cells [.int .i64 (0),.int .i64 (0),.str ([])]],blk:=151553 }
def zvN (s:St):Option {x:ju // s=zCv x}:=match s with
  | { env:=[(1,.ptr 0 0),(3,.ptr 1 0)],stk:=[[]],H:=[.cells [.int .i64 o0_0,.int .i64 o0_1,.int .i64 o0_2,.str o0_3,.int .i64 o0_4,.int .i64 o0_5,.str o0_6,.int .i64 o0_7,.int .i64 o0_8,.str o0_9],.cells [.int .i64 r10,.int .i64 r11,.str r12]],blk:=151553 }=>if h10:r10=0 then if h11:r11=0 then if h12:r12=[] then some ⟨(o0_0,o0_1,o0_2,o0_3,o0_4,o0_5,o0_6,o0_7,o0_8,o0_9),by subst h10 h11 h12;rfl⟩ else none else none else none
  | _=>none
def zlL (s:St):Option ju:=pk (zvN s)
theorem zLy (s:St) (x:ju) (h:zlL s=some x):s=zCv x:=zt (o:=zvN s) h
def znd:ju→(Ex→St→Ans)→zrh→Ans:=fun (o0_0,o0_1,o0_2,o0_3,o0_4,o0_5,o0_6,o0_7,o0_8,o0_9) K=>fun t20_y=>K (Ex.norm) { env:=[(20,.bool t20_y)],stk:=[[]],H:=[],blk:=151553 }
def zbh {β:Type}:ju→(zrh→Option β)→Option β:=fun (o0_0,o0_1,o0_2,o0_3,o0_4,o0_5,o0_6,o0_7,o0_8,o0_9) exit=>(bif !(o0_4 == (0:Int)&&(o0_5 == (0:Int)&&true)&&(o0_6 == []&&true)) then (exit (true)) else (exit (!(o0_7 == (0:Int)&&(o0_8 == (0:Int)&&true)&&(o0_9 == []&&true)))))
def qi (i:ju):Option zrh:=zbh i some
theorem zBn (i:ju) (k:zrh→Ans):zbh i k=za (qi i) k:=by
  obtain ⟨o0_0,o0_1,o0_2,o0_3,o0_4,o0_5,o0_6,o0_7,o0_8,o0_9⟩:=i
  simp only [qi,zbh,zi,zh,zl,zc,zj,zm,zg]
theorem zF4 (i:ju) (K:Ex→St→Ans):zx Tryz.tab zcJ zd (zy Tryz.tab zcJ zd 0 64) 70 67 zvZ znW (zB 0 (exk [20] [2] []) K) (zCv i)=zbh i (znd i K):=by kernel_rfl
theorem zPz:zw Tryz.prog 67 znW (zG zlL qi znd):=zA mixed tabOk zin 0 (exk [20] [2] []) zIy zLy zF4 zBn
noncomputable def zSN:(Ex→St→Ans)→St→Ans:=(zG zlL qi znd)
theorem zYA:zw Tryz.prog 67 znW zSN:=zPz
noncomputable def zoQ:Code:=zF [1,1,0,1,0,1,0,0] zLZ
noncomputable def zux:Ann:=(.block (.seq .none (.cond .none (.seq .none (.cond .none (.seq (.cut 0 [1,3] zSN) .none))))))
theorem zGw:zq Tryz.prog 67 zoQ zux:=⟨(zb _ _ _),⟨(zb _ _ _),⟨(zb _ _ _),⟨(zb _ _ _),⟨zYA,(zb _ _ _)⟩⟩⟩⟩⟩
abbrev jK:=(Int)×(Int)×(Int)×(List UInt8)×(Int)×(Int)×(List UInt8)×(Int)×(Int)×(List UInt8)
abbrev zpc:=((Int)) ⊕ (Unit)
def zzr:jK→St:=fun (o0_0,o0_1,o0_2,o0_3,o0_4,o0_5,o0_6,o0_7,o0_8,o0_9)=>{ env:=[(1,.ptr 0 0),(3,.ptr 1 0)],stk:=[[]],H:=[.cells [.int .i64 o0_0,.int .i64 o0_1,.int .i64 o0_2,.str o0_3,.int .i64 o0_4,.int .i64 o0_5,.str o0_6,.int .i64 o0_7,.int .i64 o0_8,.str o0_9],.cells [.int .i64 (0),.int .i64 (0),.str ([])]],blk:=151552 }
def zyu (s:St):Option {x:jK // s=zzr x}:=match s with
  | { env:=[(1,.ptr 0 0),(3,.ptr 1 0)],stk:=[[]],H:=[.cells [.int .i64 o0_0,.int .i64 o0_1,.int .i64 o0_2,.str o0_3,.int .i64 o0_4,.int .i64 o0_5,.str o0_6,.int .i64 o0_7,.int .i64 o0_8,.str o0_9],.cells [.int .i64 r10,.int .i64 r11,.str r12]],blk:=151552 }=>if h10:r10=0 then if h11:r11=0 then if h12:r12=[] then some ⟨(o0_0,o0_1,o0_2,o0_3,o0_4,o0_5,o0_6,o0_7,o0_8,o0_9),by subst h10 h11 h12;rfl⟩ else none else none else none
  | _=>none
def znD (s:St):Option jK:=pk (zyu s)
theorem zJL (s:St) (x:jK) (h:znD s=some x):s=zzr x:=zt (o:=zyu s) h
def zmS:jK→(Ex→St→Ans)→zpc→Ans:=fun (o0_0,o0_1,o0_2,o0_3,o0_4,o0_5,o0_6,o0_7,o0_8,o0_9) K=>(Sum.elim (fun t2_y=>K (Ex.ret) { env:=[(2,.int .i64 t2_y)],stk:=[[]],H:=[],blk:=151553 }) (fun _=>K (Ex.norm) { env:=[],stk:=[[]],H:=[],blk:=151553 }))
def zbe {β:Type}:jK→(zpc→Option β)→Option β:=fun (o0_0,o0_1,o0_2,o0_3,o0_4,o0_5,o0_6,o0_7,o0_8,o0_9) exit=>(za (zc0 (o0_1,o0_2)) fun r=>(bif !r then (exit (Sum.inl ((3:Int)))) else (bif (↑(List.length o0_3):Int) != (128:Int) then (exit (Sum.inl ((12:Int)))) else (za (qi (o0_0,o0_1,o0_2,o0_3,o0_4,o0_5,o0_6,o0_7,o0_8,o0_9)) fun t20=>(bif t20 then (exit (Sum.inl ((4:Int)))) else (exit (Sum.inr ())))))))
def qx (i:jK):Option zpc:=zbe i some
theorem zCE (i:jK) (k:zpc→Ans):zbe i k=za (qx i) k:=by
  obtain ⟨o0_0,o0_1,o0_2,o0_3,o0_4,o0_5,o0_6,o0_7,o0_8,o0_9⟩:=i
  simp only [qx,zbe,zi,zh,zl,zc,zj,zm,zg]
theorem zGm (i:jK) (K:Ex→St→Ans):zx Tryz.tab zcJ zd (zy Tryz.tab zcJ zd 0 64) 70 67 zux zoQ (zB 0 (exk [] [2] []) K) (zzr i)=zbe i (zmS i K):=by kernel_rfl
theorem zQN:zw Tryz.prog 67 zoQ (zG znD qx zmS):=zA mixed tabOk zin 0 (exk [] [2] []) zGw zJL zGm zCE
noncomputable def zSp:(Ex→St→Ans)→St→Ans:=(zG znD qx zmS)
theorem zZd:zw Tryz.prog 67 zoQ zSp:=zQN
noncomputable def z2e:Ann:=(.seq .none (.seq .none (.seq (.seq .none (.block (.seq .none (.cond (.seq (.cut 0 [1,3] zSp) .none) (.seq .none (.cond (.seq .none (.seq (.seq (.cut 0 [1,4] zTQ) .none) .none)) .none)))))) .none)))
theorem z5b:zq Tryz.prog 67 zLZ z2e:=⟨(zb _ _ _),⟨(zb _ _ _),⟨⟨(zb _ _ _),⟨(zb _ _ _),⟨⟨zZd,(zb _ _ _)⟩,⟨(zb _ _ _),⟨⟨(zb _ _ _),⟨⟨zYP,(zb _ _ _)⟩,(zb _ _ _)⟩⟩,(zb _ _ _)⟩⟩⟩⟩⟩,(zb _ _ _)⟩⟩⟩
abbrev zeY:=(Int)×(Int)×(Int)×(List UInt8)×(Int)×(Int)×(List UInt8)×(Int)×(Int)×(List UInt8)
abbrev zJy:=(Int)
def zvu {β:Type}:zeY→(zJy→Option β)→Option β:=fun (a0_0,a0_1,a0_2,a0_3,a0_4,a0_5,a0_6,a0_7,a0_8,a0_9) exit=>(bif a0_0 == (0:Int) then (za (qx (a0_0,a0_1,a0_2,a0_3,a0_4,a0_5,a0_6,a0_7,a0_8,a0_9)) (Sum.elim (fun t2=>(exit (t2))) (fun _=>(exit ((0:Int)))))) else (bif a0_0 == (1:Int) then (za (zgU ((0:Int),a0_4,a0_5,a0_6,a0_7,a0_8,a0_9)) fun r=>(za (WG (r,a0_0,a0_1,a0_2,a0_3,a0_4,a0_5,a0_6,a0_7,a0_8,a0_9)) fun t65=>(bif t65 then (exit ((4:Int))) else (exit (r))))) else (exit ((7:Int)))))
def zaV (a:zeY):Option zJy:=zvu a some
theorem z1i (a:zeY) (k:zJy→Ans):zvu a k=za (zaV a) k:=by
  obtain ⟨a0_0,a0_1,a0_2,a0_3,a0_4,a0_5,a0_6,a0_7,a0_8,a0_9⟩:=a
  simp only [zaV,zvu,zi,zh,zl,zc,zj,zm,zg]
def zAs:zeY→List AV:=fun (a0_0,a0_1,a0_2,a0_3,a0_4,a0_5,a0_6,a0_7,a0_8,a0_9)=>[.agg [.int .i64 a0_0,.int .i64 a0_1,.int .i64 a0_2,.str a0_3,.int .i64 a0_4,.int .i64 a0_5,.str a0_6,.int .i64 a0_7,.int .i64 a0_8,.str a0_9]]
def zJH (l:List AV):Option {a:zeY // l=zAs a}:=match l with
  | [.agg [.int .i64 a0_0,.int .i64 a0_1,.int .i64 a0_2,.str a0_3,.int .i64 a0_4,.int .i64 a0_5,.str a0_6,.int .i64 a0_7,.int .i64 a0_8,.str a0_9]]=>some ⟨(a0_0,a0_1,a0_2,a0_3,a0_4,a0_5,a0_6,a0_7,a0_8,a0_9),rfl⟩
  | _=>none
def zTc (l:List AV):Option zeY:=pk (zJH l)
theorem zVm (l:List AV) (a:zeY) (h:zTc l=some a):l=zAs a:=zt (o:=zJH l) h
def zyK:zeY→zJy→AV:=fun (a0_0,a0_1,a0_2,a0_3,a0_4,a0_5,a0_6,a0_7,a0_8,a0_9)=>fun r_y => .int .i64 r_y
theorem zXy : ∀(a:zeY) (y:zJy),(zyK a y).closed1=true:=by
  rintro ⟨a0_0,a0_1,a0_2,a0_3,a0_4,a0_5,a0_6,a0_7,a0_8,a0_9⟩ y <;> first | rfl | exact Empty.elim y
theorem z6K (a:zeY):fnE Tryz.tab zcJ zd 0 70 37 Tryz.f37.ntmps Tryz.f37.results.toList z2e zLZ (zAs a) [] (fun v _=>some (v,[]))=zvu a (fun y=>some (zyK a y,[])):=by kernel_rfl
def Zfa (a:zeY) (K:AV→Ans):Ans:=za (zaV a) fun y=>K (zyK a y)
def zVM:List AV→(AV→Ans)→Ans:=fun l K=>za (zTc l) fun a=>Zfa a K
theorem zBL:zM Tryz.prog 37 zVM:=zL (hint:=zd) (d:=0) (n:=70) mixed tabOk zin Tryz.func37 (zE (by kernel_rfl)) (by decide +kernel) z5b zVm z6K z1i zXy
--@ ref23_Get
noncomputable def zhi:Env:=[(61,.func z6V),(62,.func Zdv),(63,.func ZdB),(37,.pure zVM)]
theorem zsh:zf Tryz.prog zhi:=zf.cons zSU (zf.cons Zbq (zf.cons ZbZ (zf.cons zBL (zf.nil))))
noncomputable def zZw:Code:=Tryz.f25.body.getD .skip
noncomputable def zqY:Code:=zF [1,1,1,1,1,0,1] zZw
noncomputable def zuY:Ann := .none
theorem zGg:zq Tryz.prog 56 zqY zuY:=(zb _ _ _)
abbrev jq:=(Int)×(Bool)×(Int)×(Int)×(Int)×(List UInt8)×(Int)×(Int)×(List UInt8)×(Int)×(Int)×(List UInt8)
abbrev zq3:=(Int)
def zAg:jq→St:=fun (t7,t48,o1_0,o1_1,o1_2,o1_3,o1_4,o1_5,o1_6,o1_7,o1_8,o1_9)=>{ env:=[(2,.ptr 0 0),(5,.ptr 1 0),(7,.int .i64 t7),(48,.bool t48)],stk:=[[]],H:=[.cells [.int .i64 (0),.int .i64 (0),.int .i64 (0),.str ([]),.int .i64 (0),.int .i64 (0),.str ([]),.int .i64 (0),.int .i64 (0),.str ([])],.cells [.int .i64 o1_0,.int .i64 o1_1,.int .i64 o1_2,.str o1_3,.int .i64 o1_4,.int .i64 o1_5,.str o1_6,.int .i64 o1_7,.int .i64 o1_8,.str o1_9]],blk:=102400 }
def ztY (s:St):Option {x:jq // s=zAg x}:=match s with
  | { env:=[(2,.ptr 0 0),(5,.ptr 1 0),(7,.int .i64 t7),(48,.bool t48)],stk:=[[]],H:=[.cells [.int .i64 r2,.int .i64 r3,.int .i64 r4,.str r5,.int .i64 r6,.int .i64 r7,.str r8,.int .i64 r9,.int .i64 r10,.str r11],.cells [.int .i64 o1_0,.int .i64 o1_1,.int .i64 o1_2,.str o1_3,.int .i64 o1_4,.int .i64 o1_5,.str o1_6,.int .i64 o1_7,.int .i64 o1_8,.str o1_9]],blk:=102400 }=>if h2:r2=0 then if h3:r3=0 then if h4:r4=0 then if h5:r5=[] then if h6:r6=0 then if h7:r7=0 then if h8:r8=[] then if h9:r9=0 then if h10:r10=0 then if h11:r11=[] then some ⟨(t7,t48,o1_0,o1_1,o1_2,o1_3,o1_4,o1_5,o1_6,o1_7,o1_8,o1_9),by subst h2 h3 h4 h5 h6 h7 h8 h9 h10 h11;rfl⟩ else none else none else none else none else none else none else none else none else none else none
  | _=>none
def zlN (s:St):Option jq:=pk (ztY s)
theorem zN2 (s:St) (x:jq) (h:zlN s=some x):s=zAg x:=zt (o:=ztY s) h
def zkn:jq→(Ex→St→Ans)→zq3→Ans:=fun (t7,t48,o1_0,o1_1,o1_2,o1_3,o1_4,o1_5,o1_6,o1_7,o1_8,o1_9) K=>fun t7_y=>K (Ex.norm) { env:=[(2,.ptr 0 0),(5,.ptr 1 0),(7,.int .i64 t7_y)],stk:=[[]],H:=[.cells [.int .i64 (0),.int .i64 (0),.int .i64 (0),.str ([]),.int .i64 (0),.int .i64 (0),.str ([]),.int .i64 (0),.int .i64 (0),.str ([])],.cells [.int .i64 o1_0,.int .i64 o1_1,.int .i64 o1_2,.str o1_3,.int .i64 o1_4,.int .i64 o1_5,.str o1_6,.int .i64 o1_7,.int .i64 o1_8,.str o1_9]],blk:=102400 }
def zaT {β:Type}:jq→(zq3→Option β)→Option β:=fun (t7,t48,o1_0,o1_1,o1_2,o1_3,o1_4,o1_5,o1_6,o1_7,o1_8,o1_9) exit=>(bif t48 then (za (zaV (o1_0,o1_1,o1_2,o1_3,o1_4,o1_5,o1_6,o1_7,o1_8,o1_9)) fun r=>(exit (r))) else (exit (t7)))
def qs (i:jq):Option zq3:=zaT i some
theorem zEb (i:jq) (k:zq3→Ans):zaT i k=za (qs i) k:=by
  obtain ⟨t7,t48,o1_0,o1_1,o1_2,o1_3,o1_4,o1_5,o1_6,o1_7,o1_8,o1_9⟩:=i
  simp only [qs,zaT,zi,zh,zl,zc,zj,zm,zg]
theorem zHl (i:jq) (K:Ex→St→Ans):zx Tryz.tab zhi zd (zy Tryz.tab zhi zd 0 64) 70 56 zuY zqY (zB 0 (exk [2,5,7] [2,3] []) K) (zAg i)=zaT i (zkn i K):=by kernel_rfl
theorem zQq:zw Tryz.prog 56 zqY (zG zlN qs zkn):=zA mixed tabOk zsh 0 (exk [2,5,7] [2,3] []) zGg zN2 zHl zEb
noncomputable def zTf:(Ex→St→Ans)→St→Ans:=(zG zlN qs zkn)
theorem zZ4:zw Tryz.prog 56 zqY zTf:=zQq
noncomputable def zn4:Code:=zF [1,1,1,0,1] zZw
noncomputable def zvc:Ann := .none
theorem zGP:zq Tryz.prog 56 zn4 zvc:=(zb _ _ _)
abbrev Q8:=(Int)×(List UInt8)×(Int)×(Int)×(Int)
abbrev zqi:=((Int)×(Int)×(Int)×(Int)×(List UInt8)×(Int)×(Int)×(List UInt8)×(Int)×(Int)×(List UInt8)) ⊕ (Unit)
def zDt:Q8→St:=fun (t15,o1_0,o1_1,o1_2,o2_0)=>{ env:=[(2,.ptr 0 0),(4,.ptr 1 0),(5,.ptr 2 0),(15,.int .i64 t15)],stk:=[[]],H:=[.cells [.int .i64 (0),.int .i64 (0),.int .i64 (0),.str ([]),.int .i64 (0),.int .i64 (0),.str ([]),.int .i64 (0),.int .i64 (0),.str ([])],.cells [.str o1_0,.int .i64 o1_1,.int .i64 o1_2],.cells [.int .i64 o2_0,.int .i64 (0),.int .i64 (0),.str ([]),.int .i64 (0),.int .i64 (0),.str ([]),.int .i64 (0),.int .i64 (0),.str ([])]],blk:=102400 }
def zt5 (s:St):Option {x:Q8 // s=zDt x}:=match s with
  | { env:=[(2,.ptr 0 0),(4,.ptr 1 0),(5,.ptr 2 0),(15,.int .i64 t15)],stk:=[[]],H:=[.cells [.int .i64 r1,.int .i64 r2,.int .i64 r3,.str r4,.int .i64 r5,.int .i64 r6,.str r7,.int .i64 r8,.int .i64 r9,.str r10],.cells [.str o1_0,.int .i64 o1_1,.int .i64 o1_2],.cells [.int .i64 o2_0,.int .i64 r15,.int .i64 r16,.str r17,.int .i64 r18,.int .i64 r19,.str r20,.int .i64 r21,.int .i64 r22,.str r23]],blk:=102400 }=>if h1:r1=0 then if h2:r2=0 then if h3:r3=0 then if h4:r4=[] then if h5:r5=0 then if h6:r6=0 then if h7:r7=[] then if h8:r8=0 then if h9:r9=0 then if h10:r10=[] then if h15:r15=0 then if h16:r16=0 then if h17:r17=[] then if h18:r18=0 then if h19:r19=0 then if h20:r20=[] then if h21:r21=0 then if h22:r22=0 then if h23:r23=[] then some ⟨(t15,o1_0,o1_1,o1_2,o2_0),by subst h1 h2 h3 h4 h5 h6 h7 h8 h9 h10 h15 h16 h17 h18 h19 h20 h21 h22 h23;rfl⟩ else none else none else none else none else none else none else none else none else none else none else none else none else none else none else none else none else none else none else none
  | _=>none
def zm8 (s:St):Option Q8:=pk (zt5 s)
theorem zJq (s:St) (x:Q8) (h:zm8 s=some x):s=zDt x:=zt (o:=zt5 s) h
def zmo:Q8→(Ex→St→Ans)→zqi→Ans:=fun (t15,o1_0,o1_1,o1_2,o2_0) K=>(Sum.elim (unP fun o1_1_y=>unP fun o1_2_y=>unP fun o2_1_y=>unP fun o2_2_y=>unP fun o2_3_y=>unP fun o2_4_y=>unP fun o2_5_y=>unP fun o2_6_y=>unP fun o2_7_y=>unP fun o2_8_y o2_9_y=>K (Ex.norm) { env:=[(2,.ptr 0 0),(4,.ptr 1 0),(5,.ptr 2 0)],stk:=[[]],H:=[.cells [.int .i64 (0),.int .i64 (0),.int .i64 (0),.str ([]),.int .i64 (0),.int .i64 (0),.str ([]),.int .i64 (0),.int .i64 (0),.str ([])],.cells [.str o1_0,.int .i64 o1_1_y,.int .i64 o1_2_y],.cells [.int .i64 o2_0,.int .i64 o2_1_y,.int .i64 o2_2_y,.str o2_3_y,.int .i64 o2_4_y,.int .i64 o2_5_y,.str o2_6_y,.int .i64 o2_7_y,.int .i64 o2_8_y,.str o2_9_y]],blk:=102400 }) (fun _=>K (Ex.ret) { env:=[(2,.ptr 0 0),(3,.int .i64 (7))],stk:=[[]],H:=[.cells [.int .i64 (0),.int .i64 (0),.int .i64 (0),.str ([]),.int .i64 (0),.int .i64 (0),.str ([]),.int .i64 (0),.int .i64 (0),.str ([])]],blk:=102400 }))
def zbl {β:Type}:Q8→(zqi→Option β)→Option β:=fun (t15,o1_0,o1_1,o1_2,o2_0) exit=>(bif t15 == (0:Int) then (za (zcB (o1_0,o1_1,o1_2)) (unP fun r_0=>unP fun r_1=>unP fun r_2=>unP fun o0_1 o0_2=>(exit (Sum.inl (o0_1,o0_2,r_0,r_1,r_2,(0:Int),(0:Int),[],(0:Int),(0:Int),[]))))) else (bif t15 == (1:Int) then (za (zcB (o1_0,o1_1,o1_2)) (unP fun r_0=>unP fun r_1=>unP fun r_2=>unP fun o0_1 o0_2=>(za (zcB (o1_0,o0_1,o0_2)) (unP fun r_0_2=>unP fun r_1_2=>unP fun r_2_2=>unP fun o0_1_2 o0_2_2=>(exit (Sum.inl (o0_1_2,o0_2_2,r_0,r_1_2,[],r_0,r_1,r_2,r_0_2,r_1_2,r_2_2))))))) else (exit (Sum.inr ()))))
def qb (i:Q8):Option zqi:=zbl i some
theorem zAS (i:Q8) (k:zqi→Ans):zbl i k=za (qb i) k:=by
  obtain ⟨t15,o1_0,o1_1,o1_2,o2_0⟩:=i
  simp only [qb,zbl,zi,zh,zl,zc,zj,zm,zg]
theorem zFM (i:Q8) (K:Ex→St→Ans):zx Tryz.tab zhi zd (zy Tryz.tab zhi zd 0 64) 70 56 zvc zn4 (zB 0 (exk [2,4,5] [2,3] []) K) (zDt i)=zbl i (zmo i K):=by kernel_rfl
theorem zPP:zw Tryz.prog 56 zn4 (zG zm8 qb zmo):=zA mixed tabOk zsh 0 (exk [2,4,5] [2,3] []) zGP zJq zFM zAS
noncomputable def zS1:(Ex→St→Ans)→St→Ans:=(zG zm8 qb zmo)
theorem zV3:zw Tryz.prog 56 zn4 zS1:=zPP
noncomputable def z4q:Ann:=(.seq .none (.seq .none (.seq .none (.seq (.seq .none (.cut 0 [2,4,5,15] zS1)) (.seq .none (.seq (.seq .none (.cut 0 [2,5,7,48] zTf)) .none))))))
theorem z1M:zq Tryz.prog 56 zZw z4q:=⟨(zb _ _ _),⟨(zb _ _ _),⟨(zb _ _ _),⟨⟨(zb _ _ _),zV3⟩,⟨(zb _ _ _),⟨⟨(zb _ _ _),zZ4⟩,(zb _ _ _)⟩⟩⟩⟩⟩⟩
abbrev zd8:=(List UInt8)
abbrev zNn:=(Int)×(Int)×(Int)×(List UInt8)×(Int)×(Int)×(List UInt8)×(Int)×(Int)×(List UInt8)×(Int)
def zxT {β:Type}:zd8→(zNn→Option β)→Option β:=fun a0 exit=>(za (zaA ((1:Int),a0,(0:Int),(0:Int))) (unP fun r=>unP fun o0_1 o0_2=>(za (qb (r,a0,o0_1,o0_2,r)) (Sum.elim (unP fun o1_1=>unP fun o1_2=>unP fun o2_1=>unP fun o2_2=>unP fun o2_3=>unP fun o2_4=>unP fun o2_5=>unP fun o2_6=>unP fun o2_7=>unP fun o2_8 o2_9=>(za (zhy (a0,o1_1,o1_2)) fun r_2=>(za (qs (r_2,r_2 == (0:Int),r,o2_1,o2_2,o2_3,o2_4,o2_5,o2_6,o2_7,o2_8,o2_9)) fun t7=>(bif t7 != (0:Int) then (exit ((0:Int),(0:Int),(0:Int),[],(0:Int),(0:Int),[],(0:Int),(0:Int),[],t7)) else (exit (r,o2_1,o2_2,o2_3,o2_4,o2_5,o2_6,o2_7,o2_8,o2_9,(0:Int))))))) (fun _=>(exit ((0:Int),(0:Int),(0:Int),[],(0:Int),(0:Int),[],(0:Int),(0:Int),[],(7:Int))))))))
def zg3 (a:zd8):Option zNn:=zxT a some
theorem z3x (a:zd8) (k:zNn→Ans):zxT a k=za (zg3 a) k:=by
  obtain z:=a
  simp only [zg3,zxT,zi,zh,zl,zc,zj,zm,zg]
def zDw:zd8→List AV:=fun a0=>[.str a0]
def zMG (l:List AV):Option {a:zd8 // l=zDw a}:=match l with
  | [.str a0]=>some ⟨(a0),rfl⟩
  | _=>none
def zT2 (l:List AV):Option zd8:=pk (zMG l)
theorem zVh (l:List AV) (a:zd8) (h:zT2 l=some a):l=zDw a:=zt (o:=zMG l) h
def zD9:zd8→zNn→AV:=fun a0=>unP fun r_0_0_y=>unP fun r_0_1_y=>unP fun r_0_2_y=>unP fun r_0_3_y=>unP fun r_0_4_y=>unP fun r_0_5_y=>unP fun r_0_6_y=>unP fun r_0_7_y=>unP fun r_0_8_y=>unP fun r_0_9_y r_1_y => .tup [.agg [.int .i64 r_0_0_y,.int .i64 r_0_1_y,.int .i64 r_0_2_y,.str r_0_3_y,.int .i64 r_0_4_y,.int .i64 r_0_5_y,.str r_0_6_y,.int .i64 r_0_7_y,.int .i64 r_0_8_y,.str r_0_9_y],.int .i64 r_1_y]
theorem zWs : ∀(a:zd8) (y:zNn),(zD9 a y).closed1=true:=by
  rintro z y <;> first | rfl | exact Empty.elim y
theorem z95 (a:zd8):fnE Tryz.tab zhi zd 0 70 25 Tryz.f25.ntmps Tryz.f25.results.toList z4q zZw (zDw a) [] (fun v _=>some (v,[]))=zxT a (fun y=>some (zD9 a y,[])):=by kernel_rfl
def Ze1 (a:zd8) (K:AV→Ans):Ans:=za (zg3 a) fun y=>K (zD9 a y)
def Zeb:List AV→(AV→Ans)→Ans:=fun l K=>za (zT2 l) fun a=>Ze1 a K
theorem Zbf:zM Tryz.prog 25 Zeb:=zL (hint:=zd) (d:=0) (n:=70) mixed tabOk zsh Tryz.func25 (zE (by kernel_rfl)) (by decide +kernel) z1M zVh z95 z3x zWs
--@ ref05_Put
noncomputable def z1P:Env:=[(65,.pure zDZ)]
theorem z6A:zf Tryz.prog z1P:=zf.cons zgY (zf.nil)
noncomputable def ZdO:Code:=Tryz.f104.body.getD .skip
noncomputable def z4d:Ann := .none
theorem z3o:zq Tryz.prog 12 ZdO z4d:=(zb _ _ _)
abbrev zeF:=(List UInt8)×(Int)×(Int)
abbrev zLU:=(List UInt8)
def zte {β:Type}:zeF→(zLU→Option β)→Option β:=fun (a0,a1_0,a1_1) exit=>(za (Zy (a0,a1_0,(7:Int))) fun r=>(za (Zy (r,a1_1,(7:Int))) fun r_2=>(exit (r_2))))
def zcK (a:zeF):Option zLU:=zte a some
theorem z2Q (a:zeF) (k:zLU→Ans):zte a k=za (zcK a) k:=by
  obtain ⟨a0,a1_0,a1_1⟩:=a
  simp only [zcK,zte,zi,zh,zl,zc,zj,zm,zg]
def zy0:zeF→List AV:=fun (a0,a1_0,a1_1)=>[.str a0,.agg [.int .i64 a1_0,.int .i64 a1_1]]
def zNd (l:List AV):Option {a:zeF // l=zy0 a}:=match l with
  | [.str a0,.agg [.int .i64 a1_0,.int .i64 a1_1]]=>some ⟨(a0,a1_0,a1_1),rfl⟩
  | _=>none
def zUw (l:List AV):Option zeF:=pk (zNd l)
theorem zWx (l:List AV) (a:zeF) (h:zUw l=some a):l=zy0 a:=zt (o:=zNd l) h
def zB8:zeF→zLU→AV:=fun (a0,a1_0,a1_1)=>fun r_y => .str r_y
theorem zXj : ∀(a:zeF) (y:zLU),(zB8 a y).closed1=true:=by
  rintro ⟨a0,a1_0,a1_1⟩ y <;> first | rfl | exact Empty.elim y
theorem z7B (a:zeF):fnE Tryz.tab z1P zd 0 70 104 Tryz.f104.ntmps Tryz.f104.results.toList z4d ZdO (zy0 a) [] (fun v _=>some (v,[]))=zte a (fun y=>some (zB8 a y,[])):=by kernel_rfl
def ZeO (a:zeF) (K:AV→Ans):Ans:=za (zcK a) fun y=>K (zB8 a y)
def Zb3:List AV→(AV→Ans)→Ans:=fun l K=>za (zUw l) fun a=>ZeO a K
theorem ZaE:zM Tryz.prog 104 Zb3:=zL (hint:=zd) (d:=0) (n:=70) mixed tabOk z6A Tryz.func104 (zE (by kernel_rfl)) (by decide +kernel) z3o zWx z7B z2Q zXj
--@ ref23_Put
noncomputable def z3g:Env:=[(65,.pure zDZ),(37,.pure zVM),(104,.pure Zb3)]
theorem z7q:zf Tryz.prog z3g:=zf.cons zgY (zf.cons zBL (zf.cons ZaE (zf.nil)))
noncomputable def Zc0:Code:=Tryz.f64.body.getD .skip
noncomputable def z5L:Ann := .none
theorem z1E:zq Tryz.prog 41 Zc0 z5L:=(zb _ _ _)
abbrev zeJ:=(Int)×(Int)×(Int)×(List UInt8)×(Int)×(Int)×(List UInt8)×(Int)×(Int)×(List UInt8)
abbrev zL3:=(List UInt8)×(Int)
def zu1 {β:Type}:zeJ→(zL3→Option β)→Option β:=fun (a0_0,a0_1,a0_2,a0_3,a0_4,a0_5,a0_6,a0_7,a0_8,a0_9) exit=>(za (zaV (a0_0,a0_1,a0_2,a0_3,a0_4,a0_5,a0_6,a0_7,a0_8,a0_9)) fun r=>(bif r != (0:Int) then (exit ([],r)) else (za (Zy ([],a0_0,(1:Int))) fun r_2=>(bif a0_0 == (0:Int) then (za (zcK (r_2,a0_1,a0_2)) fun r_3=>(bif Nat.ble (List.length r_3+List.length a0_3) (9223372036854775807:Nat) then (exit (r_3++a0_3,(0:Int))) else none)) else (za (zcK (r_2,a0_4,a0_5)) fun r_3=>(bif Nat.ble (List.length r_3+List.length a0_6) (9223372036854775807:Nat) then (za (zcK (r_3++a0_6,a0_7,a0_8)) fun r_4=>(bif Nat.ble (List.length r_4+List.length a0_9) (9223372036854775807:Nat) then (exit (r_4++a0_9,(0:Int))) else none)) else none))))))
def zgn (a:zeJ):Option zL3:=zu1 a some
theorem z5s (a:zeJ) (k:zL3→Ans):zu1 a k=za (zgn a) k:=by
  obtain ⟨a0_0,a0_1,a0_2,a0_3,a0_4,a0_5,a0_6,a0_7,a0_8,a0_9⟩:=a
  simp only [zgn,zu1,zi,zh,zl,zc,zj,zm,zg]
def zDx:zeJ→List AV:=fun (a0_0,a0_1,a0_2,a0_3,a0_4,a0_5,a0_6,a0_7,a0_8,a0_9)=>[.agg [.int .i64 a0_0,.int .i64 a0_1,.int .i64 a0_2,.str a0_3,.int .i64 a0_4,.int .i64 a0_5,.str a0_6,.int .i64 a0_7,.int .i64 a0_8,.str a0_9]]
def zLx (l:List AV):Option {a:zeJ // l=zDx a}:=match l with
  | [.agg [.int .i64 a0_0,.int .i64 a0_1,.int .i64 a0_2,.str a0_3,.int .i64 a0_4,.int .i64 a0_5,.str a0_6,.int .i64 a0_7,.int .i64 a0_8,.str a0_9]]=>some ⟨(a0_0,a0_1,a0_2,a0_3,a0_4,a0_5,a0_6,a0_7,a0_8,a0_9),rfl⟩
  | _=>none
def zRB (l:List AV):Option zeJ:=pk (zLx l)
theorem z0j (l:List AV) (a:zeJ) (h:zRB l=some a):l=zDx a:=zt (o:=zLx l) h
def zyT:zeJ→zL3→AV:=fun (a0_0,a0_1,a0_2,a0_3,a0_4,a0_5,a0_6,a0_7,a0_8,a0_9)=>unP fun r_0_y r_1_y => .tup [.str r_0_y,.int .i64 r_1_y]
theorem zXo : ∀(a:zeJ) (y:zL3),(zyT a y).closed1=true:=by
  rintro ⟨a0_0,a0_1,a0_2,a0_3,a0_4,a0_5,a0_6,a0_7,a0_8,a0_9⟩ y <;> first | rfl | exact Empty.elim y
theorem z7d (a:zeJ):fnE Tryz.tab z3g zd 0 70 64 Tryz.f64.ntmps Tryz.f64.results.toList z5L Zc0 (zDx a) [] (fun v _=>some (v,[]))=zu1 a (fun y=>some (zyT a y,[])):=by kernel_rfl
def Ze9 (a:zeJ) (K:AV→Ans):Ans:=za (zgn a) fun y=>K (zyT a y)
def Zcu:List AV→(AV→Ans)→Ans:=fun l K=>za (zRB l) fun a=>Ze9 a K
theorem ZbQ:zM Tryz.prog 64 Zcu:=zL (hint:=zd) (d:=0) (n:=70) mixed tabOk z7q Tryz.func64 (zE (by kernel_rfl)) (by decide +kernel) z1E z0j z7d z5s zXo
--@ ref43_line
noncomputable def zwq:Env:=[(65,.pure zDZ),(64,.pure Zcu)]
theorem zLX:zf Tryz.prog zwq:=zf.cons zgY (zf.cons ZbQ (zf.nil))
noncomputable def z8j:Code:=Tryz.f26.body.getD .skip
noncomputable def zo8:Code:=zF [1,1,1,0,1] z8j
noncomputable def zyb:Ann := .none
theorem zGx:zq Tryz.prog 22 zo8 zyb:=(zb _ _ _)
abbrev j6:=(Int)×(List UInt8)×(Bool)
abbrev zqt:=(Int)
def zDr:j6→St:=fun (t0,t7,t15)=>{ env:=[(0,.int .i64 t0),(7,.str t7),(9,.int .i64 (0)),(15,.bool t15)],stk:=[[]],H:=[],blk:=106496 }
def zx9 (s:St):Option {x:j6 // s=zDr x}:=match s with
  | { env:=[(0,.int .i64 t0),(7,.str t7),(9,.int .i64 r2),(15,.bool t15)],stk:=[[]],H:=[],blk:=106496 }=>if h2:r2=0 then some ⟨(t0,t7,t15),by subst h2;rfl⟩ else none
  | _=>none
def zlT (s:St):Option j6:=pk (zx9 s)
theorem zOZ (s:St) (x:j6) (h:zlT s=some x):s=zDr x:=zt (o:=zx9 s) h
def zld:j6→(Ex→St→Ans)→zqt→Ans:=fun (t0,t7,t15) K=>fun t9_y=>K (Ex.norm) { env:=[(0,.int .i64 t0),(7,.str t7),(9,.int .i64 t9_y)],stk:=[[]],H:=[],blk:=106496 }
def zaB {β:Type}:j6→(zqt→Option β)→Option β:=fun (t0,t7,t15) exit=>(bif t15 then (exit ((1:Int))) else (exit ((0:Int))))
def we (i:j6):Option zqt:=zaB i some
theorem zzy (i:j6) (k:zqt→Ans):zaB i k=za (we i) k:=by
  obtain ⟨t0,t7,t15⟩:=i
  simp only [we,zaB,zi,zh,zl,zc,zj,zm,zg]
theorem zIi (i:j6) (K:Ex→St→Ans):zx Tryz.tab zwq zd (zy Tryz.tab zwq zd 0 64) 70 22 zyb zo8 (zB 0 (exk [0,7,9] [6] []) K) (zDr i)=zaB i (zld i K):=by kernel_rfl
theorem zPd:zw Tryz.prog 22 zo8 (zG zlT we zld):=zA mixed tabOk zLX 0 (exk [0,7,9] [6] []) zGx zOZ zIi zzy
noncomputable def zRU:(Ex→St→Ans)→St→Ans:=(zG zlT we zld)
theorem zZF:zw Tryz.prog 22 zo8 zRU:=zPd
noncomputable def z3H:Ann:=(.seq .none (.seq .none (.seq .none (.seq (.seq .none (.cut 0 [0,7,9,15] zRU)) .none))))
theorem z2w:zq Tryz.prog 22 z8j z3H:=⟨(zb _ _ _),⟨(zb _ _ _),⟨(zb _ _ _),⟨⟨(zb _ _ _),zZF⟩,(zb _ _ _)⟩⟩⟩⟩
abbrev zfi:=(Int)×(Int)×(Int)×(Int)×(List UInt8)×(Int)×(Int)×(List UInt8)×(Int)×(Int)×(List UInt8)×(Bool)
abbrev zK2:=(List UInt8)
def zxB {β:Type}:zfi→(zK2→Option β)→Option β:=fun (a0,a1_0,a1_1,a1_2,a1_3,a1_4,a1_5,a1_6,a1_7,a1_8,a1_9,a2) exit=>(za (zgn (a1_0,a1_1,a1_2,a1_3,a1_4,a1_5,a1_6,a1_7,a1_8,a1_9)) (unP fun r_0 r_1=>(za (we (a0,r_0,a2)) fun t9=>(za (Zy ([],a0,(1:Int))) fun r=>(za (Zy (r,t9,(1:Int))) fun r_2=>(bif Nat.ble (List.length r_2+List.length r_0) (9223372036854775807:Nat) then (exit (r_2++r_0)) else none))))))
def zhE (a:zfi):Option zK2:=zxB a some
theorem z0M (a:zfi) (k:zK2→Ans):zxB a k=za (zhE a) k:=by
  obtain ⟨a0,a1_0,a1_1,a1_2,a1_3,a1_4,a1_5,a1_6,a1_7,a1_8,a1_9,a2⟩:=a
  simp only [zhE,zxB,zi,zh,zl,zc,zj,zm,zg]
def zDc:zfi→List AV:=fun (a0,a1_0,a1_1,a1_2,a1_3,a1_4,a1_5,a1_6,a1_7,a1_8,a1_9,a2)=>[.int .i64 a0,.agg [.int .i64 a1_0,.int .i64 a1_1,.int .i64 a1_2,.str a1_3,.int .i64 a1_4,.int .i64 a1_5,.str a1_6,.int .i64 a1_7,.int .i64 a1_8,.str a1_9],.bool a2]
def zKb (l:List AV):Option {a:zfi // l=zDc a}:=match l with
  | [.int .i64 a0,.agg [.int .i64 a1_0,.int .i64 a1_1,.int .i64 a1_2,.str a1_3,.int .i64 a1_4,.int .i64 a1_5,.str a1_6,.int .i64 a1_7,.int .i64 a1_8,.str a1_9],.bool a2]=>some ⟨(a0,a1_0,a1_1,a1_2,a1_3,a1_4,a1_5,a1_6,a1_7,a1_8,a1_9,a2),rfl⟩
  | _=>none
def zTC (l:List AV):Option zfi:=pk (zKb l)
theorem zY3 (l:List AV) (a:zfi) (h:zTC l=some a):l=zDc a:=zt (o:=zKb l) h
def zDd:zfi→zK2→AV:=fun (a0,a1_0,a1_1,a1_2,a1_3,a1_4,a1_5,a1_6,a1_7,a1_8,a1_9,a2)=>fun r_y => .str r_y
theorem zX2 : ∀(a:zfi) (y:zK2),(zDd a y).closed1=true:=by
  rintro ⟨a0,a1_0,a1_1,a1_2,a1_3,a1_4,a1_5,a1_6,a1_7,a1_8,a1_9,a2⟩ y <;> first | rfl | exact Empty.elim y
theorem z92 (a:zfi):fnE Tryz.tab zwq zd 0 70 26 Tryz.f26.ntmps Tryz.f26.results.toList z3H z8j (zDc a) [] (fun v _=>some (v,[]))=zxB a (fun y=>some (zDd a y,[])):=by kernel_rfl
def Zfl (a:zfi) (K:AV→Ans):Ans:=za (zhE a) fun y=>K (zDd a y)
def ZcO:List AV→(AV→Ans)→Ans:=fun l K=>za (zTC l) fun a=>Zfl a K
theorem ZaX:zM Tryz.prog 26 ZcO:=zL (hint:=zd) (d:=0) (n:=70) mixed tabOk zLX Tryz.func26 (zE (by kernel_rfl)) (by decide +kernel) z2w zY3 z92 z0M zX2
--@ ref43_end
noncomputable def zgm:Env:=[(60,.pure zMH),(65,.pure zDZ)]
theorem zNB:zf Tryz.prog zgm:=zf.cons zqX (zf.cons zgY (zf.nil))
noncomputable def z7I:Code:=Tryz.f27.body.getD .skip
noncomputable def zgx:Code:=zF [1,1,0,1,0,0] z7I
noncomputable def zjd:Ann := .at 0 [0,3,4] (.loop .none)
theorem zID:zq Tryz.prog 23 (.loop zgx) zjd:=Zi (zb _ _ _)
abbrev Qi:=(List (List UInt8))
abbrev zqW:=(List UInt8)
abbrev wS:=(List UInt8)×(Int)
def znI:Qi→wS→St:=fun t0 (t3,t4)=>{ env:=[(0,.ro .str t0),(3,.str t3),(4,.int .i64 t4)],stk:=[[]],H:=[],blk:=110592 }
def zvf (s:St):Option {x:Qi×wS // s=znI x.1 x.2}:=match s with
  | { env:=[(0,.ro .str t0),(3,.str t3),(4,.int .i64 t4)],stk:=[[]],H:=[],blk:=110592 }=>some ⟨(t0,(t3,t4)),rfl⟩
  | _=>none
def znf (s:St):Option (Qi×wS):=pk (zvf s)
theorem zJB (s:St) (x:Qi×wS) (h:znf s=some x):s=znI x.1 x.2:=zt (o:=zvf s) h
def zmn:Qi→(Ex→St→Ans)→zqW→Ans:=fun t0 K=>fun t3_y=>K (Ex.exit 0) { env:=[(0,.ro .str t0),(3,.str t3_y)],stk:=[[]],H:=[],blk:=110592 }
def jo {β:Type}:Qi→wS→(wS→Option β)→(zqW→Option β)→Option β:=fun t0 (t3,t4) next exit=>(bif decide (t4<(↑(List.length t0):Int)) then (za (nth t0 t4) fun x=>(bif Nat.ble (List.length t3+List.length x) (9223372036854775807:Nat) then (next (t3++x,IntKind.wrap .i64 (t4+(1:Int)))) else none)) else (exit (t3)))
def yJ (i:Qi) (v:wS):Option (wS ⊕ zqW):=jo i v (fun v=>some (.inl v)) (fun y=>some (.inr y))
theorem zAk (i:Qi) (v:wS) (next:wS→Ans) (exit:zqW→Ans):jo i v next exit=za (yJ i v) (Sum.elim next exit):=by
  obtain z:=i
  obtain ⟨t3,t4⟩:=v
  simp only [yJ,jo,zi,zh,zl,zc,zj,zm,zg,Sum.elim_inl,Sum.elim_inr]
theorem zGR (n:Nat) (i:Qi) (v:wS) (K:Ex→St→Ans):zx Tryz.tab zgm zd (zy Tryz.tab zgm zd 0 64) (n+1) 23 zjd (.loop zgx) (zB 0 (exk [0,3] [2] [(0,[0,3])]) K) (znI i v)=jo i v (fun v'=>zx Tryz.tab zgm zd (zy Tryz.tab zgm zd 0 64) n 23 zjd (.loop zgx) (zB 0 (exk [0,3] [2] [(0,[0,3])]) K) (znI i v')) (fun y=>zmn i K y):=by kernel_rfl
theorem zPI:zw Tryz.prog 23 (.loop zgx) (Zm znf yJ zmn):=Zf mixed tabOk zNB 0 (exk [0,3] [2] [(0,[0,3])]) zID zJB zGR zAk
noncomputable def zSg:(Ex→St→Ans)→St→Ans:=(Zm znf yJ zmn)
theorem zXL:zw Tryz.prog 23 (.loop zgx) zSg:=zPI
noncomputable def z5V:Ann:=(.seq .none (.seq .none (.seq (.seq .none (.block (.cut 0 [0,3,4] zSg))) .none)))
theorem z2G:zq Tryz.prog 23 z7I z5V:=⟨(zb _ _ _),⟨(zb _ _ _),⟨⟨(zb _ _ _),zXL⟩,(zb _ _ _)⟩⟩⟩
abbrev zeS:=(List (List UInt8))
abbrev zJ2:=(List UInt8)
def zyz {β:Type}:zeS→(zJ2→Option β)→Option β:=fun a0 exit=>(za (zO (yJ (a0)) zY ([],(0:Int))) fun t3=>(za (Zy ([],(↑(List.length a0):Int),(2:Int))) fun r=>(za (zbN (t3)) fun r_2=>(bif Nat.ble (List.length r+List.length r_2) (9223372036854775807:Nat) then (exit (r++r_2)) else none))))
def zhu (a:zeS):Option zJ2:=zyz a some
theorem z2H (a:zeS) (k:zJ2→Ans):zyz a k=za (zhu a) k:=by
  obtain z:=a
  simp only [zhu,zyz,zi,zh,zl,zc,zj,zm,zg]
def zyO:zeS→List AV:=fun a0=>[.ro .str a0]
def zNx (l:List AV):Option {a:zeS // l=zyO a}:=match l with
  | [.ro .str a0]=>some ⟨(a0),rfl⟩
  | _=>none
def zUf (l:List AV):Option zeS:=pk (zNx l)
theorem zUS (l:List AV) (a:zeS) (h:zUf l=some a):l=zyO a:=zt (o:=zNx l) h
def zCr:zeS→zJ2→AV:=fun a0=>fun r_y => .str r_y
theorem zXm : ∀(a:zeS) (y:zJ2),(zCr a y).closed1=true:=by
  rintro z y <;> first | rfl | exact Empty.elim y
theorem z6x (a:zeS):fnE Tryz.tab zgm zd 0 70 27 Tryz.f27.ntmps Tryz.f27.results.toList z5V z7I (zyO a) [] (fun v _=>some (v,[]))=zyz a (fun y=>some (zCr a y,[])):=by kernel_rfl
def ZeM (a:zeS) (K:AV→Ans):Ans:=za (zhu a) fun y=>K (zCr a y)
def ZcZ:List AV→(AV→Ans)→Ans:=fun l K=>za (zUf l) fun a=>ZeM a K
theorem ZbU:zM Tryz.prog 27 ZcZ:=zL (hint:=zd) (d:=0) (n:=70) mixed tabOk zNB Tryz.func27 (zE (by kernel_rfl)) (by decide +kernel) z2G zUS z6x z2H zXm
--@ ref43_Check
noncomputable def zcC:Env:=[(36,.pure z85),(37,.pure zVM)]
theorem zsd:zf Tryz.prog zcC:=zf.cons zSV (zf.cons zBL (zf.nil))
noncomputable def zUX:Code:=Tryz.f15.body.getD .skip
noncomputable def zgz:Code:=zF [1,1,1,1,1,0,1,0,0] zUX
noncomputable def ziI:Ann := .at 0 [1,4,5] (.loop .none)
theorem zIc:zq Tryz.prog 61 (.loop zgz) ziI:=Zi (zb _ _ _)
abbrev Qp:=(Int)×(Int)×(Int)×(Int)×(Int)×(Int)×(Int)×(List (Int×(Int×Int)×List UInt8×((Int×Int)×List UInt8)×(Int×Int)×List UInt8))×(List Bool)
abbrev zpd:=((Int)) ⊕ ((Int))
abbrev w7:=(Int)×(Int)
def zqV:Qp→w7→St:=fun (o0_0,o0_1,o0_2,o0_3,o0_4,o0_5,o0_6,o0_7,o0_8) (t4,t5)=>{ env:=[(1,.ptr 0 0),(4,.int .i64 t4),(5,.int .i64 t5)],stk:=[[]],H:=[.cells [.int .i64 o0_0,.int .i64 o0_1,.int .i64 o0_2,.int .i64 o0_3,.int .i64 o0_4,.int .i64 o0_5,.int .i64 o0_6,.ro (.st (.pair (.int .i64) (.pair (.pair (.int .i64) (.int .i64)) (.pair .str (.pair (.pair (.pair (.int .i64) (.int .i64)) .str) (.pair (.pair (.int .i64) (.int .i64)) .str)))))) o0_7,.ro .bool o0_8]],blk:=61440 }
def zvz (s:St):Option {x:Qp×w7 // s=zqV x.1 x.2}:=match s with
  | { env:=[(1,.ptr 0 0),(4,.int .i64 t4),(5,.int .i64 t5)],stk:=[[]],H:=[.cells [.int .i64 o0_0,.int .i64 o0_1,.int .i64 o0_2,.int .i64 o0_3,.int .i64 o0_4,.int .i64 o0_5,.int .i64 o0_6,.ro (.st (.pair (.int .i64) (.pair (.pair (.int .i64) (.int .i64)) (.pair .str (.pair (.pair (.pair (.int .i64) (.int .i64)) .str) (.pair (.pair (.int .i64) (.int .i64)) .str)))))) o0_7,.ro .bool o0_8]],blk:=61440 }=>some ⟨((o0_0,o0_1,o0_2,o0_3,o0_4,o0_5,o0_6,o0_7,o0_8),(t4,t5)),rfl⟩
  | _=>none
def zl8 (s:St):Option (Qp×w7):=pk (zvz s)
theorem zNm (s:St) (x:Qp×w7) (h:zl8 s=some x):s=zqV x.1 x.2:=zt (o:=zvz s) h
def zlE:Qp→(Ex→St→Ans)→zpd→Ans:=fun (o0_0,o0_1,o0_2,o0_3,o0_4,o0_5,o0_6,o0_7,o0_8) K=>(Sum.elim (fun t2_y=>K (Ex.ret) { env:=[(2,.int .i64 t2_y)],stk:=[[]],H:=[],blk:=61441 }) (fun t4_y=>K (Ex.exit 0) { env:=[(1,.ptr 0 0),(4,.int .i64 t4_y)],stk:=[[]],H:=[.cells [.int .i64 o0_0,.int .i64 o0_1,.int .i64 o0_2,.int .i64 o0_3,.int .i64 o0_4,.int .i64 o0_5,.int .i64 o0_6,.ro (.st (.pair (.int .i64) (.pair (.pair (.int .i64) (.int .i64)) (.pair .str (.pair (.pair (.pair (.int .i64) (.int .i64)) .str) (.pair (.pair (.int .i64) (.int .i64)) .str)))))) o0_7,.ro .bool o0_8]],blk:=61440 }))
def Wj {β:Type}:Qp→w7→(w7→Option β)→(zpd→Option β)→Option β:=fun (o0_0,o0_1,o0_2,o0_3,o0_4,o0_5,o0_6,o0_7,o0_8) (t4,t5) next exit=>(bif decide (t5<(↑(List.length o0_7):Int)) then (za (nth o0_7 t5) fun x=>(za (zaV (x.fst,x.snd.fst.fst,x.snd.fst.snd,x.snd.snd.fst,x.snd.snd.snd.fst.fst.fst,x.snd.snd.snd.fst.fst.snd,x.snd.snd.snd.fst.snd,x.snd.snd.snd.snd.fst.fst,x.snd.snd.snd.snd.fst.snd,x.snd.snd.snd.snd.snd)) fun r=>(bif r != (0:Int) then (exit (Sum.inl (r))) else (za (nth o0_7 t5) fun x_2=>(next (IntKind.wrap .i64 (t4+x_2.fst),IntKind.wrap .i64 (t5+(1:Int)))))))) else (exit (Sum.inr (t4))))
def yi (i:Qp) (v:w7):Option (w7 ⊕ zpd):=Wj i v (fun v=>some (.inl v)) (fun y=>some (.inr y))
theorem zAM (i:Qp) (v:w7) (next:w7→Ans) (exit:zpd→Ans):Wj i v next exit=za (yi i v) (Sum.elim next exit):=by
  obtain ⟨o0_0,o0_1,o0_2,o0_3,o0_4,o0_5,o0_6,o0_7,o0_8⟩:=i
  obtain ⟨t4,t5⟩:=v
  simp only [yi,Wj,zi,zh,zl,zc,zj,zm,zg,Sum.elim_inl,Sum.elim_inr]
theorem zGN (n:Nat) (i:Qp) (v:w7) (K:Ex→St→Ans):zx Tryz.tab zcC zd (zy Tryz.tab zcC zd 0 64) (n+1) 61 ziI (.loop zgz) (zB 0 (exk [1,4] [2] [(0,[1,4])]) K) (zqV i v)=Wj i v (fun v'=>zx Tryz.tab zcC zd (zy Tryz.tab zcC zd 0 64) n 61 ziI (.loop zgz) (zB 0 (exk [1,4] [2] [(0,[1,4])]) K) (zqV i v')) (fun y=>zlE i K y):=by kernel_rfl
theorem zQA:zw Tryz.prog 61 (.loop zgz) (Zm zl8 yi zlE):=Zf mixed tabOk zsd 0 (exk [1,4] [2] [(0,[1,4])]) zIc zNm zGN zAM
noncomputable def zTZ:(Ex→St→Ans)→St→Ans:=(Zm zl8 yi zlE)
theorem zVu:zw Tryz.prog 61 (.loop zgz) zTZ:=zQA
noncomputable def zqj:Code:=zF [1,1,1,0,0] zUX
noncomputable def ztP:Ann := .none
theorem zHC:zq Tryz.prog 61 zqj ztP:=(zb _ _ _)
abbrev Qr:=(Int)×(Int)×(Int)×(Int)×(Int)×(Int)×(Int)×(List (Int×(Int×Int)×List UInt8×((Int×Int)×List UInt8)×(Int×Int)×List UInt8))×(List Bool)
abbrev zrk:=(Bool)
def zyY:Qr→St:=fun (o0_0,o0_1,o0_2,o0_3,o0_4,o0_5,o0_6,o0_7,o0_8)=>{ env:=[(1,.ptr 0 0)],stk:=[[]],H:=[.cells [.int .i64 o0_0,.int .i64 o0_1,.int .i64 o0_2,.int .i64 o0_3,.int .i64 o0_4,.int .i64 o0_5,.int .i64 o0_6,.ro (.st (.pair (.int .i64) (.pair (.pair (.int .i64) (.int .i64)) (.pair .str (.pair (.pair (.pair (.int .i64) (.int .i64)) .str) (.pair (.pair (.int .i64) (.int .i64)) .str)))))) o0_7,.ro .bool o0_8]],blk:=61440 }
def zvh (s:St):Option {x:Qr // s=zyY x}:=match s with
  | { env:=[(1,.ptr 0 0)],stk:=[[]],H:=[.cells [.int .i64 o0_0,.int .i64 o0_1,.int .i64 o0_2,.int .i64 o0_3,.int .i64 o0_4,.int .i64 o0_5,.int .i64 o0_6,.ro (.st (.pair (.int .i64) (.pair (.pair (.int .i64) (.int .i64)) (.pair .str (.pair (.pair (.pair (.int .i64) (.int .i64)) .str) (.pair (.pair (.int .i64) (.int .i64)) .str)))))) o0_7,.ro .bool o0_8]],blk:=61440 }=>some ⟨(o0_0,o0_1,o0_2,o0_3,o0_4,o0_5,o0_6,o0_7,o0_8),rfl⟩
  | _=>none
def zmt (s:St):Option Qr:=pk (zvh s)
theorem zLb (s:St) (x:Qr) (h:zmt s=some x):s=zyY x:=zt (o:=zvh s) h
def zlO:Qr→(Ex→St→Ans)→zrk→Ans:=fun (o0_0,o0_1,o0_2,o0_3,o0_4,o0_5,o0_6,o0_7,o0_8) K=>fun t30_y=>K (Ex.norm) { env:=[(1,.ptr 0 0),(30,.bool t30_y)],stk:=[[]],H:=[.cells [.int .i64 o0_0,.int .i64 o0_1,.int .i64 o0_2,.int .i64 o0_3,.int .i64 o0_4,.int .i64 o0_5,.int .i64 o0_6,.ro (.st (.pair (.int .i64) (.pair (.pair (.int .i64) (.int .i64)) (.pair .str (.pair (.pair (.pair (.int .i64) (.int .i64)) .str) (.pair (.pair (.int .i64) (.int .i64)) .str)))))) o0_7,.ro .bool o0_8]],blk:=61440 }
def zbO {β:Type}:Qr→(zrk→Option β)→Option β:=fun (o0_0,o0_1,o0_2,o0_3,o0_4,o0_5,o0_6,o0_7,o0_8) exit=>(bif (↑(List.length o0_7):Int) != o0_4 then (exit (true)) else (exit ((↑(List.length o0_8):Int) != o0_4)))
def qm (i:Qr):Option zrk:=zbO i some
theorem zzZ (i:Qr) (k:zrk→Ans):zbO i k=za (qm i) k:=by
  obtain ⟨o0_0,o0_1,o0_2,o0_3,o0_4,o0_5,o0_6,o0_7,o0_8⟩:=i
  simp only [qm,zbO,zi,zh,zl,zc,zj,zm,zg]
theorem zGv (i:Qr) (K:Ex→St→Ans):zx Tryz.tab zcC zd (zy Tryz.tab zcC zd 0 64) 70 61 ztP zqj (zB 0 (exk [1,30] [2] []) K) (zyY i)=zbO i (zlO i K):=by kernel_rfl
theorem zQp:zw Tryz.prog 61 zqj (zG zmt qm zlO):=zA mixed tabOk zsd 0 (exk [1,30] [2] []) zHC zLb zGv zzZ
noncomputable def zR5:(Ex→St→Ans)→St→Ans:=(zG zmt qm zlO)
theorem zZt:zw Tryz.prog 61 zqj zR5:=zQp
noncomputable def z2Y:Ann:=(.seq .none (.seq .none (.seq .none (.seq (.seq (.cut 0 [1] zR5) .none) (.seq .none (.seq (.seq .none (.block (.cut 0 [1,4,5] zTZ))) .none))))))
theorem z2v:zq Tryz.prog 61 zUX z2Y:=⟨(zb _ _ _),⟨(zb _ _ _),⟨(zb _ _ _),⟨⟨zZt,(zb _ _ _)⟩,⟨(zb _ _ _),⟨⟨(zb _ _ _),zVu⟩,(zb _ _ _)⟩⟩⟩⟩⟩⟩
abbrev zeo:=(Int)×(Int)×(Int)×(Int)×(Int)×(Int)×(Int)×(List (Int×(Int×Int)×List UInt8×((Int×Int)×List UInt8)×(Int×Int)×List UInt8))×(List Bool)
abbrev zJp:=(Int)
def zxw {β:Type}:zeo→(zJp→Option β)→Option β:=fun (a0_0,a0_1,a0_2,a0_3,a0_4,a0_5,a0_6,a0_7,a0_8) exit=>(za (zez (a0_0,a0_1,a0_2,a0_3,a0_4,a0_5,a0_6)) fun r=>(bif r != (0:Int) then (exit (r)) else (za (qm (a0_0,a0_1,a0_2,a0_3,a0_4,a0_5,a0_6,a0_7,a0_8)) fun t30=>(bif t30 then (exit ((12:Int))) else (za (zO (yi (a0_0,a0_1,a0_2,a0_3,a0_4,a0_5,a0_6,a0_7,a0_8)) zY ((0:Int),(0:Int))) (Sum.elim (fun t2=>(exit (t2))) (fun t4=>(bif decide (t4>a0_5) then (exit ((16:Int))) else (exit ((0:Int)))))))))))
def zhv (a:zeo):Option zJp:=zxw a some
theorem z2p (a:zeo) (k:zJp→Ans):zxw a k=za (zhv a) k:=by
  obtain ⟨a0_0,a0_1,a0_2,a0_3,a0_4,a0_5,a0_6,a0_7,a0_8⟩:=a
  simp only [zhv,zxw,zi,zh,zl,zc,zj,zm,zg]
def zDV:zeo→List AV:=fun (a0_0,a0_1,a0_2,a0_3,a0_4,a0_5,a0_6,a0_7,a0_8)=>[.agg [.int .i64 a0_0,.int .i64 a0_1,.int .i64 a0_2,.int .i64 a0_3,.int .i64 a0_4,.int .i64 a0_5,.int .i64 a0_6,.ro (.st (.pair (.int .i64) (.pair (.pair (.int .i64) (.int .i64)) (.pair .str (.pair (.pair (.pair (.int .i64) (.int .i64)) .str) (.pair (.pair (.int .i64) (.int .i64)) .str)))))) a0_7,.ro .bool a0_8]]
def zLP (l:List AV):Option {a:zeo // l=zDV a}:=match l with
  | [.agg [.int .i64 a0_0,.int .i64 a0_1,.int .i64 a0_2,.int .i64 a0_3,.int .i64 a0_4,.int .i64 a0_5,.int .i64 a0_6,.ro (.st (.pair (.int .i64) (.pair (.pair (.int .i64) (.int .i64)) (.pair .str (.pair (.pair (.pair (.int .i64) (.int .i64)) .str) (.pair (.pair (.int .i64) (.int .i64)) .str)))))) a0_7,.ro .bool a0_8]]=>some ⟨(a0_0,a0_1,a0_2,a0_3,a0_4,a0_5,a0_6,a0_7,a0_8),rfl⟩
  | _=>none
def zRO (l:List AV):Option zeo:=pk (zLP l)
theorem zVX (l:List AV) (a:zeo) (h:zRO l=some a):l=zDV a:=zt (o:=zLP l) h
def zDz:zeo→zJp→AV:=fun (a0_0,a0_1,a0_2,a0_3,a0_4,a0_5,a0_6,a0_7,a0_8)=>fun r_y => .int .i64 r_y
theorem zYN : ∀(a:zeo) (y:zJp),(zDz a y).closed1=true:=by
  rintro ⟨a0_0,a0_1,a0_2,a0_3,a0_4,a0_5,a0_6,a0_7,a0_8⟩ y <;> first | rfl | exact Empty.elim y
theorem z9M (a:zeo):fnE Tryz.tab zcC zd 0 70 15 Tryz.f15.ntmps Tryz.f15.results.toList z2Y zUX (zDV a) [] (fun v _=>some (v,[]))=zxw a (fun y=>some (zDz a y,[])):=by kernel_rfl
def Ze7 (a:zeo) (K:AV→Ans):Ans:=za (zhv a) fun y=>K (zDz a y)
def Zdk:List AV→(AV→Ans)→Ans:=fun l K=>za (zRO l) fun a=>Ze7 a K
theorem Zbd:zM Tryz.prog 15 Zdk:=zL (hint:=zd) (d:=0) (n:=70) mixed tabOk zsd Tryz.func15 (zE (by kernel_rfl)) (by decide +kernel) z2v zVX z9M z2p zYN
end Go.Proofs.R9
