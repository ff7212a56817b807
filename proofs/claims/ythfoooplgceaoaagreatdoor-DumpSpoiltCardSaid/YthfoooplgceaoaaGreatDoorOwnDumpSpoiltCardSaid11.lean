/- What the functions that DumpSpoiltCardSaid reaches compute: part 11. -/
import Derived.Test.YthfoooplgceaoaaGreatDoorOwnDumpSpoiltCardSaid10
set_option linter.unusedVariables false
set_option linter.unusedSimpArgs false
namespace Go.Proofs.R9
open Go Go.AE
set_option maxRecDepth 100000
theorem ZO:y4.all (ZH.ok Tryz.prog)=true:=by kernel_rfl
theorem ZL:y7.all (ZH.ok Tryz.prog)=true:=by kernel_rfl
theorem zUp:zd Tryz.prog Tb0:=ZA
theorem zUD:Zu Tryz.prog To0:=Z5 mixed tabOk zUp ZO ZL 40
theorem Y5:zP Tryz.prog 112 T0f:=ww (i:=⟨112,false,[(0,[7,9,26]),(2,[7,9,44,45])]⟩) mixed tabOk zUD Tryz.func112 (by kernel_rfl) (by decide +kernel) T0r
theorem zU6:zd Tryz.prog Tb1:=zd.cons Y5 (ZA)
theorem zUI:Zu Tryz.prog To1:=Z5 mixed tabOk zU6 ZO ZL 40
theorem wj:zP Tryz.prog 114 T1f:=ww (i:=⟨114,false,[(0,[8,28,29,30])]⟩) mixed tabOk zUI Tryz.func114 (by kernel_rfl) (by decide +kernel) T1r
theorem zTV:zd Tryz.prog Tb2:=zd.cons Y5 (zd.cons wj (ZA))
theorem zT1:Zu Tryz.prog To2:=Z5 mixed tabOk zTV ZO ZL 40
theorem wW:zP Tryz.prog 116 T2f:=zac (i:=⟨116,false,[(0,[0,21,22,23])]⟩) mixed tabOk zT1 Tryz.func116 (by kernel_rfl) (by decide +kernel) T2r
theorem zTS:zd Tryz.prog Tb3:=zd.cons Y5 (zd.cons wj (zd.cons wW (ZA)))
theorem zUP:Zu Tryz.prog To3:=Z5 mixed tabOk zTS ZO ZL 40
theorem W4:zP Tryz.prog 116 T3f:=zac (i:=⟨116,false,[(0,[0,21,22,23])]⟩) mixed tabOk zUP Tryz.func116 (by kernel_rfl) (by decide +kernel) T3r
theorem zTC:zd Tryz.prog Tb4:=zd.cons Y5 (zd.cons wj (zd.cons (zM wW W4) (ZA)))
theorem zTB:Zu Tryz.prog To4:=Z5 mixed tabOk zTC ZO ZL 40
theorem Qv:zP Tryz.prog 116 T4f:=zac (i:=⟨116,false,[(0,[0,21,22,23])]⟩) mixed tabOk zTB Tryz.func116 (by kernel_rfl) (by decide +kernel) T4r
theorem zUR:zd Tryz.prog Tb5:=zd.cons Y5 (zd.cons wj (zd.cons (zM wW (zM W4 Qv)) (ZA)))
theorem zUF:Zu Tryz.prog To5:=Z5 mixed tabOk zUR ZO ZL 40
theorem jb:zP Tryz.prog 116 T5f:=zac (i:=⟨116,false,[(0,[0,21,22,23])]⟩) mixed tabOk zUF Tryz.func116 (by kernel_rfl) (by decide +kernel) T5r
theorem zTL:zd Tryz.prog Tb6:=zd.cons Y5 (zd.cons wj (zd.cons (zM wW (zM W4 (zM Qv jb))) (ZA)))
theorem zVf:Zu Tryz.prog To6:=Z5 mixed tabOk zTL ZO ZL 40
theorem jO:zP Tryz.prog 116 T6f:=zac (i:=⟨116,false,[(0,[0,21,22,23])]⟩) mixed tabOk zVf Tryz.func116 (by kernel_rfl) (by decide +kernel) T6r
theorem zVi:zd Tryz.prog Tb7:=zd.cons Y5 (zd.cons wj (zd.cons (zM wW (zM W4 (zM Qv (zM jb jO)))) (ZA)))
theorem zUj:Zu Tryz.prog To7:=Z5 mixed tabOk zVi ZO ZL 40
theorem zat:zP Tryz.prog 125 T7f:=ww (i:=⟨125,false,[]⟩) mixed tabOk zUj Tryz.func125 (by kernel_rfl) (by decide +kernel) T7r
theorem zU7:zd Tryz.prog Tb8:=zd.cons Y5 (zd.cons wj (zd.cons (zM wW (zM W4 (zM Qv (zM jb jO)))) (zd.cons zat (ZA))))
theorem zUw:Zu Tryz.prog To8:=Z5 mixed tabOk zU7 ZO ZL 40
theorem zbC:zP Tryz.prog 77 T8f:=ww (i:=⟨77,false,[(0,[5,8,10,13,79,80])]⟩) mixed tabOk zUw Tryz.func77 (by kernel_rfl) (by decide +kernel) T8r
theorem zT3:zd Tryz.prog Tb9:=zd.cons zbC (zd.cons Y5 (zd.cons wj (zd.cons (zM wW (zM W4 (zM Qv (zM jb jO)))) (zd.cons zat (ZA)))))
theorem zVb:Zu Tryz.prog To9:=Z5 mixed tabOk zT3 ZO ZL 40
theorem zc2:zP Tryz.prog 114 T9f:=ww (i:=⟨114,false,[(0,[8,28,29,30])]⟩) mixed tabOk zVb Tryz.func114 (by kernel_rfl) (by decide +kernel) T9r
theorem zTe:zd Tryz.prog zU9:=zd.cons zbC (zd.cons Y5 (zd.cons (zM wj zc2) (zd.cons (zM wW (zM W4 (zM Qv (zM jb jO)))) (zd.cons zat (ZA)))))
theorem zTu:Zu Tryz.prog zTY:=Z5 mixed tabOk zTe ZO ZL 40
theorem zcj:zP Tryz.prog 78 zhV:=ww (i:=⟨78,false,[]⟩) mixed tabOk zTu Tryz.func78 (by kernel_rfl) (by decide +kernel) zWh
theorem zS1:zd Tryz.prog zVa:=zd.cons zbC (zd.cons zcj (zd.cons Y5 (zd.cons (zM wj zc2) (zd.cons (zM wW (zM W4 (zM Qv (zM jb jO)))) (zd.cons zat (ZA))))))
theorem zTi:Zu Tryz.prog zTR:=Z5 mixed tabOk zS1 ZO ZL 40
theorem zeB:zP Tryz.prog 116 zm6:=zac (i:=⟨116,false,[(0,[0,21,22,23])]⟩) mixed tabOk zTi Tryz.func116 (by kernel_rfl) (by decide +kernel) zWt
theorem zS3:zd Tryz.prog zT4:=zd.cons zbC (zd.cons zcj (zd.cons Y5 (zd.cons (zM wj zc2) (zd.cons (zM wW (zM W4 (zM Qv (zM jb (zM jO zeB))))) (zd.cons zat (ZA))))))
theorem zSY:Zu Tryz.prog zUh:=Z5 mixed tabOk zS3 ZO ZL 40
theorem zis:zP Tryz.prog 43 ztF:=ww (i:=⟨43,false,[]⟩) mixed tabOk zSY Tryz.func43 (by kernel_rfl) (by decide +kernel) zWf
theorem zTl:zd Tryz.prog zUv:=zd.cons zis (zd.cons zbC (zd.cons zcj (zd.cons Y5 (zd.cons (zM wj zc2) (zd.cons (zM wW (zM W4 (zM Qv (zM jb (zM jO zeB))))) (zd.cons zat (ZA)))))))
theorem zTn:Zu Tryz.prog zVo:=Z5 mixed tabOk zTl ZO ZL 40
theorem zpb:zP Tryz.prog 18 zCr:=ww (i:=⟨18,false,[(0,[0,2,4,5,20,21])]⟩) mixed tabOk zTn Tryz.func18 (by kernel_rfl) (by decide +kernel) zWl
theorem zS7:zd Tryz.prog zT8:=zd.cons zpb (zd.cons zis (zd.cons zbC (zd.cons zcj (zd.cons Y5 (zd.cons (zM wj zc2) (zd.cons (zM wW (zM W4 (zM Qv (zM jb (zM jO zeB))))) (zd.cons zat (ZA))))))))
theorem zS2:Zu Tryz.prog zUH:=Z5 mixed tabOk zS7 ZO ZL 40
theorem zy0:zP Tryz.prog 9 zKw:=ww (i:=⟨9,false,[]⟩) mixed tabOk zS2 Tryz.func9 (by kernel_rfl) (by decide +kernel) zWp
theorem zSJ:zd Tryz.prog zTU:=zd.cons zy0 (zd.cons zpb (zd.cons zis (zd.cons zbC (zd.cons zcj (zd.cons Y5 (zd.cons (zM wj zc2) (zd.cons (zM wW (zM W4 (zM Qv (zM jb (zM jO zeB))))) (zd.cons zat (ZA)))))))))
theorem zS6:Zu Tryz.prog zUE:=Z5 mixed tabOk zSJ ZO ZL 40
theorem zO2:zP Tryz.prog 7 zP2:=ww (i:=⟨7,false,[(0,[0,2,4,5,6,8,51,52,53])]⟩) mixed tabOk zS6 Tryz.func7 (by kernel_rfl) (by decide +kernel) zWr
theorem zSO:zd Tryz.prog zUT:=zd.cons zO2 (zd.cons zy0 (zd.cons zpb (zd.cons zis (zd.cons zbC (zd.cons zcj (zd.cons Y5 (zd.cons (zM wj zc2) (zd.cons (zM wW (zM W4 (zM Qv (zM jb (zM jO zeB))))) (zd.cons zat (ZA))))))))))
theorem zSU:Zu Tryz.prog zTz:=Z5 mixed tabOk zSO ZO ZL 40
theorem zUc:zP Tryz.prog 10 zUm:=ww (i:=⟨10,true,[(0,[2,3,5]),(2,[2,3,6])]⟩) mixed tabOk zSU Tryz.func10 (by kernel_rfl) (by decide +kernel) zWi
theorem zTg:zd Tryz.prog zT9:=zd.cons zO2 (zd.cons zy0 (zd.cons zUc (zd.cons zpb (zd.cons zis (zd.cons zbC (zd.cons zcj (zd.cons Y5 (zd.cons (zM wj zc2) (zd.cons (zM wW (zM W4 (zM Qv (zM jb (zM jO zeB))))) (zd.cons zat (ZA)))))))))))
theorem zTo:Zu Tryz.prog zTO:=Z5 mixed tabOk zTg ZO ZL 40
abbrev ziU:=Unit
abbrev zB5:=Bool
def JV (_:ziU):Option zB5:=some true
def zqR (l:List AV):Option ziU:=match l with
  | []=>some ()
  | _=>none
def zjm:List AV→(AV→Ans)→Ans:=fun l K=>za (zqR l) fun a=>za (JV a) fun y=>K (.bool y)
theorem zpA:zV Tryz.prog 6 zjm :=
  zTs (i:=⟨6,true,[]⟩) mixed tabOk zTo Tryz.func6 (by kernel_rfl) (by decide +kernel) (v := .bool true) rfl (fun l K res h=>by
    cases l with
    | nil=>exact ⟨rfl,h⟩
    | cons _ _=>cases h) zWn
end Go.Proofs.R9
namespace Go.Proofs.R9
open Go Go.AE
set_option maxRecDepth 100000
--@ law43_DumpGets
--@ law43_DumpPuts
--@ law43_DumpSpoilt
noncomputable def Zp:Env:=[(6,.pure zjm),(7,.func Fq7),(9,.func Fq9),(12,.pure zT5)]
theorem yc:zd Tryz.prog Zp:=zd.cons zpA (zd.cons zU3 (zd.cons zUo (zd.cons zTf (zd.nil))))
noncomputable def zi4:Code:=Tryz.f4.body.getD .skip
noncomputable def zlk:Code:=zL [1,1,1,1,1,1,1,1,1,1,1,1,1,1,1,1,1,1,0] zi4
noncomputable def zqm:Ann := .none
theorem zxM:zr Tryz.prog 182 zlk zqm:=(zb _ _ _)
abbrev QH:=(Int)×(Int)×(List (List UInt8))×(Int)×(Int)×(Int)×(List (List UInt8))
abbrev zkY:=(Bool)
def zvf:QH→St:=fun (t9,t10,t14,t18,t20,t22,o0)=>{ env:=[(7,.own 0),(9,.int .i64 t9),(10,.int .i64 t10),(14,.ro .str t14),(18,.int .i64 t18),(20,.int .i64 t20),(22,.int .i64 t22)],stk:=[[]],H:=[.arr .str o0],blk:=16384 }
def zoU (s:St):Option {x:QH // s=zvf x}:=match s with
  | { env:=[(7,.own 0),(9,.int .i64 t9),(10,.int .i64 t10),(14,.ro .str t14),(18,.int .i64 t18),(20,.int .i64 t20),(22,.int .i64 t22)],stk:=[[]],H:=[.arr .str o0],blk:=16384 }=>some ⟨(t9,t10,t14,t18,t20,t22,o0),rfl⟩
  | _=>none
def zhd (s:St):Option QH:=pk (zoU s)
theorem zCW (s:St) (x:QH) (h:zhd s=some x):s=zvf x:=zx (o:=zoU s) h
def zhU:QH→(Ex→St→Ans)→zkY→Ans:=fun (t9,t10,t14,t18,t20,t22,o0) K=>fun t6_y=>K (Ex.norm) { env:=[(6,.bool t6_y)],stk:=[[]],H:=[],blk:=16384 }
def jU {β:Type}:QH→(zkY→Option β)→Option β:=fun (t9,t10,t14,t18,t20,t22,o0) exit=>(za (nth t14 t9) fun x=>(bif inR t9 (List.length o0) then (za (o0[Int.toNat t9]?) fun x_2=>(bif (t18 == (0:Int)) == (x == x_2) then (bif t20 != (0:Int) then (bif inR t9 (List.length o0) then (za (o0[Int.toNat t9]?) fun x_3=>(bif inR t10 (List.length o0) then (za (o0[Int.toNat t10]?) fun x_4=>(exit ((t22 == (0:Int)) == (x_3 == x_4)))) else none)) else none) else (exit (false))) else (exit (false)))) else none))
def WR (i:QH):Option zkY:=jU i some
theorem ztX (i:QH) (k:zkY→Ans):jU i k=za (WR i) k:=by
  obtain ⟨t9,t10,t14,t18,t20,t22,o0⟩:=i
  simp only [WR,jU,zj,zg,zl,zc,zi,zm,zh]
theorem zyb (i:QH) (K:Ex→St→Ans):zA Tryz.tab Zp zf (zD Tryz.tab Zp zf 0 64) 70 182 zqm zlk (zH 0 (exk [6] [6] []) K) (zvf i)=jU i (zhU i K):=by kernel_rfl
theorem zD8:zy Tryz.prog 182 zlk (zG zhd WR zhU):=zB mixed tabOk yc 0 (exk [6] [6] []) zxM zCW zyb ztX
noncomputable def zGl:(Ex→St→Ans)→St→Ans:=(zG zhd WR zhU)
theorem zH2:zy Tryz.prog 182 zlk zGl:=zD8
noncomputable def YJ:Code:=zL [1,1,1,1,1,1,1,1,1,0,1,0,0,0,0] zi4
noncomputable def QM:Ann := .none
theorem Wd:zr Tryz.prog 182 YJ QM:=(zb _ _ _)
abbrev QF:=(Int)×(Int)×(Int)×(Int)×(Int)×(Int)×(Int)×(List (List UInt8))×(List Int)
abbrev zjJ:=(Bool)
def ztO:QF→St:=fun (t9,t10,t12,o0_0,o0_1,o0_2,o0_3,o1,o2)=>{ env:=[(5,.ptr 0 0),(7,.own 1),(9,.int .i64 t9),(10,.int .i64 t10),(11,.own 2),(12,.int .i64 t12),(13,.int .i64 (0))],stk:=[[]],H:=[.cells [.int .u8 o0_0,.int .u8 o0_1,.int .u8 o0_2,.int .u8 o0_3],.arr .str o1,.arr (.int .u8) o2],blk:=16384 }
def zpC (s:St):Option {x:QF // s=ztO x}:=match s with
  | { env:=[(5,.ptr 0 0),(7,.own 1),(9,.int .i64 t9),(10,.int .i64 t10),(11,.own 2),(12,.int .i64 t12),(13,.int .i64 r3)],stk:=[[]],H:=[.cells [.int .u8 o0_0,.int .u8 o0_1,.int .u8 o0_2,.int .u8 o0_3],.arr .str o1,.arr (.int .u8) o2],blk:=16384 }=>if h3:r3=0 then some ⟨(t9,t10,t12,o0_0,o0_1,o0_2,o0_3,o1,o2),by subst h3;rfl⟩ else none
  | _=>none
def zc9 (s:St):Option QF:=pk (zpC s)
theorem zAD (s:St) (x:QF) (h:zc9 s=some x):s=ztO x:=zx (o:=zpC s) h
def ziF:QF→(Ex→St→Ans)→zjJ→Ans:=fun (t9,t10,t12,o0_0,o0_1,o0_2,o0_3,o1,o2) K=>fun t84_y=>K (Ex.norm) { env:=[(5,.ptr 0 0),(7,.own 1),(9,.int .i64 t9),(10,.int .i64 t10),(11,.own 2),(12,.int .i64 t12),(13,.int .i64 (0)),(84,.bool t84_y)],stk:=[[]],H:=[.cells [.int .u8 o0_0,.int .u8 o0_1,.int .u8 o0_2,.int .u8 o0_3],.arr .str o1,.arr (.int .u8) o2],blk:=16384 }
def j2 {β:Type}:QF→(zjJ→Option β)→Option β:=fun (t9,t10,t12,o0_0,o0_1,o0_2,o0_3,o1,o2) exit=>(exit (decide (IntKind.wrap .i64 (t12+(0:Int))<(↑(List.length o2):Int))))
def Wx (i:QF):Option zjJ:=j2 i some
theorem ztE (i:QF) (k:zjJ→Ans):j2 i k=za (Wx i) k:=by
  obtain ⟨t9,t10,t12,o0_0,o0_1,o0_2,o0_3,o1,o2⟩:=i
  simp only [Wx,j2,zj,zg,zl,zc,zi,zm,zh]
theorem zxL (i:QF) (K:Ex→St→Ans):zA Tryz.tab Zp zf (zD Tryz.tab Zp zf 0 64) 70 182 QM YJ (zH 0 (exk [5,7,9,10,11,12,13,84] [6] []) K) (ztO i)=j2 i (ziF i K):=by kernel_rfl
theorem zDf:zy Tryz.prog 182 YJ (zG zc9 Wx ziF):=zB mixed tabOk yc 0 (exk [5,7,9,10,11,12,13,84] [6] []) Wd zAD zxL ztE
abbrev YP:=(Int)×(Int)×(Int)×(Int)×(Int)×(Int)×(Int)×(List (List UInt8))×(List Int)
abbrev zdd:=(Bool)
def zib:YP→St:=fun (t9,t10,t12,o0_0,o0_1,o0_2,o0_3,o1,o2)=>{ env:=[(5,.ptr 0 0),(7,.own 1),(9,.int .i64 t9),(10,.int .i64 t10),(11,.own 2),(12,.int .i64 t12),(13,.int .i64 (1))],stk:=[[]],H:=[.cells [.int .u8 o0_0,.int .u8 o0_1,.int .u8 o0_2,.int .u8 o0_3],.arr .str o1,.arr (.int .u8) o2],blk:=16384 }
def zhy (s:St):Option {x:YP // s=zib x}:=match s with
  | { env:=[(5,.ptr 0 0),(7,.own 1),(9,.int .i64 t9),(10,.int .i64 t10),(11,.own 2),(12,.int .i64 t12),(13,.int .i64 r3)],stk:=[[]],H:=[.cells [.int .u8 o0_0,.int .u8 o0_1,.int .u8 o0_2,.int .u8 o0_3],.arr .str o1,.arr (.int .u8) o2],blk:=16384 }=>if h3:r3=1 then some ⟨(t9,t10,t12,o0_0,o0_1,o0_2,o0_3,o1,o2),by subst h3;rfl⟩ else none
  | _=>none
def zaq (s:St):Option YP:=pk (zhy s)
theorem zs1 (s:St) (x:YP) (h:zaq s=some x):s=zib x:=zx (o:=zhy s) h
def zdE:YP→(Ex→St→Ans)→zdd→Ans:=fun (t9,t10,t12,o0_0,o0_1,o0_2,o0_3,o1,o2) K=>fun t84_y=>K (Ex.norm) { env:=[(5,.ptr 0 0),(7,.own 1),(9,.int .i64 t9),(10,.int .i64 t10),(11,.own 2),(12,.int .i64 t12),(13,.int .i64 (1)),(84,.bool t84_y)],stk:=[[]],H:=[.cells [.int .u8 o0_0,.int .u8 o0_1,.int .u8 o0_2,.int .u8 o0_3],.arr .str o1,.arr (.int .u8) o2],blk:=16384 }
def qc {β:Type}:YP→(zdd→Option β)→Option β:=fun (t9,t10,t12,o0_0,o0_1,o0_2,o0_3,o1,o2) exit=>(exit (decide (IntKind.wrap .i64 (t12+(1:Int))<(↑(List.length o2):Int))))
def YK (i:YP):Option zdd:=qc i some
theorem zm2 (i:YP) (k:zdd→Ans):qc i k=za (YK i) k:=by
  obtain ⟨t9,t10,t12,o0_0,o0_1,o0_2,o0_3,o1,o2⟩:=i
  simp only [YK,qc,zj,zg,zl,zc,zi,zm,zh]
theorem zp9 (i:YP) (K:Ex→St→Ans):zA Tryz.tab Zp zf (zD Tryz.tab Zp zf 0 64) 70 182 QM YJ (zH 0 (exk [5,7,9,10,11,12,13,84] [6] []) K) (zib i)=qc i (zdE i K):=by kernel_rfl
theorem zxF:zy Tryz.prog 182 YJ (zG zaq YK zdE):=zB mixed tabOk yc 0 (exk [5,7,9,10,11,12,13,84] [6] []) Wd zs1 zp9 zm2
abbrev YM:=(Int)×(Int)×(Int)×(Int)×(Int)×(Int)×(Int)×(List (List UInt8))×(List Int)
abbrev zdk:=(Bool)
def ziI:YM→St:=fun (t9,t10,t12,o0_0,o0_1,o0_2,o0_3,o1,o2)=>{ env:=[(5,.ptr 0 0),(7,.own 1),(9,.int .i64 t9),(10,.int .i64 t10),(11,.own 2),(12,.int .i64 t12),(13,.int .i64 (2))],stk:=[[]],H:=[.cells [.int .u8 o0_0,.int .u8 o0_1,.int .u8 o0_2,.int .u8 o0_3],.arr .str o1,.arr (.int .u8) o2],blk:=16384 }
def zgD (s:St):Option {x:YM // s=ziI x}:=match s with
  | { env:=[(5,.ptr 0 0),(7,.own 1),(9,.int .i64 t9),(10,.int .i64 t10),(11,.own 2),(12,.int .i64 t12),(13,.int .i64 r3)],stk:=[[]],H:=[.cells [.int .u8 o0_0,.int .u8 o0_1,.int .u8 o0_2,.int .u8 o0_3],.arr .str o1,.arr (.int .u8) o2],blk:=16384 }=>if h3:r3=2 then some ⟨(t9,t10,t12,o0_0,o0_1,o0_2,o0_3,o1,o2),by subst h3;rfl⟩ else none
  | _=>none
def zas (s:St):Option YM:=pk (zgD s)
theorem ztT (s:St) (x:YM) (h:zas s=some x):s=ziI x:=zx (o:=zgD s) h
def zd3:YM→(Ex→St→Ans)→zdk→Ans:=fun (t9,t10,t12,o0_0,o0_1,o0_2,o0_3,o1,o2) K=>fun t84_y=>K (Ex.norm) { env:=[(5,.ptr 0 0),(7,.own 1),(9,.int .i64 t9),(10,.int .i64 t10),(11,.own 2),(12,.int .i64 t12),(13,.int .i64 (2)),(84,.bool t84_y)],stk:=[[]],H:=[.cells [.int .u8 o0_0,.int .u8 o0_1,.int .u8 o0_2,.int .u8 o0_3],.arr .str o1,.arr (.int .u8) o2],blk:=16384 }
def qu {β:Type}:YM→(zdk→Option β)→Option β:=fun (t9,t10,t12,o0_0,o0_1,o0_2,o0_3,o1,o2) exit=>(exit (decide (IntKind.wrap .i64 (t12+(2:Int))<(↑(List.length o2):Int))))
def YC (i:YM):Option zdk:=qu i some
theorem zns (i:YM) (k:zdk→Ans):qu i k=za (YC i) k:=by
  obtain ⟨t9,t10,t12,o0_0,o0_1,o0_2,o0_3,o1,o2⟩:=i
  simp only [YC,qu,zj,zg,zl,zc,zi,zm,zh]
theorem zpU (i:YM) (K:Ex→St→Ans):zA Tryz.tab Zp zf (zD Tryz.tab Zp zf 0 64) 70 182 QM YJ (zH 0 (exk [5,7,9,10,11,12,13,84] [6] []) K) (ziI i)=qu i (zd3 i K):=by kernel_rfl
theorem zwm:zy Tryz.prog 182 YJ (zG zas YC zd3):=zB mixed tabOk yc 0 (exk [5,7,9,10,11,12,13,84] [6] []) Wd ztT zpU zns
abbrev YL:=(Int)×(Int)×(Int)×(Int)×(Int)×(Int)×(Int)×(List (List UInt8))×(List Int)
abbrev zdb:=(Bool)
def zh6:YL→St:=fun (t9,t10,t12,o0_0,o0_1,o0_2,o0_3,o1,o2)=>{ env:=[(5,.ptr 0 0),(7,.own 1),(9,.int .i64 t9),(10,.int .i64 t10),(11,.own 2),(12,.int .i64 t12),(13,.int .i64 (3))],stk:=[[]],H:=[.cells [.int .u8 o0_0,.int .u8 o0_1,.int .u8 o0_2,.int .u8 o0_3],.arr .str o1,.arr (.int .u8) o2],blk:=16384 }
def ziu (s:St):Option {x:YL // s=zh6 x}:=match s with
  | { env:=[(5,.ptr 0 0),(7,.own 1),(9,.int .i64 t9),(10,.int .i64 t10),(11,.own 2),(12,.int .i64 t12),(13,.int .i64 r3)],stk:=[[]],H:=[.cells [.int .u8 o0_0,.int .u8 o0_1,.int .u8 o0_2,.int .u8 o0_3],.arr .str o1,.arr (.int .u8) o2],blk:=16384 }=>if h3:r3=3 then some ⟨(t9,t10,t12,o0_0,o0_1,o0_2,o0_3,o1,o2),by subst h3;rfl⟩ else none
  | _=>none
def zaj (s:St):Option YL:=pk (ziu s)
theorem zrZ (s:St) (x:YL) (h:zaj s=some x):s=zh6 x:=zx (o:=ziu s) h
def zdW:YL→(Ex→St→Ans)→zdb→Ans:=fun (t9,t10,t12,o0_0,o0_1,o0_2,o0_3,o1,o2) K=>fun t84_y=>K (Ex.norm) { env:=[(5,.ptr 0 0),(7,.own 1),(9,.int .i64 t9),(10,.int .i64 t10),(11,.own 2),(12,.int .i64 t12),(13,.int .i64 (3)),(84,.bool t84_y)],stk:=[[]],H:=[.cells [.int .u8 o0_0,.int .u8 o0_1,.int .u8 o0_2,.int .u8 o0_3],.arr .str o1,.arr (.int .u8) o2],blk:=16384 }
def qo {β:Type}:YL→(zdb→Option β)→Option β:=fun (t9,t10,t12,o0_0,o0_1,o0_2,o0_3,o1,o2) exit=>(exit (decide (IntKind.wrap .i64 (t12+(3:Int))<(↑(List.length o2):Int))))
def YF (i:YL):Option zdb:=qo i some
theorem zmJ (i:YL) (k:zdb→Ans):qo i k=za (YF i) k:=by
  obtain ⟨t9,t10,t12,o0_0,o0_1,o0_2,o0_3,o1,o2⟩:=i
  simp only [YF,qo,zj,zg,zl,zc,zi,zm,zh]
theorem zrF (i:YL) (K:Ex→St→Ans):zA Tryz.tab Zp zf (zD Tryz.tab Zp zf 0 64) 70 182 QM YJ (zH 0 (exk [5,7,9,10,11,12,13,84] [6] []) K) (zh6 i)=qo i (zdW i K):=by kernel_rfl
theorem zwz:zy Tryz.prog 182 YJ (zG zaj YF zdW):=zB mixed tabOk yc 0 (exk [5,7,9,10,11,12,13,84] [6] []) Wd zrZ zrF zmJ
abbrev Y1:=(Int)×(Int)×(Int)×(Int)×(Int)×(Int)×(Int)×(List (List UInt8))×(List Int)
abbrev zdi:=Unit
def zih:Y1→St:=fun (t9,t10,t12,o0_0,o0_1,o0_2,o0_3,o1,o2)=>{ env:=[(5,.ptr 0 0),(7,.own 1),(9,.int .i64 t9),(10,.int .i64 t10),(11,.own 2),(12,.int .i64 t12),(13,.int .i64 (4))],stk:=[[]],H:=[.cells [.int .u8 o0_0,.int .u8 o0_1,.int .u8 o0_2,.int .u8 o0_3],.arr .str o1,.arr (.int .u8) o2],blk:=16384 }
def ziD (s:St):Option {x:Y1 // s=zih x}:=match s with
  | { env:=[(5,.ptr 0 0),(7,.own 1),(9,.int .i64 t9),(10,.int .i64 t10),(11,.own 2),(12,.int .i64 t12),(13,.int .i64 r3)],stk:=[[]],H:=[.cells [.int .u8 o0_0,.int .u8 o0_1,.int .u8 o0_2,.int .u8 o0_3],.arr .str o1,.arr (.int .u8) o2],blk:=16384 }=>if h3:r3=4 then some ⟨(t9,t10,t12,o0_0,o0_1,o0_2,o0_3,o1,o2),by subst h3;rfl⟩ else none
  | _=>none
def zdY (s:St):Option Y1:=pk (ziD s)
theorem ztf (s:St) (x:Y1) (h:zdY s=some x):s=zih x:=zx (o:=ziD s) h
def zdS:Y1→(Ex→St→Ans)→zdi→Ans:=fun (t9,t10,t12,o0_0,o0_1,o0_2,o0_3,o1,o2) K=>fun _=>K (Ex.norm) { env:=[(5,.ptr 0 0),(7,.own 1),(9,.int .i64 t9),(10,.int .i64 t10),(11,.own 2),(12,.int .i64 t12),(13,.int .i64 (4)),(84,.bool (false))],stk:=[[]],H:=[.cells [.int .u8 o0_0,.int .u8 o0_1,.int .u8 o0_2,.int .u8 o0_3],.arr .str o1,.arr (.int .u8) o2],blk:=16384 }
def JC {β:Type}:Y1→(zdi→Option β)→Option β:=fun (t9,t10,t12,o0_0,o0_1,o0_2,o0_3,o1,o2) exit=>(exit ())
def Wg (i:Y1):Option zdi:=JC i some
theorem znA (i:Y1) (k:zdi→Ans):JC i k=za (Wg i) k:=by
  obtain ⟨t9,t10,t12,o0_0,o0_1,o0_2,o0_3,o1,o2⟩:=i
  simp only [Wg,JC,zj,zg,zl,zc,zi,zm,zh]
theorem zri (i:Y1) (K:Ex→St→Ans):zA Tryz.tab Zp zf (zD Tryz.tab Zp zf 0 64) 70 182 QM YJ (zH 0 (exk [5,7,9,10,11,12,13,84] [6] []) K) (zih i)=JC i (zdS i K):=by kernel_rfl
theorem zwF:zy Tryz.prog 182 YJ (zG zdY Wg zdS):=zB mixed tabOk yc 0 (exk [5,7,9,10,11,12,13,84] [6] []) Wd ztf zri znA
noncomputable def zGS:(Ex→St→Ans)→St→Ans:=(ji zc9 (zG zc9 Wx ziF) (ji zaq (zG zaq YK zdE) (ji zas (zG zas YC zd3) (ji zaj (zG zaj YF zdW) (zG zdY Wg zdS)))))
theorem zIl:zy Tryz.prog 182 YJ zGS:=(yd zDf (yd zxF (yd zwm (yd zwz zwF))))
noncomputable def YH:Code:=zL [1,1,1,1,1,1,1,1,1,0,1,0,0] zi4
noncomputable def Qg:Ann:=(.seq (.seq (.cut 0 [5,7,9,10,11,12,13] zGS) .none) .none)
theorem w7:zr Tryz.prog 182 YH Qg:=⟨⟨zIl,(zb _ _ _)⟩,(zb _ _ _)⟩
abbrev q2:=(Int)×(Int)×(Int)×(Int)×(Int)×(Int)×(Int)×(List (List UInt8))×(List Int)
abbrev zlL:=((List Int)) ⊕ (Unit)
def zt3:q2→St:=fun (t9,t10,t12,o0_0,o0_1,o0_2,o0_3,o1,o2)=>{ env:=[(5,.ptr 0 0),(7,.own 1),(9,.int .i64 t9),(10,.int .i64 t10),(11,.own 2),(12,.int .i64 t12),(13,.int .i64 (0))],stk:=[[]],H:=[.cells [.int .u8 o0_0,.int .u8 o0_1,.int .u8 o0_2,.int .u8 o0_3],.arr .str o1,.arr (.int .u8) o2],blk:=16384 }
def zn1 (s:St):Option {x:q2 // s=zt3 x}:=match s with
  | { env:=[(5,.ptr 0 0),(7,.own 1),(9,.int .i64 t9),(10,.int .i64 t10),(11,.own 2),(12,.int .i64 t12),(13,.int .i64 r3)],stk:=[[]],H:=[.cells [.int .u8 o0_0,.int .u8 o0_1,.int .u8 o0_2,.int .u8 o0_3],.arr .str o1,.arr (.int .u8) o2],blk:=16384 }=>if h3:r3=0 then some ⟨(t9,t10,t12,o0_0,o0_1,o0_2,o0_3,o1,o2),by subst h3;rfl⟩ else none
  | _=>none
def zde (s:St):Option q2:=pk (zn1 s)
theorem zBP (s:St) (x:q2) (h:zde s=some x):s=zt3 x:=zx (o:=zn1 s) h
def zi0:q2→(Ex→St→Ans)→zlL→Ans:=fun (t9,t10,t12,o0_0,o0_1,o0_2,o0_3,o1,o2) K=>(Sum.elim (fun o2_y=>K (Ex.norm) { env:=[(5,.ptr 0 0),(7,.own 1),(9,.int .i64 t9),(10,.int .i64 t10),(11,.own 2),(12,.int .i64 t12),(13,.int .i64 (1))],stk:=[[]],H:=[.cells [.int .u8 o0_0,.int .u8 o0_1,.int .u8 o0_2,.int .u8 o0_3],.arr .str o1,.arr (.int .u8) o2_y],blk:=16385 }) (fun _=>K (Ex.exit 0) { env:=[(7,.own 0),(9,.int .i64 t9),(10,.int .i64 t10),(11,.own 1)],stk:=[[]],H:=[.arr .str o1,.arr (.int .u8) o2],blk:=16384 }))
def Js {β:Type}:q2→(zlL→Option β)→Option β:=fun (t9,t10,t12,o0_0,o0_1,o0_2,o0_3,o1,o2) exit=>(za (Wx (t9,t10,t12,o0_0,o0_1,o0_2,o0_3,o1,o2)) fun t84=>(bif t84 then (bif inR (IntKind.wrap .i64 (t12+(0:Int))) (List.length o2) then (za (o2[Int.toNat (IntKind.wrap .i64 (t12+(0:Int)))]?) fun x=>(bif inR (IntKind.wrap .i64 (t12+(0:Int))) (List.length o2) then (za (o2[Int.toNat (IntKind.wrap .i64 (t12+(0:Int)))]?) fun x_2=>(exit (Sum.inl (List.set o2 (Int.toNat (IntKind.wrap .i64 (t12+(0:Int)))) (IntKind.wrap .u8 (↑(Int.toNat (x % (256:Int)) ^^^ Int.toNat (o0_0 % (256:Int))):Int)))))) else none)) else none) else (exit (Sum.inr ()))))
def Y8 (i:q2):Option zlL:=Js i some
theorem zsp (i:q2) (k:zlL→Ans):Js i k=za (Y8 i) k:=by
  obtain ⟨t9,t10,t12,o0_0,o0_1,o0_2,o0_3,o1,o2⟩:=i
  simp only [Y8,Js,zj,zg,zl,zc,zi,zm,zh]
theorem zxT (i:q2) (K:Ex→St→Ans):zA Tryz.tab Zp zf (zD Tryz.tab Zp zf 0 64) 70 182 Qg YH (zH 0 (exk [5,7,9,10,11,12,13] [6] [(0,[7,9,10,11])]) K) (zt3 i)=Js i (zi0 i K):=by kernel_rfl
theorem zDQ:zy Tryz.prog 182 YH (zG zde Y8 zi0):=zB mixed tabOk yc 0 (exk [5,7,9,10,11,12,13] [6] [(0,[7,9,10,11])]) w7 zBP zxT zsp
abbrev Y6:=(Int)×(Int)×(Int)×(Int)×(Int)×(Int)×(Int)×(List (List UInt8))×(List Int)
abbrev zds:=((List Int)) ⊕ (Unit)
def zgP:Y6→St:=fun (t9,t10,t12,o0_0,o0_1,o0_2,o0_3,o1,o2)=>{ env:=[(5,.ptr 0 0),(7,.own 1),(9,.int .i64 t9),(10,.int .i64 t10),(11,.own 2),(12,.int .i64 t12),(13,.int .i64 (1))],stk:=[[]],H:=[.cells [.int .u8 o0_0,.int .u8 o0_1,.int .u8 o0_2,.int .u8 o0_3],.arr .str o1,.arr (.int .u8) o2],blk:=16384 }
def zhO (s:St):Option {x:Y6 // s=zgP x}:=match s with
  | { env:=[(5,.ptr 0 0),(7,.own 1),(9,.int .i64 t9),(10,.int .i64 t10),(11,.own 2),(12,.int .i64 t12),(13,.int .i64 r3)],stk:=[[]],H:=[.cells [.int .u8 o0_0,.int .u8 o0_1,.int .u8 o0_2,.int .u8 o0_3],.arr .str o1,.arr (.int .u8) o2],blk:=16384 }=>if h3:r3=1 then some ⟨(t9,t10,t12,o0_0,o0_1,o0_2,o0_3,o1,o2),by subst h3;rfl⟩ else none
  | _=>none
def zak (s:St):Option Y6:=pk (zhO s)
theorem ztY (s:St) (x:Y6) (h:zak s=some x):s=zgP x:=zx (o:=zhO s) h
def zdN:Y6→(Ex→St→Ans)→zds→Ans:=fun (t9,t10,t12,o0_0,o0_1,o0_2,o0_3,o1,o2) K=>(Sum.elim (fun o2_y=>K (Ex.norm) { env:=[(5,.ptr 0 0),(7,.own 1),(9,.int .i64 t9),(10,.int .i64 t10),(11,.own 2),(12,.int .i64 t12),(13,.int .i64 (2))],stk:=[[]],H:=[.cells [.int .u8 o0_0,.int .u8 o0_1,.int .u8 o0_2,.int .u8 o0_3],.arr .str o1,.arr (.int .u8) o2_y],blk:=16385 }) (fun _=>K (Ex.exit 0) { env:=[(7,.own 0),(9,.int .i64 t9),(10,.int .i64 t10),(11,.own 1)],stk:=[[]],H:=[.arr .str o1,.arr (.int .u8) o2],blk:=16384 }))
def qd {β:Type}:Y6→(zds→Option β)→Option β:=fun (t9,t10,t12,o0_0,o0_1,o0_2,o0_3,o1,o2) exit=>(za (YK (t9,t10,t12,o0_0,o0_1,o0_2,o0_3,o1,o2)) fun t84=>(bif t84 then (bif inR (IntKind.wrap .i64 (t12+(1:Int))) (List.length o2) then (za (o2[Int.toNat (IntKind.wrap .i64 (t12+(1:Int)))]?) fun x=>(bif inR (IntKind.wrap .i64 (t12+(1:Int))) (List.length o2) then (za (o2[Int.toNat (IntKind.wrap .i64 (t12+(1:Int)))]?) fun x_2=>(exit (Sum.inl (List.set o2 (Int.toNat (IntKind.wrap .i64 (t12+(1:Int)))) (IntKind.wrap .u8 (↑(Int.toNat (x % (256:Int)) ^^^ Int.toNat (o0_1 % (256:Int))):Int)))))) else none)) else none) else (exit (Sum.inr ()))))
def yX (i:Y6):Option zds:=qd i some
theorem znU (i:Y6) (k:zds→Ans):qd i k=za (yX i) k:=by
  obtain ⟨t9,t10,t12,o0_0,o0_1,o0_2,o0_3,o1,o2⟩:=i
  simp only [yX,qd,zj,zg,zl,zc,zi,zm,zh]
theorem zo6 (i:Y6) (K:Ex→St→Ans):zA Tryz.tab Zp zf (zD Tryz.tab Zp zf 0 64) 70 182 Qg YH (zH 0 (exk [5,7,9,10,11,12,13] [6] [(0,[7,9,10,11])]) K) (zgP i)=qd i (zdN i K):=by kernel_rfl
theorem zx7:zy Tryz.prog 182 YH (zG zak yX zdN):=zB mixed tabOk yc 0 (exk [5,7,9,10,11,12,13] [6] [(0,[7,9,10,11])]) w7 ztY zo6 znU
abbrev YR:=(Int)×(Int)×(Int)×(Int)×(Int)×(Int)×(Int)×(List (List UInt8))×(List Int)
abbrev zdm:=((List Int)) ⊕ (Unit)
def zjo:YR→St:=fun (t9,t10,t12,o0_0,o0_1,o0_2,o0_3,o1,o2)=>{ env:=[(5,.ptr 0 0),(7,.own 1),(9,.int .i64 t9),(10,.int .i64 t10),(11,.own 2),(12,.int .i64 t12),(13,.int .i64 (2))],stk:=[[]],H:=[.cells [.int .u8 o0_0,.int .u8 o0_1,.int .u8 o0_2,.int .u8 o0_3],.arr .str o1,.arr (.int .u8) o2],blk:=16384 }
def zht (s:St):Option {x:YR // s=zjo x}:=match s with
  | { env:=[(5,.ptr 0 0),(7,.own 1),(9,.int .i64 t9),(10,.int .i64 t10),(11,.own 2),(12,.int .i64 t12),(13,.int .i64 r3)],stk:=[[]],H:=[.cells [.int .u8 o0_0,.int .u8 o0_1,.int .u8 o0_2,.int .u8 o0_3],.arr .str o1,.arr (.int .u8) o2],blk:=16384 }=>if h3:r3=2 then some ⟨(t9,t10,t12,o0_0,o0_1,o0_2,o0_3,o1,o2),by subst h3;rfl⟩ else none
  | _=>none
def zay (s:St):Option YR:=pk (zht s)
theorem zuw (s:St) (x:YR) (h:zay s=some x):s=zjo x:=zx (o:=zht s) h
def zdG:YR→(Ex→St→Ans)→zdm→Ans:=fun (t9,t10,t12,o0_0,o0_1,o0_2,o0_3,o1,o2) K=>(Sum.elim (fun o2_y=>K (Ex.norm) { env:=[(5,.ptr 0 0),(7,.own 1),(9,.int .i64 t9),(10,.int .i64 t10),(11,.own 2),(12,.int .i64 t12),(13,.int .i64 (3))],stk:=[[]],H:=[.cells [.int .u8 o0_0,.int .u8 o0_1,.int .u8 o0_2,.int .u8 o0_3],.arr .str o1,.arr (.int .u8) o2_y],blk:=16385 }) (fun _=>K (Ex.exit 0) { env:=[(7,.own 0),(9,.int .i64 t9),(10,.int .i64 t10),(11,.own 1)],stk:=[[]],H:=[.arr .str o1,.arr (.int .u8) o2],blk:=16384 }))
def qs {β:Type}:YR→(zdm→Option β)→Option β:=fun (t9,t10,t12,o0_0,o0_1,o0_2,o0_3,o1,o2) exit=>(za (YC (t9,t10,t12,o0_0,o0_1,o0_2,o0_3,o1,o2)) fun t84=>(bif t84 then (bif inR (IntKind.wrap .i64 (t12+(2:Int))) (List.length o2) then (za (o2[Int.toNat (IntKind.wrap .i64 (t12+(2:Int)))]?) fun x=>(bif inR (IntKind.wrap .i64 (t12+(2:Int))) (List.length o2) then (za (o2[Int.toNat (IntKind.wrap .i64 (t12+(2:Int)))]?) fun x_2=>(exit (Sum.inl (List.set o2 (Int.toNat (IntKind.wrap .i64 (t12+(2:Int)))) (IntKind.wrap .u8 (↑(Int.toNat (x % (256:Int)) ^^^ Int.toNat (o0_2 % (256:Int))):Int)))))) else none)) else none) else (exit (Sum.inr ()))))
def yZ (i:YR):Option zdm:=qs i some
theorem znj (i:YR) (k:zdm→Ans):qs i k=za (yZ i) k:=by
  obtain ⟨t9,t10,t12,o0_0,o0_1,o0_2,o0_3,o1,o2⟩:=i
  simp only [yZ,qs,zj,zg,zl,zc,zi,zm,zh]
theorem zpH (i:YR) (K:Ex→St→Ans):zA Tryz.tab Zp zf (zD Tryz.tab Zp zf 0 64) 70 182 Qg YH (zH 0 (exk [5,7,9,10,11,12,13] [6] [(0,[7,9,10,11])]) K) (zjo i)=qs i (zdG i K):=by kernel_rfl
theorem zw5:zy Tryz.prog 182 YH (zG zay yZ zdG):=zB mixed tabOk yc 0 (exk [5,7,9,10,11,12,13] [6] [(0,[7,9,10,11])]) w7 zuw zpH znj
abbrev YX:=(Int)×(Int)×(Int)×(Int)×(Int)×(Int)×(Int)×(List (List UInt8))×(List Int)
abbrev zdh:=((List Int)) ⊕ (Unit)
def zic:YX→St:=fun (t9,t10,t12,o0_0,o0_1,o0_2,o0_3,o1,o2)=>{ env:=[(5,.ptr 0 0),(7,.own 1),(9,.int .i64 t9),(10,.int .i64 t10),(11,.own 2),(12,.int .i64 t12),(13,.int .i64 (3))],stk:=[[]],H:=[.cells [.int .u8 o0_0,.int .u8 o0_1,.int .u8 o0_2,.int .u8 o0_3],.arr .str o1,.arr (.int .u8) o2],blk:=16384 }
def ziP (s:St):Option {x:YX // s=zic x}:=match s with
  | { env:=[(5,.ptr 0 0),(7,.own 1),(9,.int .i64 t9),(10,.int .i64 t10),(11,.own 2),(12,.int .i64 t12),(13,.int .i64 r3)],stk:=[[]],H:=[.cells [.int .u8 o0_0,.int .u8 o0_1,.int .u8 o0_2,.int .u8 o0_3],.arr .str o1,.arr (.int .u8) o2],blk:=16384 }=>if h3:r3=3 then some ⟨(t9,t10,t12,o0_0,o0_1,o0_2,o0_3,o1,o2),by subst h3;rfl⟩ else none
  | _=>none
def zav (s:St):Option YX:=pk (ziP s)
theorem ztx (s:St) (x:YX) (h:zav s=some x):s=zic x:=zx (o:=ziP s) h
def zd4:YX→(Ex→St→Ans)→zdh→Ans:=fun (t9,t10,t12,o0_0,o0_1,o0_2,o0_3,o1,o2) K=>(Sum.elim (fun o2_y=>K (Ex.norm) { env:=[(5,.ptr 0 0),(7,.own 1),(9,.int .i64 t9),(10,.int .i64 t10),(11,.own 2),(12,.int .i64 t12),(13,.int .i64 (4))],stk:=[[]],H:=[.cells [.int .u8 o0_0,.int .u8 o0_1,.int .u8 o0_2,.int .u8 o0_3],.arr .str o1,.arr (.int .u8) o2_y],blk:=16385 }) (fun _=>K (Ex.exit 0) { env:=[(7,.own 0),(9,.int .i64 t9),(10,.int .i64 t10),(11,.own 1)],stk:=[[]],H:=[.arr .str o1,.arr (.int .u8) o2],blk:=16384 }))
def qC {β:Type}:YX→(zdh→Option β)→Option β:=fun (t9,t10,t12,o0_0,o0_1,o0_2,o0_3,o1,o2) exit=>(za (YF (t9,t10,t12,o0_0,o0_1,o0_2,o0_3,o1,o2)) fun t84=>(bif t84 then (bif inR (IntKind.wrap .i64 (t12+(3:Int))) (List.length o2) then (za (o2[Int.toNat (IntKind.wrap .i64 (t12+(3:Int)))]?) fun x=>(bif inR (IntKind.wrap .i64 (t12+(3:Int))) (List.length o2) then (za (o2[Int.toNat (IntKind.wrap .i64 (t12+(3:Int)))]?) fun x_2=>(exit (Sum.inl (List.set o2 (Int.toNat (IntKind.wrap .i64 (t12+(3:Int)))) (IntKind.wrap .u8 (↑(Int.toNat (x % (256:Int)) ^^^ Int.toNat (o0_3 % (256:Int))):Int)))))) else none)) else none) else (exit (Sum.inr ()))))
def yY (i:YX):Option zdh:=qC i some
theorem zmD (i:YX) (k:zdh→Ans):qC i k=za (yY i) k:=by
  obtain ⟨t9,t10,t12,o0_0,o0_1,o0_2,o0_3,o1,o2⟩:=i
  simp only [yY,qC,zj,zg,zl,zc,zi,zm,zh]
theorem zqH (i:YX) (K:Ex→St→Ans):zA Tryz.tab Zp zf (zD Tryz.tab Zp zf 0 64) 70 182 Qg YH (zH 0 (exk [5,7,9,10,11,12,13] [6] [(0,[7,9,10,11])]) K) (zic i)=qC i (zd4 i K):=by kernel_rfl
theorem zws:zy Tryz.prog 182 YH (zG zav yY zd4):=zB mixed tabOk yc 0 (exk [5,7,9,10,11,12,13] [6] [(0,[7,9,10,11])]) w7 ztx zqH zmD
abbrev YW:=(Int)×(Int)×(Int)×(Int)×(Int)×(Int)×(Int)×(List (List UInt8))×(List Int)
abbrev zc7:=Unit
def zgT:YW→St:=fun (t9,t10,t12,o0_0,o0_1,o0_2,o0_3,o1,o2)=>{ env:=[(5,.ptr 0 0),(7,.own 1),(9,.int .i64 t9),(10,.int .i64 t10),(11,.own 2),(12,.int .i64 t12),(13,.int .i64 (4))],stk:=[[]],H:=[.cells [.int .u8 o0_0,.int .u8 o0_1,.int .u8 o0_2,.int .u8 o0_3],.arr .str o1,.arr (.int .u8) o2],blk:=16384 }
def zij (s:St):Option {x:YW // s=zgT x}:=match s with
  | { env:=[(5,.ptr 0 0),(7,.own 1),(9,.int .i64 t9),(10,.int .i64 t10),(11,.own 2),(12,.int .i64 t12),(13,.int .i64 r3)],stk:=[[]],H:=[.cells [.int .u8 o0_0,.int .u8 o0_1,.int .u8 o0_2,.int .u8 o0_3],.arr .str o1,.arr (.int .u8) o2],blk:=16384 }=>if h3:r3=4 then some ⟨(t9,t10,t12,o0_0,o0_1,o0_2,o0_3,o1,o2),by subst h3;rfl⟩ else none
  | _=>none
def zdJ (s:St):Option YW:=pk (zij s)
theorem zs6 (s:St) (x:YW) (h:zdJ s=some x):s=zgT x:=zx (o:=zij s) h
def zdX:YW→(Ex→St→Ans)→zc7→Ans:=fun (t9,t10,t12,o0_0,o0_1,o0_2,o0_3,o1,o2) K=>fun _=>K (Ex.exit 0) { env:=[(7,.own 0),(9,.int .i64 t9),(10,.int .i64 t10),(11,.own 1)],stk:=[[]],H:=[.arr .str o1,.arr (.int .u8) o2],blk:=16384 }
def JR {β:Type}:YW→(zc7→Option β)→Option β:=fun (t9,t10,t12,o0_0,o0_1,o0_2,o0_3,o1,o2) exit=>(za (Wg (t9,t10,t12,o0_0,o0_1,o0_2,o0_3,o1,o2)) fun _=>(exit ()))
def w9 (i:YW):Option zc7:=JR i some
theorem zmR (i:YW) (k:zc7→Ans):JR i k=za (w9 i) k:=by
  obtain ⟨t9,t10,t12,o0_0,o0_1,o0_2,o0_3,o1,o2⟩:=i
  simp only [w9,JR,zj,zg,zl,zc,zi,zm,zh]
theorem zpf (i:YW) (K:Ex→St→Ans):zA Tryz.tab Zp zf (zD Tryz.tab Zp zf 0 64) 70 182 Qg YH (zH 0 (exk [5,7,9,10,11,12,13] [6] [(0,[7,9,10,11])]) K) (zgT i)=JR i (zdX i K):=by kernel_rfl
theorem zye:zy Tryz.prog 182 YH (zG zdJ w9 zdX):=zB mixed tabOk yc 0 (exk [5,7,9,10,11,12,13] [6] [(0,[7,9,10,11])]) w7 zs6 zpf zmR
noncomputable def zED:(Ex→St→Ans)→St→Ans:=(ji zde (zG zde Y8 zi0) (ji zak (zG zak yX zdN) (ji zay (zG zay yZ zdG) (ji zav (zG zav yY zd4) (zG zdJ w9 zdX)))))
theorem zHx:zy Tryz.prog 182 YH zED:=(yd zDQ (yd zx7 (yd zw5 (yd zws zye))))
noncomputable def zj6:Code:=zL [1,1,1,1,1,1,1,1,1,0,1] zi4
noncomputable def zp4:Ann:=(.block (.at 0 [5,7,9,10,11,12,13] (.loop (.cut 0 [5,7,9,10,11,12,13] zED))))
theorem zwb:zr Tryz.prog 182 zj6 zp4:=(yG zHx)
abbrev Qf:=(Int)×(Int)×(Int)×(Int)×(Int)×(Int)×(Int)×(List (List UInt8))×(List Int)
abbrev zkX:=(List Int)
def zu6:Qf→St:=fun (t9,t10,t12,o0_0,o0_1,o0_2,o0_3,o1,o2)=>{ env:=[(5,.ptr 0 0),(7,.own 1),(9,.int .i64 t9),(10,.int .i64 t10),(11,.own 2),(12,.int .i64 t12),(13,.int .i64 (0))],stk:=[[]],H:=[.cells [.int .u8 o0_0,.int .u8 o0_1,.int .u8 o0_2,.int .u8 o0_3],.arr .str o1,.arr (.int .u8) o2],blk:=16384 }
def zqd (s:St):Option {x:Qf // s=zu6 x}:=match s with
  | { env:=[(5,.ptr 0 0),(7,.own 1),(9,.int .i64 t9),(10,.int .i64 t10),(11,.own 2),(12,.int .i64 t12),(13,.int .i64 r3)],stk:=[[]],H:=[.cells [.int .u8 o0_0,.int .u8 o0_1,.int .u8 o0_2,.int .u8 o0_3],.arr .str o1,.arr (.int .u8) o2],blk:=16384 }=>if h3:r3=0 then some ⟨(t9,t10,t12,o0_0,o0_1,o0_2,o0_3,o1,o2),by subst h3;rfl⟩ else none
  | _=>none
def zi3 (s:St):Option Qf:=pk (zqd s)
theorem zAQ (s:St) (x:Qf) (h:zi3 s=some x):s=zu6 x:=zx (o:=zqd s) h
def ziz:Qf→(Ex→St→Ans)→zkX→Ans:=fun (t9,t10,t12,o0_0,o0_1,o0_2,o0_3,o1,o2) K=>fun o1_y=>K (Ex.norm) { env:=[(7,.own 0),(9,.int .i64 t9),(10,.int .i64 t10),(11,.own 1)],stk:=[[]],H:=[.arr .str o1,.arr (.int .u8) o1_y],blk:=16384 }
def JI {β:Type}:Qf→(zkX→Option β)→Option β:=fun (t9,t10,t12,o0_0,o0_1,o0_2,o0_3,o1,o2) exit=>(za (Y8 (t9,t10,t12,o0_0,o0_1,o0_2,o0_3,o1,o2)) (Sum.elim (fun o2_2=>(za (yX (t9,t10,t12,o0_0,o0_1,o0_2,o0_3,o1,o2_2)) (Sum.elim (fun o2_3=>(za (yZ (t9,t10,t12,o0_0,o0_1,o0_2,o0_3,o1,o2_3)) (Sum.elim (fun o2_4=>(za (yY (t9,t10,t12,o0_0,o0_1,o0_2,o0_3,o1,o2_4)) (Sum.elim (fun o2_5=>(za (w9 (t9,t10,t12,o0_0,o0_1,o0_2,o0_3,o1,o2_5)) fun _=>(exit (o2_5)))) (fun _=>(exit (o2_4)))))) (fun _=>(exit (o2_3)))))) (fun _=>(exit (o2_2)))))) (fun _=>(exit (o2)))))
def wb (i:Qf):Option zkX:=JI i some
theorem zr1 (i:Qf) (k:zkX→Ans):JI i k=za (wb i) k:=by
  obtain ⟨t9,t10,t12,o0_0,o0_1,o0_2,o0_3,o1,o2⟩:=i
  simp only [wb,JI,zj,zg,zl,zc,zi,zm,zh]
theorem zwt (i:Qf) (K:Ex→St→Ans):zA Tryz.tab Zp zf (zD Tryz.tab Zp zf 0 64) 70 182 zp4 zj6 (zH 0 (exk [7,9,10,11] [6] []) K) (zu6 i)=JI i (ziz i K):=by kernel_rfl
theorem zDL:zy Tryz.prog 182 zj6 (zG zi3 wb ziz):=zB mixed tabOk yc 0 (exk [7,9,10,11] [6] []) zwb zAQ zwt zr1
noncomputable def zGN:(Ex→St→Ans)→St→Ans:=(zG zi3 wb ziz)
theorem zJX:zy Tryz.prog 182 zj6 zGN:=zDL
noncomputable def zbF:Code:=zL [1,1,1,1,0,0] zi4
noncomputable def zfL:Ann := .none
theorem zgw:zr Tryz.prog 182 zbF zfL:=(zb _ _ _)
abbrev qH:=(Int)×(Int)×(Int)×(Int)×(Int)×(Int)×(Int)×(Int)×(List (List UInt8))
abbrev zkm:=(Bool)
def zu3:qH→St:=fun (t8,o0_0,o0_1,o0_2,o1_0,o1_1,o1_2,o1_3,o2)=>{ env:=[(4,.ptr 0 0),(5,.ptr 1 0),(7,.own 2),(8,.int .i64 t8)],stk:=[[]],H:=[.cells [.int .i64 o0_0,.int .i64 o0_1,.int .i64 o0_2],.cells [.int .u8 o1_0,.int .u8 o1_1,.int .u8 o1_2,.int .u8 o1_3],.arr .str o2],blk:=16384 }
def zpv (s:St):Option {x:qH // s=zu3 x}:=match s with
  | { env:=[(4,.ptr 0 0),(5,.ptr 1 0),(7,.own 2),(8,.int .i64 t8)],stk:=[[]],H:=[.cells [.int .i64 o0_0,.int .i64 o0_1,.int .i64 o0_2],.cells [.int .u8 o1_0,.int .u8 o1_1,.int .u8 o1_2,.int .u8 o1_3],.arr .str o2],blk:=16384 }=>some ⟨(t8,o0_0,o0_1,o0_2,o1_0,o1_1,o1_2,o1_3,o2),rfl⟩
  | _=>none
def zdg (s:St):Option qH:=pk (zpv s)
theorem zAZ (s:St) (x:qH) (h:zdg s=some x):s=zu3 x:=zx (o:=zpv s) h
def ziA:qH→(Ex→St→Ans)→zkm→Ans:=fun (t8,o0_0,o0_1,o0_2,o1_0,o1_1,o1_2,o1_3,o2) K=>fun t38_y=>K (Ex.norm) { env:=[(4,.ptr 0 0),(5,.ptr 1 0),(7,.own 2),(8,.int .i64 t8),(38,.bool t38_y)],stk:=[[]],H:=[.cells [.int .i64 o0_0,.int .i64 o0_1,.int .i64 o0_2],.cells [.int .u8 o1_0,.int .u8 o1_1,.int .u8 o1_2,.int .u8 o1_3],.arr .str o2],blk:=16384 }
def Qk {β:Type}:qH→(zkm→Option β)→Option β:=fun (t8,o0_0,o0_1,o0_2,o1_0,o1_1,o1_2,o1_3,o2) exit=>(bif t8 != (0:Int) then (exit (true)) else (exit (decide ((↑(List.length o2):Int)<(2:Int)))))
def Yh (i:qH):Option zkm:=Qk i some
theorem zuU (i:qH) (k:zkm→Ans):Qk i k=za (Yh i) k:=by
  obtain ⟨t8,o0_0,o0_1,o0_2,o1_0,o1_1,o1_2,o1_3,o2⟩:=i
  simp only [Yh,Qk,zj,zg,zl,zc,zi,zm,zh]
theorem zxf (i:qH) (K:Ex→St→Ans):zA Tryz.tab Zp zf (zD Tryz.tab Zp zf 0 64) 70 182 zfL zbF (zH 0 (exk [4,5,7,8,38] [6] []) K) (zu3 i)=Qk i (ziA i K):=by kernel_rfl
theorem zDu:zy Tryz.prog 182 zbF (zG zdg Yh ziA):=zB mixed tabOk yc 0 (exk [4,5,7,8,38] [6] []) zgw zAZ zxf zuU
abbrev YT:=(Int)×(Int)×(Int)×(Int)×(Int)×(Int)×(Int)×(Int)
abbrev zdj:=Unit
def ziG:YT→St:=fun (t8,o0_0,o0_1,o0_2,o1_0,o1_1,o1_2,o1_3)=>{ env:=[(4,.ptr 0 0),(5,.ptr 1 0),(7,.nils),(8,.int .i64 t8)],stk:=[[]],H:=[.cells [.int .i64 o0_0,.int .i64 o0_1,.int .i64 o0_2],.cells [.int .u8 o1_0,.int .u8 o1_1,.int .u8 o1_2,.int .u8 o1_3]],blk:=16384 }
def zhi (s:St):Option {x:YT // s=ziG x}:=match s with
  | { env:=[(4,.ptr 0 0),(5,.ptr 1 0),(7,.nils),(8,.int .i64 t8)],stk:=[[]],H:=[.cells [.int .i64 o0_0,.int .i64 o0_1,.int .i64 o0_2],.cells [.int .u8 o1_0,.int .u8 o1_1,.int .u8 o1_2,.int .u8 o1_3]],blk:=16384 }=>some ⟨(t8,o0_0,o0_1,o0_2,o1_0,o1_1,o1_2,o1_3),rfl⟩
  | _=>none
def zd0 (s:St):Option YT:=pk (zhi s)
theorem ztk (s:St) (x:YT) (h:zd0 s=some x):s=ziG x:=zx (o:=zhi s) h
def zdz:YT→(Ex→St→Ans)→zdj→Ans:=fun (t8,o0_0,o0_1,o0_2,o1_0,o1_1,o1_2,o1_3) K=>fun _=>K (Ex.norm) { env:=[(4,.ptr 0 0),(5,.ptr 1 0),(7,.nils),(8,.int .i64 t8),(38,.bool (true))],stk:=[[]],H:=[.cells [.int .i64 o0_0,.int .i64 o0_1,.int .i64 o0_2],.cells [.int .u8 o1_0,.int .u8 o1_1,.int .u8 o1_2,.int .u8 o1_3]],blk:=16384 }
def j3 {β:Type}:YT→(zdj→Option β)→Option β:=fun (t8,o0_0,o0_1,o0_2,o1_0,o1_1,o1_2,o1_3) exit=>(bif t8 != (0:Int) then (exit ()) else (exit ()))
def Wb (i:YT):Option zdj:=j3 i some
theorem zmQ (i:YT) (k:zdj→Ans):j3 i k=za (Wb i) k:=by
  obtain ⟨t8,o0_0,o0_1,o0_2,o1_0,o1_1,o1_2,o1_3⟩:=i
  simp only [Wb,j3,zj,zg,zl,zc,zi,zm,zh]
theorem zqj (i:YT) (K:Ex→St→Ans):zA Tryz.tab Zp zf (zD Tryz.tab Zp zf 0 64) 70 182 zfL zbF (zH 0 (exk [4,5,7,8,38] [6] []) K) (ziG i)=j3 i (zdz i K):=by kernel_rfl
theorem zwi:zy Tryz.prog 182 zbF (zG zd0 Wb zdz):=zB mixed tabOk yc 0 (exk [4,5,7,8,38] [6] []) zgw ztk zqj zmQ
noncomputable def zGE:(Ex→St→Ans)→St→Ans:=(ji zdg (zG zdg Yh ziA) (zG zd0 Wb zdz))
theorem zKa:zy Tryz.prog 182 zbF zGE:=(yd zDu zwi)
noncomputable def zC6:Ann:=(.seq .none (.seq .none (.seq .none (.seq .none (.seq (.seq (.cut 0 [4,5,7,8] zGE) .none) (.seq .none (.seq .none (.seq .none (.seq .none (.seq (.seq .none (.cut 0 [5,7,9,10,11,12,13] zGN)) (.seq .none (.seq .none (.seq .none (.seq .none (.seq .none (.seq .none (.seq .none (.seq .none (.seq (.cut 0 [7,9,10,14,18,20,22] zGl) .none)))))))))))))))))))
theorem zLm:zr Tryz.prog 182 zi4 zC6:=⟨(zb _ _ _),⟨(zb _ _ _),⟨(zb _ _ _),⟨(zb _ _ _),⟨⟨zKa,(zb _ _ _)⟩,⟨(zb _ _ _),⟨(zb _ _ _),⟨(zb _ _ _),⟨(zb _ _ _),⟨⟨(zb _ _ _),zJX⟩,⟨(zb _ _ _),⟨(zb _ _ _),⟨(zb _ _ _),⟨(zb _ _ _),⟨(zb _ _ _),⟨(zb _ _ _),⟨(zb _ _ _),⟨(zb _ _ _),⟨zH2,(zb _ _ _)⟩⟩⟩⟩⟩⟩⟩⟩⟩⟩⟩⟩⟩⟩⟩⟩⟩⟩⟩
abbrev zuK:=(Int)×(Int)×(Int)×(Int)×(Int)×(Int)×(Int)×(List (Int×(Int×Int)×List UInt8×((Int×Int)×List UInt8)×(Int×Int)×List UInt8))×(List Bool)×(Int)×(Int)×(Int)×(Int)×(Int)×(Int)×(Int)
abbrev zKb:=(Bool)
def zpt {β:Type}:zuK→(zKb→Option β)→Option β:=fun (a0_0,a0_1,a0_2,a0_3,a0_4,a0_5,a0_6,a0_7,a0_8,a1_0,a1_1,a1_2,a2_0,a2_1,a2_2,a2_3) exit=>(za (JV ()) fun _=>(za (zeX (a0_0,a0_1,a0_2,a0_3,a0_4,a0_5,a0_6,a0_7,a0_8)) fun r=>(bif r then (exit (true)) else (za (zj7 (a0_0,a0_1,a0_2,a0_3,a0_4,a0_5,a0_6,a0_7,a0_8)) (Sum.elim (unP fun r_1 o0=>(za (Yh (r_1,a1_0,a1_1,a1_2,a2_0,a2_1,a2_2,a2_3,o0)) fun t38=>(bif t38 then (exit (r_1 != (0:Int))) else (bif IntKind.wrap .u64 (↑(List.length o0):Int) == (0:Int) then none else (bif IntKind.wrap .u64 (↑(List.length o0):Int) == (0:Int) then none else (bif inR (IntKind.wrap .i64 (Int.tmod (IntKind.wrap .u64 a1_0) (IntKind.wrap .u64 (↑(List.length o0):Int)))) (List.length o0) then (za (o0[Int.toNat (IntKind.wrap .i64 (Int.tmod (IntKind.wrap .u64 a1_0) (IntKind.wrap .u64 (↑(List.length o0):Int))))]?) fun x=>(bif x == [] then (exit (false)) else (bif inR (IntKind.wrap .i64 (Int.tmod (IntKind.wrap .u64 a1_0) (IntKind.wrap .u64 (↑(List.length o0):Int)))) (List.length o0) then (za (o0[Int.toNat (IntKind.wrap .i64 (Int.tmod (IntKind.wrap .u64 a1_0) (IntKind.wrap .u64 (↑(List.length o0):Int))))]?) fun x_2=>(bif Nat.ble (List.length x_2) (140737488355328:Nat) then (bif IntKind.wrap .u64 (↑(List.length (zW x_2)):Int) == (0:Int) then none else (za (wb (IntKind.wrap .i64 (Int.tmod (IntKind.wrap .u64 a1_0) (IntKind.wrap .u64 (↑(List.length o0):Int))),IntKind.wrap .i64 (Int.tmod (IntKind.wrap .u64 a1_1) (IntKind.wrap .u64 (↑(List.length o0):Int))),IntKind.wrap .i64 (Int.tmod (IntKind.wrap .u64 a1_2) (IntKind.wrap .u64 (↑(List.length (zW x_2)):Int))),a2_0,a2_1,a2_2,a2_3,o0,zW x_2)) fun o1=>(bif Nat.ble (((0:Nat)+List.length o0)*(16:Nat)) (140737488355328:Nat) then (bif inR (IntKind.wrap .i64 (Int.tmod (IntKind.wrap .u64 a1_0) (IntKind.wrap .u64 (↑(List.length o0):Int)))) (List.length o0) then (za (o0[Int.toNat (IntKind.wrap .i64 (Int.tmod (IntKind.wrap .u64 a1_0) (IntKind.wrap .u64 (↑(List.length o0):Int))))]?) fun x_3=>(bif inR (IntKind.wrap .i64 (Int.tmod (IntKind.wrap .u64 a1_0) (IntKind.wrap .u64 (↑(List.length o0):Int)))) (List.length o0+(1:Nat)) then (bif inR (IntKind.wrap .i64 (IntKind.wrap .i64 (Int.tmod (IntKind.wrap .u64 a1_0) (IntKind.wrap .u64 (↑(List.length o0):Int)))+(1:Int))) (List.length o0+(1:Nat)) then (za (bif Nat.ble ((0:Nat)+(Int.toNat (IntKind.wrap .i64 (Int.tmod (IntKind.wrap .u64 a1_0) (IntKind.wrap .u64 (↑(List.length o0):Int)))) - (0:Nat))) (List.length o0) then some (List.take (Int.toNat (IntKind.wrap .i64 (Int.tmod (IntKind.wrap .u64 a1_0) (IntKind.wrap .u64 (↑(List.length o0):Int)))) - (0:Nat)) (List.drop (0:Nat) o0)) else none) fun x_4=>(bif Nat.ble (((0:Nat)+List.length x_4)*(16:Nat)) (140737488355328:Nat) then (za (bif Nat.ble (Int.toNat (IntKind.wrap .i64 (IntKind.wrap .i64 (Int.tmod (IntKind.wrap .u64 a1_0) (IntKind.wrap .u64 (↑(List.length o0):Int)))+(1:Int)))+(List.length o0 - Int.toNat (IntKind.wrap .i64 (IntKind.wrap .i64 (Int.tmod (IntKind.wrap .u64 a1_0) (IntKind.wrap .u64 (↑(List.length o0):Int)))+(1:Int))))) (List.length o0) then some (List.take (List.length o0 - Int.toNat (IntKind.wrap .i64 (IntKind.wrap .i64 (Int.tmod (IntKind.wrap .u64 a1_0) (IntKind.wrap .u64 (↑(List.length o0):Int)))+(1:Int)))) (List.drop (Int.toNat (IntKind.wrap .i64 (IntKind.wrap .i64 (Int.tmod (IntKind.wrap .u64 a1_0) (IntKind.wrap .u64 (↑(List.length o0):Int)))+(1:Int)))) o0)) else none) fun x_5=>(bif Nat.ble ((List.length x_4+List.length x_5)*(16:Nat)) (140737488355328:Nat) then (bif Nat.ble (((0:Nat)+List.length o0)*(16:Nat)) (140737488355328:Nat) then (bif inR (IntKind.wrap .i64 (Int.tmod (IntKind.wrap .u64 a1_1) (IntKind.wrap .u64 (↑(List.length o0):Int)))) (List.length o0) then (za (o0[Int.toNat (IntKind.wrap .i64 (Int.tmod (IntKind.wrap .u64 a1_1) (IntKind.wrap .u64 (↑(List.length o0):Int))))]?) fun x_6=>(bif inR (IntKind.wrap .i64 (Int.tmod (IntKind.wrap .u64 a1_0) (IntKind.wrap .u64 (↑(List.length o0):Int)))) (List.length o0) then (za (o0[Int.toNat (IntKind.wrap .i64 (Int.tmod (IntKind.wrap .u64 a1_0) (IntKind.wrap .u64 (↑(List.length o0):Int))))]?) fun x_7=>(bif inR (IntKind.wrap .i64 (Int.tmod (IntKind.wrap .u64 a1_0) (IntKind.wrap .u64 (↑(List.length o0):Int)))) (List.length o0) then (za (o0[Int.toNat (IntKind.wrap .i64 (Int.tmod (IntKind.wrap .u64 a1_0) (IntKind.wrap .u64 (↑(List.length o0):Int))))]?) fun x_8=>(bif inR (IntKind.wrap .i64 (Int.tmod (IntKind.wrap .u64 a1_1) (IntKind.wrap .u64 (↑(List.length o0):Int)))) (List.length (List.set o0 (Int.toNat (IntKind.wrap .i64 (Int.tmod (IntKind.wrap .u64 a1_0) (IntKind.wrap .u64 (↑(List.length o0):Int))))) x_6)) then (za ((List.set o0 (Int.toNat (IntKind.wrap .i64 (Int.tmod (IntKind.wrap .u64 a1_0) (IntKind.wrap .u64 (↑(List.length o0):Int))))) x_6)[Int.toNat (IntKind.wrap .i64 (Int.tmod (IntKind.wrap .u64 a1_1) (IntKind.wrap .u64 (↑(List.length o0):Int))))]?) fun x_9=>(za (zc6 (List.set o0 (Int.toNat (IntKind.wrap .i64 (Int.tmod (IntKind.wrap .u64 a1_0) (IntKind.wrap .u64 (↑(List.length o0):Int))))) (z6 o1))) (unP fun r_0_0=>unP fun r_0_1=>unP fun r_0_2=>unP fun r_0_3=>unP fun r_0_4=>unP fun r_0_5=>unP fun r_0_6=>unP fun r_1_2=>unP fun o0_2 o1_2=>(za (zc6 (x_4++x_5)) (unP fun r_0_0_2=>unP fun r_0_1_2=>unP fun r_0_2_2=>unP fun r_0_3_2=>unP fun r_0_4_2=>unP fun r_0_5_2=>unP fun r_0_6_2=>unP fun r_1_3=>unP fun o0_3 o1_3=>(za (zc6 (List.set (List.set o0 (Int.toNat (IntKind.wrap .i64 (Int.tmod (IntKind.wrap .u64 a1_0) (IntKind.wrap .u64 (↑(List.length o0):Int))))) x_6) (Int.toNat (IntKind.wrap .i64 (Int.tmod (IntKind.wrap .u64 a1_1) (IntKind.wrap .u64 (↑(List.length o0):Int))))) x_7)) (unP fun r_0_0_3=>unP fun r_0_1_3=>unP fun r_0_2_3=>unP fun r_0_3_3=>unP fun r_0_4_3=>unP fun r_0_5_3=>unP fun r_0_6_3=>unP fun r_1_4=>unP fun o0_4 o1_4=>(za (WR (IntKind.wrap .i64 (Int.tmod (IntKind.wrap .u64 a1_0) (IntKind.wrap .u64 (↑(List.length o0):Int))),IntKind.wrap .i64 (Int.tmod (IntKind.wrap .u64 a1_1) (IntKind.wrap .u64 (↑(List.length o0):Int))),List.set o0 (Int.toNat (IntKind.wrap .i64 (Int.tmod (IntKind.wrap .u64 a1_0) (IntKind.wrap .u64 (↑(List.length o0):Int))))) (z6 o1),r_1_2,r_1_3,r_1_4,o0)) fun t6=>(exit (t6)))))))))) else none)) else none)) else none)) else none) else none) else none)) else none)) else none) else none)) else none) else none))) else none)) else none))) else none)))))) (fun r_1=>(za (Wb (r_1,a1_0,a1_1,a1_2,a2_0,a2_1,a2_2,a2_3)) fun _=>(exit (r_1 != (0:Int))))))))))
def zpI (a:zuK):Option zKb:=zpt a some
theorem zL7 (a:zuK) (k:zKb→Ans):zpt a k=za (zpI a) k:=by
  obtain ⟨a0_0,a0_1,a0_2,a0_3,a0_4,a0_5,a0_6,a0_7,a0_8,a1_0,a1_1,a1_2,a2_0,a2_1,a2_2,a2_3⟩:=a
  simp only [zpI,zpt,zj,zg,zl,zc,zi,zm,zh]
def zGU:zuK→List AV×List AE.Obj:=fun (a0_0,a0_1,a0_2,a0_3,a0_4,a0_5,a0_6,a0_7,a0_8,a1_0,a1_1,a1_2,a2_0,a2_1,a2_2,a2_3)=>([.agg [.int .i64 a0_0,.int .i64 a0_1,.int .i64 a0_2,.int .i64 a0_3,.int .i64 a0_4,.int .i64 a0_5,.int .i64 a0_6,.ro (.st (.pair (.int .i64) (.pair (.pair (.int .i64) (.int .i64)) (.pair .str (.pair (.pair (.pair (.int .i64) (.int .i64)) .str) (.pair (.pair (.int .i64) (.int .i64)) .str)))))) a0_7,.ro .bool a0_8],.agg [.int .i64 a1_0,.int .i64 a1_1,.int .i64 a1_2],.agg [.int .u8 a2_0,.int .u8 a2_1,.int .u8 a2_2,.int .u8 a2_3]],[])
def zUG:zuK→(AV→List AE.Obj→Ans)→zKb→Ans:=fun (a0_0,a0_1,a0_2,a0_3,a0_4,a0_5,a0_6,a0_7,a0_8,a1_0,a1_1,a1_2,a2_0,a2_1,a2_2,a2_3) K=>fun r_y=>K (.bool r_y) []
theorem zPU (a:zuK) (K:AV→List AE.Obj→Ans):fnE Tryz.tab Zp zf 0 70 4 Tryz.f4.ntmps Tryz.f4.results.toList zC6 zi4 (zGU a).1 (zGU a).2 K=zpt a (zUG a K):=by kernel_rfl
end Go.Proofs.R9
namespace Go.Proofs.R9
open Go Go.AE Go.Plain
set_option maxRecDepth 100000
theorem zIL (l:List (List UInt8)):(∃e,e≠0∧Yz l=noI e) ∨ ∃n r b c x s lg ss cs,Yz l=(n,r,b,c,x,s,lg,0,ss,cs)∧za7 n r b c x s lg ss cs=(0,l)∧ss.length≤24∧cs.length≤24:=by
  have key:(∃e,e≠0∧Yz l=noI e) ∨ ∃n r b c x s lg ss cs,Yz l=(n,r,b,c,x,s,lg,0,ss,cs):=by
    unfold Yz
    by_cases h2:l.length<2
    · rw [if_pos h2];exact .inl ⟨1,by decide,rfl⟩
    rw [if_neg h2]
    by_cases he:WX l≠0
    · rw [if_pos he];exact .inl ⟨_,he,rfl⟩
    rw [if_neg he]
    by_cases hk : ¬kOk (z7 l)=true
    · rw [if_pos hk];exact .inl ⟨7,by decide,rfl⟩
    rw [if_neg hk]
    generalize qE ((zU l).headD [])=g
    obtain ⟨n,r,b,c,x,s,lg,e⟩:=g
    dsimp only
    unfold zrh
    by_cases hb:e≠0∨x≠(l.length:Int) - 2
    · rw [if_pos hb];exact .inl ⟨4,by decide,rfl⟩
    rw [if_neg hb]
    cases WY jh 0 (((zU l).drop 1).take (l.length - 2)) with
    | none=>exact .inl ⟨4,by decide,rfl⟩
    | some q =>
      dsimp only
      by_cases hl:(zU l)[l.length - 1]? ≠ some (QU (l.take (l.length - 1)))
      · rw [if_pos hl];exact .inl ⟨5,by decide,rfl⟩
      rw [if_neg hl]
      by_cases hc:wY n r b c x s lg (q.map (·.1)) (q.map (·.2))≠0
      · rw [if_pos hc];exact .inl ⟨_,hc,rfl⟩
      rw [if_neg hc]
      exact .inr ⟨n,r,b,c,x,s,lg,_,_,rfl⟩
  rcases key with h | ⟨n,r,b,c,x,s,lg,ss,cs,h⟩
  · exact .inl h
  · have hp:=zTy h
    have hc:wY n r b c x s lg ss cs=0:=by
      apply Decidable.byContradiction
      intro hne
      unfold za7 at hp
      rw [if_pos hne] at hp
      exact hne (congrArg Prod.fst hp)
    obtain ⟨hm,h1,h2,_⟩:=zbs hc
    have hx:=hm.1.1
    exact .inr ⟨n,r,b,c,x,s,lg,ss,cs,h,hp,by omega,by omega⟩
theorem zSF (x:SV) : ∃g,zed (x.fst,x.snd.fst.fst,x.snd.fst.snd,x.snd.snd.fst,x.snd.snd.snd.fst.fst.fst,x.snd.snd.snd.fst.fst.snd,x.snd.snd.snd.fst.snd,x.snd.snd.snd.snd.fst.fst,x.snd.snd.snd.snd.fst.snd,x.snd.snd.snd.snd.snd)=some g:=by
  simp only [zed,zqb,Wj,Jf]
  cases decide ((x.snd.snd.fst.length:Int)>1000) <;> cases decide ((x.snd.snd.snd.fst.snd.length:Int)>1000) <;> exact ⟨_,rfl⟩
theorem zPE (n r b c x s lg:Int) (ss:List SV) (cs:List Bool) : ∃g,zeX (n,r,b,c,x,s,lg,ss,cs)=some g∧(g=false→ss.length≤30∧cs.length≤100):=by
  have key : ∃y,zZ (yM (n,r,b,c,x,s,lg,ss,cs)) Zo ((0:Nat):Int)=some y∧(y = .inl ()∨(y = .inr ()∧ss.length≤30)):=by
    refine qp (fun j v=>j≤ss.length∧j≤30∧v=(j:Int)) 31 _ ?_ ⟨Nat.zero_le _,by omega,rfl⟩ (by omega)
    rintro j v ⟨h1,h2,rfl⟩
    by_cases hlt:j<ss.length
    · obtain ⟨t,ht⟩ : ∃t,ss[j]? = some t:=⟨_,List.getElem?_eq_getElem hlt⟩
      simp only [yM,Qz,Wo,j7,WI,jS,zp (show (j:Int)<(ss.length:Int) by omega),cond_true]
      by_cases h30:j=30
      · right
        rw [zp (show (j:Int)≥30 by omega)]
        exact ⟨_,rfl,.inl rfl⟩
      · rw [zq (show ¬(j:Int)≥30 by omega)]
        obtain ⟨g,hg⟩:=zSF t
        simp only [cond_false,zaG ht,zc,hg]
        cases g with
        | true=>right;exact ⟨_,rfl,.inl rfl⟩
        | false =>
          left
          refine ⟨((j+1:Nat):Int),?_,by omega,by omega,by omega,rfl⟩
          simp only [cond_false,zc,Sum.elim_inr,ZG (n:=j) (by omega)]
    · right
      obtain rfl:j=ss.length:=by omega
      simp only [yM,Qz,zq (show ¬(ss.length:Int)<(ss.length:Int) by omega),cond_false]
      exact ⟨_,rfl,.inr ⟨rfl,h2⟩⟩
  obtain ⟨y,hy,hq⟩:=key
  have hy':zZ (yM (n,r,b,c,x,s,lg,ss,cs)) Zo 0=some y:=hy
  simp only [zeX,zn2,hy',zc]
  rcases hq with rfl | ⟨rfl,h30⟩
  · exact ⟨true,rfl,fun h=>by cases h⟩
  · refine ⟨decide ((cs.length:Int)>100),rfl,fun h=>⟨h30,?_⟩⟩
    have:=of_decide_eq_false h
    omega
end Go.Proofs.R9
namespace Go.Proofs.R9
open Go Go.AE Go.Plain
set_option maxRecDepth 100000
theorem zcY (p0:Int) (p1:Int) (m0 m1 m2 m3:Int) (e0:List (List UInt8)) (k:Nat) (hk:k≤2000) (o:List Int) (hl:o.length≤2000) : ∃o',wb (p0,p1,(k:Int),m0,m1,m2,m3,e0,o)=some o'∧Turned k o o':=by
  have r0 : ∀o:List Int,o.length≤2000 → ∃v,Y8 (p0,p1,(k:Int),m0,m1,m2,m3,e0,o)=some (if k+0<o.length then .inl (o.set (k+0) v) else .inr ()):=by
    intro o hl
    have w:IntKind.wrap .i64 ((k:Int)+0)=((k+0:Nat):Int):=by rw [yz (by omega) (by omega)];omega
    simp only [Y8,Js,Wx,j2,zc,w]
    by_cases h:k+0<o.length
    · have hx:o[k+0]? = some o[k+0]:=List.getElem?_eq_getElem h
      generalize o[k+0]=x at hx
      simp only [zp (show ((k+0:Nat):Int)<(o.length:Int) by omega),Zw (show (0:Int)≤((k+0:Nat):Int)∧((k+0:Nat):Int)<(o.length:Int) by omega),cond_true,Int.toNat_natCast,hx,zc,if_pos h]
      exact ⟨_,rfl⟩
    · simp only [zq (show ¬((k+0:Nat):Int)<(o.length:Int) by omega),cond_false,if_neg h]
      first | exact ⟨0,rfl⟩ | exact ⟨0,True.intro⟩
  have r1 : ∀o:List Int,o.length≤2000 → ∃v,yX (p0,p1,(k:Int),m0,m1,m2,m3,e0,o)=some (if k+1<o.length then .inl (o.set (k+1) v) else .inr ()):=by
    intro o hl
    have w:IntKind.wrap .i64 ((k:Int)+1)=((k+1:Nat):Int):=by rw [yz (by omega) (by omega)];omega
    simp only [yX,qd,YK,qc,zc,w]
    by_cases h:k+1<o.length
    · have hx:o[k+1]? = some o[k+1]:=List.getElem?_eq_getElem h
      generalize o[k+1]=x at hx
      simp only [zp (show ((k+1:Nat):Int)<(o.length:Int) by omega),Zw (show (0:Int)≤((k+1:Nat):Int)∧((k+1:Nat):Int)<(o.length:Int) by omega),cond_true,Int.toNat_natCast,hx,zc,if_pos h]
      exact ⟨_,rfl⟩
    · simp only [zq (show ¬((k+1:Nat):Int)<(o.length:Int) by omega),cond_false,if_neg h]
      first | exact ⟨0,rfl⟩ | exact ⟨0,True.intro⟩
  have r2 : ∀o:List Int,o.length≤2000 → ∃v,yZ (p0,p1,(k:Int),m0,m1,m2,m3,e0,o)=some (if k+2<o.length then .inl (o.set (k+2) v) else .inr ()):=by
    intro o hl
    have w:IntKind.wrap .i64 ((k:Int)+2)=((k+2:Nat):Int):=by rw [yz (by omega) (by omega)];omega
    simp only [yZ,qs,YC,qu,zc,w]
    by_cases h:k+2<o.length
    · have hx:o[k+2]? = some o[k+2]:=List.getElem?_eq_getElem h
      generalize o[k+2]=x at hx
      simp only [zp (show ((k+2:Nat):Int)<(o.length:Int) by omega),Zw (show (0:Int)≤((k+2:Nat):Int)∧((k+2:Nat):Int)<(o.length:Int) by omega),cond_true,Int.toNat_natCast,hx,zc,if_pos h]
      exact ⟨_,rfl⟩
    · simp only [zq (show ¬((k+2:Nat):Int)<(o.length:Int) by omega),cond_false,if_neg h]
      first | exact ⟨0,rfl⟩ | exact ⟨0,True.intro⟩
  have r3 : ∀o:List Int,o.length≤2000 → ∃v,yY (p0,p1,(k:Int),m0,m1,m2,m3,e0,o)=some (if k+3<o.length then .inl (o.set (k+3) v) else .inr ()):=by
    intro o hl
    have w:IntKind.wrap .i64 ((k:Int)+3)=((k+3:Nat):Int):=by rw [yz (by omega) (by omega)];omega
    simp only [yY,qC,YF,qo,zc,w]
    by_cases h:k+3<o.length
    · have hx:o[k+3]? = some o[k+3]:=List.getElem?_eq_getElem h
      generalize o[k+3]=x at hx
      simp only [zp (show ((k+3:Nat):Int)<(o.length:Int) by omega),Zw (show (0:Int)≤((k+3:Nat):Int)∧((k+3:Nat):Int)<(o.length:Int) by omega),cond_true,Int.toNat_natCast,hx,zc,if_pos h]
      exact ⟨_,rfl⟩
    · simp only [zq (show ¬((k+3:Nat):Int)<(o.length:Int) by omega),cond_false,if_neg h]
      first | exact ⟨0,rfl⟩ | exact ⟨0,True.intro⟩
  simp only [wb,JI]
  obtain ⟨v0,h0⟩:=r0 o hl
  rw [h0,zc]
  by_cases c0:k+0<(o).length
  rotate_left
  · rw [if_neg c0,Sum.elim_inr]
    exact ⟨_,rfl,Turned.refl k o⟩
  rw [if_pos c0,Sum.elim_inl]
  obtain ⟨v1,h1⟩:=r1 ((o).set (k+0) v0) (by rw [List.length_set];exact hl)
  rw [h1,zc]
  by_cases c1:k+1<((o).set (k+0) v0).length
  rotate_left
  · rw [if_neg c1,Sum.elim_inr]
    exact ⟨_,rfl,(Turned.refl k o).set ⟨by omega,by omega⟩ v0⟩
  rw [if_pos c1,Sum.elim_inl]
  obtain ⟨v2,h2⟩:=r2 (((o).set (k+0) v0).set (k+1) v1) (by rw [List.length_set];exact (by rw [List.length_set];exact hl))
  rw [h2,zc]
  by_cases c2:k+2<(((o).set (k+0) v0).set (k+1) v1).length
  rotate_left
  · rw [if_neg c2,Sum.elim_inr]
    exact ⟨_,rfl,((Turned.refl k o).set ⟨by omega,by omega⟩ v0).set ⟨by omega,by omega⟩ v1⟩
  rw [if_pos c2,Sum.elim_inl]
  obtain ⟨v3,h3⟩:=r3 ((((o).set (k+0) v0).set (k+1) v1).set (k+2) v2) (by rw [List.length_set];exact (by rw [List.length_set];exact (by rw [List.length_set];exact hl)))
  rw [h3,zc]
  by_cases c3:k+3<((((o).set (k+0) v0).set (k+1) v1).set (k+2) v2).length
  rotate_left
  · rw [if_neg c3,Sum.elim_inr]
    exact ⟨_,rfl,(((Turned.refl k o).set ⟨by omega,by omega⟩ v0).set ⟨by omega,by omega⟩ v1).set ⟨by omega,by omega⟩ v2⟩
  rw [if_pos c3,Sum.elim_inl]
  exact ⟨_,rfl,((((Turned.refl k o).set ⟨by omega,by omega⟩ v0).set ⟨by omega,by omega⟩ v1).set ⟨by omega,by omega⟩ v2).set ⟨by omega,by omega⟩ v3⟩
theorem zAN (a:Int) (N:Nat) (h:0<N∧N≤1000000) : ∃i:Nat,IntKind.wrap .i64 (Int.tmod (IntKind.wrap .u64 a) (IntKind.wrap .u64 (N:Int)))=(i:Int)∧i<N:=by
  obtain ⟨m,hm⟩ : ∃m:Nat,IntKind.wrap .u64 a=(m:Int):=by
    have:0≤IntKind.wrap .u64 a:=by simp only [IntKind.wrap,IntKind.bits,IntKind.signed];simp;omega
    exact ⟨(IntKind.wrap .u64 a).toNat,by omega⟩
  have hN:IntKind.wrap .u64 (N:Int)=(N:Int):=by simp only [IntKind.wrap,IntKind.bits,IntKind.signed];simp;omega
  rw [hm,hN,zRM]
  have:=Nat.mod_lt m h.1
  exact ⟨m % N,yz (by omega) (by omega),this⟩
theorem zLx (N:Nat) (h:0<N∧N≤1000000):(IntKind.wrap .u64 (N:Int) == 0)=false:=by
  have hN:IntKind.wrap .u64 (N:Int)=(N:Int):=by simp only [IntKind.wrap,IntKind.bits,IntKind.signed];simp;omega
  rw [hN,beq_eq_false_iff_ne];omega
structure WW (l:List (List UInt8)) (n r b c x s lg:Int) (q:List (SV×Bool)):Prop where
  may:zfW n r b c x s lg
  len:(q.length:Int)=x
  ok : ∀y ∈ q,Zf y.1=0
  eq:l=Zi n r b c x s lg q
theorem zkK {l:List (List UInt8)} (h:(Yz l).2.2.2.2.2.2.2.1=0) : ∃n r b c x s lg q,WW l n r b c x s lg q:=by
  rcases zIL l with ⟨e,he,hg⟩ | ⟨n,r,b,c,x,s,lg,ss,cs,hg,hp,_,_⟩
  · rw [hg] at h;exact absurd h he
  · have hc:wY n r b c x s lg ss cs=0:=by
      apply Decidable.byContradiction
      intro hne
      unfold za7 at hp
      rw [if_pos hne] at hp
      exact hne (congrArg Prod.fst hp)
    obtain ⟨hm,h1,h2,h3⟩:=zbs hc
    unfold za7 at hp
    rw [if_neg (fun h=>h hc)] at hp
    exact ⟨n,r,b,c,x,s,lg,ss.zip cs,hm,by rw [List.length_zip];omega,fun q hq=>h3 q.1 (List.of_mem_zip (a:=q.1) (b:=q.2) hq).1,(congrArg Prod.snd hp).symm⟩
section
variable {l:List (List UInt8)} {n r b c x s lg:Int} {q:List (SV×Bool)}
theorem WW.small (h:WW l n r b c x s lg q):1≤q.length∧q.length≤24:=by have:=h.may.1.1;have:=h.len;omega
theorem WW.length (h:WW l n r b c x s lg q):l.length=q.length+2:=by rw [h.eq,zyI]
theorem WW.first (h:WW l n r b c x s lg q):l[0]? = some (ZF 20 (ZR n r b c x s lg)):=by rw [h.eq];rfl
theorem WW.mid (h:WW l n r b c x s lg q) {j:Nat} {y:SV×Bool} (hj:q[j]? = some y):l[j+1]? = some (ZF 21 (ZE (j:Int) y.1 y.2)):=by
  have hlt:j<q.length:=by apply Decidable.byContradiction;intro hn;rw [List.getElem?_eq_none (by omega)] at hj;cases hj
  rw [h.eq]
  unfold Zi Z6
  rw [List.getElem?_append_left (by rw [List.length_cons,qA];omega),List.getElem?_cons_succ,zCu hj]
theorem WW.last (h:WW l n r b c x s lg q):l[q.length+1]? = some (ZF 22 (QU (Z6 n r b c x s lg q))):=by
  rw [h.eq]
  unfold Zi
  have:(Z6 n r b c x s lg q).length=q.length+1:=by unfold Z6;rw [List.length_cons,qA]
  rw [List.getElem?_append_right (by omega),this,Nat.sub_self];rfl
theorem WW.kind (h:WW l n r b c x s lg q) {j:Nat} {t:List UInt8} (hj:l[j]? = some t):(Zc t).1=yU l.length j∧(Zc t).2.2=0:=by
  have hlt:j<l.length:=by apply Decidable.byContradiction;intro hn;rw [List.getElem?_eq_none (by omega)] at hj;cases hj
  have hlen:=h.length
  unfold yU
  by_cases h0:j=0
  · subst h0
    rw [h.first] at hj
    rw [if_pos rfl,← Option.some.inj hj,Yg (by omega) (jj ..)]
    exact ⟨rfl,rfl⟩
  · rw [if_neg h0]
    by_cases h1:j+1=l.length
    · obtain rfl:j=q.length+1:=by omega
      rw [h.last] at hj
      rw [if_pos h1,← Option.some.inj hj,Yg (by omega) (zk7 _)]
      exact ⟨rfl,rfl⟩
    · obtain ⟨i,rfl⟩ : ∃i,j=i+1:=⟨j - 1,by omega⟩
      obtain ⟨y,hy⟩ : ∃y,q[i]? = some y:=⟨_,List.getElem?_eq_getElem (by omega)⟩
      rw [h.mid hy] at hj
      have hle:=J4 (i:=(i:Int)) (c:=y.2) (h.ok y (List.mem_of_getElem? hy))
      rw [if_neg h1,← Option.some.inj hj,Yg (by omega) (by omega)]
      exact ⟨rfl,rfl⟩
theorem WW.fit (h:WW l n r b c x s lg q):Fit l:=by rw [h.eq];exact zRj h.small.2 h.ok
end
theorem zCw {k k':Nat} {a a':List UInt8} (hk:k≤255) (hk':k'≤255) (ha:a.length≤600) (ha':a'.length≤600) (h:ZF k a=ZF k' a'):a=a':=by
  have h1:=Yg hk ha
  rw [h,Yg hk' ha'] at h1
  exact (congrArg (fun p:Int×List UInt8×Int=>p.2.1) h1).symm
theorem zf9 {t:List UInt8} (h:(Zc t).2.2=0):Whole t∧4≤t.length:=by
  obtain ⟨k,a,hk,ha,ht,_⟩:=zfj h
  have hl:=jy hk ha
  rw [ht]
  exact ⟨⟨wN k a,rfl⟩,by omega⟩
theorem zwO {l:List (List UInt8)} {n r b c x s lg:Int} {q:List (SV×Bool)} (h:WW l n r b c x s lg q) {i:Nat} {t t':List UInt8} (hi:l[i]? = some t) {j:Nat} (ht:Turned j t t') (h0:(Yz (l.set i t')).2.2.2.2.2.2.2.1=0):t'=t:=by
  have hlt:i<l.length:=by apply Decidable.byContradiction;intro hn;rw [List.getElem?_eq_none (by omega)] at hi;cases hi
  obtain ⟨n',r',b',c',x',s',lg',q',h'⟩:=zkK h0
  have hs:(l.set i t')[i]? = some t':=List.getElem?_set_self hlt
  obtain ⟨w,w4⟩:=zf9 (h.kind hi).2
  obtain ⟨w',w4'⟩:=zf9 (h'.kind hs).2
  exact zAw j ht.len w4' w' w ht.out
theorem zJl {l:List (List UInt8)} {n r b c x s lg:Int} {q:List (SV×Bool)} (h:WW l n r b c x s lg q) {i:Nat} (hi:i<l.length):(Yz (l.take i++l.drop (i+1))).2.2.2.2.2.2.2.1≠0:=by
  intro h0
  obtain ⟨n',r',b',c',x',s',lg',q',h'⟩:=zkK h0
  have hlen:=h.length
  have hlen':=h'.length
  obtain ⟨s1,s2⟩:=h.small
  obtain ⟨s1',s2'⟩:=h'.small
  have ho:(l.take i++l.drop (i+1)).length=l.length - 1:=by rw [List.length_append,List.length_take,List.length_drop];omega
  by_cases hz:i=0
  · subst hz
    obtain ⟨t,ht⟩ : ∃t,l[1]? = some t:=⟨_,List.getElem?_eq_getElem (by omega)⟩
    have hk:=(h.kind ht).1
    have hs:(l.take 0++l.drop (0+1))[0]? = some t:=by rw [List.take_zero,List.nil_append,List.getElem?_drop];exact ht
    have hk':=(h'.kind hs).1
    unfold yU at hk hk'
    rw [if_neg (by omega),if_neg (by omega)] at hk
    rw [if_pos rfl] at hk'
    omega
  by_cases hl:i+1=l.length
  · obtain ⟨t,ht⟩ : ∃t,l[l.length - 2]? = some t:=⟨_,List.getElem?_eq_getElem (by omega)⟩
    have hk:=(h.kind ht).1
    have hs:(l.take i++l.drop (i+1))[l.length - 2]? = some t:=by rw [List.getElem?_append_left (by rw [List.length_take];omega),List.getElem?_take_of_lt (by omega)];exact ht
    have hk':=(h'.kind hs).1
    unfold yU at hk hk'
    rw [if_neg (by omega),if_neg (by omega)] at hk
    rw [if_neg (by omega),if_pos (by omega)] at hk'
    omega
  · have hf:=h.first
    have hs:(l.take i++l.drop (i+1))[0]? = l[0]? := by rw [List.getElem?_append_left (by rw [List.length_take];omega),List.getElem?_take_of_lt (by omega)]
    rw [hf,h'.first] at hs
    have he:=zCw (by omega) (by omega) (jj ..) (jj ..) (Option.some.inj hs)
    have g1:=zgS h.may
    rw [← he,zgS h'.may] at g1
    have hx:x'=x:=congrArg (fun p:S8=>p.2.2.2.2.1) g1
    have e1:=h.len
    have e2:=h'.len
    omega
theorem ztZ {l:List (List UInt8)} {n r b c x s lg:Int} {q:List (SV×Bool)} (h:WW l n r b c x s lg q) {i k:Nat} {t u:List UInt8} (hi:l[i]? = some t) (hk:l[k]? = some u) (h0:(Yz ((l.set i u).set k t)).2.2.2.2.2.2.2.1=0):t=u:=by
  apply Decidable.byContradiction
  intro hne
  have hlt:i<l.length:=by apply Decidable.byContradiction;intro hn;rw [List.getElem?_eq_none (by omega)] at hi;cases hi
  have hlk:k<l.length:=by apply Decidable.byContradiction;intro hn;rw [List.getElem?_eq_none (by omega)] at hk;cases hk
  have hik:k≠i:=fun e=>by subst e;rw [hi] at hk;exact hne (Option.some.inj hk)
  obtain ⟨n',r',b',c',x',s',lg',q',h'⟩:=zkK h0
  have hS:((l.set i u).set k t).length=l.length:=by rw [List.length_set,List.length_set]
  have hsi:((l.set i u).set k t)[i]? = some u:=by rw [List.getElem?_set_ne hik,List.getElem?_set_self hlt]
  have k1:=(h'.kind hsi).1
  have k2:=(h.kind hk).1
  rw [hS] at k1
  have hw:yU l.length i=yU l.length k:=k1.symm.trans k2
  have hlen:=h.length
  have hlen':=h'.length
  obtain ⟨s1,s2⟩:=h.small
  unfold yU at hw
  have hi0:i≠0:=fun e=>by
    rw [if_pos e,if_neg (by omega)] at hw
    split at hw <;> cases hw
  have hk0:k≠0:=fun e=>by
    rw [if_pos e,if_neg hi0] at hw
    split at hw <;> cases hw
  rw [if_neg hi0,if_neg hk0] at hw
  have hi1:i+1≠l.length:=fun e=>by
    rw [if_pos e,if_neg (by omega)] at hw;cases hw
  have hk1:k+1≠l.length:=fun e=>by
    rw [if_pos e,if_neg hi1] at hw;cases hw
  obtain ⟨i',rfl⟩ : ∃i',i=i'+1:=⟨i - 1,by omega⟩
  obtain ⟨k',rfl⟩ : ∃k',k=k'+1:=⟨k - 1,by omega⟩
  obtain ⟨y,hy⟩ : ∃y,q'[i']? = some y:=⟨_,List.getElem?_eq_getElem (by omega)⟩
  obtain ⟨z,hz⟩ : ∃z,q[k']? = some z:=⟨_,List.getElem?_eq_getElem (by omega)⟩
  rw [h'.mid hy] at hsi
  rw [h.mid hz] at hk
  have hey:=J4 (i:=(i':Int)) (c:=y.2) (h'.ok y (List.mem_of_getElem? hy))
  have hez:=J4 (i:=(k':Int)) (c:=z.2) (h.ok z (List.mem_of_getElem? hz))
  have he:=zCw (by omega) (by omega) (by omega) (by omega) ((Option.some.inj hsi).trans (Option.some.inj hk).symm)
  rw [zdB (by omega),zdB (by omega)] at he
  have hb:=(List.append_inj he (by rw [zT,zT])).1
  have:=zU2 (show i'<256 ^ 1 by simp only [Nat.reducePow];omega) (show k'<256 ^ 1 by simp only [Nat.reducePow];omega) hb
  omega
theorem zB6 {k:Nat} {t:List UInt8} {o:List Int} (h:Turned k (zW t) o):Turned k t (z6 o):=by
  have:=h.map (fun v:Int=>UInt8.ofNat v.toNat)
  have e:(zW t).map (fun v:Int=>UInt8.ofNat v.toNat)=t:=zrS t
  rw [e] at this
  exact this
theorem znX {α:Type} {l:List α} {i:Nat} {t:α} (h:l[i]? = some t):l.set i t=l:=by
  refine List.ext_getElem? fun j => ?_
  by_cases hj:i=j
  · subst hj
    have hlt:i<l.length:=by apply Decidable.byContradiction;intro hn;rw [List.getElem?_eq_none (by omega)] at h;cases h
    rw [List.getElem?_set_self hlt,h]
  · rw [List.getElem?_set_ne hj]
theorem zqw (n r b c x s lg:Int) (ss:List SV) (cs:List Bool) (a0 a1 a2 b0 b1 b2 b3:Int):zpI (n,r,b,c,x,s,lg,ss,cs,a0,a1,a2,b0,b1,b2,b3)=some true:=by
  obtain ⟨g,hg,hg'⟩:=zPE n r b c x s lg ss cs
  simp only [zpI,zpt,JV,zc,hg,zJK]
  cases g with
  | true=>rfl
  | false =>
  simp only [cond_false,Sum.elim_inl]
  by_cases hc:wY n r b c x s lg ss cs=0
  rotate_left
  · have hput:za7 n r b c x s lg ss cs=(wY n r b c x s lg ss cs,[]):=by unfold za7;rw [if_pos hc]
    have hb:(wY n r b c x s lg ss cs != 0)=true:=by simpa using hc
    rw [hput]
    simp only [unP,Yh,Qk,hb,cond_true,zc]
  have hput:za7 n r b c x s lg ss cs=(0,Zi n r b c x s lg (ss.zip cs)):=by unfold za7;rw [if_neg (fun h=>h hc)]
  have hget:=zKT hc
  have h0:(Yz (Zi n r b c x s lg (ss.zip cs))).2.2.2.2.2.2.2.1=0:=by rw [hget]
  rw [hput]
  generalize Zi n r b c x s lg (ss.zip cs)=L at hget h0 ⊢
  obtain ⟨n',r',b',c',x',s',lg',q',him⟩:=zkK h0
  have hfit:=him.fit
  have hlen:=him.length
  obtain ⟨s1,s2⟩:=him.small
  have hN:0<L.length∧L.length≤1000000:=by omega
  obtain ⟨i,hi,hil⟩:=zAN a0 L.length hN
  obtain ⟨k,hk,hkl⟩:=zAN a1 L.length hN
  have hn0:Yh (0,a0,a1,a2,b0,b1,b2,b3,L)=some false:=by
    simp only [Yh,Qk,bne_self_eq_false,cond_false,zq (show ¬(L.length:Int)<2 by omega)]
  obtain ⟨t,ht⟩ : ∃t,L[i]? = some t:=⟨_,List.getElem?_eq_getElem hil⟩
  obtain ⟨u,hu⟩ : ∃u,L[k]? = some u:=⟨_,List.getElem?_eq_getElem hkl⟩
  have htl:=hfit.at ht
  have ht4:=(zf9 (him.kind ht).2).2
  have htne:(t == [])=false:=by rw [beq_eq_false_iff_ne];intro h;rw [h] at ht4;simp at ht4
  have hil2:(zW t).length=t.length:=by rw [zW,List.length_map]
  obtain ⟨j,hj,hjl⟩:=zAN a2 t.length (by omega)
  have hw1:IntKind.wrap .i64 ((i:Int)+1)=((i+1:Nat):Int):=ZG (by omega)
  have hin1:inR (i:Int) L.length=true:=Zw (by omega)
  have hin2:inR (k:Int) L.length=true:=Zw (by omega)
  have hin3:inR (i:Int) (L.length+1)=true:=Zw (by omega)
  have hin4:inR ((i+1:Nat):Int) (L.length+1)=true:=Zw (by omega)
  have hin5:inR (k:Int) (L.set i u).length=true:=by rw [List.length_set];exact hin2
  have hq : ∃w,(L.set i u)[k]? = some w:=⟨_,List.getElem?_eq_getElem (by rw [List.length_set];exact hkl)⟩
  obtain ⟨w,hw⟩:=hq
  have tl:t.length≤1000:=by
    have:=him.kind ht
    obtain ⟨kk,a,hk1,ha1,hta,_⟩:=zfj this.2
    have:=jy hk1 ha1
    rw [hta];omega
  obtain ⟨o,ho,hto⟩:=zcY (i:Int) (k:Int) b0 b1 b2 b3 L j (by omega) (zW t) (by omega)
  have htb:=zB6 hto
  have hlt:(z6 o).length≤100000:=by rw [htb.len];omega
  have f1:Fit (L.set i (z6 o)):=⟨by rw [List.length_set];exact hfit.1,fun z hz=>by
    rcases List.mem_or_eq_of_mem_set hz with hz | hz
    · exact hfit.2 z hz
    · rw [hz];exact hlt⟩
  have f2:Fit (L.take i++L.drop (i+1)):=⟨by rw [List.length_append,List.length_take,List.length_drop];omega,fun z hz=>by
    rcases List.mem_append.1 hz with hz | hz
    · exact hfit.2 z (List.mem_of_mem_take hz)
    · exact hfit.2 z (List.mem_of_mem_drop hz)⟩
  have f3:Fit ((L.set i u).set k t):=⟨by rw [List.length_set,List.length_set];exact hfit.1,fun z hz=>by
    rcases List.mem_or_eq_of_mem_set hz with hz | hz
    · rcases List.mem_or_eq_of_mem_set hz with hz | hz
      · exact hfit.2 z hz
      · rw [hz];exact hfit.2 u (List.mem_of_getElem? hu)
    · rw [hz];exact hfit.2 t (List.mem_of_getElem? ht)⟩
  have hx5:L.length - (i+1)≤(L.drop (i+1)).length:=by rw [List.length_drop];exact Nat.le_refl _
  simp only [unP,hn0,zc,cond_false,zLx L.length hN,hi,hk,hin1,Int.toNat_natCast,ht,htne,cond_true,Zl (show t.length≤140737488355328 by omega),hil2,zLx t.length (by omega),hj,ho,Zl (show (0+L.length)*16≤140737488355328 by omega),hin3,hw1,hin4,
    Nat.sub_zero,List.drop_zero,Zl (show 0+i≤L.length by omega),Zl (show (0+(L.take i).length)*16≤140737488355328 by rw [List.length_take];omega),Zl (show i+1+(L.length - (i+1))≤L.length by omega),
    List.take_of_length_le (show (L.drop (i+1)).length≤L.length - (i+1) by rw [List.length_drop];exact Nat.le_refl _),Zl (show ((L.take i).length+(L.drop (i+1)).length)*16≤140737488355328 by rw [List.length_take,List.length_drop];omega),
    hin2,hu,hin5,hw,zge _ f1,zge _ f2,zge _ f3]
  have e1:((Yz (L.set i (z6 o))).2.2.2.2.2.2.2.1 == 0)=(z6 o == t):=by
    rw [Bool.eq_iff_iff,beq_iff_eq,beq_iff_eq]
    constructor
    · exact fun h=>zwO him ht htb h
    · intro h;rw [h,znX ht];exact h0
  have e2:((Yz (L.take i++L.drop (i+1))).2.2.2.2.2.2.2.1 != 0)=true:=by simpa using zJl him hil
  have e3:((Yz ((L.set i u).set k t)).2.2.2.2.2.2.2.1 == 0)=(t == u):=by
    rw [Bool.eq_iff_iff,beq_iff_eq,beq_iff_eq]
    constructor
    · exact fun h=>ztZ him ht hu h
    · intro h;subst h;rw [znX ht,znX hu];exact h0
  have hnth:nth (L.set i (z6 o)) (i:Int)=some (z6 o):=zaG (List.getElem?_set_self hil)
  generalize Yz (L.set i (z6 o))=z1 at e1
  generalize Yz (L.take i++L.drop (i+1))=z2 at e2
  generalize Yz ((L.set i u).set k t)=z3 at e3
  obtain ⟨p1,p2,p3,p4,p5,p6,p7,p8,p9,p10⟩:=z1
  obtain ⟨r1,r2,r3,r4,r5,r6,r7,r8,r9,r10⟩:=z2
  obtain ⟨u1,u2,u3,u4,u5,u6,u7,u8,u9,u10⟩:=z3
  dsimp only at e1 e2 e3
  simp only [unP,WR,jU,hnth,zc,hin1,cond_true,Int.toNat_natCast,ht,e1,e2,hin2,hu,e3,beq_self_eq_true]
end Go.Proofs.R9
