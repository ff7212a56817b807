/- What the functions that DumpGetsCardSaid reaches compute: part 13. -/
import Derived.Test.YthfoooplgceaoaaGreatDoorOwnDumpGetsCardSaid12
set_option linter.unusedVariables false
set_option linter.unusedSimpArgs false
namespace Go.Proofs.R9
open Go Go.AE
set_option maxRecDepth 100000
theorem ZN:y6.all (ZJ.ok Tryz.prog)=true:=by kernel_rfl
theorem ZO:Yb.all (ZJ.ok Tryz.prog)=true:=by kernel_rfl
theorem ZdA:zf Tryz.prog Tb0:=ZD
theorem Zdx:Zz Tryz.prog To0:=Z6 mixed tabOk ZdA ZN ZO 40
theorem YN:zQ Tryz.prog 112 T0f:=wD (i:=⟨112,false,[(0,[7,9,26]),(2,[7,9,44,45])]⟩) mixed tabOk Zdx Tryz.func112 (by kernel_rfl) (by decide +kernel) T0r
theorem Zd0:zf Tryz.prog Tb1:=zf.cons YN (ZD)
theorem Zb8:Zz Tryz.prog To1:=Z6 mixed tabOk Zd0 ZN ZO 40
theorem wk:zQ Tryz.prog 114 T1f:=wD (i:=⟨114,false,[(0,[8,28,29,30])]⟩) mixed tabOk Zb8 Tryz.func114 (by kernel_rfl) (by decide +kernel) T1r
theorem ZdE:zf Tryz.prog Tb2:=zf.cons YN (zf.cons wk (ZD))
theorem Zd5:Zz Tryz.prog To2:=Z6 mixed tabOk ZdE ZN ZO 40
theorem Wf:zQ Tryz.prog 116 T2f:=zb7 (i:=⟨116,false,[(0,[0,21,22,23])]⟩) mixed tabOk Zd5 Tryz.func116 (by kernel_rfl) (by decide +kernel) T2r
theorem ZdM:zf Tryz.prog Tb3:=zf.cons YN (zf.cons wk (zf.cons Wf (ZD)))
theorem Zcq:Zz Tryz.prog To3:=Z6 mixed tabOk ZdM ZN ZO 40
theorem qJ:zQ Tryz.prog 116 T3f:=zb7 (i:=⟨116,false,[(0,[0,21,22,23])]⟩) mixed tabOk Zcq Tryz.func116 (by kernel_rfl) (by decide +kernel) T3r
theorem Zb7:zf Tryz.prog Tb4:=zf.cons YN (zf.cons wk (zf.cons (zP Wf qJ) (ZD)))
theorem Zdt:Zz Tryz.prog To4:=Z6 mixed tabOk Zb7 ZN ZO 40
theorem jB:zQ Tryz.prog 116 T4f:=zb7 (i:=⟨116,false,[(0,[0,21,22,23])]⟩) mixed tabOk Zdt Tryz.func116 (by kernel_rfl) (by decide +kernel) T4r
theorem Zc4:zf Tryz.prog Tb5:=zf.cons YN (zf.cons wk (zf.cons (zP Wf (zP qJ jB)) (ZD)))
theorem ZdP:Zz Tryz.prog To5:=Z6 mixed tabOk Zc4 ZN ZO 40
theorem JL:zQ Tryz.prog 116 T5f:=zb7 (i:=⟨116,false,[(0,[0,21,22,23])]⟩) mixed tabOk ZdP Tryz.func116 (by kernel_rfl) (by decide +kernel) T5r
theorem Zde:zf Tryz.prog Tb6:=zf.cons YN (zf.cons wk (zf.cons (zP Wf (zP qJ (zP jB JL))) (ZD)))
theorem ZcV:Zz Tryz.prog To6:=Z6 mixed tabOk Zde ZN ZO 40
theorem zbP:zQ Tryz.prog 116 T6f:=zb7 (i:=⟨116,false,[(0,[0,21,22,23])]⟩) mixed tabOk ZcV Tryz.func116 (by kernel_rfl) (by decide +kernel) T6r
theorem Zcc:zf Tryz.prog Tb7:=zf.cons YN (zf.cons wk (zf.cons (zP Wf (zP qJ (zP jB (zP JL zbP)))) (ZD)))
theorem Zd9:Zz Tryz.prog To7:=Z6 mixed tabOk Zcc ZN ZO 40
theorem zcq:zQ Tryz.prog 125 T7f:=wD (i:=⟨125,false,[]⟩) mixed tabOk Zd9 Tryz.func125 (by kernel_rfl) (by decide +kernel) T7r
theorem ZcX:zf Tryz.prog Tb8:=zf.cons YN (zf.cons wk (zf.cons (zP Wf (zP qJ (zP jB (zP JL zbP)))) (zf.cons zcq (ZD))))
theorem Zco:Zz Tryz.prog To8:=Z6 mixed tabOk ZcX ZN ZO 40
theorem zdb:zQ Tryz.prog 77 T8f:=wD (i:=⟨77,false,[(0,[5,8,10,13,79,80])]⟩) mixed tabOk Zco Tryz.func77 (by kernel_rfl) (by decide +kernel) T8r
theorem ZcM:zf Tryz.prog Tb9:=zf.cons zdb (zf.cons YN (zf.cons wk (zf.cons (zP Wf (zP qJ (zP jB (zP JL zbP)))) (zf.cons zcq (ZD)))))
theorem ZcR:Zz Tryz.prog To9:=Z6 mixed tabOk ZcM ZN ZO 40
theorem zfs:zQ Tryz.prog 114 T9f:=wD (i:=⟨114,false,[(0,[8,28,29,30])]⟩) mixed tabOk ZcR Tryz.func114 (by kernel_rfl) (by decide +kernel) T9r
theorem Za6:zf Tryz.prog Zcj:=zf.cons zdb (zf.cons YN (zf.cons (zP wk zfs) (zf.cons (zP Wf (zP qJ (zP jB (zP JL zbP)))) (zf.cons zcq (ZD)))))
theorem ZaG:Zz Tryz.prog Zdf:=Z6 mixed tabOk Za6 ZN ZO 40
theorem zff:zQ Tryz.prog 78 zkL:=wD (i:=⟨78,false,[]⟩) mixed tabOk ZaG Tryz.func78 (by kernel_rfl) (by decide +kernel) ZfB
theorem ZaS:zf Tryz.prog ZdJ:=zf.cons zdb (zf.cons zff (zf.cons YN (zf.cons (zP wk zfs) (zf.cons (zP Wf (zP qJ (zP jB (zP JL zbP)))) (zf.cons zcq (ZD))))))
theorem Zby:Zz Tryz.prog Zc3:=Z6 mixed tabOk ZaS ZN ZO 40
theorem zhC:zQ Tryz.prog 116 zsJ:=zb7 (i:=⟨116,false,[(0,[0,21,22,23])]⟩) mixed tabOk Zby Tryz.func116 (by kernel_rfl) (by decide +kernel) ZfL
theorem ZbN:zf Tryz.prog ZdD:=zf.cons zdb (zf.cons zff (zf.cons YN (zf.cons (zP wk zfs) (zf.cons (zP Wf (zP qJ (zP jB (zP JL (zP zbP zhC))))) (zf.cons zcq (ZD))))))
theorem ZaH:Zz Tryz.prog Zd7:=Z6 mixed tabOk ZbN ZN ZO 40
theorem zjW:zQ Tryz.prog 43 zA0:=wD (i:=⟨43,false,[]⟩) mixed tabOk ZaH Tryz.func43 (by kernel_rfl) (by decide +kernel) Zfq
theorem ZbJ:zf Tryz.prog Zca:=zf.cons zjW (zf.cons zdb (zf.cons zff (zf.cons YN (zf.cons (zP wk zfs) (zf.cons (zP Wf (zP qJ (zP jB (zP JL (zP zbP zhC))))) (zf.cons zcq (ZD)))))))
theorem Za4:Zz Tryz.prog ZcW:=Z6 mixed tabOk ZbJ ZN ZO 40
theorem zw3:zQ Tryz.prog 18 zKT:=wD (i:=⟨18,false,[(0,[0,2,4,5,20,21])]⟩) mixed tabOk Za4 Tryz.func18 (by kernel_rfl) (by decide +kernel) ZfG
theorem ZbF:zf Tryz.prog Zda:=zf.cons zw3 (zf.cons zjW (zf.cons zdb (zf.cons zff (zf.cons YN (zf.cons (zP wk zfs) (zf.cons (zP Wf (zP qJ (zP jB (zP JL (zP zbP zhC))))) (zf.cons zcq (ZD))))))))
theorem Za5:Zz Tryz.prog Zds:=Z6 mixed tabOk ZbF ZN ZO 40
theorem zI9:zQ Tryz.prog 9 z0n:=wD (i:=⟨9,false,[]⟩) mixed tabOk Za5 Tryz.func9 (by kernel_rfl) (by decide +kernel) ZfE
theorem ZaQ:zf Tryz.prog ZdZ:=zf.cons zI9 (zf.cons zw3 (zf.cons zjW (zf.cons zdb (zf.cons zff (zf.cons YN (zf.cons (zP wk zfs) (zf.cons (zP Wf (zP qJ (zP jB (zP JL (zP zbP zhC))))) (zf.cons zcq (ZD)))))))))
theorem Za1:Zz Tryz.prog ZcA:=Z6 mixed tabOk ZaQ ZN ZO 40
theorem z14:zQ Tryz.prog 7 z6T:=wD (i:=⟨7,false,[(0,[0,2,4,5,6,8,51,52,53])]⟩) mixed tabOk Za1 Tryz.func7 (by kernel_rfl) (by decide +kernel) Zfw
theorem ZaI:zf Tryz.prog Zcg:=zf.cons z14 (zf.cons zI9 (zf.cons zw3 (zf.cons zjW (zf.cons zdb (zf.cons zff (zf.cons YN (zf.cons (zP wk zfs) (zf.cons (zP Wf (zP qJ (zP jB (zP JL (zP zbP zhC))))) (zf.cons zcq (ZD))))))))))
theorem ZbV:Zz Tryz.prog ZcU:=Z6 mixed tabOk ZaI ZN ZO 40
theorem ZdG:zQ Tryz.prog 10 Zc2:=wD (i:=⟨10,true,[(0,[2,3,5]),(2,[2,3,6])]⟩) mixed tabOk ZbV Tryz.func10 (by kernel_rfl) (by decide +kernel) Zfz
theorem Za2:zf Tryz.prog ZdL:=zf.cons z14 (zf.cons zI9 (zf.cons ZdG (zf.cons zw3 (zf.cons zjW (zf.cons zdb (zf.cons zff (zf.cons YN (zf.cons (zP wk zfs) (zf.cons (zP Wf (zP qJ (zP jB (zP JL (zP zbP zhC))))) (zf.cons zcq (ZD)))))))))))
theorem ZaZ:Zz Tryz.prog ZdV:=Z6 mixed tabOk Za2 ZN ZO 40
abbrev zmD:=Unit
abbrev zOI:=Bool
def zb0 (_:zmD):Option zOI:=some true
def zyk (l:List AV):Option zmD:=match l with
  | []=>some ()
  | _=>none
def zla:List AV→(AV→Ans)→Ans:=fun l K=>za (zyk l) fun a=>za (zb0 a) fun y=>K (.bool y)
theorem zwt:zM Tryz.prog 6 zla :=
  Zbu (i:=⟨6,true,[]⟩) mixed tabOk ZaZ Tryz.func6 (by kernel_rfl) (by decide +kernel) (v := .bool true) rfl (fun l K res h=>by
    cases l with
    | nil=>exact ⟨rfl,h⟩
    | cons _ _=>cases h) Zfu
end Go.Proofs.R9
namespace Go.Proofs.R9
open Go Go.AE
set_option maxRecDepth 100000
--@ law43_DumpGets
noncomputable def YA:Env:=[(6,.pure zla),(7,.func Fq7),(8,.func ZcN),(9,.func Fq9),(10,.pure ZcE),(11,.pure (z9C zCm Zag Zcv))]
theorem zbZ:zf Tryz.prog YA:=zf.cons zwt (zf.cons ZdU (zf.cons ZbD (zf.cons Zb0 (zf.cons Zbx (zf.cons (z0p ZaW Zbk) (zf.nil))))))
noncomputable def zsw:Code:=Tryz.f3.body.getD .skip
noncomputable def zdJ:Code:=zF [1,1,1,1,1,1,1,0] zsw
noncomputable def ziH:Ann := .none
theorem zjv:zq Tryz.prog 69 zdJ ziH:=(zb _ _ _)
abbrev j7:=(List (List UInt8))×(Int)×(Int)×(Int)×(Int)×(Int)×(Int)×(Int)×(Int)×(Int)×(Int)×(List (Int×(Int×Int)×List UInt8×((Int×Int)×List UInt8)×(Int×Int)×List UInt8))×(List Bool)×(Int)×(Int)×(Int)×(Int)×(Int)×(Int)×(Int)×(List (List UInt8))×(List (Int×(Int×Int)×List UInt8×((Int×Int)×List UInt8)×(Int×Int)×List UInt8))×(List Bool)
abbrev zqe:=(Bool)
def zAm:j7→St:=fun (t0,t6,t8,t10,o0_0,o0_1,o0_2,o0_3,o0_4,o0_5,o0_6,o0_7,o0_8,o1_0,o1_1,o1_2,o1_3,o1_4,o1_5,o1_6,o2,o3,o4)=>{ env:=[(0,.ro .str t0),(5,.ptr 0 0),(6,.int .i64 t6),(7,.ptr 1 0),(8,.int .i64 t8),(9,.own 2),(10,.int .i64 t10)],stk:=[[]],H:=[.cells [.int .i64 o0_0,.int .i64 o0_1,.int .i64 o0_2,.int .i64 o0_3,.int .i64 o0_4,.int .i64 o0_5,.int .i64 o0_6,.ro (.st (.pair (.int .i64) (.pair (.pair (.int .i64) (.int .i64)) (.pair .str (.pair (.pair (.pair (.int .i64) (.int .i64)) .str) (.pair (.pair (.int .i64) (.int .i64)) .str)))))) o0_7,.ro .bool o0_8],.cells [.int .i64 o1_0,.int .i64 o1_1,.int .i64 o1_2,.int .i64 o1_3,.int .i64 o1_4,.int .i64 o1_5,.int .i64 o1_6,.own 3,.own 4],.arr .str o2,.arr (.st (.pair (.int .i64) (.pair (.pair (.int .i64) (.int .i64)) (.pair .str (.pair (.pair (.pair (.int .i64) (.int .i64)) .str) (.pair (.pair (.int .i64) (.int .i64)) .str)))))) o3,.arr .bool o4],blk:=12288 }
def zvB (s:St):Option {x:j7 // s=zAm x}:=match s with
  | { env:=[(0,.ro .str t0),(5,.ptr 0 0),(6,.int .i64 t6),(7,.ptr 1 0),(8,.int .i64 t8),(9,.own 2),(10,.int .i64 t10)],stk:=[[]],H:=[.cells [.int .i64 o0_0,.int .i64 o0_1,.int .i64 o0_2,.int .i64 o0_3,.int .i64 o0_4,.int .i64 o0_5,.int .i64 o0_6,.ro (.st (.pair (.int .i64) (.pair (.pair (.int .i64) (.int .i64)) (.pair .str (.pair (.pair (.pair (.int .i64) (.int .i64)) .str) (.pair (.pair (.int .i64) (.int .i64)) .str)))))) o0_7,.ro .bool o0_8],.cells [.int .i64 o1_0,.int .i64 o1_1,.int .i64 o1_2,.int .i64 o1_3,.int .i64 o1_4,.int .i64 o1_5,.int .i64 o1_6,.own 3,.own 4],.arr .str o2,.arr (.st (.pair (.int .i64) (.pair (.pair (.int .i64) (.int .i64)) (.pair .str (.pair (.pair (.pair (.int .i64) (.int .i64)) .str) (.pair (.pair (.int .i64) (.int .i64)) .str)))))) o3,.arr .bool o4],blk:=12288 }=>some ⟨(t0,t6,t8,t10,o0_0,o0_1,o0_2,o0_3,o0_4,o0_5,o0_6,o0_7,o0_8,o1_0,o1_1,o1_2,o1_3,o1_4,o1_5,o1_6,o2,o3,o4),rfl⟩
  | _=>none
def zfv (s:St):Option j7:=pk (zvB s)
theorem zLl (s:St) (x:j7) (h:zfv s=some x):s=zAm x:=zt (o:=zvB s) h
def zmp:j7→(Ex→St→Ans)→zqe→Ans:=fun (t0,t6,t8,t10,o0_0,o0_1,o0_2,o0_3,o0_4,o0_5,o0_6,o0_7,o0_8,o1_0,o1_1,o1_2,o1_3,o1_4,o1_5,o1_6,o2,o3,o4) K=>fun t2_y=>K (Ex.norm) { env:=[(2,.bool t2_y)],stk:=[[]],H:=[],blk:=12288 }
def jO {β:Type}:j7→(zqe→Option β)→Option β:=fun (t0,t6,t8,t10,o0_0,o0_1,o0_2,o0_3,o0_4,o0_5,o0_6,o0_7,o0_8,o1_0,o1_1,o1_2,o1_3,o1_4,o1_5,o1_6,o2,o3,o4) exit=>(za (zeH (o0_0,o0_1,o0_2,o0_3,o0_4,o0_5,o0_6,o0_7,o0_8,o1_0,o1_1,o1_2,o1_3,o1_4,o1_5,o1_6,o3,o4)) fun r=>(bif r then (bif t6 == t8 then (bif t6 != (0:Int) then (exit (true)) else (bif t10 == (0:Int) then (za (zgv (t0,o2)) fun r_2=>(exit (r_2))) else (exit (false)))) else (exit (false))) else (exit (false))))
def Y8 (i:j7):Option zqe:=jO i some
theorem zCA (i:j7) (k:zqe→Ans):jO i k=za (Y8 i) k:=by
  obtain ⟨t0,t6,t8,t10,o0_0,o0_1,o0_2,o0_3,o0_4,o0_5,o0_6,o0_7,o0_8,o1_0,o1_1,o1_2,o1_3,o1_4,o1_5,o1_6,o2,o3,o4⟩:=i
  simp only [Y8,jO,zi,zh,zl,zc,zj,zm,zg]
theorem zHz (i:j7) (K:Ex→St→Ans):zx Tryz.tab YA zd (zy Tryz.tab YA zd 0 64) 70 69 ziH zdJ (zB 0 (exk [2] [2] []) K) (zAm i)=jO i (zmp i K):=by kernel_rfl
theorem zRe:zw Tryz.prog 69 zdJ (zG zfv Y8 zmp):=zA mixed tabOk zbZ 0 (exk [2] [2] []) zjv zLl zHz zCA
abbrev Y0:=(List (List UInt8))×(Int)×(Int)×(Int)×(Int)×(Int)×(Int)×(Int)×(Int)×(Int)×(Int)×(List (Int×(Int×Int)×List UInt8×((Int×Int)×List UInt8)×(Int×Int)×List UInt8))×(List Bool)×(Int)×(Int)×(Int)×(Int)×(Int)×(Int)×(Int)×(List (Int×(Int×Int)×List UInt8×((Int×Int)×List UInt8)×(Int×Int)×List UInt8))×(List Bool)
abbrev zfz:=(Bool)
def zmP:Y0→St:=fun (t0,t6,t8,t10,o0_0,o0_1,o0_2,o0_3,o0_4,o0_5,o0_6,o0_7,o0_8,o1_0,o1_1,o1_2,o1_3,o1_4,o1_5,o1_6,o2,o3)=>{ env:=[(0,.ro .str t0),(5,.ptr 0 0),(6,.int .i64 t6),(7,.ptr 1 0),(8,.int .i64 t8),(9,.nils),(10,.int .i64 t10)],stk:=[[]],H:=[.cells [.int .i64 o0_0,.int .i64 o0_1,.int .i64 o0_2,.int .i64 o0_3,.int .i64 o0_4,.int .i64 o0_5,.int .i64 o0_6,.ro (.st (.pair (.int .i64) (.pair (.pair (.int .i64) (.int .i64)) (.pair .str (.pair (.pair (.pair (.int .i64) (.int .i64)) .str) (.pair (.pair (.int .i64) (.int .i64)) .str)))))) o0_7,.ro .bool o0_8],.cells [.int .i64 o1_0,.int .i64 o1_1,.int .i64 o1_2,.int .i64 o1_3,.int .i64 o1_4,.int .i64 o1_5,.int .i64 o1_6,.own 2,.own 3],.arr (.st (.pair (.int .i64) (.pair (.pair (.int .i64) (.int .i64)) (.pair .str (.pair (.pair (.pair (.int .i64) (.int .i64)) .str) (.pair (.pair (.int .i64) (.int .i64)) .str)))))) o2,.arr .bool o3],blk:=12288 }
def zlV (s:St):Option {x:Y0 // s=zmP x}:=match s with
  | { env:=[(0,.ro .str t0),(5,.ptr 0 0),(6,.int .i64 t6),(7,.ptr 1 0),(8,.int .i64 t8),(9,.nils),(10,.int .i64 t10)],stk:=[[]],H:=[.cells [.int .i64 o0_0,.int .i64 o0_1,.int .i64 o0_2,.int .i64 o0_3,.int .i64 o0_4,.int .i64 o0_5,.int .i64 o0_6,.ro (.st (.pair (.int .i64) (.pair (.pair (.int .i64) (.int .i64)) (.pair .str (.pair (.pair (.pair (.int .i64) (.int .i64)) .str) (.pair (.pair (.int .i64) (.int .i64)) .str)))))) o0_7,.ro .bool o0_8],.cells [.int .i64 o1_0,.int .i64 o1_1,.int .i64 o1_2,.int .i64 o1_3,.int .i64 o1_4,.int .i64 o1_5,.int .i64 o1_6,.own 2,.own 3],.arr (.st (.pair (.int .i64) (.pair (.pair (.int .i64) (.int .i64)) (.pair .str (.pair (.pair (.pair (.int .i64) (.int .i64)) .str) (.pair (.pair (.int .i64) (.int .i64)) .str)))))) o2,.arr .bool o3],blk:=12288 }=>some ⟨(t0,t6,t8,t10,o0_0,o0_1,o0_2,o0_3,o0_4,o0_5,o0_6,o0_7,o0_8,o1_0,o1_1,o1_2,o1_3,o1_4,o1_5,o1_6,o2,o3),rfl⟩
  | _=>none
def zgh (s:St):Option Y0:=pk (zlV s)
theorem zAP (s:St) (x:Y0) (h:zgh s=some x):s=zmP x:=zt (o:=zlV s) h
def zfH:Y0→(Ex→St→Ans)→zfz→Ans:=fun (t0,t6,t8,t10,o0_0,o0_1,o0_2,o0_3,o0_4,o0_5,o0_6,o0_7,o0_8,o1_0,o1_1,o1_2,o1_3,o1_4,o1_5,o1_6,o2,o3) K=>fun t2_y=>K (Ex.norm) { env:=[(2,.bool t2_y)],stk:=[[]],H:=[],blk:=12288 }
def zam {β:Type}:Y0→(zfz→Option β)→Option β:=fun (t0,t6,t8,t10,o0_0,o0_1,o0_2,o0_3,o0_4,o0_5,o0_6,o0_7,o0_8,o1_0,o1_1,o1_2,o1_3,o1_4,o1_5,o1_6,o2,o3) exit=>(za (zeH (o0_0,o0_1,o0_2,o0_3,o0_4,o0_5,o0_6,o0_7,o0_8,o1_0,o1_1,o1_2,o1_3,o1_4,o1_5,o1_6,o2,o3)) fun r=>(bif r then (bif t6 == t8 then (bif t6 != (0:Int) then (exit (true)) else (bif t10 == (0:Int) then (za (zuw (t0)) fun r_2=>(exit (r_2))) else (exit (false)))) else (exit (false))) else (exit (false))))
def Ww (i:Y0):Option zfz:=zam i some
theorem zsA (i:Y0) (k:zfz→Ans):zam i k=za (Ww i) k:=by
  obtain ⟨t0,t6,t8,t10,o0_0,o0_1,o0_2,o0_3,o0_4,o0_5,o0_6,o0_7,o0_8,o1_0,o1_1,o1_2,o1_3,o1_4,o1_5,o1_6,o2,o3⟩:=i
  simp only [Ww,zam,zi,zh,zl,zc,zj,zm,zg]
theorem ztE (i:Y0) (K:Ex→St→Ans):zx Tryz.tab YA zd (zy Tryz.tab YA zd 0 64) 70 69 ziH zdJ (zB 0 (exk [2] [2] []) K) (zmP i)=zam i (zfH i K):=by kernel_rfl
theorem zHg:zw Tryz.prog 69 zdJ (zG zgh Ww zfH):=zA mixed tabOk zbZ 0 (exk [2] [2] []) zjv zAP ztE zsA
noncomputable def zRn:(Ex→St→Ans)→St→Ans:=(zs1 zfv (zG zfv Y8 zmp) (zG zgh Ww zfH))
theorem zY8:zw Tryz.prog 69 zdJ zRn:=(zc1 zRe zHg)
noncomputable def zqA:Code:=zF [1,1,1,0,1,0,0,1,0,0,1,0] zsw
noncomputable def zxi:Ann := .none
theorem zIk:zq Tryz.prog 69 zqA zxi:=(zb _ _ _)
abbrev Qy:=(List (List UInt8))×(Int)×(Int)
abbrev zrd:=(Bool)
def zCQ:Qy→St:=fun (t0,t3,t4)=>{ env:=[(0,.ro .str t0),(3,.int .i64 t3),(4,.int .i64 t4)],stk:=[[]],H:=[],blk:=12289 }
def ztv (s:St):Option {x:Qy // s=zCQ x}:=match s with
  | { env:=[(0,.ro .str t0),(3,.int .i64 t3),(4,.int .i64 t4)],stk:=[[]],H:=[],blk:=12289 }=>some ⟨(t0,t3,t4),rfl⟩
  | _=>none
def zmO (s:St):Option Qy:=pk (ztv s)
theorem zL2 (s:St) (x:Qy) (h:zmO s=some x):s=zCQ x:=zt (o:=ztv s) h
def zkc:Qy→(Ex→St→Ans)→zrd→Ans:=fun (t0,t3,t4) K=>fun t32_y=>K (Ex.norm) { env:=[(0,.ro .str t0),(3,.int .i64 t3),(4,.int .i64 t4),(32,.bool t32_y)],stk:=[[]],H:=[],blk:=12289 }
def zad {β:Type}:Qy→(zrd→Option β)→Option β:=fun (t0,t3,t4) exit=>(bif decide (t4≥(60:Int)) then (exit (true)) else (exit (decide (t3>(20000:Int)))))
def WS (i:Qy):Option zrd:=zad i some
theorem zA2 (i:Qy) (k:zrd→Ans):zad i k=za (WS i) k:=by
  obtain ⟨t0,t3,t4⟩:=i
  simp only [WS,zad,zi,zh,zl,zc,zj,zm,zg]
theorem zFU (i:Qy) (K:Ex→St→Ans):zx Tryz.tab YA zd (zy Tryz.tab YA zd 0 64) 70 69 zxi zqA (zB 0 (exk [0,3,4,32] [2] []) K) (zCQ i)=zad i (zkc i K):=by kernel_rfl
theorem zPG:zw Tryz.prog 69 zqA (zG zmO WS zkc):=zA mixed tabOk zbZ 0 (exk [0,3,4,32] [2] []) zIk zL2 zFU zA2
noncomputable def zUe:(Ex→St→Ans)→St→Ans:=(zG zmO WS zkc)
theorem zVE:zw Tryz.prog 69 zqA zUe:=zPG
noncomputable def zol:Code:=zF [1,1,1,0,1,0,0,1,0] zsw
noncomputable def zvD:Ann:=(.block (.seq .none (.seq (.cut 0 [0,3,4] zUe) .none)))
theorem zIe:zq Tryz.prog 69 zol zvD:=⟨(zb _ _ _),⟨zVE,(zb _ _ _)⟩⟩
abbrev Q9:=(List (List UInt8))×(Int)×(Int)
abbrev zqb:=(Unit) ⊕ ((Int))
def zBD:Q9→St:=fun (t0,t3,t4)=>{ env:=[(0,.ro .str t0),(3,.int .i64 t3),(4,.int .i64 t4)],stk:=[[]],H:=[],blk:=12288 }
def zwW (s:St):Option {x:Q9 // s=zBD x}:=match s with
  | { env:=[(0,.ro .str t0),(3,.int .i64 t3),(4,.int .i64 t4)],stk:=[[]],H:=[],blk:=12288 }=>some ⟨(t0,t3,t4),rfl⟩
  | _=>none
def zkR (s:St):Option Q9:=pk (zwW s)
theorem zMv (s:St) (x:Q9) (h:zkR s=some x):s=zBD x:=zt (o:=zwW s) h
def zjR:Q9→(Ex→St→Ans)→zqb→Ans:=fun (t0,t3,t4) K=>(Sum.elim (fun _=>K (Ex.ret) { env:=[(2,.bool (true))],stk:=[[]],H:=[],blk:=12289 }) (fun t3_y=>K (Ex.norm) { env:=[(0,.ro .str t0),(3,.int .i64 t3_y),(4,.int .i64 t4)],stk:=[[]],H:=[],blk:=12289 }))
def zbC {β:Type}:Q9→(zqb→Option β)→Option β:=fun (t0,t3,t4) exit=>(za (nth t0 t4) fun x=>(za (WS (t0,IntKind.wrap .i64 (t3+if (50000:Int)<(↑(List.length x):Int) then (50000:Int) else (↑(List.length x):Int)),t4)) fun t32=>(bif t32 then (exit (Sum.inl ())) else (exit (Sum.inr (IntKind.wrap .i64 (t3+if (50000:Int)<(↑(List.length x):Int) then (50000:Int) else (↑(List.length x):Int))))))))
def qg (i:Q9):Option zqb:=zbC i some
theorem zDR (i:Q9) (k:zqb→Ans):zbC i k=za (qg i) k:=by
  obtain ⟨t0,t3,t4⟩:=i
  simp only [qg,zbC,zi,zh,zl,zc,zj,zm,zg]
theorem zHZ (i:Q9) (K:Ex→St→Ans):zx Tryz.tab YA zd (zy Tryz.tab YA zd 0 64) 70 69 zvD zol (zB 0 (exk [0,3,4] [2] []) K) (zBD i)=zbC i (zjR i K):=by kernel_rfl
theorem zRa:zw Tryz.prog 69 zol (zG zkR qg zjR):=zA mixed tabOk zbZ 0 (exk [0,3,4] [2] []) zIe zMv zHZ zDR
noncomputable def zTS:(Ex→St→Ans)→St→Ans:=(zG zkR qg zjR)
theorem zXu:zw Tryz.prog 69 zol zTS:=zRa
noncomputable def zgZ:Code:=zF [1,1,1,0,1,0,0] zsw
noncomputable def zjh:Ann := .at 0 [0,3,4] (.loop (.seq .none (.seq (.cut 0 [0,3,4] zTS) .none)))
theorem zH7:zq Tryz.prog 69 (.loop zgZ) zjh:=Zi ⟨(zb _ _ _),⟨zXu,(zb _ _ _)⟩⟩
abbrev QX:=(List (List UInt8))
abbrev zok:=(Unit) ⊕ (Unit)
abbrev wL:=(Int)×(Int)
def zpW:QX→wL→St:=fun t0 (t3,t4)=>{ env:=[(0,.ro .str t0),(3,.int .i64 t3),(4,.int .i64 t4)],stk:=[[]],H:=[],blk:=12288 }
def zvA (s:St):Option {x:QX×wL // s=zpW x.1 x.2}:=match s with
  | { env:=[(0,.ro .str t0),(3,.int .i64 t3),(4,.int .i64 t4)],stk:=[[]],H:=[],blk:=12288 }=>some ⟨(t0,(t3,t4)),rfl⟩
  | _=>none
def zm1 (s:St):Option (QX×wL):=pk (zvA s)
theorem zNT (s:St) (x:QX×wL) (h:zm1 s=some x):s=zpW x.1 x.2:=zt (o:=zvA s) h
def zjS:QX→(Ex→St→Ans)→zok→Ans:=fun t0 K=>(Sum.elim (fun _=>K (Ex.ret) { env:=[(2,.bool (true))],stk:=[[]],H:=[],blk:=12289 }) (fun _=>K (Ex.exit 0) { env:=[(0,.ro .str t0)],stk:=[[]],H:=[],blk:=12288 }))
def jW {β:Type}:QX→wL→(wL→Option β)→(zok→Option β)→Option β:=fun t0 (t3,t4) next exit=>(bif decide (t4<(↑(List.length t0):Int)) then (za (qg (t0,t3,t4)) (Sum.elim (fun _=>(exit (Sum.inl ()))) (fun t3_2=>(next (t3_2,IntKind.wrap .i64 (t4+(1:Int))))))) else (exit (Sum.inr ())))
def yG (i:QX) (v:wL):Option (wL ⊕ zok):=jW i v (fun v=>some (.inl v)) (fun y=>some (.inr y))
theorem zzh (i:QX) (v:wL) (next:wL→Ans) (exit:zok→Ans):jW i v next exit=za (yG i v) (Sum.elim next exit):=by
  obtain z:=i
  obtain ⟨t3,t4⟩:=v
  simp only [yG,jW,zi,zh,zl,zc,zj,zm,zg,Sum.elim_inl,Sum.elim_inr]
theorem zGd (n:Nat) (i:QX) (v:wL) (K:Ex→St→Ans):zx Tryz.tab YA zd (zy Tryz.tab YA zd 0 64) (n+1) 69 zjh (.loop zgZ) (zB 0 (exk [0] [2] [(0,[0])]) K) (zpW i v)=jW i v (fun v'=>zx Tryz.tab YA zd (zy Tryz.tab YA zd 0 64) n 69 zjh (.loop zgZ) (zB 0 (exk [0] [2] [(0,[0])]) K) (zpW i v')) (fun y=>zjS i K y):=by kernel_rfl
theorem zO9:zw Tryz.prog 69 (.loop zgZ) (Zm zm1 yG zjS):=Zf mixed tabOk zbZ 0 (exk [0] [2] [(0,[0])]) zH7 zNT zGd zzh
noncomputable def zSZ:(Ex→St→Ans)→St→Ans:=(Zm zm1 yG zjS)
theorem zZu:zw Tryz.prog 69 (.loop zgZ) zSZ:=zO9
noncomputable def zJi:Ann:=(.seq .none (.seq .none (.seq .none (.seq (.seq .none (.block (.cut 0 [0,3,4] zSZ))) (.seq .none (.seq .none (.seq .none (.seq (.cut 0 [0,5,6,7,8,9,10] zRn) .none))))))))
theorem z41:zq Tryz.prog 69 zsw zJi:=⟨(zb _ _ _),⟨(zb _ _ _),⟨(zb _ _ _),⟨⟨(zb _ _ _),zZu⟩,⟨(zb _ _ _),⟨(zb _ _ _),⟨(zb _ _ _),⟨zY8,(zb _ _ _)⟩⟩⟩⟩⟩⟩⟩⟩
abbrev zAI:=(List (List UInt8))
abbrev zVP:=(Bool)
def zx5 {β:Type}:zAI→(zVP→Option β)→Option β:=fun a0 exit=>(za (zb0 ()) fun _=>(za (zO (yG (a0)) zY ((0:Int),(0:Int))) (Sum.elim (fun _=>(exit (true))) (fun _=>(za (zn1 (a0)) (unP fun r_0_0=>unP fun r_0_1=>unP fun r_0_2=>unP fun r_0_3=>unP fun r_0_4=>unP fun r_0_5=>unP fun r_0_6=>unP fun r_1=>unP fun o0 o1=>(za (zgA (a0)) (unP fun r_0_0_2=>unP fun r_0_1_2=>unP fun r_0_2_2=>unP fun r_0_3_2=>unP fun r_0_4_2=>unP fun r_0_5_2=>unP fun r_0_6_2=>unP fun r_1_2=>unP fun o0_2 o1_2=>(za (zrg (r_0_0,r_0_1,r_0_2,r_0_3,r_0_4,r_0_5,r_0_6,o0,o1)) (Sum.elim (unP fun r_1_3 o0_3=>(za (Y8 (a0,r_1,r_1_2,r_1_3,r_0_0,r_0_1,r_0_2,r_0_3,r_0_4,r_0_5,r_0_6,o0,o1,r_0_0_2,r_0_1_2,r_0_2_2,r_0_3_2,r_0_4_2,r_0_5_2,r_0_6_2,o0_3,o0_2,o1_2)) fun t2=>(exit (t2)))) (fun r_1_3=>(za (Ww (a0,r_1,r_1_2,r_1_3,r_0_0,r_0_1,r_0_2,r_0_3,r_0_4,r_0_5,r_0_6,o0,o1,r_0_0_2,r_0_1_2,r_0_2_2,r_0_3_2,r_0_4_2,r_0_5_2,r_0_6_2,o0_2,o1_2)) fun t2=>(exit (t2))))))))))))))
def ztU (a:zAI):Option zVP:=zx5 a some
theorem z1Q (a:zAI) (k:zVP→Ans):zx5 a k=za (ztU a) k:=by
  obtain z:=a
  simp only [ztU,zx5,zi,zh,zl,zc,zj,zm,zg]
def zTa:zAI→List AV×List AE.Obj:=fun a0=>([.ro .str a0],[])
def Zd3:zAI→(AV→List AE.Obj→Ans)→zVP→Ans:=fun a0 K=>fun r_y=>K (.bool r_y) []
theorem z83 (a:zAI) (K:AV→List AE.Obj→Ans):fnE Tryz.tab YA zd 0 70 3 Tryz.f3.ntmps Tryz.f3.results.toList zJi zsw (zTa a).1 (zTa a).2 K=zx5 a (Zd3 a K):=by kernel_rfl
--@ law43_DumpPuts
end Go.Proofs.R9
namespace Go.Proofs.R9
open Go Go.AE Go.Plain
set_option maxRecDepth 100000
theorem zW7 (l:List (List UInt8)):(∃e,e≠0∧zeu l=noI e) ∨ ∃n r b c x s lg ss cs,zeu l=(n,r,b,c,x,s,lg,0,ss,cs)∧zsT n r b c x s lg ss cs=(0,l)∧ss.length≤24∧cs.length≤24:=by
  have key:(∃e,e≠0∧zeu l=noI e) ∨ ∃n r b c x s lg ss cs,zeu l=(n,r,b,c,x,s,lg,0,ss,cs):=by
    unfold zeu
    by_cases h2:l.length<2
    · rw [if_pos h2];exact .inl ⟨1,by decide,rfl⟩
    rw [if_neg h2]
    by_cases he:qP l≠0
    · rw [if_pos he];exact .inl ⟨_,he,rfl⟩
    rw [if_neg he]
    by_cases hk : ¬kOk (zX l)=true
    · rw [if_pos hk];exact .inl ⟨7,by decide,rfl⟩
    rw [if_neg hk]
    generalize qB ((zT l).headD [])=g
    obtain ⟨n,r,b,c,x,s,lg,e⟩:=g
    dsimp only
    unfold ztR
    by_cases hb:e≠0∨x≠(l.length:Int) - 2
    · rw [if_pos hb];exact .inl ⟨4,by decide,rfl⟩
    rw [if_neg hb]
    cases qU JK 0 (((zT l).drop 1).take (l.length - 2)) with
    | none=>exact .inl ⟨4,by decide,rfl⟩
    | some q =>
      dsimp only
      by_cases hl:(zT l)[l.length - 1]? ≠ some (zbY (l.take (l.length - 1)))
      · rw [if_pos hl];exact .inl ⟨5,by decide,rfl⟩
      rw [if_neg hl]
      by_cases hc:Jl n r b c x s lg (q.map (·.1)) (q.map (·.2))≠0
      · rw [if_pos hc];exact .inl ⟨_,hc,rfl⟩
      rw [if_neg hc]
      exact .inr ⟨n,r,b,c,x,s,lg,_,_,rfl⟩
  rcases key with h | ⟨n,r,b,c,x,s,lg,ss,cs,h⟩
  · exact .inl h
  · have hp:=ZaT h
    have hc:Jl n r b c x s lg ss cs=0:=by
      apply Decidable.byContradiction
      intro hne
      unfold zsT at hp
      rw [if_pos hne] at hp
      exact hne (congrArg Prod.fst hp)
    obtain ⟨hm,h1,h2,_⟩:=zul hc
    have hx:=hm.1.1
    exact .inr ⟨n,r,b,c,x,s,lg,ss,cs,h,hp,by omega,by omega⟩
theorem zXH (l:List (List UInt8)) : ∃y,zO (yG l) zY (0,0)=some y∧(y = .inl ()∨(y = .inr ()∧Fit l)):=by
  have key : ∃y,zO (yG l) zY ((0:Int),((0:Nat):Int))=some y∧(y = .inl ()∨(y = .inr ()∧Fit l)):=by
    refine YY (fun j v=>j≤l.length∧j≤60∧v.2=(j:Int)∧0≤v.1∧v.1≤20000 ∧ ∀t ∈ l.take j,t.length≤20000) 61 _ ?_ ⟨Nat.zero_le _,by omega,rfl,by decide,by decide,fun t ht=>by cases ht⟩ (by omega)
    rintro j ⟨a,i⟩ ⟨h1,h2,h3,h4,h5,h6⟩
    dsimp only at h3 h4 h5
    subst h3
    by_cases hlt:j<l.length
    · obtain ⟨t,ht⟩ : ∃t,l[j]? = some t:=⟨_,List.getElem?_eq_getElem hlt⟩
      simp only [yG,jW,qg,zbC,WS,zad,zo (show (j:Int)<(l.length:Int) by omega),cond_true,yj ht,zc]
      by_cases h60:j=60
      · right
        rw [zo (show (j:Int)≥60 by omega)]
        exact ⟨_,rfl,.inl rfl⟩
      · rw [zn (show ¬(j:Int)≥60 by omega),cond_false]
        by_cases ht2:50000<(t.length:Int)
        · right
          rw [if_pos ht2,Zg (x:=a+50000) (by omega) (by omega),zo (show a+50000>20000 by omega)]
          exact ⟨_,rfl,.inl rfl⟩
        · rw [if_neg ht2,Zg (x:=a+(t.length:Int)) (by omega) (by omega)]
          by_cases hs:a+(t.length:Int)>20000
          · right
            rw [zo hs]
            exact ⟨_,rfl,.inl rfl⟩
          · left
            rw [zn hs]
            refine ⟨(a+(t.length:Int),((j+1:Nat):Int)),?_,by omega,by omega,by omega,rfl,by dsimp only;omega,by dsimp only;omega,fun u hu => ?_⟩
            · simp only [zc,cond_false,Sum.elim_inr,z7 (n:=j) (by omega)]
            · rw [zdF ht] at hu
              rcases List.mem_append.1 hu with hu | hu
              · exact h6 u hu
              · rw [List.mem_singleton.1 hu];omega
    · right
      obtain rfl:j=l.length:=by omega
      simp only [yG,jW,zn (show ¬(l.length:Int)<(l.length:Int) by omega),cond_false]
      refine ⟨_,rfl,.inr ⟨rfl,by omega,fun u hu => ?_⟩⟩
      have:=h6 u (by rw [List.take_length];exact hu)
      omega
  exact key
theorem zHN (l:List (List UInt8)):ztU l=some true:=by
  obtain ⟨y,hy,hq⟩:=zXH l
  simp only [ztU,zx5,zb0,zc,hy]
  rcases hq with rfl | ⟨rfl,hf⟩
  · rfl
  have hlen:=hf.1
  simp only [Sum.elim_inr,zY5 l hf,z06 l hf,zc]
  rcases zW7 l with ⟨e,he,h⟩ | ⟨n,r,b,c,x,s,lg,ss,cs,h,hp,h1,h2⟩
  · rw [h]
    have hb:(e != 0)=true:=by simpa using he
    simp only [noI,unP,zvX,zc,Sum.elim_inl,Y8,jO,zwK 0 0 0 0 0 0 0 [] [] 0 0 0 0 0 0 0 [] [] (by simp) (by simp)]
    generalize zsT 0 0 0 0 0 0 0 [] []=p
    obtain ⟨p1,p2⟩:=p
    simp only [unP,zo,and_self,cond_true,beq_self_eq_true,hb,zc]
  · rw [h]
    simp only [unP,zvX,zc,Sum.elim_inl,hp,Y8,jO,zwK n r b c x s lg ss cs n r b c x s lg ss cs (by omega) (by omega),z9a l l (by omega) (by omega)]
    simp only [and_self,decide_true]
    rfl
end Go.Proofs.R9
