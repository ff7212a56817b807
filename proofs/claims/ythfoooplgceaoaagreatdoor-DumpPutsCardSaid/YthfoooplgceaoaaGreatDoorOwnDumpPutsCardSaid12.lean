/- What the functions that DumpPutsCardSaid reaches compute: part 12. -/
import Derived.Test.YthfoooplgceaoaaGreatDoorOwnDumpPutsCardSaid11
set_option linter.unusedVariables false
set_option linter.unusedSimpArgs false
namespace Go.Proofs.R9
open Go Go.AE
set_option maxRecDepth 100000
theorem ZU:Yj.all (ZN.ok Tryz.prog)=true:=by kernel_rfl
theorem ZT:Yk.all (ZN.ok Tryz.prog)=true:=by kernel_rfl
theorem Zbm:zf Tryz.prog Tb0:=ZH
theorem Zau:ZC Tryz.prog To0:=yc mixed tabOk Zbm ZU ZT 40
theorem Y2:zO Tryz.prog 112 T0f:=wG (i:=⟨112,false,[(0,[7,9,26]),(2,[7,9,44,45])]⟩) mixed tabOk Zau Tryz.func112 (by kernel_rfl) (by decide +kernel) T0r
theorem ZaN:zf Tryz.prog Tb1:=zf.cons Y2 (ZH)
theorem z9H:ZC Tryz.prog To1:=yc mixed tabOk ZaN ZU ZT 40
theorem wn:zO Tryz.prog 114 T1f:=wG (i:=⟨114,false,[(0,[8,28,29,30])]⟩) mixed tabOk z9H Tryz.func114 (by kernel_rfl) (by decide +kernel) T1r
theorem z9O:zf Tryz.prog Tb2:=zf.cons Y2 (zf.cons wn (ZH))
theorem z9L:ZC Tryz.prog To2:=yc mixed tabOk z9O ZU ZT 40
theorem Wj:zO Tryz.prog 116 T2f:=zbu (i:=⟨116,false,[(0,[0,21,22,23])]⟩) mixed tabOk z9L Tryz.func116 (by kernel_rfl) (by decide +kernel) T2r
theorem z98:zf Tryz.prog Tb3:=zf.cons Y2 (zf.cons wn (zf.cons Wj (ZH)))
theorem Zbn:ZC Tryz.prog To3:=yc mixed tabOk z98 ZU ZT 40
theorem qA:zO Tryz.prog 116 T3f:=zbu (i:=⟨116,false,[(0,[0,21,22,23])]⟩) mixed tabOk Zbn Tryz.func116 (by kernel_rfl) (by decide +kernel) T3r
theorem Zby:zf Tryz.prog Tb4:=zf.cons Y2 (zf.cons wn (zf.cons (zQ Wj qA) (ZH)))
theorem Zbf:ZC Tryz.prog To4:=yc mixed tabOk Zby ZU ZT 40
theorem jQ:zO Tryz.prog 116 T4f:=zbu (i:=⟨116,false,[(0,[0,21,22,23])]⟩) mixed tabOk Zbf Tryz.func116 (by kernel_rfl) (by decide +kernel) T4r
theorem Zbt:zf Tryz.prog Tb5:=zf.cons Y2 (zf.cons wn (zf.cons (zQ Wj (zQ qA jQ)) (ZH)))
theorem z9N:ZC Tryz.prog To5:=yc mixed tabOk Zbt ZU ZT 40
theorem Jk:zO Tryz.prog 116 T5f:=zbu (i:=⟨116,false,[(0,[0,21,22,23])]⟩) mixed tabOk z9N Tryz.func116 (by kernel_rfl) (by decide +kernel) T5r
theorem Zar:zf Tryz.prog Tb6:=zf.cons Y2 (zf.cons wn (zf.cons (zQ Wj (zQ qA (zQ jQ Jk))) (ZH)))
theorem Zbb:ZC Tryz.prog To6:=yc mixed tabOk Zar ZU ZT 40
theorem zaS:zO Tryz.prog 116 T6f:=zbu (i:=⟨116,false,[(0,[0,21,22,23])]⟩) mixed tabOk Zbb Tryz.func116 (by kernel_rfl) (by decide +kernel) T6r
theorem Zbk:zf Tryz.prog Tb7:=zf.cons Y2 (zf.cons wn (zf.cons (zQ Wj (zQ qA (zQ jQ (zQ Jk zaS)))) (ZH)))
theorem Za1:ZC Tryz.prog To7:=yc mixed tabOk Zbk ZU ZT 40
theorem zbN:zO Tryz.prog 125 T7f:=wG (i:=⟨125,false,[]⟩) mixed tabOk Za1 Tryz.func125 (by kernel_rfl) (by decide +kernel) T7r
theorem Zai:zf Tryz.prog Tb8:=zf.cons Y2 (zf.cons wn (zf.cons (zQ Wj (zQ qA (zQ jQ (zQ Jk zaS)))) (zf.cons zbN (ZH))))
theorem z9P:ZC Tryz.prog To8:=yc mixed tabOk Zai ZU ZT 40
theorem zdc:zO Tryz.prog 77 T8f:=wG (i:=⟨77,false,[(0,[5,8,10,13,79,80])]⟩) mixed tabOk z9P Tryz.func77 (by kernel_rfl) (by decide +kernel) T8r
theorem z9D:zf Tryz.prog Tb9:=zf.cons zdc (zf.cons Y2 (zf.cons wn (zf.cons (zQ Wj (zQ qA (zQ jQ (zQ Jk zaS)))) (zf.cons zbN (ZH)))))
theorem z9C:ZC Tryz.prog To9:=yc mixed tabOk z9D ZU ZT 40
theorem zfp:zO Tryz.prog 114 T9f:=wG (i:=⟨114,false,[(0,[8,28,29,30])]⟩) mixed tabOk z9C Tryz.func114 (by kernel_rfl) (by decide +kernel) T9r
theorem z8K:zf Tryz.prog Zbx:=zf.cons zdc (zf.cons Y2 (zf.cons (zQ wn zfp) (zf.cons (zQ Wj (zQ qA (zQ jQ (zQ Jk zaS)))) (zf.cons zbN (ZH)))))
theorem z9c:ZC Tryz.prog Za9:=yc mixed tabOk z8K ZU ZT 40
theorem zep:zO Tryz.prog 78 zjX:=wG (i:=⟨78,false,[]⟩) mixed tabOk z9c Tryz.func78 (by kernel_rfl) (by decide +kernel) Zda
theorem z8H:zf Tryz.prog ZaV:=zf.cons zdc (zf.cons zep (zf.cons Y2 (zf.cons (zQ wn zfp) (zf.cons (zQ Wj (zQ qA (zQ jQ (zQ Jk zaS)))) (zf.cons zbN (ZH))))))
theorem z89:ZC Tryz.prog Zba:=yc mixed tabOk z8H ZU ZT 40
theorem zhm:zO Tryz.prog 116 zrn:=zbu (i:=⟨116,false,[(0,[0,21,22,23])]⟩) mixed tabOk z89 Tryz.func116 (by kernel_rfl) (by decide +kernel) Zc9
theorem z8s:zf Tryz.prog z9z:=zf.cons zdc (zf.cons zep (zf.cons Y2 (zf.cons (zQ wn zfp) (zf.cons (zQ Wj (zQ qA (zQ jQ (zQ Jk (zQ zaS zhm))))) (zf.cons zbN (ZH))))))
theorem z8x:ZC Tryz.prog Zbq:=yc mixed tabOk z8s ZU ZT 40
theorem zkA:zO Tryz.prog 43 zAi:=wG (i:=⟨43,false,[]⟩) mixed tabOk z8x Tryz.func43 (by kernel_rfl) (by decide +kernel) Zc8
theorem z9t:zf Tryz.prog Zbj:=zf.cons zkA (zf.cons zdc (zf.cons zep (zf.cons Y2 (zf.cons (zQ wn zfp) (zf.cons (zQ Wj (zQ qA (zQ jQ (zQ Jk (zQ zaS zhm))))) (zf.cons zbN (ZH)))))))
theorem z9e:ZC Tryz.prog Zas:=yc mixed tabOk z9t ZU ZT 40
theorem zsT:zO Tryz.prog 18 zKw:=wG (i:=⟨18,false,[(0,[0,2,4,5,20,21])]⟩) mixed tabOk z9e Tryz.func18 (by kernel_rfl) (by decide +kernel) ZcS
theorem z8u:zf Tryz.prog z9T:=zf.cons zsT (zf.cons zkA (zf.cons zdc (zf.cons zep (zf.cons Y2 (zf.cons (zQ wn zfp) (zf.cons (zQ Wj (zQ qA (zQ jQ (zQ Jk (zQ zaS zhm))))) (zf.cons zbN (ZH))))))))
theorem z9l:ZC Tryz.prog ZaG:=yc mixed tabOk z8u ZU ZT 40
theorem zLl:zO Tryz.prog 9 zWz:=wG (i:=⟨9,false,[]⟩) mixed tabOk z9l Tryz.func9 (by kernel_rfl) (by decide +kernel) Zc5
theorem z8J:zf Tryz.prog z9F:=zf.cons zLl (zf.cons zsT (zf.cons zkA (zf.cons zdc (zf.cons zep (zf.cons Y2 (zf.cons (zQ wn zfp) (zf.cons (zQ Wj (zQ qA (zQ jQ (zQ Jk (zQ zaS zhm))))) (zf.cons zbN (ZH)))))))))
theorem z8f:ZC Tryz.prog Zak:=yc mixed tabOk z8J ZU ZT 40
theorem zZn:zO Tryz.prog 7 z6D:=wG (i:=⟨7,false,[(0,[0,2,4,5,6,8,51,52,53])]⟩) mixed tabOk z8f Tryz.func7 (by kernel_rfl) (by decide +kernel) Zc2
theorem z8M:zf Tryz.prog Zaz:=zf.cons zZn (zf.cons zLl (zf.cons zsT (zf.cons zkA (zf.cons zdc (zf.cons zep (zf.cons Y2 (zf.cons (zQ wn zfp) (zf.cons (zQ Wj (zQ qA (zQ jQ (zQ Jk (zQ zaS zhm))))) (zf.cons zbN (ZH))))))))))
theorem z9h:ZC Tryz.prog Za2:=yc mixed tabOk z8M ZU ZT 40
theorem Za3:zO Tryz.prog 10 z9I:=wG (i:=⟨10,true,[(0,[2,3,5]),(2,[2,3,6])]⟩) mixed tabOk z9h Tryz.func10 (by kernel_rfl) (by decide +kernel) ZcY
theorem z8U:zf Tryz.prog Zax:=zf.cons zZn (zf.cons zLl (zf.cons Za3 (zf.cons zsT (zf.cons zkA (zf.cons zdc (zf.cons zep (zf.cons Y2 (zf.cons (zQ wn zfp) (zf.cons (zQ Wj (zQ qA (zQ jQ (zQ Jk (zQ zaS zhm))))) (zf.cons zbN (ZH)))))))))))
theorem z8Q:ZC Tryz.prog z90:=yc mixed tabOk z8U ZU ZT 40
abbrev zlp:=Unit
abbrev zM6:=Bool
def zbt (_:zlp):Option zM6:=some true
def zvn (l:List AV):Option zlp:=match l with
  | []=>some ()
  | _=>none
def zmH:List AV→(AV→Ans)→Ans:=fun l K=>za (zvn l) fun a=>za (zbt a) fun y=>K (.bool y)
theorem ztI:zM Tryz.prog 6 zmH :=
  z8F (i:=⟨6,true,[]⟩) mixed tabOk z8Q Tryz.func6 (by kernel_rfl) (by decide +kernel) (v := .bool true) rfl (fun l K res h=>by
    cases l with
    | nil=>exact ⟨rfl,h⟩
    | cons _ _=>cases h) ZcT
end Go.Proofs.R9
namespace Go.Proofs.R9
open Go Go.AE
set_option maxRecDepth 100000
--@ law43_DumpGets
--@ law43_DumpPuts
noncomputable def J2:Env:=[(6,.pure zmH),(14,.pure Fq6),(7,.func (ZaL zJl z9S Fq8)),(15,.pure z5x),(9,.func Fq9),(10,.pure Zaq),(11,.pure (z4H zze z7V ZbE)),(12,.pure Zbi),(13,.func Zbw),(16,.pure ZaO)]
theorem zh5:zf Tryz.prog J2:=zf.cons ztI (zf.cons zwW (zf.cons (zZ9 ZaW z9E) (zf.cons zQJ (zf.cons ZaF (zf.cons z9g (zf.cons (z1p z9o z8z) (zf.cons z8E (zf.cons z8o (zf.cons z8Y (zf.nil))))))))))
noncomputable def zLd:Code:=Tryz.f5.body.getD .skip
noncomputable def zdk:Code:=zF [1,1,1,1,1,1,0] zLd
noncomputable def ziQ:Ann := .none
theorem zi6:zq Tryz.prog 71 zdk ziQ:=(zb _ _ _)
abbrev jP:=(List (List UInt8))×(Int)×(Int)×(Int)×(Int)×(Int)×(Int)×(Int)×(Int)×(Int)×(Int)×(List (Int×(Int×Int)×List UInt8×((Int×Int)×List UInt8)×(Int×Int)×List UInt8))×(List Bool)×(Int)×(Int)×(Int)×(Int)×(Int)×(Int)×(Int)×(List (Int×(Int×Int)×List UInt8×((Int×Int)×List UInt8)×(Int×Int)×List UInt8))×(List Bool)×(List (List UInt8))×(Int)×(Int)×(Int)×(Int)×(Int)×(Int)×(Int)×(List (Int×(Int×Int)×List UInt8×((Int×Int)×List UInt8)×(Int×Int)×List UInt8))×(List Bool)
abbrev znA:=(Bool)
def zzz:jP→St:=fun (t5,t6,t8,t10,o0_0,o0_1,o0_2,o0_3,o0_4,o0_5,o0_6,o0_7,o0_8,o1_0,o1_1,o1_2,o1_3,o1_4,o1_5,o1_6,o1_7,o1_8,o2,o3_0,o3_1,o3_2,o3_3,o3_4,o3_5,o3_6,o4,o5)=>{ env:=[(2,.ptr 0 0),(3,.ptr 1 0),(5,.ro .str t5),(6,.int .i64 t6),(7,.own 2),(8,.int .i64 t8),(9,.ptr 3 0),(10,.int .i64 t10)],stk:=[[]],H:=[.cells [.int .i64 o0_0,.int .i64 o0_1,.int .i64 o0_2,.int .i64 o0_3,.int .i64 o0_4,.int .i64 o0_5,.int .i64 o0_6,.ro (.st (.pair (.int .i64) (.pair (.pair (.int .i64) (.int .i64)) (.pair .str (.pair (.pair (.pair (.int .i64) (.int .i64)) .str) (.pair (.pair (.int .i64) (.int .i64)) .str)))))) o0_7,.ro .bool o0_8],.cells [.int .i64 o1_0,.int .i64 o1_1,.int .i64 o1_2,.int .i64 o1_3,.int .i64 o1_4,.int .i64 o1_5,.int .i64 o1_6,.ro (.st (.pair (.int .i64) (.pair (.pair (.int .i64) (.int .i64)) (.pair .str (.pair (.pair (.pair (.int .i64) (.int .i64)) .str) (.pair (.pair (.int .i64) (.int .i64)) .str)))))) o1_7,.ro .bool o1_8],.arr .str o2,.cells [.int .i64 o3_0,.int .i64 o3_1,.int .i64 o3_2,.int .i64 o3_3,.int .i64 o3_4,.int .i64 o3_5,.int .i64 o3_6,.own 4,.own 5],.arr (.st (.pair (.int .i64) (.pair (.pair (.int .i64) (.int .i64)) (.pair .str (.pair (.pair (.pair (.int .i64) (.int .i64)) .str) (.pair (.pair (.int .i64) (.int .i64)) .str)))))) o4,.arr .bool o5],blk:=20480 }
def zxa (s:St):Option {x:jP // s=zzz x}:=match s with
  | { env:=[(2,.ptr 0 0),(3,.ptr 1 0),(5,.ro .str t5),(6,.int .i64 t6),(7,.own 2),(8,.int .i64 t8),(9,.ptr 3 0),(10,.int .i64 t10)],stk:=[[]],H:=[.cells [.int .i64 o0_0,.int .i64 o0_1,.int .i64 o0_2,.int .i64 o0_3,.int .i64 o0_4,.int .i64 o0_5,.int .i64 o0_6,.ro (.st (.pair (.int .i64) (.pair (.pair (.int .i64) (.int .i64)) (.pair .str (.pair (.pair (.pair (.int .i64) (.int .i64)) .str) (.pair (.pair (.int .i64) (.int .i64)) .str)))))) o0_7,.ro .bool o0_8],.cells [.int .i64 o1_0,.int .i64 o1_1,.int .i64 o1_2,.int .i64 o1_3,.int .i64 o1_4,.int .i64 o1_5,.int .i64 o1_6,.ro (.st (.pair (.int .i64) (.pair (.pair (.int .i64) (.int .i64)) (.pair .str (.pair (.pair (.pair (.int .i64) (.int .i64)) .str) (.pair (.pair (.int .i64) (.int .i64)) .str)))))) o1_7,.ro .bool o1_8],.arr .str o2,.cells [.int .i64 o3_0,.int .i64 o3_1,.int .i64 o3_2,.int .i64 o3_3,.int .i64 o3_4,.int .i64 o3_5,.int .i64 o3_6,.own 4,.own 5],.arr (.st (.pair (.int .i64) (.pair (.pair (.int .i64) (.int .i64)) (.pair .str (.pair (.pair (.pair (.int .i64) (.int .i64)) .str) (.pair (.pair (.int .i64) (.int .i64)) .str)))))) o4,.arr .bool o5],blk:=20480 }=>some ⟨(t5,t6,t8,t10,o0_0,o0_1,o0_2,o0_3,o0_4,o0_5,o0_6,o0_7,o0_8,o1_0,o1_1,o1_2,o1_3,o1_4,o1_5,o1_6,o1_7,o1_8,o2,o3_0,o3_1,o3_2,o3_3,o3_4,o3_5,o3_6,o4,o5),rfl⟩
  | _=>none
def zfr (s:St):Option jP:=pk (zxa s)
theorem zHA (s:St) (x:jP) (h:zfr s=some x):s=zzz x:=zt (o:=zxa s) h
def zmj:jP→(Ex→St→Ans)→znA→Ans:=fun (t5,t6,t8,t10,o0_0,o0_1,o0_2,o0_3,o0_4,o0_5,o0_6,o0_7,o0_8,o1_0,o1_1,o1_2,o1_3,o1_4,o1_5,o1_6,o1_7,o1_8,o2,o3_0,o3_1,o3_2,o3_3,o3_4,o3_5,o3_6,o4,o5) K=>fun t4_y=>K (Ex.norm) { env:=[(4,.bool t4_y)],stk:=[[]],H:=[],blk:=20480 }
def zap {β:Type}:jP→(znA→Option β)→Option β:=fun (t5,t6,t8,t10,o0_0,o0_1,o0_2,o0_3,o0_4,o0_5,o0_6,o0_7,o0_8,o1_0,o1_1,o1_2,o1_3,o1_4,o1_5,o1_6,o1_7,o1_8,o2,o3_0,o3_1,o3_2,o3_3,o3_4,o3_5,o3_6,o4,o5) exit=>(za (zgG (t5,o2)) fun r=>(bif r then (bif t6 == t8 then (za (zc9 (o0_0,o0_1,o0_2,o0_3,o0_4,o0_5,o0_6,o0_7,o0_8)) fun r_2=>(za (zcB (o0_0,o0_1,o0_2,o0_3,o0_4,o0_5,o0_6,o0_7,o0_8)) fun r_3=>(bif r_2 == r_3 then (za (zek (o0_0,o0_1,o0_2,o0_3,o0_4,o0_5,o0_6,o0_7,o0_8,o1_0,o1_1,o1_2,o1_3,o1_4,o1_5,o1_6,o1_7,o1_8)) fun r_4=>(za (j3 (o0_0,o0_1,o0_2,o0_3,o0_4,o0_5,o0_6,o0_7,o0_8,o1_0,o1_1,o1_2,o1_3,o1_4,o1_5,o1_6,o1_7,o1_8)) fun r_5=>(bif r_4 == r_5 then (bif t6 != (0:Int) then (exit (true)) else (bif t10 == (0:Int) then (za (j3 (o0_0,o0_1,o0_2,o0_3,o0_4,o0_5,o0_6,o0_7,o0_8,o3_0,o3_1,o3_2,o3_3,o3_4,o3_5,o3_6,o4,o5)) fun r_6=>(exit (r_6))) else (exit (false)))) else (exit (false))))) else (exit (false))))) else (exit (false))) else (exit (false))))
def wi (i:jP):Option znA:=zap i some
theorem zyK (i:jP) (k:znA→Ans):zap i k=za (wi i) k:=by
  obtain ⟨t5,t6,t8,t10,o0_0,o0_1,o0_2,o0_3,o0_4,o0_5,o0_6,o0_7,o0_8,o1_0,o1_1,o1_2,o1_3,o1_4,o1_5,o1_6,o1_7,o1_8,o2,o3_0,o3_1,o3_2,o3_3,o3_4,o3_5,o3_6,o4,o5⟩:=i
  simp only [wi,zap,zj,zh,zl,zc,zi,zm,zg]
theorem zGx (i:jP) (K:Ex→St→Ans):zx Tryz.tab J2 zd (zy Tryz.tab J2 zd 0 64) 70 71 ziQ zdk (zD 0 (exk [4] [4] []) K) (zzz i)=zap i (zmj i K):=by kernel_rfl
theorem zNn:zw Tryz.prog 71 zdk (zH zfr wi zmj):=zE mixed tabOk zh5 0 (exk [4] [4] []) zi6 zHA zGx zyK
abbrev Y3:=(Int)×(Int)×(Int)×(Int)×(Int)×(Int)×(Int)×(Int)×(Int)×(List (Int×(Int×Int)×List UInt8×((Int×Int)×List UInt8)×(Int×Int)×List UInt8))×(List Bool)×(Int)×(Int)×(Int)×(Int)×(Int)×(Int)×(Int)×(List (Int×(Int×Int)×List UInt8×((Int×Int)×List UInt8)×(Int×Int)×List UInt8))×(List Bool)×(List (List UInt8))
abbrev zfe:=(Bool)
def zmV:Y3→St:=fun (t6,t8,o0_0,o0_1,o0_2,o0_3,o0_4,o0_5,o0_6,o0_7,o0_8,o1_0,o1_1,o1_2,o1_3,o1_4,o1_5,o1_6,o1_7,o1_8,o2)=>{ env:=[(2,.ptr 0 0),(3,.ptr 1 0),(5,.nils),(6,.int .i64 t6),(7,.own 2),(8,.int .i64 t8),(9,.ptr 3 0),(10,.int .i64 (1))],stk:=[[]],H:=[.cells [.int .i64 o0_0,.int .i64 o0_1,.int .i64 o0_2,.int .i64 o0_3,.int .i64 o0_4,.int .i64 o0_5,.int .i64 o0_6,.ro (.st (.pair (.int .i64) (.pair (.pair (.int .i64) (.int .i64)) (.pair .str (.pair (.pair (.pair (.int .i64) (.int .i64)) .str) (.pair (.pair (.int .i64) (.int .i64)) .str)))))) o0_7,.ro .bool o0_8],.cells [.int .i64 o1_0,.int .i64 o1_1,.int .i64 o1_2,.int .i64 o1_3,.int .i64 o1_4,.int .i64 o1_5,.int .i64 o1_6,.ro (.st (.pair (.int .i64) (.pair (.pair (.int .i64) (.int .i64)) (.pair .str (.pair (.pair (.pair (.int .i64) (.int .i64)) .str) (.pair (.pair (.int .i64) (.int .i64)) .str)))))) o1_7,.ro .bool o1_8],.arr .str o2,.cells [.int .i64 (0),.int .i64 (0),.int .i64 (0),.int .i64 (0),.int .i64 (0),.int .i64 (0),.int .i64 (0),.own 4,.own 5],.arr (.st (.pair (.int .i64) (.pair (.pair (.int .i64) (.int .i64)) (.pair .str (.pair (.pair (.pair (.int .i64) (.int .i64)) .str) (.pair (.pair (.int .i64) (.int .i64)) .str)))))) ([]),.arr .bool ([])],blk:=20480 }
def zky (s:St):Option {x:Y3 // s=zmV x}:=match s with
  | { env:=[(2,.ptr 0 0),(3,.ptr 1 0),(5,.nils),(6,.int .i64 t6),(7,.own 2),(8,.int .i64 t8),(9,.ptr 3 0),(10,.int .i64 r2)],stk:=[[]],H:=[.cells [.int .i64 o0_0,.int .i64 o0_1,.int .i64 o0_2,.int .i64 o0_3,.int .i64 o0_4,.int .i64 o0_5,.int .i64 o0_6,.ro (.st (.pair (.int .i64) (.pair (.pair (.int .i64) (.int .i64)) (.pair .str (.pair (.pair (.pair (.int .i64) (.int .i64)) .str) (.pair (.pair (.int .i64) (.int .i64)) .str)))))) o0_7,.ro .bool o0_8],.cells [.int .i64 o1_0,.int .i64 o1_1,.int .i64 o1_2,.int .i64 o1_3,.int .i64 o1_4,.int .i64 o1_5,.int .i64 o1_6,.ro (.st (.pair (.int .i64) (.pair (.pair (.int .i64) (.int .i64)) (.pair .str (.pair (.pair (.pair (.int .i64) (.int .i64)) .str) (.pair (.pair (.int .i64) (.int .i64)) .str)))))) o1_7,.ro .bool o1_8],.arr .str o2,.cells [.int .i64 r22,.int .i64 r23,.int .i64 r24,.int .i64 r25,.int .i64 r26,.int .i64 r27,.int .i64 r28,.own 4,.own 5],.arr (.st (.pair (.int .i64) (.pair (.pair (.int .i64) (.int .i64)) (.pair .str (.pair (.pair (.pair (.int .i64) (.int .i64)) .str) (.pair (.pair (.int .i64) (.int .i64)) .str)))))) r29,.arr .bool r30],blk:=20480 }=>if h2:r2=1 then if h22:r22=0 then if h23:r23=0 then if h24:r24=0 then if h25:r25=0 then if h26:r26=0 then if h27:r27=0 then if h28:r28=0 then if h29:r29=[] then if h30:r30=[] then some ⟨(t6,t8,o0_0,o0_1,o0_2,o0_3,o0_4,o0_5,o0_6,o0_7,o0_8,o1_0,o1_1,o1_2,o1_3,o1_4,o1_5,o1_6,o1_7,o1_8,o2),by subst h2 h22 h23 h24 h25 h26 h27 h28 h29 h30;rfl⟩ else none else none else none else none else none else none else none else none else none else none
  | _=>none
def zfA (s:St):Option Y3:=pk (zky s)
theorem zzT (s:St) (x:Y3) (h:zfA s=some x):s=zmV x:=zt (o:=zky s) h
def zfY:Y3→(Ex→St→Ans)→zfe→Ans:=fun (t6,t8,o0_0,o0_1,o0_2,o0_3,o0_4,o0_5,o0_6,o0_7,o0_8,o1_0,o1_1,o1_2,o1_3,o1_4,o1_5,o1_6,o1_7,o1_8,o2) K=>fun t4_y=>K (Ex.norm) { env:=[(4,.bool t4_y)],stk:=[[]],H:=[],blk:=20480 }
def zaT {β:Type}:Y3→(zfe→Option β)→Option β:=fun (t6,t8,o0_0,o0_1,o0_2,o0_3,o0_4,o0_5,o0_6,o0_7,o0_8,o1_0,o1_1,o1_2,o1_3,o1_4,o1_5,o1_6,o1_7,o1_8,o2) exit=>(za (zvl (o2)) fun r=>(bif r then (bif t6 == t8 then (za (zc9 (o0_0,o0_1,o0_2,o0_3,o0_4,o0_5,o0_6,o0_7,o0_8)) fun r_2=>(za (zcB (o0_0,o0_1,o0_2,o0_3,o0_4,o0_5,o0_6,o0_7,o0_8)) fun r_3=>(bif r_2 == r_3 then (za (zek (o0_0,o0_1,o0_2,o0_3,o0_4,o0_5,o0_6,o0_7,o0_8,o1_0,o1_1,o1_2,o1_3,o1_4,o1_5,o1_6,o1_7,o1_8)) fun r_4=>(za (j3 (o0_0,o0_1,o0_2,o0_3,o0_4,o0_5,o0_6,o0_7,o0_8,o1_0,o1_1,o1_2,o1_3,o1_4,o1_5,o1_6,o1_7,o1_8)) fun r_5=>(bif r_4 == r_5 then (bif t6 != (0:Int) then (exit (true)) else (exit (false))) else (exit (false))))) else (exit (false))))) else (exit (false))) else (exit (false))))
def Wq (i:Y3):Option zfe:=zaT i some
theorem zrl (i:Y3) (k:zfe→Ans):zaT i k=za (Wq i) k:=by
  obtain ⟨t6,t8,o0_0,o0_1,o0_2,o0_3,o0_4,o0_5,o0_6,o0_7,o0_8,o1_0,o1_1,o1_2,o1_3,o1_4,o1_5,o1_6,o1_7,o1_8,o2⟩:=i
  simp only [Wq,zaT,zj,zh,zl,zc,zi,zm,zg]
theorem zwa (i:Y3) (K:Ex→St→Ans):zx Tryz.tab J2 zd (zy Tryz.tab J2 zd 0 64) 70 71 ziQ zdk (zD 0 (exk [4] [4] []) K) (zmV i)=zaT i (zfY i K):=by kernel_rfl
theorem zFH:zw Tryz.prog 71 zdk (zH zfA Wq zfY):=zE mixed tabOk zh5 0 (exk [4] [4] []) zi6 zzT zwa zrl
noncomputable def zR2:(Ex→St→Ans)→St→Ans:=(zrP zfr (zH zfr wi zmj) (zH zfA Wq zfY))
theorem zT2:zw Tryz.prog 71 zdk zR2:=(zcd zNn zFH)
noncomputable def zqq:Code:=zF [1,1,0,0] zLd
noncomputable def zsh:Ann := .none
theorem zEN:zq Tryz.prog 71 zqq zsh:=(zb _ _ _)
abbrev QG:=(Int)×(Int)×(Int)×(Int)×(Int)×(Int)×(Int)×(List (Int×(Int×Int)×List UInt8×((Int×Int)×List UInt8)×(Int×Int)×List UInt8))×(List Bool)×(Int)×(Int)×(Int)×(Int)×(Int)×(Int)×(Int)×(List (Int×(Int×Int)×List UInt8×((Int×Int)×List UInt8)×(Int×Int)×List UInt8))×(List Bool)
abbrev zqk:=(Bool)
def zBb:QG→St:=fun (o0_0,o0_1,o0_2,o0_3,o0_4,o0_5,o0_6,o0_7,o0_8,o1_0,o1_1,o1_2,o1_3,o1_4,o1_5,o1_6,o1_7,o1_8)=>{ env:=[(2,.ptr 0 0),(3,.ptr 1 0)],stk:=[[]],H:=[.cells [.int .i64 o0_0,.int .i64 o0_1,.int .i64 o0_2,.int .i64 o0_3,.int .i64 o0_4,.int .i64 o0_5,.int .i64 o0_6,.ro (.st (.pair (.int .i64) (.pair (.pair (.int .i64) (.int .i64)) (.pair .str (.pair (.pair (.pair (.int .i64) (.int .i64)) .str) (.pair (.pair (.int .i64) (.int .i64)) .str)))))) o0_7,.ro .bool o0_8],.cells [.int .i64 o1_0,.int .i64 o1_1,.int .i64 o1_2,.int .i64 o1_3,.int .i64 o1_4,.int .i64 o1_5,.int .i64 o1_6,.ro (.st (.pair (.int .i64) (.pair (.pair (.int .i64) (.int .i64)) (.pair .str (.pair (.pair (.pair (.int .i64) (.int .i64)) .str) (.pair (.pair (.int .i64) (.int .i64)) .str)))))) o1_7,.ro .bool o1_8]],blk:=20480 }
def zs4 (s:St):Option {x:QG // s=zBb x}:=match s with
  | { env:=[(2,.ptr 0 0),(3,.ptr 1 0)],stk:=[[]],H:=[.cells [.int .i64 o0_0,.int .i64 o0_1,.int .i64 o0_2,.int .i64 o0_3,.int .i64 o0_4,.int .i64 o0_5,.int .i64 o0_6,.ro (.st (.pair (.int .i64) (.pair (.pair (.int .i64) (.int .i64)) (.pair .str (.pair (.pair (.pair (.int .i64) (.int .i64)) .str) (.pair (.pair (.int .i64) (.int .i64)) .str)))))) o0_7,.ro .bool o0_8],.cells [.int .i64 o1_0,.int .i64 o1_1,.int .i64 o1_2,.int .i64 o1_3,.int .i64 o1_4,.int .i64 o1_5,.int .i64 o1_6,.ro (.st (.pair (.int .i64) (.pair (.pair (.int .i64) (.int .i64)) (.pair .str (.pair (.pair (.pair (.int .i64) (.int .i64)) .str) (.pair (.pair (.int .i64) (.int .i64)) .str)))))) o1_7,.ro .bool o1_8]],blk:=20480 }=>some ⟨(o0_0,o0_1,o0_2,o0_3,o0_4,o0_5,o0_6,o0_7,o0_8,o1_0,o1_1,o1_2,o1_3,o1_4,o1_5,o1_6,o1_7,o1_8),rfl⟩
  | _=>none
def zjK (s:St):Option QG:=pk (zs4 s)
theorem zJc (s:St) (x:QG) (h:zjK s=some x):s=zBb x:=zt (o:=zs4 s) h
def zkL:QG→(Ex→St→Ans)→zqk→Ans:=fun (o0_0,o0_1,o0_2,o0_3,o0_4,o0_5,o0_6,o0_7,o0_8,o1_0,o1_1,o1_2,o1_3,o1_4,o1_5,o1_6,o1_7,o1_8) K=>fun t18_y=>K (Ex.norm) { env:=[(2,.ptr 0 0),(3,.ptr 1 0),(18,.bool t18_y)],stk:=[[]],H:=[.cells [.int .i64 o0_0,.int .i64 o0_1,.int .i64 o0_2,.int .i64 o0_3,.int .i64 o0_4,.int .i64 o0_5,.int .i64 o0_6,.ro (.st (.pair (.int .i64) (.pair (.pair (.int .i64) (.int .i64)) (.pair .str (.pair (.pair (.pair (.int .i64) (.int .i64)) .str) (.pair (.pair (.int .i64) (.int .i64)) .str)))))) o0_7,.ro .bool o0_8],.cells [.int .i64 o1_0,.int .i64 o1_1,.int .i64 o1_2,.int .i64 o1_3,.int .i64 o1_4,.int .i64 o1_5,.int .i64 o1_6,.ro (.st (.pair (.int .i64) (.pair (.pair (.int .i64) (.int .i64)) (.pair .str (.pair (.pair (.pair (.int .i64) (.int .i64)) .str) (.pair (.pair (.int .i64) (.int .i64)) .str)))))) o1_7,.ro .bool o1_8]],blk:=20480 }
def JS {β:Type}:QG→(zqk→Option β)→Option β:=fun (o0_0,o0_1,o0_2,o0_3,o0_4,o0_5,o0_6,o0_7,o0_8,o1_0,o1_1,o1_2,o1_3,o1_4,o1_5,o1_6,o1_7,o1_8) exit=>(za (zdL (o0_0,o0_1,o0_2,o0_3,o0_4,o0_5,o0_6,o0_7,o0_8)) fun r=>(bif r then (exit (true)) else (za (zdL (o1_0,o1_1,o1_2,o1_3,o1_4,o1_5,o1_6,o1_7,o1_8)) fun r_2=>(exit (r_2)))))
def WI (i:QG):Option zqk:=JS i some
theorem zB8 (i:QG) (k:zqk→Ans):JS i k=za (WI i) k:=by
  obtain ⟨o0_0,o0_1,o0_2,o0_3,o0_4,o0_5,o0_6,o0_7,o0_8,o1_0,o1_1,o1_2,o1_3,o1_4,o1_5,o1_6,o1_7,o1_8⟩:=i
  simp only [WI,JS,zj,zh,zl,zc,zi,zm,zg]
theorem zGu (i:QG) (K:Ex→St→Ans):zx Tryz.tab J2 zd (zy Tryz.tab J2 zd 0 64) 70 71 zsh zqq (zD 0 (exk [2,3,18] [4] []) K) (zBb i)=JS i (zkL i K):=by kernel_rfl
theorem zO7:zw Tryz.prog 71 zqq (zH zjK WI zkL):=zE mixed tabOk zh5 0 (exk [2,3,18] [4] []) zEN zJc zGu zB8
noncomputable def zSv:(Ex→St→Ans)→St→Ans:=(zH zjK WI zkL)
theorem zW0:zw Tryz.prog 71 zqq zSv:=zO7
noncomputable def zJh:Ann:=(.seq .none (.seq .none (.seq (.seq (.cut 0 [2,3] zSv) .none) (.seq .none (.seq .none (.seq .none (.seq (.cut 0 [2,3,5,6,7,8,9,10] zR2) .none)))))))
theorem z1O:zq Tryz.prog 71 zLd zJh:=⟨(zb _ _ _),⟨(zb _ _ _),⟨⟨zW0,(zb _ _ _)⟩,⟨(zb _ _ _),⟨(zb _ _ _),⟨(zb _ _ _),⟨zT2,(zb _ _ _)⟩⟩⟩⟩⟩⟩⟩
abbrev zz7:=(Int)×(Int)×(Int)×(Int)×(Int)×(Int)×(Int)×(List (Int×(Int×Int)×List UInt8×((Int×Int)×List UInt8)×(Int×Int)×List UInt8))×(List Bool)×(Int)×(Int)×(Int)×(Int)×(Int)×(Int)×(Int)×(List (Int×(Int×Int)×List UInt8×((Int×Int)×List UInt8)×(Int×Int)×List UInt8))×(List Bool)
abbrev zV1:=(Bool)
def zwF {β:Type}:zz7→(zV1→Option β)→Option β:=fun (a0_0,a0_1,a0_2,a0_3,a0_4,a0_5,a0_6,a0_7,a0_8,a1_0,a1_1,a1_2,a1_3,a1_4,a1_5,a1_6,a1_7,a1_8) exit=>(za (zbt ()) fun _=>(za (WI (a0_0,a0_1,a0_2,a0_3,a0_4,a0_5,a0_6,a0_7,a0_8,a1_0,a1_1,a1_2,a1_3,a1_4,a1_5,a1_6,a1_7,a1_8)) fun t18=>(bif t18 then (exit (true)) else (za (zoY (a0_0,a0_1,a0_2,a0_3,a0_4,a0_5,a0_6,a0_7,a0_8)) (Sum.elim (unP fun r_1 o0=>(za (zeZ (a0_0,a0_1,a0_2,a0_3,a0_4,a0_5,a0_6,a0_7,a0_8)) (unP fun r_1_2 o0_2=>(za (zoF (o0)) (unP fun r_0_0=>unP fun r_0_1=>unP fun r_0_2=>unP fun r_0_3=>unP fun r_0_4=>unP fun r_0_5=>unP fun r_0_6=>unP fun r_1_3=>unP fun o0_3 o1=>(za (wi (o0,r_1,r_1_2,r_1_3,a0_0,a0_1,a0_2,a0_3,a0_4,a0_5,a0_6,a0_7,a0_8,a1_0,a1_1,a1_2,a1_3,a1_4,a1_5,a1_6,a1_7,a1_8,o0_2,r_0_0,r_0_1,r_0_2,r_0_3,r_0_4,r_0_5,r_0_6,o0_3,o1)) fun t4=>(exit (t4)))))))) (fun r_1=>(za (zeZ (a0_0,a0_1,a0_2,a0_3,a0_4,a0_5,a0_6,a0_7,a0_8)) (unP fun r_1_2 o0=>(za (zGY ()) fun _=>(za (Wq (r_1,r_1_2,a0_0,a0_1,a0_2,a0_3,a0_4,a0_5,a0_6,a0_7,a0_8,a1_0,a1_1,a1_2,a1_3,a1_4,a1_5,a1_6,a1_7,a1_8,o0)) fun t4=>(exit (t4))))))))))))
def zwB (a:zz7):Option zV1:=zwF a some
theorem z3E (a:zz7) (k:zV1→Ans):zwF a k=za (zwB a) k:=by
  obtain ⟨a0_0,a0_1,a0_2,a0_3,a0_4,a0_5,a0_6,a0_7,a0_8,a1_0,a1_1,a1_2,a1_3,a1_4,a1_5,a1_6,a1_7,a1_8⟩:=a
  simp only [zwB,zwF,zj,zh,zl,zc,zi,zm,zg]
def zRE:zz7→List AV×List AE.Obj:=fun (a0_0,a0_1,a0_2,a0_3,a0_4,a0_5,a0_6,a0_7,a0_8,a1_0,a1_1,a1_2,a1_3,a1_4,a1_5,a1_6,a1_7,a1_8)=>([.agg [.int .i64 a0_0,.int .i64 a0_1,.int .i64 a0_2,.int .i64 a0_3,.int .i64 a0_4,.int .i64 a0_5,.int .i64 a0_6,.ro (.st (.pair (.int .i64) (.pair (.pair (.int .i64) (.int .i64)) (.pair .str (.pair (.pair (.pair (.int .i64) (.int .i64)) .str) (.pair (.pair (.int .i64) (.int .i64)) .str)))))) a0_7,.ro .bool a0_8],.agg [.int .i64 a1_0,.int .i64 a1_1,.int .i64 a1_2,.int .i64 a1_3,.int .i64 a1_4,.int .i64 a1_5,.int .i64 a1_6,.ro (.st (.pair (.int .i64) (.pair (.pair (.int .i64) (.int .i64)) (.pair .str (.pair (.pair (.pair (.int .i64) (.int .i64)) .str) (.pair (.pair (.int .i64) (.int .i64)) .str)))))) a1_7,.ro .bool a1_8]],[])
def ZaI:zz7→(AV→List AE.Obj→Ans)→zV1→Ans:=fun (a0_0,a0_1,a0_2,a0_3,a0_4,a0_5,a0_6,a0_7,a0_8,a1_0,a1_1,a1_2,a1_3,a1_4,a1_5,a1_6,a1_7,a1_8) K=>fun r_y=>K (.bool r_y) []
theorem z5S (a:zz7) (K:AV→List AE.Obj→Ans):fnE Tryz.tab J2 zd 0 70 5 Tryz.f5.ntmps Tryz.f5.results.toList zJh zLd (zRE a).1 (zRE a).2 K=zwF a (ZaI a K):=by kernel_rfl
end Go.Proofs.R9
namespace Go.Proofs.R9
open Go Go.AE Go.Plain
set_option maxRecDepth 100000
theorem z9j (x:SV) : ∃g,zf9 (x.fst,x.snd.fst.fst,x.snd.fst.snd,x.snd.snd.fst,x.snd.snd.snd.fst.fst.fst,x.snd.snd.snd.fst.fst.snd,x.snd.snd.snd.fst.snd,x.snd.snd.snd.snd.fst.fst,x.snd.snd.snd.snd.fst.snd,x.snd.snd.snd.snd.snd)=some g:=by
  simp only [zf9,zt5,WD,zaD]
  cases decide ((x.snd.snd.fst.length:Int)>1000) <;> cases decide ((x.snd.snd.snd.fst.snd.length:Int)>1000) <;> exact ⟨_,rfl⟩
theorem zMt (n r b c x s lg:Int) (ss:List SV) (cs:List Bool) : ∃g,zdL (n,r,b,c,x,s,lg,ss,cs)=some g∧(g=false→ss.length≤30∧cs.length≤100):=by
  have key : ∃y,zP (yQ (n,r,b,c,x,s,lg,ss,cs)) zZ ((0:Nat):Int)=some y∧(y = .inl ()∨(y = .inr ()∧ss.length≤30)):=by
    refine YY (fun j v=>j≤ss.length∧j≤30∧v=(j:Int)) 31 _ ?_ ⟨Nat.zero_le _,by omega,rfl⟩ (by omega)
    rintro j v ⟨h1,h2,rfl⟩
    by_cases hlt:j<ss.length
    · obtain ⟨t,ht⟩ : ∃t,ss[j]? = some t:=⟨_,List.getElem?_eq_getElem hlt⟩
      simp only [yQ,Qy,WK,za4,WV,zaK,zo (show (j:Int)<(ss.length:Int) by omega),cond_true]
      by_cases h30:j=30
      · right
        rw [zo (show (j:Int)≥30 by omega)]
        exact ⟨_,rfl,.inl rfl⟩
      · rw [zn (show ¬(j:Int)≥30 by omega)]
        obtain ⟨g,hg⟩:=z9j t
        simp only [cond_false,Z6 ht,zc,hg]
        cases g with
        | true=>right;exact ⟨_,rfl,.inl rfl⟩
        | false =>
          left
          refine ⟨((j+1:Nat):Int),?_,by omega,by omega,by omega,rfl⟩
          simp only [cond_false,zc,Sum.elim_inr,Zd (n:=j) (by omega)]
    · right
      obtain rfl:j=ss.length:=by omega
      simp only [yQ,Qy,zn (show ¬(ss.length:Int)<(ss.length:Int) by omega),cond_false]
      exact ⟨_,rfl,.inr ⟨rfl,h2⟩⟩
  obtain ⟨y,hy,hq⟩:=key
  have hy':zP (yQ (n,r,b,c,x,s,lg,ss,cs)) zZ 0=some y:=hy
  simp only [zdL,zsM,hy',zc]
  rcases hq with rfl | ⟨rfl,h30⟩
  · exact ⟨true,rfl,fun h=>by cases h⟩
  · refine ⟨decide ((cs.length:Int)>100),rfl,fun h=>⟨h30,?_⟩⟩
    have:=of_decide_eq_false h
    omega
theorem z4W {n r b c x s lg:Int} {ss:List SV} {cs:List Bool}:Fit (YA n r b c x s lg ss cs).2:=by
  unfold YA
  by_cases h:wh n r b c x s lg ss cs≠0
  · rw [if_pos h];exact ⟨by simp,fun t ht=>by cases ht⟩
  · rw [if_neg h]
    obtain ⟨hm,h1,h2,h3⟩:=zcN (Decidable.not_not.1 h)
    have hx:=hm.1.1
    exact z6k (by rw [List.length_zip];omega) fun q hq=>h3 q.1 (List.of_mem_zip (a:=q.1) (b:=q.2) hq).1
theorem zE2 (n r b c x s lg:Int) (ss:List SV) (cs:List Bool) (n' r' b' c' x' s' lg':Int) (ss':List SV) (cs':List Bool) :
    zwB (n,r,b,c,x,s,lg,ss,cs,n',r',b',c',x',s',lg',ss',cs')=some true:=by
  obtain ⟨g,hg,hg'⟩:=zMt n r b c x s lg ss cs
  obtain ⟨k,hk,hk'⟩:=zMt n' r' b' c' x' s' lg' ss' cs'
  simp only [zwB,zwF,zbt,zc,WI,JS,hg,hk]
  cases g with
  | true=>rfl
  | false =>
  cases k with
  | true=>rfl
  | false =>
  obtain ⟨l1,l2⟩:=hg' rfl
  obtain ⟨l3,l4⟩:=hk' rfl
  have hfit := @z4W n r b c x s lg ss cs
  have hlen:=hfit.1
  simp only [cond_false,zc,zXn,Sum.elim_inl]
  have hpp:YA n r b c x s lg ss cs=((YA n r b c x s lg ss cs).1,(YA n r b c x s lg ss cs).2):=rfl
  rw [hpp]
  simp only [unP,z1u,zc,zTC _ hfit]
  rw [hpp]
  simp only [unP]
  have hN : ∀z:Im,wi ((YA n r b c x s lg ss cs).2,(YA n r b c x s lg ss cs).1,(YA n r b c x s lg ss cs).1,z.2.2.2.2.2.2.2.1,n,r,b,c,x,s,lg,ss,cs,n',r',b',c',x',s',lg',ss',cs',(YA n r b c x s lg ss cs).2,z.1,z.2.1,z.2.2.1,z.2.2.2.1,z.2.2.2.2.1,z.2.2.2.2.2.1,z.2.2.2.2.2.2.1,z.2.2.2.2.2.2.2.2.1,z.2.2.2.2.2.2.2.2.2) =
      (bif (YA n r b c x s lg ss cs).1 != 0 then some true else (bif z.2.2.2.2.2.2.2.1 == 0 then j3 (n,r,b,c,x,s,lg,ss,cs,z.1,z.2.1,z.2.2.1,z.2.2.2.1,z.2.2.2.2.1,z.2.2.2.2.2.1,z.2.2.2.2.2.2.1,z.2.2.2.2.2.2.2.2.1,z.2.2.2.2.2.2.2.2.2) else some false)):=by
    intro z
    simp only [wi,zap,z4X _ _ (show (YA n r b c x s lg ss cs).2.length≤1000000 by omega) (show (YA n r b c x s lg ss cs).2.length≤1000000 by omega),zdO,zfc,
      zNx n r b c x s lg ss cs n' r' b' c' x' s' lg' ss' cs' (by omega) (by omega),ztw n r b c x s lg ss cs n' r' b' c' x' s' lg' ss' cs' (by omega) (by omega),zc,beq_self_eq_true,cond_true]
    simp only [decide_true,cond_true]
    cases ((YA n r b c x s lg ss cs).1 != 0) with
    | true=>rfl
    | false =>
      cases (z.2.2.2.2.2.2.2.1 == 0) with
      | true=>simp only [cond_false,cond_true];cases j3 (n,r,b,c,x,s,lg,ss,cs,z.1,z.2.1,z.2.2.1,z.2.2.2.1,z.2.2.2.2.1,z.2.2.2.2.2.1,z.2.2.2.2.2.2.1,z.2.2.2.2.2.2.2.2.1,z.2.2.2.2.2.2.2.2.2) <;> rfl
      | false=>rfl
  have hz:=hN (zAj (YA n r b c x s lg ss cs).2)
  generalize hgz:zAj (YA n r b c x s lg ss cs).2=z at hz ⊢
  obtain ⟨z1,z2,z3,z4,z5,z6,z7,z8,z9,z10⟩:=z
  dsimp only at hz
  simp only [unP,hz]
  by_cases hc:wh n r b c x s lg ss cs=0
  · have hput:YA n r b c x s lg ss cs=(0,ZA n r b c x s lg (ss.zip cs)):=by unfold YA;rw [if_neg (fun h=>h hc)]
    rw [hput] at hgz ⊢
    rw [z1H hc] at hgz
    cases hgz
    rw [ztw n r b c x s lg ss cs n r b c x s lg ss cs (by omega) (by omega)]
    simp only [and_self,decide_true]
    rfl
  · have hput:YA n r b c x s lg ss cs=(wh n r b c x s lg ss cs,[]):=by unfold YA;rw [if_pos hc]
    have hb:(wh n r b c x s lg ss cs != 0)=true:=by simpa using hc
    rw [hput]
    simp only [hb,cond_true,zc]
end Go.Proofs.R9
