/- What the functions that DumpGetsCardSaid reaches compute: part 6. -/
import Derived.Test.YthfoooplgceaoaaGreatDoorOwnDumpGetsCardSaid5
set_option linter.unusedVariables false
set_option linter.unusedSimpArgs false
namespace Go.Proofs.R9
open Go Go.AE Go.Plain
set_option maxRecDepth 100000
abbrev VD:=(Int×Int)×List UInt8
abbrev SV:=Int×(Int×Int)×List UInt8×VD×(Int×Int)×List UInt8
def noS:SV:=(0,(0,0),[],((0,0),[]),(0,0),[])
def Ze:SV→Int:=fun (k,(va,vb),d,((aa,ab),ad),(ba,bb),bd) =>
  if k=0 then (if ¬JO va vb then 3 else if d.length≠128 then 12 else if ¬((aa=0∧ab=0∧ad=[])∧ba=0∧bb=0∧bd=[]) then 4 else 0)
  else if k=1 then (if zfZ 0 aa ab ad ba bb bd≠0 then zfZ 0 aa ab ad ba bb bd else if va≠aa∨vb≠bb∨d≠[] then 4 else 0)
  else 7
theorem ziL (k va vb:Int) (d:List UInt8) (aa ab:Int) (ad:List UInt8) (ba bb:Int) (bd:List UInt8) :
    zbF (k,va,vb,d,aa,ab,ad,ba,bb,bd)=some (Ze (k,(va,vb),d,((aa,ab),ad),(ba,bb),bd)):=by
  unfold Ze
  simp only [zbF,zv2,zev,zrb,qK]
  by_cases h0:k=0
  · rw [zo h0,cond_true,if_pos h0]
    simp only [zc,Sum.elim_inl,zkk,zwL,W6,zaP,WB,zaN,zME]
    by_cases hv:JO va vb
    · rw [zo hv,if_neg (fun h=>h hv)]
      simp only [Bool.not_true,cond_false,ZF]
      by_cases hd:d.length=128
      · rw [zo (show (d.length:Int)=128 by omega),if_neg (fun h=>h hd)]
        simp only [Bool.not_true,cond_false]
        by_cases hn:(aa=0∧ab=0∧ad=[])∧ba=0∧bb=0∧bd=[]
        · rw [if_neg (fun h=>h hn)]
          obtain ⟨⟨rfl,rfl,rfl⟩,rfl,rfl,rfl⟩:=hn
          rfl
        · rw [if_pos hn]
          have:(bif !(aa == 0&&(ab == 0&&true)&&(ad == []&&true)) then some true else some (!(ba == 0&&(bb == 0&&true)&&(bd == []&&true))):Option Bool)=some true:=by
            by_cases h1:aa=0∧ab=0∧ad=[]
            · obtain ⟨rfl,rfl,rfl⟩:=h1
              have h2 : ¬(ba=0∧bb=0∧bd=[]):=fun h=>hn ⟨⟨rfl,rfl,rfl⟩,h⟩
              have:(ba == 0&&(bb == 0&&true)&&(bd == []&&true))=false:=by
                rw [Bool.eq_false_iff];intro h;simp at h;exact h2 ⟨h.1.1,h.1.2,h.2⟩
              rw [this];rfl
            · have:(aa == 0&&(ab == 0&&true)&&(ad == []&&true))=false:=by
                rw [Bool.eq_false_iff];intro h;simp at h;exact h1 ⟨h.1.1,h.1.2,h.2⟩
              rw [this];rfl
          first | rw [this] | (simp only [qK] at this;rw [this])
          rfl
      · rw [zn (show ¬(d.length:Int)=128 by omega),if_pos hd];rfl
    · rw [zn hv,if_pos hv];rfl
  rw [zn h0,cond_false,if_neg h0]
  by_cases h1:k=1
  · rw [zo h1,cond_true,if_pos h1]
    simp only [zc,Sum.elim_inr,Sum.elim_inl,zkS,zt2,WW,zaH,z9l,ZF]
    by_cases hp:zfZ 0 aa ab ad ba bb bd=0
    · rw [zo hp,if_neg (fun h=>h hp)]
      simp only [Bool.not_true,cond_false]
      by_cases hv:va=aa∧vb=bb∧d=[]
      · obtain ⟨rfl,rfl,rfl⟩:=hv
        rw [if_neg (by simp)]
        simp
        rfl
      · have:(bif !(va == aa&&(vb == bb&&true)) then some true else some (!d == []):Option Bool)=some true:=by
          by_cases h2:va=aa∧vb=bb
          · have h3:(d == [])=false:=by rw [beq_eq_false_iff_ne];exact fun h=>hv ⟨h2.1,h2.2,h⟩
            rw [h2.1,h2.2,h3];simp
          · have:(va == aa&&(vb == bb&&true))=false:=by
              rw [Bool.eq_false_iff];intro h;simp at h;exact h2 h
            rw [this];rfl
        have hv':va≠aa∨vb≠bb∨d≠[]:=by
          by_cases h2:va=aa
          · by_cases h3:vb=bb
            · exact .inr (.inr fun h=>hv ⟨h2,h3,h⟩)
            · exact .inr (.inl h3)
          · exact .inl h2
        rw [if_pos hv']
        first | rw [this] | (simp only [qK] at this;rw [this])
        rfl
    · rw [zn hp,if_pos hp];rfl
  · rw [zn h1,cond_false,if_neg h1];rfl
theorem zc5 (k va vb:Int) (d:List UInt8) (aa ab:Int) (ad:List UInt8) (ba bb:Int) (bd:List UInt8) :
    zaV (k,va,vb,d,aa,ab,ad,ba,bb,bd)=some (Ze (k,(va,vb),d,((aa,ab),ad),(ba,bb),bd)):=by
  unfold Ze
  simp only [zaV,zvu,qK]
  by_cases h0:k=0
  · rw [zo h0,cond_true,if_pos h0]
    simp only [zc,qx,zbe,qi,zbh,zru]
    by_cases hv:JO va vb
    · rw [zo hv,if_neg (fun h=>h hv)]
      simp only [Bool.not_true,cond_false,ZF]
      by_cases hd:d.length=128
      · rw [zo (show (d.length:Int)=128 by omega),if_neg (fun h=>h hd)]
        simp only [Bool.not_true,cond_false]
        by_cases hn:(aa=0∧ab=0∧ad=[])∧ba=0∧bb=0∧bd=[]
        · rw [if_neg (fun h=>h hn)]
          obtain ⟨⟨rfl,rfl,rfl⟩,rfl,rfl,rfl⟩:=hn
          rfl
        · rw [if_pos hn]
          have:(bif !(aa == 0&&(ab == 0&&true)&&(ad == []&&true)) then some true else some (!(ba == 0&&(bb == 0&&true)&&(bd == []&&true))):Option Bool)=some true:=by
            by_cases h1:aa=0∧ab=0∧ad=[]
            · obtain ⟨rfl,rfl,rfl⟩:=h1
              have h2 : ¬(ba=0∧bb=0∧bd=[]):=fun h=>hn ⟨⟨rfl,rfl,rfl⟩,h⟩
              have:(ba == 0&&(bb == 0&&true)&&(bd == []&&true))=false:=by
                rw [Bool.eq_false_iff];intro h;simp at h;exact h2 ⟨h.1.1,h.1.2,h.2⟩
              rw [this];rfl
            · have:(aa == 0&&(ab == 0&&true)&&(ad == []&&true))=false:=by
                rw [Bool.eq_false_iff];intro h;simp at h;exact h1 ⟨h.1.1,h.1.2,h.2⟩
              rw [this];rfl
          first | rw [this] | (simp only [qK] at this;rw [this])
          rfl
      · rw [zn (show ¬(d.length:Int)=128 by omega),if_pos hd];rfl
    · rw [zn hv,if_pos hv];rfl
  rw [zn h0,cond_false,if_neg h0]
  by_cases h1:k=1
  · rw [zo h1,cond_true,if_pos h1]
    simp only [zc,WG,zaE,zQ3,ZF,qK]
    by_cases hp:zfZ 0 aa ab ad ba bb bd=0
    · rw [zo hp,if_neg (fun h=>h hp),cond_true]
      by_cases h2:va=aa
      · rw [zo h2]
        by_cases h3:vb=bb
        · rw [zo h3]
          by_cases h4:d=[]
          · subst h4 h2 h3;rw [if_neg (by simp),hp];rfl
          · have:(d == [])=false:=by rw [beq_eq_false_iff_ne];exact h4
            rw [if_pos (.inr (.inr h4)),this];rfl
        · rw [zn h3,if_pos (.inr (.inl h3))];rfl
      · rw [zn h2,if_pos (.inl h2)];rfl
    · rw [zn hp,if_pos hp];rfl
  · rw [zn h1,cond_false,if_neg h1]
def YH (t:List UInt8) (x:VD):List UInt8:=zH (zH t x.1.1 7) x.1.2 7++x.2
def ql:SV→List UInt8:=fun (k,v,d,a,b)=>if k=0 then YH (zH [] k 1) (v,d) else YH (YH (zH [] k 1) a) b
def zo4 (s:SV):List UInt8×Int:=if Ze s≠0 then ([],Ze s) else (ql s,0)
theorem zb9 (t:List UInt8) (x:VD):(YH t x).length≤t.length+14+x.2.length:=by
  unfold YH
  have h1:=z6 t x.1.1 7
  have h2:=z6 (zH t x.1.1 7) x.1.2 7
  rw [List.length_append];omega
theorem zk4 {s:SV} (h:Ze s=0):s.2.2.1.length≤128∧s.2.2.2.1.2.length≤128∧s.2.2.2.2.2.length≤128∧InI s.1∧InI s.2.1.1∧InI s.2.1.2∧InI s.2.2.2.1.1.1∧InI s.2.2.2.1.1.2∧InI s.2.2.2.2.1.1∧InI s.2.2.2.2.1.2:=by
  obtain ⟨k,⟨va,vb⟩,d,⟨⟨aa,ab⟩,ad⟩,⟨ba,bb⟩,bd⟩:=s
  unfold Ze at h
  dsimp only at h ⊢
  by_cases h0:k=0
  · rw [if_pos h0] at h
    split at h
    · cases h
    rename_i hv
    split at h
    · cases h
    rename_i hd
    split at h
    · cases h
    rename_i hn
    have hv:=Decidable.not_not.1 hv
    obtain ⟨⟨rfl,rfl,rfl⟩,rfl,rfl,rfl⟩:=Decidable.not_not.1 hn
    have hd:=Decidable.not_not.1 hd
    unfold JO at hv
    unfold InI
    simp only [List.length_nil]
    omega
  · rw [if_neg h0] at h
    by_cases h1:k=1
    · rw [if_pos h1] at h
      split at h
      · rename_i hp;exact absurd h hp
      rename_i hp
      split at h
      · cases h
      rename_i hv
      obtain ⟨_,ha,hb,hx,hy⟩:=z5w (Decidable.not_not.1 hp)
      have hv1:va=aa:=Decidable.byContradiction fun h=>hv (.inl h)
      have hv2:vb=bb:=Decidable.byContradiction fun h=>hv (.inr (.inl h))
      have hv3:d=[]:=Decidable.byContradiction fun h=>hv (.inr (.inr h))
      subst hv1 hv2 hv3
      unfold JO at ha hb
      unfold InI
      simp only [List.length_nil]
      omega
    · rw [if_neg h1] at h;cases h
theorem zir {s:SV} (h:Ze s=0):(ql s).length≤285:=by
  obtain ⟨h1,h2,h3,_⟩:=zk4 h
  obtain ⟨k,v,d,a,b⟩:=s
  have h0:=z6 [] k 1
  simp only [List.length_nil] at h0
  unfold ql
  dsimp only at h1 h2 h3 ⊢
  by_cases hk:k=0
  · rw [if_pos hk]
    have:=zb9 (zH [] k 1) (v,d)
    dsimp only at this
    omega
  · rw [if_neg hk]
    have:=zb9 (zH [] k 1) a
    have:=zb9 (YH (zH [] k 1) a) b
    omega
theorem zsa (t:List UInt8) (x:VD) (ht:t.length≤1000) (hx:x.2.length≤1000):zc4 (t,x.1.1,x.1.2,x.2)=some (YH t x):=by
  have h1:=z6 t x.1.1 7
  have h2:=z6 (zH t x.1.1 7) x.1.2 7
  simp only [zc4,zxK,Zbn t x.1.1 x.1.2 (by omega),zc,Zc (show (zH (zH t x.1.1 7) x.1.2 7).length+x.2.length≤9223372036854775807 by omega),cond_true]
  rfl
theorem z8B (k va vb:Int) (d:List UInt8) (aa ab:Int) (ad:List UInt8) (ba bb:Int) (bd:List UInt8) :
    zhf (k,va,vb,d,aa,ab,ad,ba,bb,bd)=some (zo4 (k,(va,vb),d,((aa,ab),ad),(ba,bb),bd)):=by
  unfold zo4
  simp only [zhf,zyy,ziL,zc,ZF]
  by_cases hc:Ze (k,(va,vb),d,((aa,ab),ad),(ba,bb),bd)=0
  · obtain ⟨h1,h2,h3,_⟩:=zk4 hc
    dsimp only at h1 h2 h3
    have h0:=z6 [] k 1
    simp only [List.length_nil] at h0
    have ef:Zw ([],k,1)=some (zH [] k 1):=yl [] k 1 (by omega) (by simp)
    rw [zo hc,if_neg (fun h=>h hc)]
    simp only [Bool.not_true,cond_false,ef,zc,qK]
    unfold ql
    by_cases hk:k=0
    · have e1:=zsa (zH [] k 1) ((va,vb),d) (by omega) (by dsimp only;omega)
      dsimp only at e1
      rw [zo hk,cond_true]
      simp only [zly,zxy,zev,zrb,qK,zo hk,cond_true,zc,Sum.elim_inl,zlS,zw5,unP,e1,if_pos hk]
    · have e1:=zsa (zH [] k 1) ((aa,ab),ad) (by omega) (by dsimp only;omega)
      have e2:=zb9 (zH [] k 1) ((aa,ab),ad)
      dsimp only at e1 e2
      have e3:=zsa (YH (zH [] k 1) ((aa,ab),ad)) ((ba,bb),bd) (by omega) (by dsimp only;omega)
      dsimp only at e3
      rw [zn hk,cond_false]
      simp only [e1,e3,zc,if_neg hk]
  · rw [zn hc,if_pos hc];rfl
theorem zQs (k va vb:Int) (d:List UInt8) (aa ab:Int) (ad:List UInt8) (ba bb:Int) (bd:List UInt8) :
    zgn (k,va,vb,d,aa,ab,ad,ba,bb,bd)=some (zo4 (k,(va,vb),d,((aa,ab),ad),(ba,bb),bd)):=by
  unfold zo4
  simp only [zgn,zu1,zc5,zc,ZF]
  by_cases hc:Ze (k,(va,vb),d,((aa,ab),ad),(ba,bb),bd)=0
  · obtain ⟨h1,h2,h3,i1,i2,i3,i4,i5,i6,i7⟩:=zk4 hc
    dsimp only at h1 h2 h3 i1 i2 i3 i4 i5 i6 i7
    have h0:=z6 [] k 1
    simp only [List.length_nil] at h0
    have ef:Zy ([],k,1)=some (zH [] k 1):=Yt [] k 1 (by omega) i1 (by simp)
    rw [zo hc,if_neg (fun h=>h hc)]
    simp only [Bool.not_true,cond_false,ef,zc,qK]
    unfold ql
    by_cases hk:k=0
    · have e2:=zb9 (zH [] k 1) ((va,vb),d)
      unfold YH at e2
      dsimp only at e2
      rw [List.length_append] at e2
      rw [zo hk,cond_true,zi2 (zH [] k 1) va vb i2 i3 (by omega)]
      simp only [zc,Zc (show (zH (zH (zH [] k 1) va 7) vb 7).length+d.length≤9223372036854775807 by omega),cond_true,if_pos hk]
      rfl
    · have e2:=zb9 (zH [] k 1) ((aa,ab),ad)
      have e3:=zb9 (YH (zH [] k 1) ((aa,ab),ad)) ((ba,bb),bd)
      dsimp only at e2 e3
      rw [zn hk,cond_false,zi2 (zH [] k 1) aa ab i4 i5 (by omega)]
      have el:zH (zH (zH [] k 1) aa 7) ab 7++ad=YH (zH [] k 1) ((aa,ab),ad):=rfl
      have el2:zH (zH (YH (zH [] k 1) ((aa,ab),ad)) ba 7) bb 7++bd=YH (YH (zH [] k 1) ((aa,ab),ad)) ((ba,bb),bd):=rfl
      have l1:(zH (zH (zH [] k 1) aa 7) ab 7).length+ad.length=(YH (zH [] k 1) ((aa,ab),ad)).length:=by rw [← el,List.length_append]
      have l2:(zH (zH (YH (zH [] k 1) ((aa,ab),ad)) ba 7) bb 7).length+bd.length=(YH (YH (zH [] k 1) ((aa,ab),ad)) ((ba,bb),bd)).length:=by rw [← el2,List.length_append]
      simp only [zc,l1,Zc (show (YH (zH [] k 1) ((aa,ab),ad)).length≤9223372036854775807 by omega),cond_true,el,zi2 (YH (zH [] k 1) ((aa,ab),ad)) ba bb i6 i7 (by omega),l2,
        Zc (show (YH (YH (zH [] k 1) ((aa,ab),ad)) ((ba,bb),bd)).length≤9223372036854775807 by omega),el2,if_neg hk]
  · rw [zn hc,if_pos hc];rfl
end Go.Proofs.R9
namespace Go.Proofs.R9
open Go Go.AE Go.Plain
set_option maxRecDepth 100000
def rdV (r:List UInt8) (e:Int):VD×List UInt8×Int :=
  (((((num (rdB 7 r e).1:Nat):Int),((num (rdB 7 (rdB 7 r e).2.1 (rdB 7 r e).2.2).1:Nat):Int)),(rdB 128 (rdB 7 (rdB 7 r e).2.1 (rdB 7 r e).2.2).2.1 (rdB 7 (rdB 7 r e).2.1 (rdB 7 r e).2.2).2.2).1),
    (rdB 128 (rdB 7 (rdB 7 r e).2.1 (rdB 7 r e).2.2).2.1 (rdB 7 (rdB 7 r e).2.1 (rdB 7 r e).2.2).2.2).2.1,(rdB 128 (rdB 7 (rdB 7 r e).2.1 (rdB 7 r e).2.2).2.1 (rdB 7 (rdB 7 r e).2.1 (rdB 7 r e).2.2).2.2).2.2)
theorem ZcS (r:List UInt8) (e:Int):(rdV r e).2.1.length≤r.length:=by
  have h1:=zcT 7 r e
  have h2:=zcT 7 (rdB 7 r e).2.1 (rdB 7 r e).2.2
  have h3:=zcT 128 (rdB 7 (rdB 7 r e).2.1 (rdB 7 r e).2.2).2.1 (rdB 7 (rdB 7 r e).2.1 (rdB 7 r e).2.2).2.2
  exact Nat.le_trans h3 (Nat.le_trans h2 h1)
theorem zx2 (r:List UInt8) (e:Int) (hl:r.length≤1000000000000) :
    zcI (r,e)=some ((rdV r e).1.1.1,(rdV r e).1.1.2,(rdV r e).1.2,(rdV r e).2.1,(rdV r e).2.2):=by
  have h1:=zcT 7 r e
  have h2:=zcT 7 (rdB 7 r e).2.1 (rdB 7 r e).2.2
  have e1:=zfa 7 r e (by omega) hl
  have e2:=zfa 7 (rdB 7 r e).2.1 (rdB 7 r e).2.2 (by omega) (by omega)
  have e3:=zeq 128 (rdB 7 (rdB 7 r e).2.1 (rdB 7 r e).2.2).2.1 (rdB 7 (rdB 7 r e).2.1 (rdB 7 r e).2.2).2.2 (by omega)
  simp only [Int.cast_ofNat_Int] at e1 e2 e3
  simp only [zcI,zu6,e1,e2,e3,zc,unP]
  rfl
theorem zjw (s:List UInt8) (i:Nat) (e:Int) (hi:i≤s.length) (hl:s.length≤1000000000000) :
    ∃j,j≤s.length∧zcB (s,(i:Int),e)=some ((rdV (s.drop i) e).1.1.1,(rdV (s.drop i) e).1.1.2,(rdV (s.drop i) e).1.2,(j:Int),(rdV (s.drop i) e).2.2)∧s.drop j=(rdV (s.drop i) e).2.1:=by
  obtain ⟨j1,hj1,e1,d1⟩:=zyG 7 s i e (by omega) hi hl
  obtain ⟨j2,hj2,e2,d2⟩:=zyG 7 s j1 (rdB 7 (s.drop i) e).2.2 (by omega) hj1 hl
  rw [d1] at e2 d2
  obtain ⟨j3,hj3,e3,d3⟩:=zSd 128 s j2 (rdB 7 (rdB 7 (s.drop i) e).2.1 (rdB 7 (s.drop i) e).2.2).2.2 hj2 (by omega) hl
  rw [d2] at e3 d3
  refine ⟨j3,hj3,?_,d3⟩
  simp only [Int.cast_ofNat_Int] at e1 e2 e3
  simp only [zcB,zvJ,e1,e2,e3,zc,unP]
  rfl
def zx3:SV×Int→Int×Int×Int×List UInt8×Int×Int×List UInt8×Int×Int×List UInt8×Int:=fun ((k,(va,vb),d,((aa,ab),ad),(ba,bb),bd),e)=>(k,va,vb,d,aa,ab,ad,ba,bb,bd,e)
def zjl (s:SV) (e:Int):SV×Int:=if (if e=0 then Ze s else e)≠0 then (noS,if e=0 then Ze s else e) else (s,0)
def JH (t:List UInt8):SV×Int :=
  if ((num (rdB 1 t 0).1:Nat):Int)=0 then zjl (((num (rdB 1 t 0).1:Nat):Int),(rdV (rdB 1 t 0).2.1 (rdB 1 t 0).2.2).1.1,(rdV (rdB 1 t 0).2.1 (rdB 1 t 0).2.2).1.2,((0,0),[]),(0,0),[]) (rdE (rdV (rdB 1 t 0).2.1 (rdB 1 t 0).2.2).2.1 (rdV (rdB 1 t 0).2.1 (rdB 1 t 0).2.2).2.2)
  else if ((num (rdB 1 t 0).1:Nat):Int)=1 then
    zjl (((num (rdB 1 t 0).1:Nat):Int),((rdV (rdB 1 t 0).2.1 (rdB 1 t 0).2.2).1.1.1,(rdV (rdV (rdB 1 t 0).2.1 (rdB 1 t 0).2.2).2.1 (rdV (rdB 1 t 0).2.1 (rdB 1 t 0).2.2).2.2).1.1.2),[],(rdV (rdB 1 t 0).2.1 (rdB 1 t 0).2.2).1,(rdV (rdV (rdB 1 t 0).2.1 (rdB 1 t 0).2.2).2.1 (rdV (rdB 1 t 0).2.1 (rdB 1 t 0).2.2).2.2).1)
      (rdE (rdV (rdV (rdB 1 t 0).2.1 (rdB 1 t 0).2.2).2.1 (rdV (rdB 1 t 0).2.1 (rdB 1 t 0).2.2).2.2).2.1 (rdV (rdV (rdB 1 t 0).2.1 (rdB 1 t 0).2.2).2.1 (rdV (rdB 1 t 0).2.1 (rdB 1 t 0).2.2).2.2).2.2)
  else (noS,7)
theorem zik (k va vb:Int) (d:List UInt8) (aa ab:Int) (ad:List UInt8) (ba bb:Int) (bd:List UInt8) (e:Int) (c:Int) (hc:c=Ze (k,(va,vb),d,((aa,ab),ad),(ba,bb),bd)) :
    (za (bif e == 0 then some c else some e:Option Int) fun t7=>bif t7 != 0 then some (0,0,0,[],0,0,[],0,0,[],t7) else some (k,va,vb,d,aa,ab,ad,ba,bb,bd,0)) =
      some (zx3 (zjl (k,(va,vb),d,((aa,ab),ad),(ba,bb),bd) e)):=by
  subst hc
  unfold zjl
  by_cases he:e=0
  · subst he
    simp only [beq_self_eq_true,cond_true,zc,if_pos rfl,if_true]
    by_cases hz:Ze (k,(va,vb),d,((aa,ab),ad),(ba,bb),bd)=0
    · rw [if_neg (fun h=>h hz),hz];rfl
    · have:(Ze (k,(va,vb),d,((aa,ab),ad),(ba,bb),bd) != 0)=true:=by simpa using hz
      rw [if_pos hz,this];rfl
  · have h1:(e == 0)=false:=by simpa using he
    have h2:(e != 0)=true:=by simpa using he
    rw [h1,if_neg he,if_pos he]
    simp only [cond_false,zc,h2,cond_true]
    rfl
theorem zLv (t:List UInt8) (hl:t.length≤1000000000000):zgs t=some (zx3 (JH t)):=by
  have e1:=zfa 1 t 0 (by omega) hl
  have l1:=zcT 1 t 0
  simp only [Int.cast_ofNat_Int] at e1
  unfold JH
  simp only [zgs,zxr,Wq,zdj,zc,e1,unP,WE,zak,W7,zbB,ziL,qK]
  generalize (rdB 1 t 0)=q at l1 ⊢
  obtain ⟨b,r,e⟩:=q
  dsimp only at l1 ⊢
  generalize ((num b:Nat):Int)=k
  have v1:=zx2 r e (by omega)
  have l2:=ZcS r e
  have v2:=zx2 (rdV r e).2.1 (rdV r e).2.2 (by omega)
  by_cases h0:k=0
  · rw [zo h0,cond_true,if_pos h0]
    simp only [v1,zc,unP,Sum.elim_inl,zh2]
    exact zik k (rdV r e).1.1.1 (rdV r e).1.1.2 (rdV r e).1.2 0 0 [] 0 0 [] _ _ rfl
  · rw [zn h0,cond_false,if_neg h0]
    by_cases h1:k=1
    · rw [zo h1,cond_true,if_pos h1]
      simp only [v1,v2,zc,unP,Sum.elim_inl,zh2]
      exact zik k (rdV r e).1.1.1 (rdV (rdV r e).2.1 (rdV r e).2.2).1.1.2 [] (rdV r e).1.1.1 (rdV r e).1.1.2 (rdV r e).1.2 (rdV (rdV r e).2.1 (rdV r e).2.2).1.1.1 (rdV (rdV r e).2.1 (rdV r e).2.2).1.1.2 (rdV (rdV r e).2.1 (rdV r e).2.2).1.2 _ _ rfl
    · rw [zn h1,cond_false,if_neg h1]
      rfl
theorem zQI (t:List UInt8) (hl:t.length≤1000000000000):zg3 t=some (zx3 (JH t)):=by
  obtain ⟨j,hj,e1,d1⟩:=zyG 1 t 0 0 (by omega) (by omega) hl
  rw [List.drop_zero] at e1 d1
  simp only [Int.cast_ofNat_Int] at e1
  unfold JH
  have e1':zaA (1,t,0,0)=some (((num (rdB 1 t 0).1:Nat):Int),(j:Int),(rdB 1 t 0).2.2):=e1
  simp only [zg3,zxT,zc,e1',unP,qb,zbl,qs,zaT,zc5,qK]
  generalize (rdB 1 t 0)=q at d1 ⊢
  obtain ⟨b,r,e⟩:=q
  dsimp only at d1 ⊢
  generalize ((num b:Nat):Int)=k
  obtain ⟨j2,hj2,v1,d2⟩:=zjw t j e hj hl
  rw [d1] at v1 d2
  obtain ⟨j3,hj3,v2,d3⟩:=zjw t j2 (rdV r e).2.2 hj2 hl
  rw [d2] at v2 d3
  have x1:=zEJ t j2 (rdV r e).2.2 hj2
  rw [d2] at x1
  have x2:=zEJ t j3 (rdV (rdV r e).2.1 (rdV r e).2.2).2.2 hj3
  rw [d3] at x2
  by_cases h0:k=0
  · rw [zo h0,cond_true,if_pos h0]
    simp only [v1,zc,unP,Sum.elim_inl,x1]
    exact zik k (rdV r e).1.1.1 (rdV r e).1.1.2 (rdV r e).1.2 0 0 [] 0 0 [] _ _ rfl
  · rw [zn h0,cond_false,if_neg h0]
    by_cases h1:k=1
    · rw [zo h1,cond_true,if_pos h1]
      simp only [v1,v2,zc,unP,Sum.elim_inl,x2]
      exact zik k (rdV r e).1.1.1 (rdV (rdV r e).2.1 (rdV r e).2.2).1.1.2 [] (rdV r e).1.1.1 (rdV r e).1.1.2 (rdV r e).1.2 (rdV (rdV r e).2.1 (rdV r e).2.2).1.1.1 (rdV (rdV r e).2.1 (rdV r e).2.2).1.1.2 (rdV (rdV r e).2.1 (rdV r e).2.2).1.2 _ _ rfl
    · rw [zn h1,cond_false,if_neg h1]
      rfl
theorem zEA {t:List UInt8} (h:(JH t).2=0):Ze (JH t).1=0:=by
  have key : ∀(s:SV) (e:Int),(zjl s e).2=0→Ze (zjl s e).1=0:=by
    intro s e h
    unfold zjl at h ⊢
    by_cases hz:(if e=0 then Ze s else e)=0
    · rw [if_neg (fun h=>h hz)]
      by_cases he:e=0
      · rw [if_pos he] at hz;exact hz
      · rw [if_neg he] at hz;exact absurd hz he
    · rw [if_pos hz] at h;exact absurd h hz
  unfold JH at h ⊢
  split
  · rename_i h0;rw [if_pos h0] at h;exact key _ _ h
  · rename_i h0
    rw [if_neg h0] at h
    split
    · rename_i h1;rw [if_pos h1] at h;exact key _ _ h
    · rename_i h1;rw [if_neg h1] at h;cases h
end Go.Proofs.R9
namespace Go.Plain
open Go Go.AE
def fnz:List Int→Int
  | []=>0
  | e::r=>if e≠0 then e else fnz r
theorem zh5 : ∀(a b:List Int),fnz (a++b)=if fnz a≠0 then fnz a else fnz b
  | [],b=>by simp [fnz]
  | e::r,b=>by
    rw [List.cons_append,fnz,fnz,zh5 r b]
    by_cases h:e=0
    · subst h;rfl
    · rw [if_pos h,if_pos h,if_pos h]
theorem zKI {α:Type} {l:List α} {j:Nat} {x:α} (h:l[j]? = some x):l=l.take j++x::l.drop (j+1):=by
  have hj:j<l.length:=by
    apply Decidable.byContradiction;intro hn;rw [List.getElem?_eq_none (by omega)] at h;cases h
  have hx:l[j]=x:=by rw [List.getElem?_eq_getElem hj] at h;exact Option.some.inj h
  rw [← hx]
  conv=>lhs;rw [← List.take_append_drop j l]
  rw [List.drop_eq_getElem_cons hj]
theorem zTL {α:Type} {l:List α} {j:Nat} {x:α} (h:l[j]? = some x):l.drop j=x::l.drop (j+1):=by
  have hj:j<l.length:=by
    apply Decidable.byContradiction;intro hn;rw [List.getElem?_eq_none (by omega)] at h;cases h
  rw [List.getElem?_eq_getElem hj] at h
  rw [List.drop_eq_getElem_cons hj,Option.some.inj h]
theorem zdF {α:Type} {l:List α} {j:Nat} {x:α} (h:l[j]? = some x):l.take (j+1)=l.take j++[x]:=by
  rw [List.take_add_one,h];rfl
theorem zNv {α:Type} {f:α→Int} {l:List α} {j:Nat} {x:α} (h0:fnz ((l.take j).map f)=0) (h:l[j]? = some x) (hx:f x≠0):fnz (l.map f)=f x:=by
  rw [zKI h,List.map_append,zh5,if_neg (fun h=>h h0),List.map_cons,fnz,if_pos hx]
theorem zs0 {α:Type} {f:α→Int} {l:List α} {j:Nat} {x:α} (h0:fnz ((l.take j).map f)=0) (h:l[j]? = some x) (hx:f x=0):fnz ((l.take (j+1)).map f)=0:=by
  rw [zdF h,List.map_append,zh5,if_neg (fun h=>h h0),List.map_cons,List.map_nil,fnz,if_neg (fun h=>h hx)];rfl
theorem zKS {l:List Int} (h:fnz l=0) : ∀x ∈ l,x=0:=by
  induction l with
  | nil=>intro x hx;cases hx
  | cons e r ih =>
    rw [fnz] at h
    by_cases he:e=0
    · rw [if_neg (fun h=>h he)] at h
      intro x hx
      rcases List.mem_cons.1 hx with rfl | hx
      · exact he
      · exact ih h x hx
    · rw [if_pos he] at h;exact absurd h he
def zbT {α:Type} (p:Nat→α→Bool):Nat→List α→Bool
  | _,[]=>true
  | i,x::r=>p i x&&zbT p (i+1) r
theorem zsP {α:Type} {p:Nat→α→Bool} : ∀{l:List α} {i:Nat},zbT p i l=true ↔ ∀j x,l[j]? = some x→p (i+j) x=true
  | [],i=>by simp [zbT]
  | x::r,i=>by
    rw [zbT,Bool.and_eq_true,zsP]
    constructor
    · rintro ⟨h1,h2⟩ j y hy
      cases j with
      | zero=>cases hy;exact h1
      | succ j=>have:=h2 j y hy;rwa [show i+(j+1)=i+1+j by omega]
    · intro h
      exact ⟨h 0 x rfl,fun j y hy=>by have:=h (j+1) y hy;rwa [show i+(j+1)=i+1+j by omega] at this⟩
theorem zsX {α Y:Type} (l:List α) (p:Nat→α→Bool) (f:Int→Option (Int ⊕ Y)) (bad good:Y)
    (hs : ∀(j:Nat) x,l[j]? = some x→f (j:Int)=some (if p j x=true then .inl ((j+1:Nat):Int) else .inr bad)) (he:f (l.length:Int)=some (.inr good)) (hl:l.length≤18446744073709551000) :
    zO f zY 0=some (if zbT p 0 l=true then good else bad):=by
  have key : ∃y,zO f zY ((0:Nat):Int)=some y∧y=if zbT p 0 l=true then good else bad:=by
    refine yK l (fun j (_:Unit)=>(j:Int)) (fun j _=>zbT p 0 l=zbT p j (l.drop j)) _ ?_ ?_ (s0:=()) (by rw [List.drop_zero]) hl
    · intro j x _ hj _ hi
      rw [zTL hj,zbT] at hi
      cases hp:p j x with
      | true =>
        refine .inl ⟨(),by rw [hs j x hj,if_pos hp],?_⟩
        rw [hi,hp,Bool.true_and]
      | false =>
        refine .inr ⟨bad,by rw [hs j x hj,if_neg (by rw [hp];decide)],?_⟩
        rw [hi,hp,Bool.false_and,if_neg (by decide)]
    · intro _ hi
      refine ⟨good,he,?_⟩
      rw [hi,List.drop_length,zbT,if_pos rfl]
  obtain ⟨y,hy,rfl⟩:=key
  exact hy
def qU {α β:Type} (g:Nat→α→Option β):Nat→List α→Option (List β)
  | _,[]=>some []
  | i,x::r=>match g i x with
    | none=>none
    | some b=>match qU g (i+1) r with
      | none=>none
      | some bs=>some (b::bs)
theorem zKy {α β:Type} {g:Nat→α→Option β} : ∀{l:List α} {i:Nat} {bs:List β},qU g i l=some bs→bs.length=l.length
  | [],i,bs,h=>by cases h;rfl
  | x::r,i,bs,h=>by
    rw [qU] at h
    split at h
    · cases h
    · split at h
      · cases h
      · rename_i h2;cases h;rw [List.length_cons,List.length_cons,zKy h2]
theorem zNb {α β:Type} {g:Nat→α→Option β} : ∀{l:List α} {i:Nat} {bs:List β},qU g i l=some bs → ∀(j:Nat) (x:α),l[j]? = some x → ∃b,bs[j]? = some b∧g (i+j) x=some b
  | [],i,bs,h,j,x,hj=>by cases hj
  | y::r,i,bs,h,j,x,hj=>by
    rw [qU] at h
    split at h
    · cases h
    · rename_i b hb
      split at h
      · cases h
      · rename_i bs' h2
        cases h
        cases j with
        | zero=>cases hj;exact ⟨b,rfl,hb⟩
        | succ j =>
          obtain ⟨b',h3,h4⟩:=zNb h2 j x hj
          exact ⟨b',h3,by rwa [show i+(j+1)=i+1+j by omega]⟩
theorem zEs {α β V Y:Type} (l:List α) (g:Nat→α→Option β) (enc:Nat→List β→V) (f:V→Option (V ⊕ Y)) (bad:Y) (good:List β→Y)
    (hs : ∀(j:Nat) x acc,l[j]? = some x→acc.length=j→f (enc j acc)=some (match g j x with | none => .inr bad | some b => .inl (enc (j+1) (acc++[b]))))
    (he : ∀acc,acc.length=l.length→f (enc l.length acc)=some (.inr (good acc))) (hl:l.length≤18446744073709551000) :
    zO f zY (enc 0 [])=some (match qU g 0 l with | none=>bad | some bs=>good bs):=by
  have key : ∃y,zO f zY (enc 0 [])=some y∧y=(match qU g 0 l with | none=>bad | some bs=>good bs):=by
    refine yK l enc (fun j acc=>acc.length=j∧qU g 0 l=(qU g j (l.drop j)).map (acc ++ ·)) _ ?_ ?_ (s0:=[]) ⟨rfl,by rw [List.drop_zero];cases qU g 0 l <;> rfl⟩ hl
    · rintro j x acc hj _ ⟨ha,hi⟩
      rw [zTL hj,qU] at hi
      cases hg:g j x with
      | none =>
        refine .inr ⟨bad,by rw [hs j x acc hj ha,hg],?_⟩
        rw [hi,hg];rfl
      | some b =>
        refine .inl ⟨acc++[b],by rw [hs j x acc hj ha,hg],by rw [List.length_append,ha];rfl,?_⟩
        rw [hi,hg]
        dsimp only
        cases qU g (j+1) (l.drop (j+1)) <;> simp
    · rintro acc ⟨ha,hi⟩
      refine ⟨good acc,he acc ha,?_⟩
      rw [hi,List.drop_length,qU];simp
  obtain ⟨y,hy,rfl⟩:=key
  exact hy
end Go.Plain
namespace Go.Proofs.R9
open Go Go.AE Go.Plain
set_option maxRecDepth 100000
theorem zER (x:SV):zbF (x.fst,x.snd.fst.fst,x.snd.fst.snd,x.snd.snd.fst,x.snd.snd.snd.fst.fst.fst,x.snd.snd.snd.fst.fst.snd,x.snd.snd.snd.fst.snd,x.snd.snd.snd.snd.fst.fst,x.snd.snd.snd.snd.fst.snd,x.snd.snd.snd.snd.snd)=some (Ze x):=ziL ..
theorem zj3 (x:SV):zaV (x.fst,x.snd.fst.fst,x.snd.fst.snd,x.snd.snd.fst,x.snd.snd.snd.fst.fst.fst,x.snd.snd.snd.fst.fst.snd,x.snd.snd.snd.fst.snd,x.snd.snd.snd.snd.fst.fst,x.snd.snd.snd.snd.fst.snd,x.snd.snd.snd.snd.snd)=some (Ze x):=zc5 ..
theorem zYm {x:SV} (h:Ze x=0):x.1=0∨x.1=1:=by
  obtain ⟨k,⟨va,vb⟩,d,⟨⟨aa,ab⟩,ad⟩,⟨ba,bb⟩,bd⟩:=x
  unfold Ze at h
  dsimp only at h ⊢
  by_cases h0:k=0
  · exact .inl h0
  · rw [if_neg h0] at h
    by_cases h1:k=1
    · exact .inr h1
    · rw [if_neg h1] at h;cases h
def qO (l:List SV):Nat:=l.countP fun x=>decide (x.1=1)
def Jl (n r b c x s l:Int) (ss:List SV) (cs:List Bool):Int :=
  if zcb n r b c x s l≠0 then zcb n r b c x s l else if (ss.length:Int)≠x∨(cs.length:Int)≠x then 12
  else if fnz (ss.map Ze)≠0 then fnz (ss.map Ze) else if (qO ss:Int)>s then 16 else 0
theorem zEo {l:List SV} {j:Nat} {x:SV} (h:l[j]? = some x):qO (l.take (j+1))=qO (l.take j)+if x.1=1 then 1 else 0:=by
  unfold qO
  rw [zdF h,List.countP_append,List.countP_cons,List.countP_nil]
  by_cases hx:x.1=1 <;> simp [hx]
theorem zEv (l:List SV):qO l≤l.length:=List.countP_le_length
theorem zOX (a b x:Int):(bif a != x then some true else some (b != x):Option Bool)=some (decide (a≠x∨b≠x)):=by
  by_cases h1:a=x
  · by_cases h2:b=x
    · rw [zn (by simp [h1,h2]),ZF,ZF,zo h1,zo h2];rfl
    · rw [zo (.inr h2),ZF,ZF,zo h1,zn h2];rfl
  · rw [zo (.inl h1),ZF,zn h1];rfl
theorem zRN (a s:Int):(bif decide (a>s) then some (16:Int) else some 0)=some (if a>s then 16 else 0):=by
  by_cases h:a>s
  · rw [zo h,if_pos h];rfl
  · rw [zn h,if_neg h];rfl
theorem zmf (n r b c x s l:Int) (ss:List SV) (cs:List Bool):ziQ (n,r,b,c,x,s,l,ss,cs)=some (Jl n r b c x s l ss cs):=by
  unfold Jl
  simp only [ziQ,zLt,zEY,zc,ZF]
  by_cases h0:zcb n r b c x s l=0
  · rw [zo h0,if_neg (fun h=>h h0)]
    simp only [Bool.not_true,cond_false,jN,zcA,zOX,zc]
    by_cases h1:(ss.length:Int)≠x∨(cs.length:Int)≠x
    · rw [zo h1,if_pos h1];rfl
    rw [zn h1,if_neg h1,cond_false]
    have hx:ss.length≤24:=by
      have h2:(ss.length:Int)=x:=Decidable.byContradiction fun h=>h1 (.inl h)
      unfold zcb at h0
      by_cases hm:zlv n r b c x s l
      · have:=hm.1.1;omega
      · rw [if_neg hm] at h0;cases h0
    have key : ∃y,zO (yS (ss,(ss.length:Int),n,r,b,c,x,s,l,ss,cs)) zY ((qO (ss.take 0):Int),((0:Nat):Int))=some y ∧
        y=(if fnz (ss.map Ze)≠0 then .inl (fnz (ss.map Ze)) else .inr (qO ss:Int)):=by
      refine yK ss (fun j (_:Unit)=>((qO (ss.take j):Int),(j:Int))) (fun j _=>fnz ((ss.take j).map Ze)=0) _ ?_ ?_ (s0:=()) rfl (by omega)
      · intro j y _ hj hlt hi
        have hc:=zEv (ss.take j)
        rw [List.length_take] at hc
        by_cases hy:Ze y=0
        · left
          refine ⟨(),?_,zs0 hi hj hy⟩
          simp only [yS,qT,Wd,JX,zo (show (j:Int)<(ss.length:Int) by omega),cond_true,yj hj,zc,zER,ZF,qK,zo hy,Bool.not_true,cond_false,zEo hj]
          rw [z7 (n:=j) (by omega)]
          by_cases h1:y.1=1
          · rw [zo h1,if_pos h1,z7 (by omega)];rfl
          · rw [zn h1,if_neg h1];rfl
        · right
          refine ⟨.inl (Ze y),?_,?_⟩
          · simp only [yS,qT,Wd,JX,zo (show (j:Int)<(ss.length:Int) by omega),cond_true,yj hj,zc,zER,ZF,zn hy]
            rfl
          · rw [zNv hi hj hy,if_pos hy]
      · intro _ hi
        rw [List.take_length] at hi ⊢
        refine ⟨_,?_,rfl⟩
        simp only [yS,qT,zn (show ¬(ss.length:Int)<(ss.length:Int) by omega),cond_false]
        rw [if_neg (fun h=>h hi)]
    obtain ⟨y,hy,rfl⟩:=key
    have hy':zO (yS (ss,(ss.length:Int),n,r,b,c,x,s,l,ss,cs)) zY (0,0)=_:=hy
    rw [hy',zc]
    by_cases hz:fnz (ss.map Ze)=0
    · rw [if_neg (fun h=>h hz),if_neg (fun h=>h hz),Sum.elim_inr,zRN]
    · rw [if_pos hz,if_pos hz,Sum.elim_inl]
  · rw [zn h0,if_pos h0];rfl
theorem ztB (n r b c x s l:Int) (ss:List SV) (cs:List Bool):zhv (n,r,b,c,x,s,l,ss,cs)=some (Jl n r b c x s l ss cs):=by
  unfold Jl
  simp only [zhv,zxw,ztT,zc,ZF]
  by_cases h0:zcb n r b c x s l=0
  · rw [zo h0,if_neg (fun h=>h h0)]
    simp only [Bool.not_true,cond_false,qm,zbO,zOX,zc]
    by_cases h1:(ss.length:Int)≠x∨(cs.length:Int)≠x
    · rw [zo h1,if_pos h1];rfl
    rw [zn h1,if_neg h1,cond_false]
    have hx:ss.length≤24:=by
      have h2:(ss.length:Int)=x:=Decidable.byContradiction fun h=>h1 (.inl h)
      unfold zcb at h0
      by_cases hm:zlv n r b c x s l
      · have:=hm.1.1;omega
      · rw [if_neg hm] at h0;cases h0
    have key : ∃y,zO (yi (n,r,b,c,x,s,l,ss,cs)) zY ((qO (ss.take 0):Int),((0:Nat):Int))=some y ∧
        y=(if fnz (ss.map Ze)≠0 then .inl (fnz (ss.map Ze)) else .inr (qO ss:Int)):=by
      refine yK ss (fun j (_:Unit)=>((qO (ss.take j):Int),(j:Int))) (fun j _=>fnz ((ss.take j).map Ze)=0) _ ?_ ?_ (s0:=()) rfl (by omega)
      · intro j y _ hj hlt hi
        have hc:=zEv (ss.take j)
        rw [List.length_take] at hc
        by_cases hy:Ze y=0
        · left
          refine ⟨(),?_,zs0 hi hj hy⟩
          simp only [yi,Wj,zo (show (j:Int)<(ss.length:Int) by omega),cond_true,yj hj,zc,zj3,ZF,zo hy,Bool.not_true,cond_false,zEo hj]
          rw [z7 (n:=j) (by omega)]
          rcases zYm hy with h1 | h1
          · rw [h1,if_neg (by decide),Int.add_zero,Zg (by omega) (by omega)];rfl
          · rw [h1,if_pos rfl,z7 (by omega)]
        · right
          refine ⟨.inl (Ze y),?_,?_⟩
          · simp only [yi,Wj,zo (show (j:Int)<(ss.length:Int) by omega),cond_true,yj hj,zc,zj3,ZF,zn hy]
            rfl
          · rw [zNv hi hj hy,if_pos hy]
      · intro _ hi
        rw [List.take_length] at hi ⊢
        refine ⟨_,?_,rfl⟩
        simp only [yi,Wj,zn (show ¬(ss.length:Int)<(ss.length:Int) by omega),cond_false]
        rw [if_neg (fun h=>h hi)]
    obtain ⟨y,hy,rfl⟩:=key
    have hy':zO (yi (n,r,b,c,x,s,l,ss,cs)) zY (0,0)=_:=hy
    rw [hy',zc]
    by_cases hz:fnz (ss.map Ze)=0
    · rw [if_neg (fun h=>h hz),if_neg (fun h=>h hz),Sum.elim_inr,zRN]
    · rw [if_pos hz,if_pos hz,Sum.elim_inl]
  · rw [zn h0,if_pos h0];rfl
def wj (c:Bool):Int:=if c=true then 1 else 0
def YE (i:Int) (x:SV) (c:Bool):List UInt8:=zH (zH [] i 1) (wj c) 1++ql x
theorem z9k (c:Bool):0≤wj c∧wj c≤1:=by cases c <;> decide
theorem zLa {i:Int} {x:SV} {c:Bool} (h:Ze x=0):(YE i x c).length≤287:=by
  have h1:=z6 [] i 1
  have h2:=z6 (zH [] i 1) (wj c) 1
  have h3:=zir h
  simp only [List.length_nil] at h1
  unfold YE
  rw [List.length_append];omega
theorem zEm (i k va vb:Int) (d:List UInt8) (aa ab:Int) (ad:List UInt8) (ba bb:Int) (bd:List UInt8) (ch:Bool) :
    zcx (i,k,va,vb,d,aa,ab,ad,ba,bb,bd,ch)=some (if Ze (k,(va,vb),d,((aa,ab),ad),(ba,bb),bd)≠0 then ([],Ze (k,(va,vb),d,((aa,ab),ad),(ba,bb),bd)) else (YE i (k,(va,vb),d,((aa,ab),ad),(ba,bb),bd) ch,0)):=by
  simp only [zcx,zvv,z8B,zc,ZF]
  unfold zo4
  by_cases h:Ze (k,(va,vb),d,((aa,ab),ad),(ba,bb),bd)=0
  · have hb:=zir h
    have h1:=z6 [] i 1
    have h2:=z6 (zH [] i 1) (wj ch) 1
    simp only [List.length_nil] at h1
    have e1:Zw ([],i,1)=some (zH [] i 1):=yl [] i 1 (by omega) (by simp)
    have e2:Zw (zH [] i 1,wj ch,1)=some (zH (zH [] i 1) (wj ch) 1):=yl _ (wj ch) 1 (by omega) (by omega)
    have em:(wb (i,ql (k,(va,vb),d,((aa,ab),ad),(ba,bb),bd),ch))=some (wj ch):=by
      simp only [wb,zby];cases ch <;> rfl
    rw [if_neg (fun h'=>h' h),if_neg (fun h'=>h' h)]
    simp only [unP,zo,Bool.not_true,cond_false,em,zc,e1,e2,Zc (show (zH (zH [] i 1) (wj ch) 1).length+(ql (k,(va,vb),d,((aa,ab),ad),(ba,bb),bd)).length≤9223372036854775807 by omega),cond_true]
    rfl
  · rw [if_pos h,if_pos h]
    simp only [unP,zn h]
    rfl
theorem zU5 (i k va vb:Int) (d:List UInt8) (aa ab:Int) (ad:List UInt8) (ba bb:Int) (bd:List UInt8) (ch:Bool) (hi:InI i) (h:Ze (k,(va,vb),d,((aa,ab),ad),(ba,bb),bd)=0) :
    zhE (i,k,va,vb,d,aa,ab,ad,ba,bb,bd,ch)=some (YE i (k,(va,vb),d,((aa,ab),ad),(ba,bb),bd) ch):=by
  have hb:=zir h
  have h1:=z6 [] i 1
  have h2:=z6 (zH [] i 1) (wj ch) 1
  have hm:=z9k ch
  simp only [List.length_nil] at h1
  have e1:Zy ([],i,1)=some (zH [] i 1):=Yt [] i 1 (by omega) hi (by simp)
  have e2:Zy (zH [] i 1,wj ch,1)=some (zH (zH [] i 1) (wj ch) 1):=Yt _ (wj ch) 1 (by omega) (by omega) (by omega)
  have em:(we (i,ql (k,(va,vb),d,((aa,ab),ad),(ba,bb),bd),ch))=some (wj ch):=by
    simp only [we,zaB];cases ch <;> rfl
  simp only [zhE,zxB,zQs,zc]
  unfold zo4
  rw [if_neg (fun h'=>h' h)]
  simp only [unP,em,zc,e1,e2,Zc (show (zH (zH [] i 1) (wj ch) 1).length+(ql (k,(va,vb),d,((aa,ab),ad),(ba,bb),bd)).length≤9223372036854775807 by omega),cond_true]
  rfl
def zbY (l:List (List UInt8)):List UInt8:=zH [] (l.length:Int) 2++tail l.flatten
theorem z7F (l:List (List UInt8)):Lib.join l []=l.flatten:=by
  unfold Lib.join
  induction l with
  | nil=>rfl
  | cons x r ih =>
    cases r with
    | nil=>simp [List.intercalate]
    | cons y r =>
      have:([]:List UInt8).intercalate (x::y::r)=x++([]++([]:List UInt8).intercalate (y::r)):=by simp [List.intercalate,List.intersperse]
      rw [this,ih];rfl
theorem zyl (l:List (List UInt8)) (h1:l.length≤100000) (h2:l.flatten.length≤1000000000):zdS l=some (zbY l):=by
  have hp:=z6 [] (l.length:Int) 2
  simp only [List.length_nil] at hp
  have e1:Zw ([],(l.length:Int),2)=some (zH [] (l.length:Int) 2):=yl [] _ 2 (by omega) (by simp)
  have e2:YZ (l,[])=some l.flatten:=by
    unfold YZ
    dsimp only
    rw [z7F,Zc (by omega),Zc (by omega)];rfl
  simp only [zdS,ztZ,e1,zc,e2,wt _ (show l.flatten.length≤1000000000000 by omega),Zt,Zc (show (zH [] (l.length:Int) 2).length+4≤9223372036854775807 by omega),cond_true]
  rfl
theorem zuz (l:List (List UInt8)) (j:Nat):(l.take j).flatten.length≤l.flatten.length:=by
  conv=>rhs;rw [← List.take_append_drop j l]
  rw [List.flatten_append,List.length_append];omega
theorem zGn (l:List (List UInt8)) (h1:l.length≤100000) (h2:l.flatten.length≤1000000000):zhu l=some (zbY l):=by
  have hp:=z6 [] (l.length:Int) 2
  simp only [List.length_nil] at hp
  have e1:Zy ([],(l.length:Int),2)=some (zH [] (l.length:Int) 2):=Yt [] _ 2 (by omega) (by omega) (by simp)
  have key : ∃y,zO (yJ l) zY ((l.take 0).flatten,((0:Nat):Int))=some y∧y=l.flatten:=by
    refine yK l (fun j (_:Unit)=>((l.take j).flatten,(j:Int))) (fun _ _=>True) _ ?_ ?_ (s0:=()) trivial (by omega)
    · intro j x _ hj hlt _
      left
      refine ⟨(),?_,trivial⟩
      have hle:=zuz l (j+1)
      have ef:(l.take (j+1)).flatten=(l.take j).flatten++x:=by rw [zdF hj,List.flatten_append];simp
      rw [ef] at hle ⊢
      rw [List.length_append] at hle
      simp only [yJ,jo,zo (show (j:Int)<(l.length:Int) by omega),cond_true,yj hj,zc,Zc (show (l.take j).flatten.length+x.length≤9223372036854775807 by omega),z7 (n:=j) (by omega)]
    · intro _ _
      rw [List.take_length]
      refine ⟨_,?_,rfl⟩
      simp only [yJ,jo,zn (show ¬(l.length:Int)<(l.length:Int) by omega),cond_false]
  obtain ⟨y,hy,rfl⟩:=key
  have hy':zO (yJ l) zY ([],0)=some l.flatten:=hy
  simp only [zhu,zyz,hy',e1,zc,JE _ (show l.flatten.length≤1000000000000 by omega),Zt,Zc (show (zH [] (l.length:Int) 2).length+4≤9223372036854775807 by omega),cond_true]
  rfl
end Go.Proofs.R9
namespace Go.Proofs.R9
open Go Go.AE Go.Plain
set_option maxRecDepth 100000
def qP (l:List (List UInt8)):Int:=fnz (l.map fun s=>(ZI s).2.2)
def zX (l:List (List UInt8)):List Int:=l.map fun s=>(ZI s).1
def zT (l:List (List UInt8)):List (List UInt8):=l.map fun s=>(ZI s).2.1
def wm (n i:Nat):Int:=if i=0 then 20 else if i+1=n then 22 else 21
def kOk (ks:List Int):Bool:=zbT (fun i x=>decide (x=wm ks.length i)) 0 ks
def Fit (l:List (List UInt8)):Prop:=l.length≤1000 ∧ ∀s ∈ l,s.length≤100000
theorem Fit.at {l:List (List UInt8)} (h:Fit l) {j:Nat} {x:List UInt8} (hj:l[j]? = some x):x.length≤100000:=h.2 x (List.mem_of_getElem? hj)
theorem zTJ : ∀(l:List (List UInt8)),(∀s ∈ l,s.length≤100000)→l.flatten.length≤100000*l.length
  | [],_=>by simp
  | x::r,h=>by
    rw [List.flatten_cons,List.length_append,List.length_cons]
    have h1:=h x (List.mem_cons_self ..)
    have h2:=zTJ r fun s hs=>h s (List.mem_cons_of_mem _ hs)
    omega
theorem Fit.take {l:List (List UInt8)} (h:Fit l) (k:Nat):Fit (l.take k):=⟨by rw [List.length_take];have:=h.1;omega,fun s hs=>h.2 s (List.mem_of_mem_take hs)⟩
theorem Fit.flat {l:List (List UInt8)} (h:Fit l):l.flatten.length≤1000000000:=by have:=zTJ l h.2;have:=h.1;omega
theorem zO2 {l:List (List UInt8)} (h:Fit l):Fit (zT l):=by
  refine ⟨by rw [zT,List.length_map];exact h.1,fun s hs => ?_⟩
  rw [zT,List.mem_map] at hs
  obtain ⟨t,ht,rfl⟩:=hs
  have:=h.2 t ht
  unfold ZI
  split
  · exact Nat.zero_le _
  split
  · exact Nat.zero_le _
  split
  · exact Nat.zero_le _
  split
  · exact Nat.zero_le _
  split
  · exact Nat.zero_le _
  · show ((t.drop 3).take (yT t)).length≤_
    rw [List.length_take,List.length_drop];omega
theorem zEK (l:List (List UInt8)) (hf:Fit l) (f:Int×List Int×List (List UInt8)→Option ((Int×List Int×List (List UInt8)) ⊕ (Int ⊕ (List Int×List (List UInt8)))))
    (hs : ∀(j:Nat) x,l[j]? = some x→f ((j:Int),zX (l.take j),zT (l.take j))=some (if (ZI x).2.2≠0 then .inr (.inl (ZI x).2.2) else .inl (((j+1:Nat):Int),zX (l.take j)++[(ZI x).1],zT (l.take j)++[(ZI x).2.1])))
    (he:f ((l.length:Int),zX l,zT l)=some (.inr (.inr (zX l,zT l)))) :
    zO f zY (0,[],[])=some (if qP l≠0 then .inl (qP l) else .inr (zX l,zT l)):=by
  have key : ∃y,zO f zY (((0:Nat):Int),zX (l.take 0),zT (l.take 0))=some y∧y=(if qP l≠0 then .inl (qP l) else .inr (zX l,zT l)):=by
    refine yK l (fun j (_:Unit)=>((j:Int),zX (l.take j),zT (l.take j))) (fun j _=>qP (l.take j)=0) _ ?_ ?_ (s0:=()) rfl (by have:=hf.1;omega)
    · intro j x _ hj hlt hi
      have h:=hs j x hj
      by_cases hx:(ZI x).2.2=0
      · left
        refine ⟨(),?_,zs0 (f:=fun s=>(ZI s).2.2) hi hj hx⟩
        rw [h,if_neg (fun h'=>h' hx)]
        unfold zX zT
        rw [zdF hj,List.map_append,List.map_append];rfl
      · right
        refine ⟨.inl (ZI x).2.2,by rw [h,if_pos hx],?_⟩
        have:=zNv (f:=fun s=>(ZI s).2.2) hi hj hx
        unfold qP
        rw [this,if_pos hx]
    · intro _ hi
      rw [List.take_length] at hi ⊢
      exact ⟨_,he,by rw [if_neg (fun h=>h hi)]⟩
  obtain ⟨y,hy,rfl⟩:=key
  exact hy
theorem zI4 (l:List (List UInt8)) (hf:Fit l) (h2:2≤l.length) :
    zht l=some (if qP l≠0 then (qP l,[]) else if kOk (zX l)=true then (0,zT l) else (7,[])):=by
  have hlen:=hf.1
  have h1:=zEK l hf (Yf (l,(l.length:Int)))
    (fun j x hj=>by
      have hlt:j<l.length:=by apply Decidable.byContradiction;intro hn;rw [List.getElem?_eq_none (by omega)] at hj;cases hj
      have hk:(zX (l.take j)).length=j:=by rw [zX,List.length_map,List.length_take];omega
      have hb:(zT (l.take j)).length=j:=by rw [zT,List.length_map,List.length_take];omega
      have hx:=hf.at hj
      simp only [Yf,jj,zo (show (j:Int)<(l.length:Int) by omega),cond_true,yj hj,zc,zXt x (by omega),unP,ZF,hk,hb,List.length_singleton]
      by_cases hz:(ZI x).2.2=0
      · rw [zo hz,if_neg (fun h=>h hz),Zc (by omega),Zc (by omega),z7 (by omega)];rfl
      · rw [zn hz,if_pos hz];rfl)
    (by simp only [Yf,jj,zn (show ¬(l.length:Int)<(l.length:Int) by omega),cond_false])
  simp only [zht,zve,h1,zc]
  by_cases he:qP l=0
  · rw [if_neg (fun h=>h he),if_neg (fun h=>h he),Sum.elim_inr]
    have hk:(zX l).length=l.length:=by rw [zX,List.length_map]
    have h3:=zsX (zX l) (fun i x=>decide (x=wm (zX l).length i)) (Yd (((zX l).length:Int),zX l,zT l)) (.inl ()) (.inr ())
      (fun j x hj=>by
        have hlt:j<(zX l).length:=by apply Decidable.byContradiction;intro hn;rw [List.getElem?_eq_none (by omega)] at hj;cases hj
        have hw:wd (x,((zX l).length:Int),(j:Int),(j:Int),zX l,zT l)=some (wm (zX l).length j):=by
          simp only [wd,zav,qK]
          unfold wm
          rw [Zg (x:=((zX l).length:Int) - 1) (by omega) (by omega)]
          by_cases h0:j=0
          · rw [zo (show (j:Int)=0 by omega),if_pos h0];rfl
          · rw [zn (show ¬(j:Int)=0 by omega),if_neg h0]
            by_cases h1:j+1=(zX l).length
            · rw [zo (show (j:Int)=((zX l).length:Int) - 1 by omega),if_pos h1];rfl
            · rw [zn (show ¬(j:Int)=((zX l).length:Int) - 1 by omega),if_neg h1];rfl
        simp only [Yd,Jb,W2,zbx,zo (show (j:Int)<((zX l).length:Int) by omega),cond_true,Zk (show (0:Int)≤(j:Int)∧(j:Int)<((zX l).length:Int) by omega),Int.toNat_natCast,hj,zc,hw,ZF]
        by_cases hx:x=wm (zX l).length j
        · rw [zo hx,if_pos rfl,z7 (by omega)];rfl
        · rw [zn hx,if_neg (by decide)];rfl)
      (by simp only [Yd,Jb,zn (show ¬((zX l).length:Int)<((zX l).length:Int) by omega),cond_false])
      (by omega)
    simp only [unP,h3,zc]
    unfold kOk
    cases zbT (fun i x=>decide (x=wm (zX l).length i)) 0 (zX l) <;> rfl
  · rw [if_pos he,if_pos he,Sum.elim_inl]
def mkB (b:List UInt8):Bool:=decide (((num ((b.drop 1).take 1):Nat):Int)=1)
def JK (i:Nat) (b:List UInt8):Option (SV×Bool) :=
  if b.length<2 then none else if (JH (b.drop 2)).2≠0 then none else if YE (i:Int) (JH (b.drop 2)).1 (mkB b)=b then some ((JH (b.drop 2)).1,mkB b) else none
theorem zQF (i:Nat) (b:List UInt8) (n r bt c x s l:Int) (o1:List SV) (o2:List Bool) (hb:b.length≤100000) (h1:o1.length≤1000) (h2:o2.length≤1000) :
    zeA ((i:Int),b,n,r,bt,c,x,s,l,o1,o2)=some (match JK i b with | none=>(4,o1,o2) | some q=>(0,o1++[q.1],o2++[q.2])):=by
  have e1:=zfa 1 b 0 (by omega) (by omega)
  have l1:=zcT 1 b 0
  have e2:=zfa 1 (rdB 1 b 0).2.1 (rdB 1 b 0).2.2 (by omega) (by omega)
  have l2:=zcT 1 (rdB 1 b 0).2.1 (rdB 1 b 0).2.2
  have e3:=zeq (rdB 1 (rdB 1 b 0).2.1 (rdB 1 b 0).2.2).2.1.length (rdB 1 (rdB 1 b 0).2.1 (rdB 1 b 0).2.2).2.1 (rdB 1 (rdB 1 b 0).2.1 (rdB 1 b 0).2.2).2.2 (by omega)
  simp only [Int.cast_ofNat_Int] at e1 e2
  unfold JK
  by_cases hs:b.length<2
  · rw [if_pos hs]
    have hd:(rdB (rdB 1 (rdB 1 b 0).2.1 (rdB 1 b 0).2.2).2.1.length (rdB 1 (rdB 1 b 0).2.1 (rdB 1 b 0).2.2).2.1 (rdB 1 (rdB 1 b 0).2.1 (rdB 1 b 0).2.2).2.2).1=[]:=by
      match b,hs with
      | [],_=>rfl
      | [a],_=>rfl
      | a::c::r,h=>simp only [List.length_cons] at h;omega
    simp only [zeA,zoK,Wq,zdj,zc,e1,e2,unP,zcP,zh7,e3,hd,zLv [] (by simp)]
    rfl
  · have hE:rdB 1 b 0=(b.take 1,b.drop 1,0):=Yx (by omega)
    have hE2:rdB 1 (b.drop 1) 0=((b.drop 1).take 1,b.drop 2,0):=by rw [Yx (by rw [List.length_drop];omega),List.drop_drop]
    have hE3:rdB (b.drop 2).length (b.drop 2) 0=(b.drop 2,[],0):=by rw [Yx (Nat.le_refl _),List.take_length,List.drop_length]
    rw [if_neg hs]
    rw [hE] at e1 e2 e3
    dsimp only at e1 e2 e3
    rw [hE2] at e2 e3
    dsimp only at e2 e3
    rw [hE3] at e3
    have hg := @zEA (b.drop 2)
    have em : ∀z:Int,(z == 1)=decide (z=1):=fun _=>rfl
    simp only [zeA,zoK,Wq,zdj,zc,e1,e2,unP,zcP,zh7,e3,zLv (b.drop 2) (by rw [List.length_drop];omega),em]
    have emk:decide (((num ((b.drop 1).take 1):Nat):Int)=1)=mkB b:=rfl
    rw [emk]
    generalize JH (b.drop 2)=g at hg
    obtain ⟨⟨k,⟨va,vb⟩,d,⟨⟨aa,ab⟩,ad⟩,⟨ba,bb⟩,bd⟩,e⟩:=g
    simp only [zx3,unP,ZF] at hg ⊢
    by_cases he:e=0
    · rw [zo he,if_neg (fun h=>h he)]
      simp only [Bool.not_true,cond_false,zEm,zc]
      rw [if_neg (fun h=>h (hg he))]
      simp only [WH,zaX,qa,Wg,unP,List.length_singleton,emk]
      by_cases hq:YE (i:Int) (k,(va,vb),d,((aa,ab),ad),(ba,bb),bd) (mkB b)=b
      · rw [if_pos hq,hq,beq_self_eq_true,Zc (show (o1.length+1)*104≤140737488355328 by omega),Zc (show (o2.length+1)*1≤140737488355328 by omega)]
        rfl
      · have hn:(YE (i:Int) (k,(va,vb),d,((aa,ab),ad),(ba,bb),bd) (mkB b) == b)=false:=by rw [beq_eq_false_iff_ne];exact hq
        rw [if_neg hq,hn];rfl
    · rw [zn he,if_pos he];rfl
abbrev Im:=Int×Int×Int×Int×Int×Int×Int×Int×List SV×List Bool
def noI (e:Int):Im:=(0,0,0,0,0,0,0,e,[],[])
def ztR (l:List (List UInt8)) (n r b c x s lg e:Int):Im :=
  if e≠0∨x≠(l.length:Int) - 2 then noI 4 else
  match qU JK 0 (((zT l).drop 1).take (l.length - 2)) with
  | none=>noI 4
  | some q=>if (zT l)[l.length - 1]? ≠ some (zbY (l.take (l.length - 1))) then noI 5 else
    if Jl n r b c x s lg (q.map (·.1)) (q.map (·.2))≠0 then noI (Jl n r b c x s lg (q.map (·.1)) (q.map (·.2))) else (n,r,b,c,x,s,lg,0,q.map (·.1),q.map (·.2))
def zeu (l:List (List UInt8)):Im :=
  if l.length<2 then noI 1 else if qP l≠0 then noI (qP l) else if ¬kOk (zX l)=true then noI 7 else
  ztR l (qB ((zT l).headD [])).1 (qB ((zT l).headD [])).2.1 (qB ((zT l).headD [])).2.2.1 (qB ((zT l).headD [])).2.2.2.1 (qB ((zT l).headD [])).2.2.2.2.1 (qB ((zT l).headD [])).2.2.2.2.2.1 (qB ((zT l).headD [])).2.2.2.2.2.2.1 (qB ((zT l).headD [])).2.2.2.2.2.2.2
theorem z1p {l:List (List UInt8)} {k j:Nat} {x:List UInt8} (h:((l.drop 1).take k)[j]? = some x):l[1+j]? = some x∧j<k:=by
  have hj:j<k:=by
    apply Decidable.byContradiction;intro hn
    rw [List.getElem?_eq_none (by rw [List.length_take];omega)] at h;cases h
  rw [List.getElem?_take_of_lt hj,List.getElem?_drop] at h
  exact ⟨h,hj⟩
theorem zY5 (l:List (List UInt8)) (hf:Fit l):zn1 l=some (zeu l):=by
  have hlen:=hf.1
  unfold zeu
  simp only [zn1,zL1]
  by_cases h2:l.length<2
  · rw [if_pos h2,zo (show (l.length:Int)<2 by omega)];rfl
  rw [if_neg h2,zn (show ¬(l.length:Int)<2 by omega),cond_false,zI4 l hf (by omega)]
  by_cases he:qP l=0
  rotate_left
  · rw [if_pos he,if_pos he]
    have:(qP l != 0)=true:=by simpa using he
    simp only [zc,unP,this,cond_true]
    rfl
  have he' : ¬(qP l≠0):=fun h=>h he
  rw [if_neg he',if_neg he']
  by_cases hk:kOk (zX l)=true
  rotate_left
  · rw [if_neg hk,if_pos hk];rfl
  have hk' : ¬¬kOk (zX l)=true:=fun h=>h hk
  rw [if_pos hk,if_neg hk']
  have hb:=zO2 hf
  have hbl:(zT l).length=l.length:=by rw [zT,List.length_map]
  obtain ⟨b0,hb0⟩ : ∃b0,(zT l)[0]? = some b0:=⟨_,List.getElem?_eq_getElem (by omega)⟩
  have hh:(zT l).headD []=b0:=by
    cases hq:zT l with
    | nil=>rw [hq] at hbl;simp at hbl;omega
    | cons y r=>rw [hq] at hb0;cases hb0;rfl
  have hw1:IntKind.wrap .i64 (((zT l).length:Int) - 1)=((l.length - 1:Nat):Int):=by rw [hbl,Zg (by omega) (by omega)];omega
  rw [hh]
  simp only [zc,unP,bne_self_eq_false,cond_false,Zk (show (0:Int)≤0∧(0:Int)<((zT l).length:Int) by omega),cond_true,Int.toNat_zero,hb0,Zba b0 (by have:=hb.at hb0;omega),hw1]
  generalize qB b0=g
  obtain ⟨n,r,b,c,x,s,lg,e⟩:=g
  unfold ztR
  simp only [unP,jl,zcG]
  have hw2:IntKind.wrap .i64 (((l.length - 1:Nat):Int) - 1)=(l.length:Int) - 2:=by rw [Zg (by omega) (by omega)];omega
  have hc:(bif e != 0 then some true else some (x != IntKind.wrap .i64 (((l.length - 1:Nat):Int) - 1)):Option Bool)=some (decide (e≠0∨x≠(l.length:Int) - 2)):=by
    rw [hw2]
    by_cases h1:e=0
    · by_cases h3:x=(l.length:Int) - 2
      · rw [zn (by simp [h1,h3]),ZF,ZF,zo h1,zo h3];rfl
      · rw [zo (.inr h3),ZF,ZF,zo h1,zn h3];rfl
    · rw [zo (.inl h1),ZF,zn h1];rfl
  rw [hc,zc]
  by_cases hbad:e≠0∨x≠(l.length:Int) - 2
  · rw [zo hbad,if_pos hbad];rfl
  rw [zn hbad,if_neg hbad,cond_false,Int.toNat_natCast,Zk (show (0:Int)≤((l.length - 1:Nat):Int)∧((l.length - 1:Nat):Int)<(((zT l).length+1:Nat):Int) by omega),
    Zk (show (0:Int)≤1∧(1:Int)<((l.length - 1+1:Nat):Int) by omega)]
  have hM:(((zT l).drop 1).take (l.length - 2)).length=l.length - 2:=by rw [List.length_take,List.length_drop];omega
  have hloop:=zEs (((zT l).drop 1).take (l.length - 2)) JK (fun j acc=>((j:Int),acc.map (·.1),acc.map (·.2)))
    (y5 (l,((l.length - 1:Nat):Int),l.length - 1 - 1,((l.length - 1 - 1:Nat):Int),n,r,b,c,x,s,lg,zT l)) (.inl 4) (fun q => .inr (q.map (·.1),q.map (·.2)))
    (fun j y acc hj ha=>by
      obtain ⟨hj1,hlt⟩:=z1p hj
      have hy:=hb.at hj1
      simp only [y5,J3,zo (show (j:Int)<((l.length - 1 - 1:Nat):Int) by omega),cond_true,Zk (show (0:Int)≤(j:Int)∧(j:Int)<((l.length - 1 - 1:Nat):Int) by omega),Int.toNat_natCast,hj1,zc,
        zQF j y n r b c x s lg (acc.map (·.1)) (acc.map (·.2)) (by omega) (by rw [List.length_map];omega) (by rw [List.length_map];omega),z7 (n:=j) (by omega)]
      cases JK j y with
      | none=>rfl
      | some q=>simp only [unP,bne_self_eq_false,cond_false,List.map_append,List.map_cons,List.map_nil])
    (fun acc ha=>by
      simp only [y5,J3,hM,zn (show ¬((l.length - 2:Nat):Int)<((l.length - 1 - 1:Nat):Int) by omega),cond_false])
    (by omega)
  have hloop':zO (y5 (l,((l.length - 1:Nat):Int),l.length - 1 - 1,((l.length - 1 - 1:Nat):Int),n,r,b,c,x,s,lg,zT l)) zY (0,[],[])=_:=hloop
  simp only [Bool.and_self,cond_true,hloop',zc]
  cases qU JK 0 (((zT l).drop 1).take (l.length - 2)) with
  | none=>rfl
  | some q =>
    dsimp only
    obtain ⟨z,hz⟩ : ∃z,(zT l)[l.length - 1]? = some z:=⟨_,List.getElem?_eq_getElem (by omega)⟩
    have hft:=hf.take (l.length - 1)
    simp only [Sum.elim_inr,unP,Zk (show (0:Int)≤((l.length - 1:Nat):Int)∧((l.length - 1:Nat):Int)<((zT l).length:Int) by omega),cond_true,hz,zc,
      Zk (show (0:Int)≤((l.length - 1:Nat):Int)∧((l.length - 1:Nat):Int)<((l.length+1:Nat):Int) by omega),zyl (l.take (l.length - 1)) (by have:=hft.1;omega) hft.flat,zmf]
    by_cases hze:z=zbY (l.take (l.length - 1))
    · rw [if_neg (fun h=>h (by rw [hze])),hze,beq_self_eq_true]
      simp only [Bool.not_true,cond_false,ZF]
      by_cases hci:Jl n r b c x s lg (q.map (·.1)) (q.map (·.2))=0
      · rw [zo hci,if_neg (fun h=>h hci)];rfl
      · rw [zn hci,if_pos hci];rfl
    · have hn:(z == zbY (l.take (l.length - 1)))=false:=by rw [beq_eq_false_iff_ne];exact hze
      rw [if_pos (fun h=>hze (Option.some.inj h)),hn];rfl
end Go.Proofs.R9
namespace Go.Proofs.R9
open Go Go.AE Go.Plain
set_option maxRecDepth 100000
theorem z12 (l:List (List UInt8)) (ks:List Int) (bs:List (List UInt8)) (j:Nat) (x:Int) (hj:ks[j]? = some x) (h2:2≤ks.length) (hk:ks.length≤1000) :
    wc (l,((ks.length - 1:Nat):Int),(j:Int),ks,bs)=some (!decide (x=wm ks.length j)):=by
  have hlt:j<ks.length:=by apply Decidable.byContradiction;intro hn;rw [List.getElem?_eq_none (by omega)] at hj;cases hj
  simp only [wc,zaG,qK,ZF]
  unfold wm
  rw [Zk (show (0:Int)≤(j:Int)∧(j:Int)<(ks.length:Int) by omega),Int.toNat_natCast,hj]
  simp only [cond_true,zc]
  by_cases h0:j=0
  · rw [zo (show (j:Int)=0 by omega),if_pos h0,zn (show ¬(j:Int)=((ks.length - 1:Nat):Int) by omega),zn (show ¬(j:Int)>0 by omega)]
    by_cases hx:x=20
    · rw [zo hx];rfl
    · rw [zn hx];rfl
  · rw [zn (show ¬(j:Int)=0 by omega),if_neg h0,zo (show (j:Int)>0 by omega)]
    by_cases h1:j+1=ks.length
    · rw [zo (show (j:Int)=((ks.length - 1:Nat):Int) by omega),if_pos h1,zn (show ¬(j:Int)<((ks.length - 1:Nat):Int) by omega)]
      by_cases hx:x=22
      · rw [zo hx];rfl
      · rw [zn hx];rfl
    · rw [zn (show ¬(j:Int)=((ks.length - 1:Nat):Int) by omega),if_neg h1,zo (show (j:Int)<((ks.length - 1:Nat):Int) by omega)]
      by_cases hx:x=21
      · rw [zo hx];rfl
      · rw [zn hx];rfl
theorem zZ7 (l:List (List UInt8)) (ks:List Int) (bs:List (List UInt8)) (h2:2≤ks.length) (hk:ks.length≤1000) :
    zO (yN (l,((ks.length - 1:Nat):Int),ks,bs)) zY 0=some (if kOk ks=true then .inr () else .inl ()):=by
  have h3:=zsX ks (fun i x=>decide (x=wm ks.length i)) (yN (l,((ks.length - 1:Nat):Int),ks,bs)) (.inl ()) (.inr ())
    (fun j x hj=>by
      have hlt:j<ks.length:=by apply Decidable.byContradiction;intro hn;rw [List.getElem?_eq_none (by omega)] at hj;cases hj
      simp only [yN,jI,WT,zaD,zo (show (j:Int)≤((ks.length - 1:Nat):Int) by omega),cond_true,z12 l ks bs j x hj h2 hk,zc]
      by_cases hx:x=wm ks.length j
      · rw [zo hx,if_pos rfl,z7 (by omega)];rfl
      · rw [zn hx,if_neg (by decide)];rfl)
    (by simp only [yN,jI,zn (show ¬(ks.length:Int)≤((ks.length - 1:Nat):Int) by omega),cond_false])
    (by omega)
  rw [h3]
  rfl
theorem z06 (l:List (List UInt8)) (hf:Fit l):zgA l=some (zeu l):=by
  have hlen:=hf.1
  unfold zeu
  simp only [zgA,zxV]
  by_cases h2:l.length<2
  · rw [if_pos h2,zo (show (l.length:Int)<2 by omega)];rfl
  rw [if_neg h2,zn (show ¬(l.length:Int)<2 by omega),cond_false]
  have h1:=zEK l hf (Yh l)
    (fun j x hj=>by
      have hlt:j<l.length:=by apply Decidable.byContradiction;intro hn;rw [List.getElem?_eq_none (by omega)] at hj;cases hj
      have hk:(zX (l.take j)).length=j:=by rw [zX,List.length_map,List.length_take];omega
      have hb:(zT (l.take j)).length=j:=by rw [zT,List.length_map,List.length_take];omega
      have hx:=hf.at hj
      simp only [Yh,j8,zo (show (j:Int)<(l.length:Int) by omega),cond_true,yj hj,zc,zIb x (by omega),unP,ZF,hk,hb,List.length_singleton]
      by_cases hz:(ZI x).2.2=0
      · rw [zo hz,if_neg (fun h=>h hz),Zc (by omega),Zc (by omega),z7 (by omega)];rfl
      · rw [zn hz,if_pos hz];rfl)
    (by simp only [Yh,j8,zn (show ¬(l.length:Int)<(l.length:Int) by omega),cond_false])
  rw [h1]
  by_cases he:qP l=0
  rotate_left
  · rw [if_pos he,if_pos he];rfl
  have he' : ¬(qP l≠0):=fun h=>h he
  rw [if_neg he',if_neg he']
  have hkl:(zX l).length=l.length:=by rw [zX,List.length_map]
  have hw0:IntKind.wrap .i64 ((l.length:Int) - 1)=(((zX l).length - 1:Nat):Int):=by rw [hkl,Zg (by omega) (by omega)];omega
  have hlk:=zZ7 l (zX l) (zT l) (by omega) (by omega)
  simp only [zc,Sum.elim_inr,unP,hw0,hlk]
  by_cases hk:kOk (zX l)=true
  rotate_left
  · rw [if_neg hk,if_pos hk];rfl
  have hk' : ¬¬kOk (zX l)=true:=fun h=>h hk
  rw [if_pos hk,if_neg hk',hkl]
  have hb:=zO2 hf
  have hbl:(zT l).length=l.length:=by rw [zT,List.length_map]
  obtain ⟨b0,hb0⟩ : ∃b0,(zT l)[0]? = some b0:=⟨_,List.getElem?_eq_getElem (by omega)⟩
  have hh:(zT l).headD []=b0:=by
    cases hq:zT l with
    | nil=>rw [hq] at hbl;simp at hbl;omega
    | cons y r=>rw [hq] at hb0;cases hb0;rfl
  rw [hh]
  simp only [Sum.elim_inr,Zk (show (0:Int)≤0∧(0:Int)<((zT l).length:Int) by omega),cond_true,Int.toNat_zero,hb0,zc,z9e b0 (by have:=hb.at hb0;omega)]
  generalize qB b0=g
  obtain ⟨n,r,b,c,x,s,lg,e⟩:=g
  unfold ztR
  simp only [unP,WQ,zaY]
  have hw2:IntKind.wrap .i64 (((l.length - 1:Nat):Int) - 1)=(l.length:Int) - 2:=by rw [Zg (by omega) (by omega)];omega
  have hc:(bif e != 0 then some true else some (x != IntKind.wrap .i64 (((l.length - 1:Nat):Int) - 1)):Option Bool)=some (decide (e≠0∨x≠(l.length:Int) - 2)):=by
    rw [hw2]
    by_cases h1:e=0
    · by_cases h3:x=(l.length:Int) - 2
      · rw [zn (by simp [h1,h3]),ZF,ZF,zo h1,zo h3];rfl
      · rw [zo (.inr h3),ZF,ZF,zo h1,zn h3];rfl
    · rw [zo (.inl h1),ZF,zn h1];rfl
  rw [hc,zc]
  by_cases hbad:e≠0∨x≠(l.length:Int) - 2
  · rw [zo hbad,if_pos hbad];rfl
  rw [zn hbad,if_neg hbad,cond_false]
  have hM:(((zT l).drop 1).take (l.length - 2)).length=l.length - 2:=by rw [List.length_take,List.length_drop];omega
  have hloop:=zEs (((zT l).drop 1).take (l.length - 2)) JK (fun j acc=>(((j+1:Nat):Int),acc.map (·.1),acc.map (·.2)))
    (yI (l,((l.length - 1:Nat):Int),zT l,n,r,b,c,x,s,lg)) (.inl ()) (fun q => .inr (q.map (·.1),q.map (·.2)))
    (fun j y acc hj ha=>by
      obtain ⟨hj1,hlt⟩:=z1p hj
      rw [show 1+j=j+1 by omega] at hj1
      have hy:=hb.at hj1
      have hin:inR ((j+1:Nat):Int) (zT l).length=true:=Zk (by omega)
      have hw:IntKind.wrap .i64 (((j+1:Nat):Int) - 1)=(j:Int):=by rw [Zg (by omega) (by omega)];omega
      simp only [yI,jT,WO,J8,W5,zac,zo (show ((j+1:Nat):Int)<((l.length - 1:Nat):Int) by omega),cond_true,hin,Int.toNat_natCast,hj1,zc,hw]
      unfold JK
      by_cases h2:y.length<2
      · rw [if_pos h2,zo (show (y.length:Int)<2 by omega)];rfl
      rw [if_neg h2,zn (show ¬(y.length:Int)<2 by omega),cond_false,Zk (show (0:Int)≤2∧(2:Int)<((y.length+1:Nat):Int) by omega),cond_true,
        zQI (y.drop 2) (by rw [List.length_drop];omega)]
      obtain ⟨a0,a1,yr,rfl⟩ : ∃a0 a1 yr,y=a0::a1::yr:=by
        match y,h2 with
        | a0::a1::yr,_=>exact ⟨a0,a1,yr,rfl⟩
        | [],h=>simp at h
        | [_],h=>simp at h
      have n1:nth (a0::a1::yr) 1=some a1:=rfl
      have hm:mkB (a0::a1::yr)=decide ((a1.toNat:Int)=1):=by
        unfold mkB
        rw [show num (((a0::a1::yr).drop 1).take 1)=a1.toNat by simp [num]]
      have hg := @zEA ((a0::a1::yr).drop 2)
      rw [hm]
      generalize JH ((a0::a1::yr).drop 2)=g at hg
      obtain ⟨⟨k,⟨va,vb⟩,d,⟨⟨aa,ab⟩,ad⟩,⟨ba,bb⟩,bd⟩,e⟩:=g
      simp only [zc,zx3,unP,ZF,n1] at hg ⊢
      have em:((a1.toNat:Int) == 1)=decide ((a1.toNat:Int)=1):=rfl
      by_cases hz:e=0
      · have hl:=zU5 (j:Int) k va vb d aa ab ad ba bb bd (decide ((a1.toNat:Int)=1)) (by unfold InI;omega) (hg hz)
        rw [zo hz,if_neg (fun h=>h hz)]
        simp only [Bool.not_true,cond_false,em,hl,zc,List.length_map,ha,List.length_singleton]
        by_cases hq:YE (j:Int) (k,(va,vb),d,((aa,ab),ad),(ba,bb),bd) (decide ((a1.toNat:Int)=1))=a0::a1::yr
        · rw [if_pos hq,hq,beq_self_eq_true,Zc (show (j+1)*104≤140737488355328 by omega),Zc (show (j+1)*1≤140737488355328 by omega),z7 (n:=j+1) (by omega)]
          simp only [Bool.not_true,cond_false,cond_true,zc,Sum.elim_inr,unP,List.map_append,List.map_cons,List.map_nil]
        · have hn:(YE (j:Int) (k,(va,vb),d,((aa,ab),ad),(ba,bb),bd) (decide ((a1.toNat:Int)=1)) == a0::a1::yr)=false:=by rw [beq_eq_false_iff_ne];exact hq
          rw [if_neg hq,hn];rfl
      · rw [zn hz,if_pos hz];rfl)
    (fun acc ha=>by
      simp only [yI,jT,hM,zn (show ¬((l.length - 2+1:Nat):Int)<((l.length - 1:Nat):Int) by omega),cond_false])
    (by omega)
  have hloop':zO (yI (l,((l.length - 1:Nat):Int),zT l,n,r,b,c,x,s,lg)) zY (1,[],[])=_:=hloop
  rw [hloop',zc]
  cases qU JK 0 (((zT l).drop 1).take (l.length - 2)) with
  | none=>rfl
  | some q =>
    dsimp only
    obtain ⟨z,hz⟩ : ∃z,(zT l)[l.length - 1]? = some z:=⟨_,List.getElem?_eq_getElem (by omega)⟩
    have hft:=hf.take (l.length - 1)
    simp only [Sum.elim_inr,unP,Zk (show (0:Int)≤((l.length - 1:Nat):Int)∧((l.length - 1:Nat):Int)<((zT l).length:Int) by omega),cond_true,Int.toNat_natCast,hz,zc,
      Zk (show (0:Int)≤((l.length - 1:Nat):Int)∧((l.length - 1:Nat):Int)<((l.length+1:Nat):Int) by omega),zGn (l.take (l.length - 1)) (by have:=hft.1;omega) hft.flat,ztB]
    by_cases hze:z=zbY (l.take (l.length - 1))
    · rw [if_neg (fun h=>h (by rw [hze])),hze,beq_self_eq_true]
      simp only [Bool.not_true,cond_false,ZF]
      by_cases hci:Jl n r b c x s lg (q.map (·.1)) (q.map (·.2))=0
      · rw [zo hci,if_neg (fun h=>h hci)];rfl
      · rw [zn hci,if_pos hci];rfl
    · have hn:(z == zbY (l.take (l.length - 1)))=false:=by rw [beq_eq_false_iff_ne];exact hze
      rw [if_pos (fun h=>hze (Option.some.inj h)),hn];rfl
end Go.Proofs.R9
namespace Go.Proofs.R9
open Go Go.AE Go.Plain
set_option maxRecDepth 100000
def zif (l:List (SV×Bool)):List (List UInt8):=(l.zipIdx).map fun q=>wl 21 (YE (q.2:Int) q.1.1 q.1.2)
def Jk (n r b c x s lg:Int) (l:List (SV×Bool)):List (List UInt8):=wl 20 (zft n r b c x s lg)::zif l
def Zam (n r b c x s lg:Int) (l:List (SV×Bool)):List (List UInt8):=Jk n r b c x s lg l++[wl 22 (zbY (Jk n r b c x s lg l))]
def zsT (n r b c x s lg:Int) (ss:List SV) (cs:List Bool):Int×List (List UInt8) :=
  if Jl n r b c x s lg ss cs≠0 then (Jl n r b c x s lg ss cs,[]) else (0,Zam n r b c x s lg (ss.zip cs))
theorem zst (l:List (SV×Bool)):(zif l).length=l.length:=by simp [zif]
theorem ZbE {l:List (SV×Bool)} {j:Nat} {q:SV×Bool} (h:l[j]? = some q):zif (l.take (j+1))=zif (l.take j)++[wl 21 (YE (j:Int) q.1 q.2)]:=by
  have hj:j<l.length:=by apply Decidable.byContradiction;intro hn;rw [List.getElem?_eq_none (by omega)] at h;cases h
  unfold zif
  rw [zdF h,List.zipIdx_append,List.map_append,List.length_take,show 0+min j l.length=j by omega]
  rfl
theorem z78 {l:List (SV×Bool)} {j:Nat} {q:SV×Bool} (h:l[j]? = some q):(zif l)[j]? = some (wl 21 (YE (j:Int) q.1 q.2)):=by
  unfold zif
  rw [List.getElem?_map,List.getElem?_zipIdx,h]
  simp
theorem zul {n r b c x s lg:Int} {ss:List SV} {cs:List Bool} (h:Jl n r b c x s lg ss cs=0) :
    zlv n r b c x s lg∧(ss.length:Int)=x∧(cs.length:Int)=x∧(∀y ∈ ss,Ze y=0):=by
  unfold Jl at h
  split at h
  · rename_i h0;exact absurd h h0
  rename_i h0
  split at h
  · cases h
  rename_i h1
  split at h
  · rename_i h2;exact absurd h h2
  rename_i h2
  refine ⟨?_,Decidable.byContradiction fun h=>h1 (.inl h),Decidable.byContradiction fun h=>h1 (.inr h),fun y hy=>zKS (Decidable.not_not.1 h2) _ (List.mem_map_of_mem hy)⟩
  have h0:=Decidable.not_not.1 h0
  unfold zcb at h0
  by_cases hm:zlv n r b c x s lg
  · exact hm
  · rw [if_neg hm] at h0;cases h0
theorem zsH (n r b c x s lg:Int):(zft n r b c x s lg).length≤600:=by
  unfold zft
  have h1:=z97 (wi n r b c x s lg++tail (wi n r b c x s lg))
  have h2:=zta n r b c x s lg
  rw [List.length_append,Zt] at h1
  omega
theorem ZbK (l:List (List UInt8)):(zbY l).length≤600:=by
  unfold zbY
  have:=z6 [] (l.length:Int) 2
  simp only [List.length_nil] at this
  rw [List.length_append,Zt];omega
theorem Zb9 {ss:List SV} {cs:List Bool} {j:Nat} {y:SV} {ch:Bool} (h1:ss[j]? = some y) (h2:cs[j]? = some ch):(ss.zip cs)[j]? = some (y,ch):=by
  rw [List.getElem?_zip_eq_some];exact ⟨h1,h2⟩
def zco (n r b c x s lg:Int) (ss:List SV) (cs:List Bool) (j:Nat):List (List UInt8):=Jk n r b c x s lg ((ss.zip cs).take j)
theorem z1b {n r b c x s lg:Int} {ss:List SV} {cs:List Bool} {j:Nat}:(zco n r b c x s lg ss cs j).length≤j+1:=by
  unfold zco Jk
  rw [List.length_cons,zst,List.length_take];omega
theorem z6E {n r b c x s lg:Int} {ss:List SV} {cs:List Bool} {j:Nat} {y:SV} {ch:Bool} (h1:ss[j]? = some y) (h2:cs[j]? = some ch) :
    zco n r b c x s lg ss cs (j+1)=zco n r b c x s lg ss cs j++[wl 21 (YE (j:Int) y ch)]:=by
  unfold zco Jk
  rw [ZbE (Zb9 h1 h2)]
  rfl
theorem z7b (i:Int) (x:SV) (ch:Bool) (h:Ze x=0):zcx (i,x.fst,x.snd.fst.fst,x.snd.fst.snd,x.snd.snd.fst,x.snd.snd.snd.fst.fst.fst,x.snd.snd.snd.fst.fst.snd,x.snd.snd.snd.fst.snd,x.snd.snd.snd.snd.fst.fst,x.snd.snd.snd.snd.fst.snd,x.snd.snd.snd.snd.snd,ch)=some (YE i x ch,0):=by
  have:=zEm i x.fst x.snd.fst.fst x.snd.fst.snd x.snd.snd.fst x.snd.snd.snd.fst.fst.fst x.snd.snd.snd.fst.fst.snd x.snd.snd.snd.fst.snd x.snd.snd.snd.snd.fst.fst x.snd.snd.snd.snd.fst.snd x.snd.snd.snd.snd.snd ch
  rw [this]
  show some (if Ze x≠0 then ([],Ze x) else (YE i x ch,0))=_
  rw [if_neg (fun h'=>h' h)]
theorem zMs (k:Nat) (t:List UInt8) (o:List (List UInt8)) (hk:k≤255) (ht:t.length≤600) (ho:o.length≤1000):zct ((k:Int),t,0,0,o)=some (true,0,o++[wl k t]):=by
  simp only [zct,zxL,zVR k t hk ht,zc,unP,List.length_singleton,Zc (show (o.length+1)*16≤140737488355328 by omega)]
  rfl
theorem z3m {n r b c x s lg:Int} {l:List (SV×Bool)} (hl:l.length≤24) (hc : ∀q ∈ l,Ze q.1=0):Fit (Jk n r b c x s lg l):=by
  refine ⟨by unfold Jk;rw [List.length_cons,zst];omega,fun t ht => ?_⟩
  unfold Jk at ht
  rcases List.mem_cons.1 ht with ht | ht
  · have e:=zEO (k:=20) (by omega) (zsH n r b c x s lg)
    have:=zsH n r b c x s lg
    rw [← ht] at e
    omega
  · unfold zif at ht
    rw [List.mem_map] at ht
    obtain ⟨⟨q,i⟩,hq,rfl⟩:=ht
    have hm:q ∈ l:=by have:=List.mem_zipIdx hq;obtain ⟨_,_,h⟩:=this;rw [h];exact List.getElem_mem _
    have:=zLa (i:=(i:Int)) (c:=q.2) (hc q hm)
    have e:=zEO (k:=21) (b:=YE (i:Int) q.1 q.2) (by omega) (by omega)
    dsimp only
    omega
theorem zvX (n r b c x s lg:Int) (ss:List SV) (cs:List Bool):zrg (n,r,b,c,x,s,lg,ss,cs)=some (.inl (zsT n r b c x s lg ss cs)):=by
  unfold zsT
  simp only [zrg,zJR,zmf,zc,ZF]
  by_cases h:Jl n r b c x s lg ss cs=0
  rotate_left
  · rw [zn h,if_pos h];rfl
  have hN : ¬(Jl n r b c x s lg ss cs≠0):=fun h'=>h' h
  rw [zo h,if_neg hN]
  obtain ⟨hm,h1,h2,h3⟩:=zul h
  have hx:=hm.1.1
  have hlz:(ss.zip cs).length=ss.length:=by rw [List.length_zip];omega
  have hp:zmV n r b c x s lg=(zft n r b c x s lg,0):=by unfold zmV;rw [if_pos hm]
  have ha:=zMs 20 (zft n r b c x s lg) [] (by omega) (zsH ..) (by simp)
  have key : ∃y,zO (yM (ss,(ss.length:Int),n,r,b,c,x,s,lg,ss,cs)) zY (((0:Nat):Int),0,zco n r b c x s lg ss cs 0)=some y∧y = .inr (0,Jk n r b c x s lg (ss.zip cs)):=by
    refine yK ss (fun j (_:Unit)=>((j:Int),(0:Int),zco n r b c x s lg ss cs j)) (fun _ _=>True) _ ?_ ?_ (s0:=()) trivial (by omega)
    · intro j y _ hj hlt _
      left
      obtain ⟨ch,hch⟩ : ∃ch,cs[j]? = some ch:=⟨_,List.getElem?_eq_getElem (by omega)⟩
      have hy:=h3 y (List.mem_of_getElem? hj)
      have hle:=zLa (i:=(j:Int)) (c:=ch) hy
      have hso := @z1b n r b c x s lg ss cs j
      have ha:=zMs 21 (YE (j:Int) y ch) (zco n r b c x s lg ss cs j) (by omega) (by omega) (by omega)
      simp only [Int.cast_ofNat_Int] at ha
      refine ⟨(),?_,trivial⟩
      simp only [yM,Qd,zo (show (j:Int)<(ss.length:Int) by omega),cond_true,yj hj,yj hch,zc,z7b (j:Int) y ch hy,unP,ha,Bool.not_true,cond_false,z6E hj hch,z7 (n:=j) (by omega)]
    · intro _ _
      refine ⟨_,?_,rfl⟩
      have:zco n r b c x s lg ss cs ss.length=Jk n r b c x s lg (ss.zip cs):=by unfold zco;rw [List.take_of_length_le (by omega)]
      simp only [yM,Qd,zn (show ¬(ss.length:Int)<(ss.length:Int) by omega),cond_false,this]
  obtain ⟨y,hy,rfl⟩:=key
  have hy':zO (yM (ss,(ss.length:Int),n,r,b,c,x,s,lg,ss,cs)) zY (0,0,[]++[wl 20 (zft n r b c x s lg)])=_:=hy
  have hcz : ∀q ∈ ss.zip cs,Ze q.1=0:=fun q hq=>h3 q.1 (List.of_mem_zip (a:=q.1) (b:=q.2) hq).1
  have hfit:=z3m (n:=n) (r:=r) (b:=b) (c:=c) (x:=x) (s:=s) (lg:=lg) (l:=ss.zip cs) (by omega) hcz
  have hlast:=zMs 22 (zbY (Jk n r b c x s lg (ss.zip cs))) (Jk n r b c x s lg (ss.zip cs)) (by omega) (ZbK _) hfit.1
  simp only [Int.cast_ofNat_Int] at ha hlast
  have hfl:=hfit.1
  simp only [Bool.not_true,cond_false,zmN,ztx,zc,zkA,zvs,zUO,hp,unP,ha,hy',Sum.elim_inr,Q1,zcW,beq_self_eq_true,cond_true,
    zyl _ (show (Jk n r b c x s lg (ss.zip cs)).length≤100000 by omega) hfit.flat,hlast,bne_self_eq_false]
  rfl
end Go.Proofs.R9
namespace Go.Proofs.R9
open Go Go.AE Go.Plain
set_option maxRecDepth 100000
instance decVD:DecidableEq VD:=instDecidableEqProd
instance decP2:DecidableEq ((Int×Int)×List UInt8):=instDecidableEqProd
instance decP3:DecidableEq (VD×(Int×Int)×List UInt8):=instDecidableEqProd
instance decP4:DecidableEq (List UInt8×VD×(Int×Int)×List UInt8):=instDecidableEqProd
instance decP5:DecidableEq ((Int×Int)×List UInt8×VD×(Int×Int)×List UInt8):=instDecidableEqProd
instance decSV:DecidableEq SV:=instDecidableEqProd
instance decSVs:DecidableEq (List SV):=instDecidableEqList
theorem Za0 {α:Type} [DecidableEq α] {l m:List α} (h:l.length=m.length):zbT (fun i x=>decide (m[i]? = some x)) 0 l=decide (l=m):=by
  rw [Bool.eq_iff_iff,zsP,decide_eq_true_eq]
  constructor
  · intro hh
    refine List.ext_getElem? fun j => ?_
    by_cases hj:j<l.length
    · have:=hh j l[j] (List.getElem?_eq_getElem hj)
      rw [decide_eq_true_eq,Nat.zero_add] at this
      rw [List.getElem?_eq_getElem hj,this]
    · rw [List.getElem?_eq_none (by omega),List.getElem?_eq_none (by omega)]
  · rintro rfl j x hj
    rw [decide_eq_true_eq,Nat.zero_add];exact hj
theorem ZcP (x y:SV):(x.fst == y.fst&&(x.snd.fst.fst == y.snd.fst.fst&&(x.snd.fst.snd == y.snd.fst.snd&&true)&&(x.snd.snd.fst == y.snd.snd.fst&&(x.snd.snd.snd.fst.fst.fst == y.snd.snd.snd.fst.fst.fst&&(x.snd.snd.snd.fst.fst.snd == y.snd.snd.snd.fst.fst.snd&&true)&&(x.snd.snd.snd.fst.snd == y.snd.snd.snd.fst.snd&&true)&&(x.snd.snd.snd.snd.fst.fst == y.snd.snd.snd.snd.fst.fst&&(x.snd.snd.snd.snd.fst.snd == y.snd.snd.snd.snd.fst.snd&&true)&&(x.snd.snd.snd.snd.snd == y.snd.snd.snd.snd.snd&&true)&&true)))))=decide (x=y):=by
  obtain ⟨k,⟨va,vb⟩,d,⟨⟨aa,ab⟩,ad⟩,⟨ba,bb⟩,bd⟩:=x
  obtain ⟨k',⟨va',vb'⟩,d',⟨⟨aa',ab'⟩,ad'⟩,⟨ba',bb'⟩,bd'⟩:=y
  rw [Bool.eq_iff_iff,decide_eq_true_eq]
  simp only [Bool.and_true,Bool.and_eq_true,beq_iff_eq,Prod.mk.injEq]
theorem ZaN (n r b c x s l n' r' b' c' x' s' l':Int):(n == n'&&(r == r'&&(b == b'&&(c == c'&&(x == x'&&(s == s'&&(l == l'&&true))&&true)))))=decide (n=n'∧r=r'∧b=b'∧c=c'∧x=x'∧s=s'∧l=l'):=by
  rw [Bool.eq_iff_iff,decide_eq_true_eq]
  simp only [Bool.and_true,Bool.and_eq_true,beq_iff_eq]
theorem znm {α Y:Type} [DecidableEq α] (l m:List α) (h:l.length=m.length) (f:Int→Option (Int ⊕ Y)) (bad good:Y)
    (hs : ∀(j:Nat) x y,l[j]? = some x→m[j]? = some y→f (j:Int)=some (if x=y then .inl ((j+1:Nat):Int) else .inr bad)) (he:f (l.length:Int)=some (.inr good)) (hl:l.length≤18446744073709551000) :
    zO f zY 0=some (if l=m then good else bad):=by
  have:=zsX l (fun i x=>decide (m[i]? = some x)) f bad good (fun j x hj=>by
    have hlt:j<l.length:=by apply Decidable.byContradiction;intro hn;rw [List.getElem?_eq_none (by omega)] at hj;cases hj
    have hm:m[j]? = some m[j]:=List.getElem?_eq_getElem (by omega)
    rw [hs j x _ hj hm,hm]
    by_cases hx:x=m[j]
    · rw [if_pos hx,if_pos (by rw [decide_eq_true_eq,← hx])]
    · rw [if_neg hx,if_neg (by rw [decide_eq_true_eq];exact fun h=>hx (Option.some.inj h).symm)]) he hl
  rw [this,Za0 h]
  by_cases he:l=m
  · rw [if_pos he,if_pos (by rw [decide_eq_true_eq];exact he)]
  · rw [if_neg he,if_neg (by rw [decide_eq_true_eq];exact he)]
theorem z9a (l m:List (List UInt8)) (hl:l.length≤1000000) (hm:m.length≤1000000):zgv (l,m)=some (decide (l=m)):=by
  simp only [zgv,ztf,ZF]
  by_cases h:l.length=m.length
  · have hlp:=znm l m h (Yj (l,m)) (.inl ()) (.inr ()) (fun j x y hj hk=>by
      have hlt:j<l.length:=by apply Decidable.byContradiction;intro hn;rw [List.getElem?_eq_none (by omega)] at hj;cases hj
      simp only [Yj,QJ,Y6,Qm,zo (show (j:Int)<(l.length:Int) by omega),zo (show (j:Int)<(m.length:Int) by omega),cond_true,zc,yj hj,yj hk,z7 (n:=j) (by omega)]
      by_cases hx:x=y
      · subst hx;rw [beq_self_eq_true,if_pos rfl];rfl
      · have:(x == y)=false:=by rw [beq_eq_false_iff_ne];exact hx
        rw [this,if_neg hx];rfl)
      (by simp only [Yj,QJ,Y6,Qm,zn (show ¬(l.length:Int)<(l.length:Int) by omega),cond_false,zc]) (by omega)
    rw [zo (show (l.length:Int)=(m.length:Int) by omega),Bool.not_true,cond_false,hlp,zc]
    by_cases he:l=m
    · rw [if_pos he,zo he];rfl
    · rw [if_neg he,zn he];rfl
  · rw [zn (show ¬(l.length:Int)=(m.length:Int) by omega),zn (show ¬l=m from fun he=>h (by rw [he]))];rfl
theorem zwK (n r b c x s l:Int) (ss:List SV) (cs:List Bool) (n' r' b' c' x' s' l':Int) (ss':List SV) (cs':List Bool) (h1:ss.length≤1000000000) (h2:cs.length≤1000000000) :
    zeH (n,r,b,c,x,s,l,ss,cs,n',r',b',c',x',s',l',ss',cs')=some (decide ((n=n'∧r=r'∧b=b'∧c=c'∧x=x'∧s=s'∧l=l')∧ss=ss'∧cs=cs')):=by
  simp only [zeH,zwd,qj,zbH,ZaN,ZF]
  have fin : ∀v:Bool,(v=true↔((n=n'∧r=r'∧b=b'∧c=c'∧x=x'∧s=s'∧l=l')∧ss=ss'∧cs=cs'))→some v=some (decide ((n=n'∧r=r'∧b=b'∧c=c'∧x=x'∧s=s'∧l=l')∧ss=ss'∧cs=cs')):=fun v h=>by rw [Option.some.injEq,Bool.eq_iff_iff,decide_eq_true_eq];exact h
  have no : ∀{p:Prop},¬p→(false=true↔p):=fun h=>⟨fun h=>(by cases h),fun h'=>absurd h' h⟩
  by_cases h0:n=n'∧r=r'∧b=b'∧c=c'∧x=x'∧s=s'∧l=l'
  rotate_left
  · rw [zn h0];exact fin false (no fun h=>h0 h.1)
  rw [zo h0]
  by_cases hs:ss.length=ss'.length
  rotate_left
  · rw [zn (show ¬(ss.length:Int)=(ss'.length:Int) by omega)];exact fin false (no fun h=>hs (by rw [h.2.1]))
  rw [zo (show (ss.length:Int)=(ss'.length:Int) by omega)]
  by_cases hc:cs.length=cs'.length
  rotate_left
  · rw [zn (show ¬(cs.length:Int)=(cs'.length:Int) by omega)];exact fin false (no fun h=>hc (by rw [h.2.2]))
  rw [zo (show (cs.length:Int)=(cs'.length:Int) by omega)]
  have l1:=znm ss ss' hs (Yi (n,r,b,c,x,s,l,ss,cs,n',r',b',c',x',s',l',ss',cs')) (.inl ()) (.inr ()) (fun j y z hj hk=>by
    have hlt:j<ss.length:=by apply Decidable.byContradiction;intro hn;rw [List.getElem?_eq_none (by omega)] at hj;cases hj
    simp only [Yi,jc,zo (show (j:Int)<(ss.length:Int) by omega),cond_true,zc,yj hj,yj hk,ZcP,z7 (n:=j) (by omega)]
    by_cases hx:y=z
    · rw [zo hx,if_pos hx];rfl
    · rw [zn hx,if_neg hx];rfl)
    (by simp only [Yi,jc,zn (show ¬(ss.length:Int)<(ss.length:Int) by omega),cond_false]) (by omega)
  have l2:=znm cs cs' hc (Ym (n,r,b,c,x,s,l,ss,cs,n',r',b',c',x',s',l',ss',cs')) (.inl ()) (.inr ()) (fun j y z hj hk=>by
    have hlt:j<cs.length:=by apply Decidable.byContradiction;intro hn;rw [List.getElem?_eq_none (by omega)] at hj;cases hj
    simp only [Ym,QS,zo (show (j:Int)<(cs.length:Int) by omega),cond_true,zc,yj hj,yj hk,z7 (n:=j) (by omega)]
    by_cases hx:y=z
    · subst hx;rw [beq_self_eq_true,if_pos rfl];rfl
    · have:(y == z)=false:=by rw [beq_eq_false_iff_ne];exact hx
      rw [this,if_neg hx];rfl)
    (by simp only [Ym,QS,zn (show ¬(cs.length:Int)<(cs.length:Int) by omega),cond_false]) (by omega)
  simp only [Bool.not_true,cond_false,zc,l1,l2]
  by_cases hS:ss=ss'
  · rw [if_pos hS]
    by_cases hC:cs=cs'
    · rw [if_pos hC];exact fin true ⟨fun _=>⟨h0,hS,hC⟩,fun _=>rfl⟩
    · rw [if_neg hC];exact fin false (no fun h=>hC h.2.2)
  · rw [if_neg hS];exact fin false (no fun h=>hS h.2.1)
end Go.Proofs.R9
namespace Go.Proofs.R9
open Go Go.AE Go.Plain
set_option maxRecDepth 100000
theorem Zbs {t:List UInt8} {n r b c x s lg:Int} (h:qB t=(n,r,b,c,x,s,lg,0)):t=zft n r b c x s lg:=by
  unfold qB at h
  split at h
  · cases h
  split at h
  · cases h
  split at h
  · cases h
  unfold zzb at h
  split at h
  · rename_i hp
    cases h
    unfold zmV at hp
    split at hp
    · exact (congrArg Prod.fst hp).symm
    · have:=congrArg Prod.snd hp;cases this
  · cases h
theorem z7T {i:Nat} {b:List UInt8} {q:SV×Bool} (h:JK i b=some q):b=YE (i:Int) q.1 q.2:=by
  unfold JK at h
  split at h
  · cases h
  split at h
  · cases h
  split at h
  · rename_i hq;cases h;exact hq.symm
  · cases h
theorem zJX : ∀q:List (SV×Bool),(q.map (·.1)).zip (q.map (·.2))=q
  | []=>rfl
  | (a,b)::r=>by rw [List.map_cons,List.map_cons,List.zip_cons_cons,zJX r]
theorem ZaT {l:List (List UInt8)} {n r b c x s lg:Int} {ss:List SV} {cs:List Bool} (h:zeu l=(n,r,b,c,x,s,lg,0,ss,cs)):zsT n r b c x s lg ss cs=(0,l):=by
  unfold zeu at h
  split at h
  · cases h
  rename_i h2
  split at h
  · rename_i he;have:=congrArg (fun p:Im=>p.2.2.2.2.2.2.2.1) h;exact absurd this he
  rename_i he
  split at h
  · cases h
  rename_i hk
  unfold ztR at h
  generalize hg:qB ((zT l).headD [])=g at h
  obtain ⟨n',r',b',c',x',s',lg',e⟩:=g
  dsimp only at h
  split at h
  · cases h
  rename_i hbad
  split at h
  · cases h
  rename_i q hq
  split at h
  · cases h
  rename_i hlast
  split at h
  · rename_i hc;have:=congrArg (fun p:Im=>p.2.2.2.2.2.2.2.1) h;exact absurd this hc
  rename_i hc
  cases h
  obtain rfl:e=0:=Decidable.byContradiction fun h=>hbad (.inl h)
  have hxl:x=(l.length:Int) - 2:=Decidable.byContradiction fun h=>hbad (.inr h)
  have hsect:=Zbs hg
  have hbl:(zT l).length=l.length:=by rw [zT,List.length_map]
  have hkl:(zX l).length=l.length:=by rw [zX,List.length_map]
  have hM:(((zT l).drop 1).take (l.length - 2)).length=l.length - 2:=by rw [List.length_take,List.length_drop];omega
  have hql:q.length=l.length - 2:=by rw [zKy hq,hM]
  have hkk:kOk (zX l)=true:=Decidable.not_not.1 hk
  unfold kOk at hkk
  rw [zsP] at hkk
  -- each line is sealed
  have each : ∀(j:Nat) (t:List UInt8),l[j]? = some t → ∃bd,(zT l)[j]? = some bd∧((wm l.length j=20→t=wl 20 bd)∧(wm l.length j=21→t=wl 21 bd)∧(wm l.length j=22→t=wl 22 bd)):=by
    intro j t hj
    have h0:(ZI t).2.2=0:=zKS (Decidable.not_not.1 he) _ (List.mem_map.2 ⟨t,List.mem_of_getElem? hj,rfl⟩)
    obtain ⟨k,bd,hk1,hk2,ht,hgs⟩:=zZN h0
    have hb:(zT l)[j]? = some bd:=by unfold zT;rw [List.getElem?_map,hj,Option.map_some,hgs]
    have hkj:(zX l)[j]? = some (k:Int):=by unfold zX;rw [List.getElem?_map,hj,Option.map_some,hgs]
    have:=hkk j _ hkj
    rw [decide_eq_true_eq,Nat.zero_add,hkl] at this
    refine ⟨bd,hb,fun hw => ?_,fun hw => ?_,fun hw => ?_⟩
    · rw [ht,show k=20 by omega]
    · rw [ht,show k=21 by omega]
    · rw [ht,show k=22 by omega]
  have hall:l.take (l.length - 1)=Jk n r b c x s lg q:=by
    refine List.ext_getElem? fun j => ?_
    by_cases hj:j<l.length - 1
    · rw [List.getElem?_take_of_lt hj]
      obtain ⟨t,ht⟩ : ∃t,l[j]? = some t:=⟨_,List.getElem?_eq_getElem (by omega)⟩
      obtain ⟨bd,hb,w0,w1,w2⟩:=each j t ht
      rw [ht]
      unfold Jk
      cases j with
      | zero =>
        rw [List.getElem?_cons_zero]
        have hbd:bd=(zT l).headD []:=by
          cases hq:zT l with
          | nil=>rw [hq] at hb;cases hb
          | cons y r=>rw [hq] at hb;cases hb;rfl
        rw [w0 (by unfold wm;rw [if_pos rfl]),hbd,hsect]
      | succ i =>
        rw [List.getElem?_cons_succ]
        have hmi:(((zT l).drop 1).take (l.length - 2))[i]? = some bd:=by
          rw [List.getElem?_take_of_lt (by omega),List.getElem?_drop,show 1+i=i+1 by omega];exact hb
        obtain ⟨q',hq1,hq2⟩:=zNb hq i bd hmi
        rw [Nat.zero_add] at hq2
        rw [z78 hq1,w1 (by unfold wm;rw [if_neg (by omega),if_neg (by omega)]),z7T hq2]
    · rw [List.getElem?_eq_none (by rw [List.length_take];omega),List.getElem?_eq_none (by unfold Jk;rw [List.length_cons,zst];omega)]
  have hfull:l=Zam n r b c x s lg q:=by
    obtain ⟨t,ht⟩ : ∃t,l[l.length - 1]? = some t:=⟨_,List.getElem?_eq_getElem (by omega)⟩
    obtain ⟨bd,hb,w0,w1,w2⟩:=each _ t ht
    have hbe:bd=zbY (l.take (l.length - 1)):=Option.some.inj (hb.symm.trans (Decidable.not_not.1 hlast))
    have h3:=zKI ht
    rw [List.drop_eq_nil_of_le (by omega),hall,w2 (by unfold wm;rw [if_neg (by omega),if_pos (by omega)]),hbe,hall] at h3
    exact h3
  unfold zsT
  rw [if_neg hc,zJX,← hfull]
end Go.Proofs.R9
namespace Go.Proofs.R9
open Go Go.AE
noncomputable def yp:Env:=[(49,.func zBB),(92,.pure z0f),(91,.func zXR),(50,.func zsx),(51,.func zsg),(96,.func z0d),(139,.func Fq0),(179,.pure Fq5),(140,.func Fq2),(141,.func Fq3),(93,.pure Fq1),(52,.pure Fq4),(55,.func zZ3),(90,.pure z77),(48,.pure z7r),(19,.func z8y),(106,.pure z7H),(68,.pure z9U),(69,.pure z8u),(34,.pure zU2),(98,.pure z6B),(57,.pure zmY),(94,.pure z7J),(53,.pure zYi),(20,.pure z9W),(95,.func z6J),(70,.func zXg),(246,.pure z8H),(224,.pure zW5),(311,.pure z7u),(263,.pure z6y),(251,.pure z6R),(233,.pure z9O),(312,.pure z8W),(35,.pure zNE),(54,.pure z8s),(181,.pure z80),(182,.pure z7w),(143,.pure z9t),(180,.pure z94),(142,.pure z6M),(97,.pure z8d),(56,.pure zWz),(22,.pure zZC),(14,.pure Fq6),(29,.pure z8f),(75,.pure qF),(58,.pure JG),(101,.func (orF za3 Wi)),(144,.func Qc),(100240,.iter (zi0 .str) (zew .str))]
theorem ZD:zf Tryz.prog yp:=zf.cons zgK (zf.cons zEc (zf.cons zAu (zf.cons zdC (zf.cons zdB (zf.cons zBS (zf.cons z4h (zf.cons z5U (zf.cons z2a (zf.cons z4S (zf.cons z4U (zf.cons zgB (zf.cons zDs (zf.cons zUc (zf.cons zRH (zf.cons zSw (zf.cons zTY (zf.cons zTN (zf.cons zR1 (zf.cons zBA (zf.cons zTl (zf.cons zbR (zf.cons zSO (zf.cons zDU (zf.cons zUC (zf.cons zRi (zf.cons zzS (zf.cons zRQ (zf.cons zBG (zf.cons zSG (zf.cons zRL (zf.cons zUz (zf.cons zUA (zf.cons zSR (zf.cons zob (zf.cons zTq (zf.cons zRy (zf.cons zT1 (zf.cons zTv (zf.cons zSl (zf.cons zS9 (zf.cons zRA (zf.cons zBb (zf.cons zBm (zf.cons zOA (zf.cons zUQ (zf.cons zcY (zf.cons zd4 (zf.cons (zP zkr zfk) (zf.cons zhk (zf.cons (zFr ▸ zNA) (zf.nil)))))))))))))))))))))))))))))))))))))))))))))))))))
def ZdY:List ZJ:=[
  ⟨7,false,[(0,[0,2,4,5,6,8,51,52,53])]⟩,
  ⟨9,false,[]⟩,
  ⟨10,true,[(0,[2,3,5]),(2,[2,3,6])]⟩,
  ⟨17,false,[]⟩,
  ⟨18,false,[(0,[0,2,4,5,20,21])]⟩,
  ⟨21,false,[]⟩,
  ⟨28,false,[]⟩,
  ⟨30,false,[]⟩,
  ⟨40,false,[]⟩,
  ⟨41,true,[]⟩,
  ⟨42,false,[]⟩,
  ⟨43,false,[]⟩,
  ⟨44,false,[]⟩,
  ⟨45,false,[]⟩,
  ⟨46,false,[]⟩,
  ⟨47,false,[]⟩,
  ⟨66,false,[(0,[0,1,21,22,23])]⟩,
  ⟨74,false,[(0,[7,8])]⟩,
  ⟨76,true,[]⟩,
  ⟨77,false,[(0,[5,8,10,13,79,80])]⟩,
  ⟨78,false,[]⟩,
  ⟨79,false,[]⟩,
  ⟨80,false,[]⟩,
  ⟨81,false,[]⟩,
  ⟨82,false,[]⟩,
  ⟨83,false,[]⟩,
  ⟨84,false,[]⟩,
  ⟨85,false,[]⟩,
  ⟨86,false,[]⟩,
  ⟨87,false,[]⟩,
  ⟨88,false,[]⟩,
  ⟨89,true,[]⟩,
  ⟨99,false,[]⟩,
  ⟨100,false,[]⟩,
  ⟨108,true,[]⟩,
  ⟨109,true,[]⟩,
  ⟨110,false,[]⟩,
  ⟨111,false,[]⟩,
  ⟨112,false,[(0,[7,9,26]),(2,[7,9,44,45])]⟩,
  ⟨113,true,[]⟩,
  ⟨114,false,[(0,[8,28,29,30])]⟩,
  ⟨115,false,[]⟩,
  ⟨117,false,[(0,[0,4,6])]⟩,
  ⟨118,false,[]⟩,
  ⟨119,false,[]⟩,
  ⟨120,false,[]⟩,
  ⟨121,false,[]⟩,
  ⟨122,false,[(0,[0,15,16])]⟩,
  ⟨123,false,[]⟩,
  ⟨124,false,[]⟩,
  ⟨125,false,[]⟩,
  ⟨126,false,[]⟩,
  ⟨127,true,[]⟩,
  ⟨128,false,[]⟩,
  ⟨129,false,[]⟩,
  ⟨130,true,[]⟩,
  ⟨131,false,[]⟩,
  ⟨132,false,[]⟩,
  ⟨133,false,[]⟩,
  ⟨134,false,[]⟩,
  ⟨135,false,[]⟩,
  ⟨136,true,[]⟩,
  ⟨137,false,[(0,[0,1,8,18,19])]⟩,
  ⟨138,false,[]⟩,
  ⟨145,false,[]⟩,
  ⟨147,true,[]⟩,
  ⟨148,true,[]⟩,
  ⟨149,true,[]⟩,
  ⟨150,false,[]⟩,
  ⟨151,false,[(0,[0,8,19,20,21])]⟩,
  ⟨152,false,[]⟩,
  ⟨153,false,[]⟩,
  ⟨154,false,[]⟩,
  ⟨155,false,[]⟩,
  ⟨156,false,[(0,[0,27,28,29]),(2,[0,6,27,28,29,34,35,36])]⟩,
  ⟨157,false,[]⟩,
  ⟨158,false,[(0,[2,3,4,24,79])]⟩,
  ⟨159,false,[]⟩,
  ⟨160,false,[]⟩,
  ⟨161,false,[]⟩,
  ⟨162,false,[]⟩,
  ⟨163,false,[]⟩,
  ⟨164,true,[(0,[4,8,9])]⟩,
  ⟨165,true,[]⟩,
  ⟨166,false,[]⟩,
  ⟨167,false,[]⟩,
  ⟨168,false,[]⟩,
  ⟨169,false,[]⟩,
  ⟨170,false,[(0,[0,1,2,26,27])]⟩,
  ⟨171,false,[]⟩,
  ⟨172,false,[]⟩,
  ⟨173,false,[]⟩,
  ⟨174,false,[(0,[0,6,7,8])]⟩,
  ⟨175,true,[(0,[0,2,4,5,6,21])]⟩,
  ⟨176,true,[]⟩,
  ⟨177,true,[]⟩,
  ⟨178,true,[]⟩,
  ⟨185,false,[]⟩,
  ⟨186,false,[]⟩,
  ⟨187,false,[(1,[2,9,10])]⟩,
  ⟨188,false,[]⟩,
  ⟨190,true,[]⟩,
  ⟨191,false,[]⟩,
  ⟨192,false,[(1,[0,1,8,24,25])]⟩,
  ⟨193,true,[(0,[4,6,7,14,15,16])]⟩,
  ⟨194,false,[]⟩,
  ⟨195,false,[]⟩,
  ⟨196,false,[]⟩,
  ⟨197,false,[]⟩,
  ⟨198,false,[(0,[1,12,23])]⟩,
  ⟨199,false,[]⟩,
  ⟨200,false,[]⟩,
  ⟨201,false,[]⟩,
  ⟨202,false,[(0,[0,2,3,17,104])]⟩,
  ⟨203,true,[]⟩,
  ⟨204,false,[]⟩,
  ⟨205,false,[]⟩,
  ⟨206,false,[(0,[3,4,10,16])]⟩,
  ⟨207,true,[]⟩,
  ⟨208,true,[]⟩,
  ⟨209,true,[]⟩,
  ⟨210,true,[]⟩,
  ⟨215,true,[]⟩,
  ⟨216,true,[]⟩,
  ⟨217,false,[(0,[0])]⟩,
  ⟨218,false,[]⟩,
  ⟨219,false,[]⟩,
  ⟨220,false,[]⟩,
  ⟨221,false,[]⟩,
  ⟨222,true,[(0,[7,8,27,28,29])]⟩,
  ⟨223,false,[(1,[7,9,10])]⟩,
  ⟨225,true,[(0,[0,1,7,8])]⟩,
  ⟨226,true,[(0,[0,1])]⟩,
  ⟨227,true,[(0,[0,1])]⟩,
  ⟨228,false,[(0,[0,2,4])]⟩,
  ⟨229,false,[(0,[0,1])]⟩,
  ⟨230,false,[(0,[0,1])]⟩,
  ⟨231,true,[(0,[0,1])]⟩,
  ⟨232,true,[(0,[0,1])]⟩,
  ⟨237,true,[]⟩,
  ⟨238,false,[]⟩,
  ⟨239,false,[]⟩,
  ⟨242,true,[(1,[0,13,14,15])]⟩,
  ⟨243,true,[]⟩,
  ⟨244,false,[]⟩,
  ⟨245,false,[]⟩,
  ⟨247,false,[]⟩,
  ⟨248,true,[]⟩,
  ⟨249,true,[]⟩,
  ⟨250,true,[(0,[0,4,5,6])]⟩,
  ⟨252,false,[]⟩,
  ⟨253,false,[(0,[0,1,8,12,13])]⟩,
  ⟨254,true,[]⟩,
  ⟨255,false,[(0,[0,5,6,8,10,51,52]),(2,[0,8,10,11,77,78])]⟩,
  ⟨258,false,[]⟩,
  ⟨259,false,[]⟩,
  ⟨260,true,[]⟩,
  ⟨261,true,[(9,[175])]⟩,
  ⟨262,true,[]⟩,
  ⟨275,false,[(0,[0,1,7,8])]⟩,
  ⟨276,true,[]⟩,
  ⟨277,true,[]⟩,
  ⟨278,true,[]⟩,
  ⟨286,true,[]⟩]
def ZcH:List ZJ:=[⟨116,false,[(0,[0,21,22,23])]⟩]
end Go.Proofs.R9
namespace Go.Proofs.R9
open Go Go.AE
set_option maxRecDepth 100000
def Zs:List UInt8:=List.replicate 64 0
def y6:List ZJ:=ZdY.filter fun r => !([112,114,116,125,77,78,43,18,9,7,10].any fun g=>Nat.beq g r.g)
def Yb:List ZJ:=ZcH.filter fun r => !([112,114,116,125,77,78,43,18,9,7,10].any fun g=>Nat.beq g r.g)
def T0l:List AV:=[(.ptr 0 0),(.int .i64 15),(.int .i64 24)]
def T0h:List AE.Obj :=
  [.cells [(.own 1),(.map 2),(.own 3),(.int .i64 0),(.own 4),(.int .i64 0),(.bool false)],
  .arr .str (List.replicate 39 Zs),
  .mp .i64 .str [],
  .arr (.st (.pair (.int .i64) .str)) [],
  .arr (.int .i64) []]
def T0v:AV:=(.int .i64 0)
def T0k:List AE.Obj :=
  [.cells [(.own 1),(.map 2),(.own 5),(.int .i64 26),(.own 4),(.int .i64 0),(.bool false)],
  .arr .str (List.replicate 16 Zs++[([76,0,0,0,0,0,1,0,0,0,0,0,1,0,0,10,175,100,78]++List.replicate 45 0)]++List.replicate 22 Zs),
  .mp .i64 .str [],
  .arr (.st (.pair (.int .i64) .str)) [(15,Zs),(16,Zs),(17,Zs),(18,Zs),(19,Zs),(20,Zs),(21,Zs),(22,Zs),(23,Zs),(24,Zs),(25,Zs),(26,Zs),(27,Zs),(28,Zs),(29,Zs),(30,Zs),(31,Zs),(32,Zs),(33,Zs),(34,Zs),(35,Zs),(36,Zs),(37,Zs),(38,Zs),(16,([76,0,0,0,0,0,1,0,0,0,0,0,1,0,0,10,175,100,78]++List.replicate 45 0))],
  .arr (.int .i64) [],
  .arr (.st (.pair (.int .i64) .str)) []]
noncomputable def T0f:=yA T0l T0h T0v T0k
def T1l:List AV:=[(.ptr 0 0),(.int .i64 15),(.int .i64 24)]
def T1h:List AE.Obj :=
  [.cells [(.own 1),(.map 2),(.own 3),(.int .i64 26),(.own 4),(.int .i64 0),(.bool false)],
  .arr .str (List.replicate 16 Zs++[([76,0,0,0,0,0,1,0,0,0,0,0,1,0,0,10,175,100,78]++List.replicate 45 0)]++List.replicate 22 Zs),
  .mp .i64 .str [],
  .arr (.st (.pair (.int .i64) .str)) [],
  .arr (.int .i64) []]
def T1v:AV:=(.tup [(.ptr 5 0),(.int .i64 0)])
def T1k:List AE.Obj :=
  [.cells [(.own 1),(.map 2),(.own 6),(.int .i64 33),(.own 4),(.int .i64 0),(.bool false)],
  .arr .str (List.replicate 15 Zs++[([76,0,0,0,0,0,2,0,0,0,0,0,25,0,0,7,97,220,101]++List.replicate 45 0),([76,0,0,0,0,0,1,0,0,0,0,0,1,0,0,10,175,100,78]++List.replicate 45 0)]++List.replicate 22 Zs),
  .mp .i64 .str [],
  .arr (.st (.pair (.int .i64) .str)) [],
  .arr (.int .i64) [],
  .cells [(.ptr 0 0),(.ptr 7 0),(.ptr 8 0),(.int .i64 15),(.int .i64 24),(.int .i64 2),(.int .i64 0),(.int .i64 25),(.int .i64 0),(.bool false),(.bool false),(.ptr 9 0)],
  .arr (.st (.pair (.int .i64) .str)) [],
  .cells [(.ptr 0 0),(.int .i64 15),(.int .i64 2)],
  .cells [(.ptr 0 0),(.int .i64 17),(.int .i64 22)],
  .cells [(.map 10),(.map 11)],
  .mp .i64 .str [],
  .mp .i64 .str []]
noncomputable def T1f:=yA T1l T1h T1v T1k
def T2l:List AV:=[(.ptr 0 0),(.sub 1 0 3 1)]
def T2h:List AE.Obj :=
  [.cells [(.ptr 2 0),(.int .i64 0),(.int .i64 0),(.int .i64 0),(.int .i64 0),(.int .i64 3),(.int .i64 1),(.int .i64 24),(.ptr 3 0),(.ptr 4 0),(.ptr 5 0)],
  .cells [(.fn (.func 117) [(.ptr 3 0)] []),(.fn (.func 118) [] [(.ptr 6 0),(.ptr 7 0)]),(.fn (.func 120) [] [(.ptr 6 0),(.ptr 8 0),(.ptr 9 0)])],
  .cells [(.ptr 10 0),(.ptr 11 0),(.ptr 12 0),(.int .i64 15),(.int .i64 24),(.int .i64 2),(.int .i64 0),(.int .i64 25),(.int .i64 0),(.bool false),(.bool false),(.ptr 13 0)],
  .cells [(.ptr 2 0),(.int .i64 3),(.int .i64 1),(.int .i64 24)],
  .cells [(.ptr 2 0),(.int .i64 3),(.int .i64 1),(.int .i64 24)],
  .cells [(.int .i64 3),(.own 14)],
  .cells [(.ptr 2 0)],
  .cells [(.int .i64 0),(.int .i64 0),(.int .i64 0),(.int .i64 0),(.int .i64 3),(.int .i64 1),(.int .i64 24)],
  .cells [(.int .i64 3),(.int .i64 1),(.int .i64 24)],
  .cells [(.ptr 0 0)],
  .cells [(.own 15),(.map 16),(.own 17),(.int .i64 33),(.own 18),(.int .i64 0),(.bool false)],
  .cells [(.ptr 10 0),(.int .i64 15),(.int .i64 2)],
  .cells [(.ptr 10 0),(.int .i64 17),(.int .i64 22)],
  .cells [(.map 19),(.map 20)],
  .arr (.int .u8) [0],
  .arr .str (List.replicate 15 Zs++[([76,0,0,0,0,0,2,0,0,0,0,0,25,0,0,7,97,220,101]++List.replicate 45 0),([76,0,0,0,0,0,1,0,0,0,0,0,1,0,0,10,175,100,78]++List.replicate 45 0)]++List.replicate 22 Zs),
  .mp .i64 .str [],
  .arr (.st (.pair (.int .i64) .str)) [],
  .arr (.int .i64) [],
  .mp .i64 .str [],
  .mp .i64 .str []]
def T2v:AV:=(.int .i64 0)
def T2k:List AE.Obj :=
  [.cells [(.ptr 2 0),(.int .i64 0),(.int .i64 0),(.int .i64 0),(.int .i64 0),(.int .i64 3),(.int .i64 1),(.int .i64 24),(.ptr 3 0),(.ptr 4 0),(.ptr 5 0)],
  .cells [(.fn (.func 117) [(.ptr 3 0)] []),(.fn (.func 118) [] [(.ptr 6 0),(.ptr 7 0)]),(.fn (.func 120) [] [(.ptr 6 0),(.ptr 8 0),(.ptr 9 0)])],
  .cells [(.ptr 10 0),(.ptr 11 0),(.ptr 12 0),(.int .i64 15),(.int .i64 24),(.int .i64 2),(.int .i64 5),(.int .i64 26),(.int .i64 5),(.bool false),(.bool true),(.ptr 13 0)],
  .cells [(.ptr 2 0),(.int .i64 3),(.int .i64 1),(.int .i64 24)],
  .cells [(.ptr 2 0),(.int .i64 3),(.int .i64 1),(.int .i64 24)],
  .cells [(.int .i64 3),(.own 14)],
  .cells [(.ptr 2 0)],
  .cells [(.int .i64 0),(.int .i64 0),(.int .i64 0),(.int .i64 0),(.int .i64 3),(.int .i64 1),(.int .i64 24)],
  .cells [(.int .i64 3),(.int .i64 1),(.int .i64 24)],
  .cells [(.ptr 0 0)],
  .cells [(.own 15),(.map 16),(.own 17),(.int .i64 38),(.own 18),(.int .i64 0),(.bool false)],
  .cells [(.ptr 10 0),(.int .i64 15),(.int .i64 2)],
  .cells [(.ptr 10 0),(.int .i64 17),(.int .i64 22)],
  .cells [(.map 19),(.map 21)],
  .arr (.int .u8) [0],
  .arr .str (List.replicate 15 Zs++[([76,0,0,0,0,0,2,0,0,0,0,0,25,0,0,7,97,220,101]++List.replicate 45 0),([76,0,0,0,0,0,1,0,0,0,0,0,1,0,0,10,175,100,78]++List.replicate 45 0)]++List.replicate 22 Zs),
  .mp .i64 .str [(18,([83,0,0,0,0,0,0,0,3,1,0,24,28,19,43,48]++List.replicate 48 0)),(19,([74,3,0,199,130,97,169]++List.replicate 57 0)),(20,([69]++List.replicate 30 0++[231,223,105,83]++List.replicate 29 0)),(21,([69]++List.replicate 30 0++[231,223,105,83]++List.replicate 29 0)),(17,([82,0,0,0,0,0,25,4,0,0,0,1,0,2,0,3,117,167,109,229]++List.replicate 44 0))],
  .arr (.st (.pair (.int .i64) .str)) [(18,([83,0,0,0,0,0,0,0,3,1,0,24,28,19,43,48]++List.replicate 48 0)),(19,([74,3,0,199,130,97,169]++List.replicate 57 0)),(20,([69]++List.replicate 30 0++[231,223,105,83]++List.replicate 29 0)),(21,([69]++List.replicate 30 0++[231,223,105,83]++List.replicate 29 0)),(17,([82,0,0,0,0,0,25,4,0,0,0,1,0,2,0,3,117,167,109,229]++List.replicate 44 0))],
  .arr (.int .i64) [],
  .mp .i64 .str [(0,([83,0,0,0,0,0,0,0,3,1,0,24,28,19,43,48]++List.replicate 48 0)),(1,([74,3,0,199,130,97,169]++List.replicate 57 0)),(2,([69]++List.replicate 30 0++[231,223,105,83]++List.replicate 29 0)),(3,([69]++List.replicate 30 0++[231,223,105,83]++List.replicate 29 0))],
  .mp .i64 .str [(2,([69]++List.replicate 30 0++[231,223,105,83]++List.replicate 29 0)),(3,([69]++List.replicate 30 0++[231,223,105,83]++List.replicate 29 0)),(0,([83,0,0,0,0,0,0,0,3,1,0,24,28,19,43,48]++List.replicate 48 0)),(1,([74,3,0,199,130,97,169]++List.replicate 57 0))],
  .mp .i64 .str []]
noncomputable def T2f:=yA T2l T2h T2v T2k
def T3l:List AV:=[(.ptr 0 0),(.sub 1 0 1 1)]
def T3h:List AE.Obj :=
  [.cells [(.ptr 2 0),(.int .i64 0),(.int .i64 0),(.int .i64 0),(.int .i64 0),(.int .i64 3),(.int .i64 1),(.int .i64 24),(.ptr 3 0),(.ptr 4 0),(.ptr 5 0)],
  .cells [(.fn (.func 122) [(.ptr 4 0)] [])],
  .cells [(.ptr 6 0),(.ptr 7 0),(.ptr 8 0),(.int .i64 15),(.int .i64 24),(.int .i64 2),(.int .i64 5),(.int .i64 26),(.int .i64 5),(.bool false),(.bool true),(.ptr 9 0)],
  .cells [(.ptr 2 0),(.int .i64 3),(.int .i64 1),(.int .i64 24)],
  .cells [(.ptr 2 0),(.int .i64 3),(.int .i64 1),(.int .i64 24)],
  .cells [(.int .i64 3),(.own 10)],
  .cells [(.own 11),(.map 12),(.own 13),(.int .i64 38),(.own 14),(.int .i64 0),(.bool false)],
  .cells [(.ptr 6 0),(.int .i64 15),(.int .i64 2)],
  .cells [(.ptr 6 0),(.int .i64 17),(.int .i64 22)],
  .cells [(.map 15),(.map 16)],
  .arr (.int .u8) [0],
  .arr .str (List.replicate 15 Zs++[([76,0,0,0,0,0,2,0,0,0,0,0,25,0,0,7,97,220,101]++List.replicate 45 0),([76,0,0,0,0,0,1,0,0,0,0,0,1,0,0,10,175,100,78]++List.replicate 45 0)]++List.replicate 22 Zs),
  .mp .i64 .str [(18,([83,0,0,0,0,0,0,0,3,1,0,24,28,19,43,48]++List.replicate 48 0)),(19,([74,3,0,199,130,97,169]++List.replicate 57 0)),(20,([69]++List.replicate 30 0++[231,223,105,83]++List.replicate 29 0)),(21,([69]++List.replicate 30 0++[231,223,105,83]++List.replicate 29 0)),(17,([82,0,0,0,0,0,25,4,0,0,0,1,0,2,0,3,117,167,109,229]++List.replicate 44 0))],
  .arr (.st (.pair (.int .i64) .str)) [(18,([83,0,0,0,0,0,0,0,3,1,0,24,28,19,43,48]++List.replicate 48 0)),(19,([74,3,0,199,130,97,169]++List.replicate 57 0)),(20,([69]++List.replicate 30 0++[231,223,105,83]++List.replicate 29 0)),(21,([69]++List.replicate 30 0++[231,223,105,83]++List.replicate 29 0)),(17,([82,0,0,0,0,0,25,4,0,0,0,1,0,2,0,3,117,167,109,229]++List.replicate 44 0))],
  .arr (.int .i64) [],
  .mp .i64 .str [(0,([83,0,0,0,0,0,0,0,3,1,0,24,28,19,43,48]++List.replicate 48 0)),(1,([74,3,0,199,130,97,169]++List.replicate 57 0)),(2,([69]++List.replicate 30 0++[231,223,105,83]++List.replicate 29 0)),(3,([69]++List.replicate 30 0++[231,223,105,83]++List.replicate 29 0))],
  .mp .i64 .str []]
def T3v:AV:=(.int .i64 0)
def T3k:List AE.Obj :=
  [.cells [(.ptr 2 0),(.int .i64 0),(.int .i64 0),(.int .i64 0),(.int .i64 0),(.int .i64 3),(.int .i64 1),(.int .i64 24),(.ptr 3 0),(.ptr 4 0),(.ptr 5 0)],
  .cells [(.fn (.func 122) [(.ptr 4 0)] [])],
  .cells [(.ptr 6 0),(.ptr 7 0),(.ptr 8 0),(.int .i64 15),(.int .i64 24),(.int .i64 2),(.int .i64 7),(.int .i64 27),(.int .i64 7),(.bool false),(.bool true),(.ptr 9 0)],
  .cells [(.ptr 2 0),(.int .i64 3),(.int .i64 1),(.int .i64 24)],
  .cells [(.ptr 2 0),(.int .i64 3),(.int .i64 1),(.int .i64 24)],
  .cells [(.int .i64 3),(.own 10)],
  .cells [(.own 11),(.map 12),(.own 13),(.int .i64 40),(.own 14),(.int .i64 0),(.bool false)],
  .cells [(.ptr 6 0),(.int .i64 15),(.int .i64 2)],
  .cells [(.ptr 6 0),(.int .i64 17),(.int .i64 22)],
  .cells [(.map 15),(.map 17)],
  .arr (.int .u8) [0],
  .arr .str (List.replicate 15 Zs++[([76,0,0,0,0,0,2,0,0,0,0,0,25,0,0,7,97,220,101]++List.replicate 45 0),([76,0,0,0,0,0,1,0,0,0,0,0,1,0,0,10,175,100,78]++List.replicate 45 0)]++List.replicate 22 Zs),
  .mp .i64 .str [(18,([83,0,0,0,0,0,0,0,3,1,0,24,28,19,43,48]++List.replicate 48 0)),(19,([74,3,0,199,130,97,169]++List.replicate 57 0)),(20,([69]++List.replicate 30 0++[231,223,105,83]++List.replicate 29 0)),(21,([69]++List.replicate 30 0++[231,223,105,83]++List.replicate 29 0)),(17,([82,0,0,0,0,0,25,4,0,0,0,1,0,2,0,3,117,167,109,229]++List.replicate 44 0)),(23,Zs),(22,([82,0,0,0,0,0,26,1,0,10,83,154,189,196]++List.replicate 50 0))],
  .arr (.st (.pair (.int .i64) .str)) [(18,([83,0,0,0,0,0,0,0,3,1,0,24,28,19,43,48]++List.replicate 48 0)),(19,([74,3,0,199,130,97,169]++List.replicate 57 0)),(20,([69]++List.replicate 30 0++[231,223,105,83]++List.replicate 29 0)),(21,([69]++List.replicate 30 0++[231,223,105,83]++List.replicate 29 0)),(17,([82,0,0,0,0,0,25,4,0,0,0,1,0,2,0,3,117,167,109,229]++List.replicate 44 0)),(23,Zs),(22,([82,0,0,0,0,0,26,1,0,10,83,154,189,196]++List.replicate 50 0))],
  .arr (.int .i64) [],
  .mp .i64 .str [(0,([83,0,0,0,0,0,0,0,3,1,0,24,28,19,43,48]++List.replicate 48 0)),(1,([74,3,0,199,130,97,169]++List.replicate 57 0)),(2,([69]++List.replicate 30 0++[231,223,105,83]++List.replicate 29 0)),(3,([69]++List.replicate 30 0++[231,223,105,83]++List.replicate 29 0)),(10,Zs)],
  .mp .i64 .str [(10,Zs)],
  .mp .i64 .str []]
noncomputable def T3f:=yA T3l T3h T3v T3k
def T4l:List AV:=[(.ptr 0 0),(.sub 1 0 1 1)]
def T4h:List AE.Obj :=
  [.cells [(.ptr 2 0),(.int .i64 0),(.int .i64 0),(.int .i64 0),(.int .i64 0),(.int .i64 3),(.int .i64 1),(.int .i64 24),(.ptr 3 0),(.ptr 4 0),(.ptr 5 0)],
  .cells [(.fn (.func 123) [] [(.ptr 6 0),(.ptr 7 0),(.ptr 8 0),(.ptr 9 0)])],
  .cells [(.ptr 10 0),(.ptr 11 0),(.ptr 12 0),(.int .i64 15),(.int .i64 24),(.int .i64 2),(.int .i64 7),(.int .i64 27),(.int .i64 7),(.bool false),(.bool true),(.ptr 13 0)],
  .cells [(.ptr 2 0),(.int .i64 3),(.int .i64 1),(.int .i64 24)],
  .cells [(.ptr 2 0),(.int .i64 3),(.int .i64 1),(.int .i64 24)],
  .cells [(.int .i64 3),(.own 14)],
  .cells [(.ptr 2 0)],
  .cells [(.int .i64 3),(.int .i64 1),(.int .i64 24)],
  .cells [(.int .i64 0)],
  .cells [(.str (List.replicate 128 0))],
  .cells [(.own 15),(.map 16),(.own 17),(.int .i64 40),(.own 18),(.int .i64 0),(.bool false)],
  .cells [(.ptr 10 0),(.int .i64 15),(.int .i64 2)],
  .cells [(.ptr 10 0),(.int .i64 17),(.int .i64 22)],
  .cells [(.map 19),(.map 20)],
  .arr (.int .u8) [0],
  .arr .str (List.replicate 15 Zs++[([76,0,0,0,0,0,2,0,0,0,0,0,25,0,0,7,97,220,101]++List.replicate 45 0),([76,0,0,0,0,0,1,0,0,0,0,0,1,0,0,10,175,100,78]++List.replicate 45 0)]++List.replicate 22 Zs),
  .mp .i64 .str [(18,([83,0,0,0,0,0,0,0,3,1,0,24,28,19,43,48]++List.replicate 48 0)),(19,([74,3,0,199,130,97,169]++List.replicate 57 0)),(20,([69]++List.replicate 30 0++[231,223,105,83]++List.replicate 29 0)),(21,([69]++List.replicate 30 0++[231,223,105,83]++List.replicate 29 0)),(17,([82,0,0,0,0,0,25,4,0,0,0,1,0,2,0,3,117,167,109,229]++List.replicate 44 0)),(23,Zs),(22,([82,0,0,0,0,0,26,1,0,10,83,154,189,196]++List.replicate 50 0))],
  .arr (.st (.pair (.int .i64) .str)) [(18,([83,0,0,0,0,0,0,0,3,1,0,24,28,19,43,48]++List.replicate 48 0)),(19,([74,3,0,199,130,97,169]++List.replicate 57 0)),(20,([69]++List.replicate 30 0++[231,223,105,83]++List.replicate 29 0)),(21,([69]++List.replicate 30 0++[231,223,105,83]++List.replicate 29 0)),(17,([82,0,0,0,0,0,25,4,0,0,0,1,0,2,0,3,117,167,109,229]++List.replicate 44 0)),(23,Zs),(22,([82,0,0,0,0,0,26,1,0,10,83,154,189,196]++List.replicate 50 0))],
  .arr (.int .i64) [],
  .mp .i64 .str [(0,([83,0,0,0,0,0,0,0,3,1,0,24,28,19,43,48]++List.replicate 48 0)),(1,([74,3,0,199,130,97,169]++List.replicate 57 0)),(2,([69]++List.replicate 30 0++[231,223,105,83]++List.replicate 29 0)),(3,([69]++List.replicate 30 0++[231,223,105,83]++List.replicate 29 0)),(10,Zs)],
  .mp .i64 .str []]
def T4v:AV:=(.int .i64 0)
def T4k:List AE.Obj :=
  [.cells [(.ptr 2 0),(.int .i64 0),(.int .i64 0),(.int .i64 0),(.int .i64 0),(.int .i64 3),(.int .i64 1),(.int .i64 24),(.ptr 3 0),(.ptr 4 0),(.ptr 5 0)],
  .cells [(.fn (.func 123) [] [(.ptr 6 0),(.ptr 7 0),(.ptr 8 0),(.ptr 9 0)])],
  .cells [(.ptr 10 0),(.ptr 11 0),(.ptr 12 0),(.int .i64 15),(.int .i64 24),(.int .i64 2),(.int .i64 10),(.int .i64 28),(.int .i64 10),(.bool false),(.bool true),(.ptr 13 0)],
  .cells [(.ptr 2 0),(.int .i64 3),(.int .i64 1),(.int .i64 24)],
  .cells [(.ptr 2 0),(.int .i64 3),(.int .i64 1),(.int .i64 24)],
  .cells [(.int .i64 3),(.own 14)],
  .cells [(.ptr 2 0)],
  .cells [(.int .i64 3),(.int .i64 1),(.int .i64 24)],
  .cells [(.int .i64 0)],
  .cells [(.str (List.replicate 128 0))],
  .cells [(.own 15),(.map 16),(.own 17),(.int .i64 43),(.own 18),(.int .i64 0),(.bool false)],
  .cells [(.ptr 10 0),(.int .i64 15),(.int .i64 2)],
  .cells [(.ptr 10 0),(.int .i64 17),(.int .i64 22)],
  .cells [(.map 19),(.map 21)],
  .arr (.int .u8) [0],
  .arr .str (List.replicate 15 Zs++[([76,0,0,0,0,0,2,0,0,0,0,0,25,0,0,7,97,220,101]++List.replicate 45 0),([76,0,0,0,0,0,1,0,0,0,0,0,1,0,0,10,175,100,78]++List.replicate 45 0)]++List.replicate 22 Zs),
  .mp .i64 .str [(18,([83,0,0,0,0,0,0,0,3,1,0,24,28,19,43,48]++List.replicate 48 0)),(19,([74,3,0,199,130,97,169]++List.replicate 57 0)),(20,([69]++List.replicate 30 0++[231,223,105,83]++List.replicate 29 0)),(21,([69]++List.replicate 30 0++[231,223,105,83]++List.replicate 29 0)),(17,([82,0,0,0,0,0,25,4,0,0,0,1,0,2,0,3,117,167,109,229]++List.replicate 44 0)),(23,Zs),(22,([82,0,0,0,0,0,26,1,0,10,83,154,189,196]++List.replicate 50 0)),(25,Zs),(26,Zs),(24,([82,0,0,0,0,0,27,2,0,4,0,5,231,115,28,134]++List.replicate 48 0))],
  .arr (.st (.pair (.int .i64) .str)) [(18,([83,0,0,0,0,0,0,0,3,1,0,24,28,19,43,48]++List.replicate 48 0)),(19,([74,3,0,199,130,97,169]++List.replicate 57 0)),(20,([69]++List.replicate 30 0++[231,223,105,83]++List.replicate 29 0)),(21,([69]++List.replicate 30 0++[231,223,105,83]++List.replicate 29 0)),(17,([82,0,0,0,0,0,25,4,0,0,0,1,0,2,0,3,117,167,109,229]++List.replicate 44 0)),(23,Zs),(22,([82,0,0,0,0,0,26,1,0,10,83,154,189,196]++List.replicate 50 0)),(25,Zs),(26,Zs),(24,([82,0,0,0,0,0,27,2,0,4,0,5,231,115,28,134]++List.replicate 48 0))],
  .arr (.int .i64) [],
  .mp .i64 .str [(0,([83,0,0,0,0,0,0,0,3,1,0,24,28,19,43,48]++List.replicate 48 0)),(1,([74,3,0,199,130,97,169]++List.replicate 57 0)),(2,([69]++List.replicate 30 0++[231,223,105,83]++List.replicate 29 0)),(3,([69]++List.replicate 30 0++[231,223,105,83]++List.replicate 29 0)),(10,Zs),(4,Zs),(5,Zs)],
  .mp .i64 .str [(4,Zs),(5,Zs)],
  .mp .i64 .str []]
noncomputable def T4f:=yA T4l T4h T4v T4k
def T5l:List AV:=[(.ptr 0 0),(.sub 1 0 1 1)]
def T5h:List AE.Obj :=
  [.cells [(.ptr 2 0),(.int .i64 0),(.int .i64 0),(.int .i64 0),(.int .i64 0),(.int .i64 3),(.int .i64 1),(.int .i64 24),(.ptr 3 0),(.ptr 4 0),(.ptr 5 0)],
  .cells [(.fn (.func 123) [] [(.ptr 6 0),(.ptr 7 0),(.ptr 8 0),(.ptr 9 0)])],
  .cells [(.ptr 10 0),(.ptr 11 0),(.ptr 12 0),(.int .i64 15),(.int .i64 24),(.int .i64 2),(.int .i64 10),(.int .i64 28),(.int .i64 10),(.bool false),(.bool true),(.ptr 13 0)],
  .cells [(.ptr 2 0),(.int .i64 3),(.int .i64 1),(.int .i64 24)],
  .cells [(.ptr 2 0),(.int .i64 3),(.int .i64 1),(.int .i64 24)],
  .cells [(.int .i64 3),(.own 14)],
  .cells [(.ptr 2 0)],
  .cells [(.int .i64 3),(.int .i64 1),(.int .i64 24)],
  .cells [(.int .i64 1)],
  .cells [(.str (List.replicate 128 0))],
  .cells [(.own 15),(.map 16),(.own 17),(.int .i64 43),(.own 18),(.int .i64 0),(.bool false)],
  .cells [(.ptr 10 0),(.int .i64 15),(.int .i64 2)],
  .cells [(.ptr 10 0),(.int .i64 17),(.int .i64 22)],
  .cells [(.map 19),(.map 20)],
  .arr (.int .u8) [0],
  .arr .str (List.replicate 15 Zs++[([76,0,0,0,0,0,2,0,0,0,0,0,25,0,0,7,97,220,101]++List.replicate 45 0),([76,0,0,0,0,0,1,0,0,0,0,0,1,0,0,10,175,100,78]++List.replicate 45 0)]++List.replicate 22 Zs),
  .mp .i64 .str [(18,([83,0,0,0,0,0,0,0,3,1,0,24,28,19,43,48]++List.replicate 48 0)),(19,([74,3,0,199,130,97,169]++List.replicate 57 0)),(20,([69]++List.replicate 30 0++[231,223,105,83]++List.replicate 29 0)),(21,([69]++List.replicate 30 0++[231,223,105,83]++List.replicate 29 0)),(17,([82,0,0,0,0,0,25,4,0,0,0,1,0,2,0,3,117,167,109,229]++List.replicate 44 0)),(23,Zs),(22,([82,0,0,0,0,0,26,1,0,10,83,154,189,196]++List.replicate 50 0)),(25,Zs),(26,Zs),(24,([82,0,0,0,0,0,27,2,0,4,0,5,231,115,28,134]++List.replicate 48 0))],
  .arr (.st (.pair (.int .i64) .str)) [(18,([83,0,0,0,0,0,0,0,3,1,0,24,28,19,43,48]++List.replicate 48 0)),(19,([74,3,0,199,130,97,169]++List.replicate 57 0)),(20,([69]++List.replicate 30 0++[231,223,105,83]++List.replicate 29 0)),(21,([69]++List.replicate 30 0++[231,223,105,83]++List.replicate 29 0)),(17,([82,0,0,0,0,0,25,4,0,0,0,1,0,2,0,3,117,167,109,229]++List.replicate 44 0)),(23,Zs),(22,([82,0,0,0,0,0,26,1,0,10,83,154,189,196]++List.replicate 50 0)),(25,Zs),(26,Zs),(24,([82,0,0,0,0,0,27,2,0,4,0,5,231,115,28,134]++List.replicate 48 0))],
  .arr (.int .i64) [],
  .mp .i64 .str [(0,([83,0,0,0,0,0,0,0,3,1,0,24,28,19,43,48]++List.replicate 48 0)),(1,([74,3,0,199,130,97,169]++List.replicate 57 0)),(2,([69]++List.replicate 30 0++[231,223,105,83]++List.replicate 29 0)),(3,([69]++List.replicate 30 0++[231,223,105,83]++List.replicate 29 0)),(10,Zs),(4,Zs),(5,Zs)],
  .mp .i64 .str []]
def T5v:AV:=(.int .i64 0)
def T5k:List AE.Obj :=
  [.cells [(.ptr 2 0),(.int .i64 0),(.int .i64 0),(.int .i64 0),(.int .i64 0),(.int .i64 3),(.int .i64 1),(.int .i64 24),(.ptr 3 0),(.ptr 4 0),(.ptr 5 0)],
  .cells [(.fn (.func 123) [] [(.ptr 6 0),(.ptr 7 0),(.ptr 8 0),(.ptr 9 0)])],
  .cells [(.ptr 10 0),(.ptr 11 0),(.ptr 12 0),(.int .i64 15),(.int .i64 24),(.int .i64 2),(.int .i64 13),(.int .i64 29),(.int .i64 13),(.bool false),(.bool true),(.ptr 13 0)],
  .cells [(.ptr 2 0),(.int .i64 3),(.int .i64 1),(.int .i64 24)],
  .cells [(.ptr 2 0),(.int .i64 3),(.int .i64 1),(.int .i64 24)],
  .cells [(.int .i64 3),(.own 14)],
  .cells [(.ptr 2 0)],
  .cells [(.int .i64 3),(.int .i64 1),(.int .i64 24)],
  .cells [(.int .i64 1)],
  .cells [(.str (List.replicate 128 0))],
  .cells [(.own 15),(.map 16),(.own 17),(.int .i64 46),(.own 18),(.int .i64 0),(.bool false)],
  .cells [(.ptr 10 0),(.int .i64 15),(.int .i64 2)],
  .cells [(.ptr 10 0),(.int .i64 17),(.int .i64 22)],
  .cells [(.map 19),(.map 21)],
  .arr (.int .u8) [0],
  .arr .str (List.replicate 15 Zs++[([76,0,0,0,0,0,2,0,0,0,0,0,25,0,0,7,97,220,101]++List.replicate 45 0),([76,0,0,0,0,0,1,0,0,0,0,0,1,0,0,10,175,100,78]++List.replicate 45 0)]++List.replicate 22 Zs),
  .mp .i64 .str [(18,([83,0,0,0,0,0,0,0,3,1,0,24,28,19,43,48]++List.replicate 48 0)),(19,([74,3,0,199,130,97,169]++List.replicate 57 0)),(20,([69]++List.replicate 30 0++[231,223,105,83]++List.replicate 29 0)),(21,([69]++List.replicate 30 0++[231,223,105,83]++List.replicate 29 0)),(17,([82,0,0,0,0,0,25,4,0,0,0,1,0,2,0,3,117,167,109,229]++List.replicate 44 0)),(23,Zs),(22,([82,0,0,0,0,0,26,1,0,10,83,154,189,196]++List.replicate 50 0)),(25,Zs),(26,Zs),(24,([82,0,0,0,0,0,27,2,0,4,0,5,231,115,28,134]++List.replicate 48 0)),(28,Zs),(29,Zs),(27,([82,0,0,0,0,0,28,2,0,6,0,7,223,196,140,108]++List.replicate 48 0))],
  .arr (.st (.pair (.int .i64) .str)) [(18,([83,0,0,0,0,0,0,0,3,1,0,24,28,19,43,48]++List.replicate 48 0)),(19,([74,3,0,199,130,97,169]++List.replicate 57 0)),(20,([69]++List.replicate 30 0++[231,223,105,83]++List.replicate 29 0)),(21,([69]++List.replicate 30 0++[231,223,105,83]++List.replicate 29 0)),(17,([82,0,0,0,0,0,25,4,0,0,0,1,0,2,0,3,117,167,109,229]++List.replicate 44 0)),(23,Zs),(22,([82,0,0,0,0,0,26,1,0,10,83,154,189,196]++List.replicate 50 0)),(25,Zs),(26,Zs),(24,([82,0,0,0,0,0,27,2,0,4,0,5,231,115,28,134]++List.replicate 48 0)),(28,Zs),(29,Zs),(27,([82,0,0,0,0,0,28,2,0,6,0,7,223,196,140,108]++List.replicate 48 0))],
  .arr (.int .i64) [],
  .mp .i64 .str [(0,([83,0,0,0,0,0,0,0,3,1,0,24,28,19,43,48]++List.replicate 48 0)),(1,([74,3,0,199,130,97,169]++List.replicate 57 0)),(2,([69]++List.replicate 30 0++[231,223,105,83]++List.replicate 29 0)),(3,([69]++List.replicate 30 0++[231,223,105,83]++List.replicate 29 0)),(10,Zs),(4,Zs),(5,Zs),(6,Zs),(7,Zs)],
  .mp .i64 .str [(6,Zs),(7,Zs)],
  .mp .i64 .str []]
noncomputable def T5f:=yA T5l T5h T5v T5k
def T6l:List AV:=[(.ptr 0 0),(.sub 1 0 1 1)]
def T6h:List AE.Obj :=
  [.cells [(.ptr 2 0),(.int .i64 0),(.int .i64 0),(.int .i64 0),(.int .i64 0),(.int .i64 3),(.int .i64 1),(.int .i64 24),(.ptr 3 0),(.ptr 4 0),(.ptr 5 0)],
  .cells [(.fn (.func 123) [] [(.ptr 6 0),(.ptr 7 0),(.ptr 8 0),(.ptr 9 0)])],
  .cells [(.ptr 10 0),(.ptr 11 0),(.ptr 12 0),(.int .i64 15),(.int .i64 24),(.int .i64 2),(.int .i64 13),(.int .i64 29),(.int .i64 13),(.bool false),(.bool true),(.ptr 13 0)],
  .cells [(.ptr 2 0),(.int .i64 3),(.int .i64 1),(.int .i64 24)],
  .cells [(.ptr 2 0),(.int .i64 3),(.int .i64 1),(.int .i64 24)],
  .cells [(.int .i64 3),(.own 14)],
  .cells [(.ptr 2 0)],
  .cells [(.int .i64 3),(.int .i64 1),(.int .i64 24)],
  .cells [(.int .i64 2)],
  .cells [(.str (List.replicate 128 0))],
  .cells [(.own 15),(.map 16),(.own 17),(.int .i64 46),(.own 18),(.int .i64 0),(.bool false)],
  .cells [(.ptr 10 0),(.int .i64 15),(.int .i64 2)],
  .cells [(.ptr 10 0),(.int .i64 17),(.int .i64 22)],
  .cells [(.map 19),(.map 20)],
  .arr (.int .u8) [0],
  .arr .str (List.replicate 15 Zs++[([76,0,0,0,0,0,2,0,0,0,0,0,25,0,0,7,97,220,101]++List.replicate 45 0),([76,0,0,0,0,0,1,0,0,0,0,0,1,0,0,10,175,100,78]++List.replicate 45 0)]++List.replicate 22 Zs),
  .mp .i64 .str [(18,([83,0,0,0,0,0,0,0,3,1,0,24,28,19,43,48]++List.replicate 48 0)),(19,([74,3,0,199,130,97,169]++List.replicate 57 0)),(20,([69]++List.replicate 30 0++[231,223,105,83]++List.replicate 29 0)),(21,([69]++List.replicate 30 0++[231,223,105,83]++List.replicate 29 0)),(17,([82,0,0,0,0,0,25,4,0,0,0,1,0,2,0,3,117,167,109,229]++List.replicate 44 0)),(23,Zs),(22,([82,0,0,0,0,0,26,1,0,10,83,154,189,196]++List.replicate 50 0)),(25,Zs),(26,Zs),(24,([82,0,0,0,0,0,27,2,0,4,0,5,231,115,28,134]++List.replicate 48 0)),(28,Zs),(29,Zs),(27,([82,0,0,0,0,0,28,2,0,6,0,7,223,196,140,108]++List.replicate 48 0))],
  .arr (.st (.pair (.int .i64) .str)) [(18,([83,0,0,0,0,0,0,0,3,1,0,24,28,19,43,48]++List.replicate 48 0)),(19,([74,3,0,199,130,97,169]++List.replicate 57 0)),(20,([69]++List.replicate 30 0++[231,223,105,83]++List.replicate 29 0)),(21,([69]++List.replicate 30 0++[231,223,105,83]++List.replicate 29 0)),(17,([82,0,0,0,0,0,25,4,0,0,0,1,0,2,0,3,117,167,109,229]++List.replicate 44 0)),(23,Zs),(22,([82,0,0,0,0,0,26,1,0,10,83,154,189,196]++List.replicate 50 0)),(25,Zs),(26,Zs),(24,([82,0,0,0,0,0,27,2,0,4,0,5,231,115,28,134]++List.replicate 48 0)),(28,Zs),(29,Zs),(27,([82,0,0,0,0,0,28,2,0,6,0,7,223,196,140,108]++List.replicate 48 0))],
  .arr (.int .i64) [],
  .mp .i64 .str [(0,([83,0,0,0,0,0,0,0,3,1,0,24,28,19,43,48]++List.replicate 48 0)),(1,([74,3,0,199,130,97,169]++List.replicate 57 0)),(2,([69]++List.replicate 30 0++[231,223,105,83]++List.replicate 29 0)),(3,([69]++List.replicate 30 0++[231,223,105,83]++List.replicate 29 0)),(10,Zs),(4,Zs),(5,Zs),(6,Zs),(7,Zs)],
  .mp .i64 .str []]
def T6v:AV:=(.int .i64 0)
def T6k:List AE.Obj :=
  [.cells [(.ptr 2 0),(.int .i64 0),(.int .i64 0),(.int .i64 0),(.int .i64 0),(.int .i64 3),(.int .i64 1),(.int .i64 24),(.ptr 3 0),(.ptr 4 0),(.ptr 5 0)],
  .cells [(.fn (.func 123) [] [(.ptr 6 0),(.ptr 7 0),(.ptr 8 0),(.ptr 9 0)])],
  .cells [(.ptr 10 0),(.ptr 11 0),(.ptr 12 0),(.int .i64 15),(.int .i64 24),(.int .i64 2),(.int .i64 16),(.int .i64 30),(.int .i64 16),(.bool false),(.bool true),(.ptr 13 0)],
  .cells [(.ptr 2 0),(.int .i64 3),(.int .i64 1),(.int .i64 24)],
  .cells [(.ptr 2 0),(.int .i64 3),(.int .i64 1),(.int .i64 24)],
  .cells [(.int .i64 3),(.own 14)],
  .cells [(.ptr 2 0)],
  .cells [(.int .i64 3),(.int .i64 1),(.int .i64 24)],
  .cells [(.int .i64 2)],
  .cells [(.str (List.replicate 128 0))],
  .cells [(.own 15),(.map 16),(.own 17),(.int .i64 49),(.own 18),(.int .i64 0),(.bool false)],
  .cells [(.ptr 10 0),(.int .i64 15),(.int .i64 2)],
  .cells [(.ptr 10 0),(.int .i64 17),(.int .i64 22)],
  .cells [(.map 19),(.map 21)],
  .arr (.int .u8) [0],
  .arr .str (List.replicate 15 Zs++[([76,0,0,0,0,0,2,0,0,0,0,0,25,0,0,7,97,220,101]++List.replicate 45 0),([76,0,0,0,0,0,1,0,0,0,0,0,1,0,0,10,175,100,78]++List.replicate 45 0)]++List.replicate 22 Zs),
  .mp .i64 .str [(18,([83,0,0,0,0,0,0,0,3,1,0,24,28,19,43,48]++List.replicate 48 0)),(19,([74,3,0,199,130,97,169]++List.replicate 57 0)),(20,([69]++List.replicate 30 0++[231,223,105,83]++List.replicate 29 0)),(21,([69]++List.replicate 30 0++[231,223,105,83]++List.replicate 29 0)),(17,([82,0,0,0,0,0,25,4,0,0,0,1,0,2,0,3,117,167,109,229]++List.replicate 44 0)),(23,Zs),(22,([82,0,0,0,0,0,26,1,0,10,83,154,189,196]++List.replicate 50 0)),(25,Zs),(26,Zs),(24,([82,0,0,0,0,0,27,2,0,4,0,5,231,115,28,134]++List.replicate 48 0)),(28,Zs),(29,Zs),(27,([82,0,0,0,0,0,28,2,0,6,0,7,223,196,140,108]++List.replicate 48 0)),(31,Zs),(32,Zs),(30,([82,0,0,0,0,0,29,2,0,8,0,9,71,94,147,107]++List.replicate 48 0))],
  .arr (.st (.pair (.int .i64) .str)) [(18,([83,0,0,0,0,0,0,0,3,1,0,24,28,19,43,48]++List.replicate 48 0)),(19,([74,3,0,199,130,97,169]++List.replicate 57 0)),(20,([69]++List.replicate 30 0++[231,223,105,83]++List.replicate 29 0)),(21,([69]++List.replicate 30 0++[231,223,105,83]++List.replicate 29 0)),(17,([82,0,0,0,0,0,25,4,0,0,0,1,0,2,0,3,117,167,109,229]++List.replicate 44 0)),(23,Zs),(22,([82,0,0,0,0,0,26,1,0,10,83,154,189,196]++List.replicate 50 0)),(25,Zs),(26,Zs),(24,([82,0,0,0,0,0,27,2,0,4,0,5,231,115,28,134]++List.replicate 48 0)),(28,Zs),(29,Zs),(27,([82,0,0,0,0,0,28,2,0,6,0,7,223,196,140,108]++List.replicate 48 0)),(31,Zs),(32,Zs),(30,([82,0,0,0,0,0,29,2,0,8,0,9,71,94,147,107]++List.replicate 48 0))],
  .arr (.int .i64) [],
  .mp .i64 .str [(0,([83,0,0,0,0,0,0,0,3,1,0,24,28,19,43,48]++List.replicate 48 0)),(1,([74,3,0,199,130,97,169]++List.replicate 57 0)),(2,([69]++List.replicate 30 0++[231,223,105,83]++List.replicate 29 0)),(3,([69]++List.replicate 30 0++[231,223,105,83]++List.replicate 29 0)),(10,Zs),(4,Zs),(5,Zs),(6,Zs),(7,Zs),(8,Zs),(9,Zs)],
  .mp .i64 .str [(8,Zs),(9,Zs)],
  .mp .i64 .str []]
noncomputable def T6f:=yA T6l T6h T6v T6k
def T7l:List AV:=[(.ptr 0 0)]
def T7h:List AE.Obj :=
  [.cells [(.ptr 1 0),(.ptr 2 0),(.ptr 3 0),(.int .i64 15),(.int .i64 24),(.int .i64 2),(.int .i64 16),(.int .i64 30),(.int .i64 16),(.bool false),(.bool true),(.ptr 4 0)],
  .cells [(.own 5),(.map 6),(.own 7),(.int .i64 49),(.own 8),(.int .i64 0),(.bool false)],
  .cells [(.ptr 1 0),(.int .i64 15),(.int .i64 2)],
  .cells [(.ptr 1 0),(.int .i64 17),(.int .i64 22)],
  .cells [(.map 9),(.map 10)],
  .arr .str (List.replicate 15 Zs++[([76,0,0,0,0,0,2,0,0,0,0,0,25,0,0,7,97,220,101]++List.replicate 45 0),([76,0,0,0,0,0,1,0,0,0,0,0,1,0,0,10,175,100,78]++List.replicate 45 0)]++List.replicate 22 Zs),
  .mp .i64 .str [(18,([83,0,0,0,0,0,0,0,3,1,0,24,28,19,43,48]++List.replicate 48 0)),(19,([74,3,0,199,130,97,169]++List.replicate 57 0)),(20,([69]++List.replicate 30 0++[231,223,105,83]++List.replicate 29 0)),(21,([69]++List.replicate 30 0++[231,223,105,83]++List.replicate 29 0)),(17,([82,0,0,0,0,0,25,4,0,0,0,1,0,2,0,3,117,167,109,229]++List.replicate 44 0)),(23,Zs),(22,([82,0,0,0,0,0,26,1,0,10,83,154,189,196]++List.replicate 50 0)),(25,Zs),(26,Zs),(24,([82,0,0,0,0,0,27,2,0,4,0,5,231,115,28,134]++List.replicate 48 0)),(28,Zs),(29,Zs),(27,([82,0,0,0,0,0,28,2,0,6,0,7,223,196,140,108]++List.replicate 48 0)),(31,Zs),(32,Zs),(30,([82,0,0,0,0,0,29,2,0,8,0,9,71,94,147,107]++List.replicate 48 0))],
  .arr (.st (.pair (.int .i64) .str)) [(18,([83,0,0,0,0,0,0,0,3,1,0,24,28,19,43,48]++List.replicate 48 0)),(19,([74,3,0,199,130,97,169]++List.replicate 57 0)),(20,([69]++List.replicate 30 0++[231,223,105,83]++List.replicate 29 0)),(21,([69]++List.replicate 30 0++[231,223,105,83]++List.replicate 29 0)),(17,([82,0,0,0,0,0,25,4,0,0,0,1,0,2,0,3,117,167,109,229]++List.replicate 44 0)),(23,Zs),(22,([82,0,0,0,0,0,26,1,0,10,83,154,189,196]++List.replicate 50 0)),(25,Zs),(26,Zs),(24,([82,0,0,0,0,0,27,2,0,4,0,5,231,115,28,134]++List.replicate 48 0)),(28,Zs),(29,Zs),(27,([82,0,0,0,0,0,28,2,0,6,0,7,223,196,140,108]++List.replicate 48 0)),(31,Zs),(32,Zs),(30,([82,0,0,0,0,0,29,2,0,8,0,9,71,94,147,107]++List.replicate 48 0))],
  .arr (.int .i64) [],
  .mp .i64 .str [(0,([83,0,0,0,0,0,0,0,3,1,0,24,28,19,43,48]++List.replicate 48 0)),(1,([74,3,0,199,130,97,169]++List.replicate 57 0)),(2,([69]++List.replicate 30 0++[231,223,105,83]++List.replicate 29 0)),(3,([69]++List.replicate 30 0++[231,223,105,83]++List.replicate 29 0)),(10,Zs),(4,Zs),(5,Zs),(6,Zs),(7,Zs),(8,Zs),(9,Zs)],
  .mp .i64 .str []]
def T7v:AV:=(.int .i64 0)
def T7k:List AE.Obj :=
  [.cells [(.ptr 1 0),(.ptr 2 0),(.ptr 3 0),(.int .i64 15),(.int .i64 24),(.int .i64 3),(.int .i64 16),(.int .i64 30),(.int .i64 0),(.bool false),(.bool false),(.ptr 4 0)],
  .cells [(.own 5),(.map 6),(.own 11),(.int .i64 64),(.own 8),(.int .i64 0),(.bool false)],
  .cells [(.ptr 1 0),(.int .i64 15),(.int .i64 2)],
  .cells [(.ptr 1 0),(.int .i64 17),(.int .i64 22)],
  .cells [(.map 12),(.map 10)],
  .arr .str ([([83,0,0,0,0,0,0,0,3,1,0,24,28,19,43,48]++List.replicate 48 0),([74,3,0,199,130,97,169]++List.replicate 57 0),([69]++List.replicate 30 0++[231,223,105,83]++List.replicate 29 0),([69]++List.replicate 30 0++[231,223,105,83]++List.replicate 29 0)]++List.replicate 11 Zs++[([76,0,0,0,0,0,2,0,0,0,0,0,25,0,0,7,97,220,101]++List.replicate 45 0),([76,0,0,0,0,0,3,0,0,0,0,0,30,0,16,165,115,95,106]++List.replicate 45 0),([82,0,0,0,0,0,25,4,0,0,0,1,0,2,0,3,117,167,109,229]++List.replicate 44 0),([83,0,0,0,0,0,0,0,3,1,0,24,28,19,43,48]++List.replicate 48 0),([74,3,0,199,130,97,169]++List.replicate 57 0),([69]++List.replicate 30 0++[231,223,105,83]++List.replicate 29 0),([69]++List.replicate 30 0++[231,223,105,83]++List.replicate 29 0),([82,0,0,0,0,0,26,1,0,10,83,154,189,196]++List.replicate 50 0),Zs,([82,0,0,0,0,0,27,2,0,4,0,5,231,115,28,134]++List.replicate 48 0),Zs,Zs,([82,0,0,0,0,0,28,2,0,6,0,7,223,196,140,108]++List.replicate 48 0),Zs,Zs,([82,0,0,0,0,0,29,2,0,8,0,9,71,94,147,107]++List.replicate 48 0)]++List.replicate 8 Zs),
  .mp .i64 .str [],
  .arr (.st (.pair (.int .i64) .str)) [(18,([83,0,0,0,0,0,0,0,3,1,0,24,28,19,43,48]++List.replicate 48 0)),(19,([74,3,0,199,130,97,169]++List.replicate 57 0)),(20,([69]++List.replicate 30 0++[231,223,105,83]++List.replicate 29 0)),(21,([69]++List.replicate 30 0++[231,223,105,83]++List.replicate 29 0)),(17,([82,0,0,0,0,0,25,4,0,0,0,1,0,2,0,3,117,167,109,229]++List.replicate 44 0)),(23,Zs),(22,([82,0,0,0,0,0,26,1,0,10,83,154,189,196]++List.replicate 50 0)),(25,Zs),(26,Zs),(24,([82,0,0,0,0,0,27,2,0,4,0,5,231,115,28,134]++List.replicate 48 0)),(28,Zs),(29,Zs),(27,([82,0,0,0,0,0,28,2,0,6,0,7,223,196,140,108]++List.replicate 48 0)),(31,Zs),(32,Zs),(30,([82,0,0,0,0,0,29,2,0,8,0,9,71,94,147,107]++List.replicate 48 0))],
  .arr (.int .i64) [],
  .mp .i64 .str [(0,([83,0,0,0,0,0,0,0,3,1,0,24,28,19,43,48]++List.replicate 48 0)),(1,([74,3,0,199,130,97,169]++List.replicate 57 0)),(2,([69]++List.replicate 30 0++[231,223,105,83]++List.replicate 29 0)),(3,([69]++List.replicate 30 0++[231,223,105,83]++List.replicate 29 0)),(10,Zs),(4,Zs),(5,Zs),(6,Zs),(7,Zs),(8,Zs),(9,Zs)],
  .mp .i64 .str [],
  .arr (.st (.pair (.int .i64) .str)) [],
  .mp .i64 .str []]
noncomputable def T7f:=yA T7l T7h T7v T7k
def T8l:List AV:=[(.ptr 0 0),(.agg [(.int .i64 0),(.int .i64 0),(.int .i64 0),(.int .i64 0),(.int .i64 3),(.int .i64 1),(.int .i64 24)])]
def T8h:List AE.Obj :=
  [.cells [(.own 1),(.map 2),(.own 3),(.int .i64 0),(.own 4),(.int .i64 0),(.bool false)],
  .arr .str (List.replicate 39 Zs),
  .mp .i64 .str [],
  .arr (.st (.pair (.int .i64) .str)) [],
  .arr (.int .i64) []]
def T8v:AV:=(.int .i64 0)
def T8k:List AE.Obj :=
  [.cells [(.own 1),(.map 2),(.own 5),(.int .i64 64),(.own 4),(.int .i64 0),(.bool false)],
  .arr .str ([([83,0,0,0,0,0,0,0,3,1,0,24,28,19,43,48]++List.replicate 48 0),([74,3,0,199,130,97,169]++List.replicate 57 0),([69]++List.replicate 30 0++[231,223,105,83]++List.replicate 29 0),([69]++List.replicate 30 0++[231,223,105,83]++List.replicate 29 0)]++List.replicate 11 Zs++[([76,0,0,0,0,0,2,0,0,0,0,0,25,0,0,7,97,220,101]++List.replicate 45 0),([76,0,0,0,0,0,3,0,0,0,0,0,30,0,16,165,115,95,106]++List.replicate 45 0),([82,0,0,0,0,0,25,4,0,0,0,1,0,2,0,3,117,167,109,229]++List.replicate 44 0),([83,0,0,0,0,0,0,0,3,1,0,24,28,19,43,48]++List.replicate 48 0),([74,3,0,199,130,97,169]++List.replicate 57 0),([69]++List.replicate 30 0++[231,223,105,83]++List.replicate 29 0),([69]++List.replicate 30 0++[231,223,105,83]++List.replicate 29 0),([82,0,0,0,0,0,26,1,0,10,83,154,189,196]++List.replicate 50 0),Zs,([82,0,0,0,0,0,27,2,0,4,0,5,231,115,28,134]++List.replicate 48 0),Zs,Zs,([82,0,0,0,0,0,28,2,0,6,0,7,223,196,140,108]++List.replicate 48 0),Zs,Zs,([82,0,0,0,0,0,29,2,0,8,0,9,71,94,147,107]++List.replicate 48 0)]++List.replicate 8 Zs),
  .mp .i64 .str [],
  .arr (.st (.pair (.int .i64) .str)) [(15,Zs),(16,Zs),(17,Zs),(18,Zs),(19,Zs),(20,Zs),(21,Zs),(22,Zs),(23,Zs),(24,Zs),(25,Zs),(26,Zs),(27,Zs),(28,Zs),(29,Zs),(30,Zs),(31,Zs),(32,Zs),(33,Zs),(34,Zs),(35,Zs),(36,Zs),(37,Zs),(38,Zs),(16,([76,0,0,0,0,0,1,0,0,0,0,0,1,0,0,10,175,100,78]++List.replicate 45 0))],
  .arr (.int .i64) [],
  .arr (.st (.pair (.int .i64) .str)) []]
noncomputable def T8f:=yA T8l T8h T8v T8k
def T9l:List AV:=[(.ptr 0 0),(.int .i64 15),(.int .i64 24)]
def T9h:List AE.Obj :=
  [.cells [(.own 1),(.map 2),(.own 3),(.int .i64 65),(.own 4),(.int .i64 0),(.bool false)],
  .arr .str ([([83,0,0,0,0,0,0,0,3,1,0,24,28,19,43,48]++List.replicate 48 0),([74,3,0,199,130,97,169]++List.replicate 57 0),([69]++List.replicate 30 0++[231,223,105,83]++List.replicate 29 0),([69]++List.replicate 30 0++[231,223,105,83]++List.replicate 29 0)]++List.replicate 11 Zs++[([76,0,0,0,0,0,2,0,0,0,0,0,25,0,0,7,97,220,101]++List.replicate 45 0),([76,0,0,0,0,0,3,0,0,0,0,0,30,0,16,165,115,95,106]++List.replicate 45 0),([82,0,0,0,0,0,25,4,0,0,0,1,0,2,0,3,117,167,109,229]++List.replicate 44 0),([83,0,0,0,0,0,0,0,3,1,0,24,28,19,43,48]++List.replicate 48 0),([74,3,0,199,130,97,169]++List.replicate 57 0),([69]++List.replicate 30 0++[231,223,105,83]++List.replicate 29 0),([69]++List.replicate 30 0++[231,223,105,83]++List.replicate 29 0),([82,0,0,0,0,0,26,1,0,10,83,154,189,196]++List.replicate 50 0),Zs,([82,0,0,0,0,0,27,2,0,4,0,5,231,115,28,134]++List.replicate 48 0),Zs,Zs,([82,0,0,0,0,0,28,2,0,6,0,7,223,196,140,108]++List.replicate 48 0),Zs,Zs,([82,0,0,0,0,0,29,2,0,8,0,9,71,94,147,107]++List.replicate 48 0)]++List.replicate 8 Zs),
  .mp .i64 .str [],
  .arr (.st (.pair (.int .i64) .str)) [],
  .arr (.int .i64) []]
def T9v:AV:=(.tup [(.ptr 5 0),(.int .i64 0)])
def T9k:List AE.Obj :=
  [.cells [(.own 1),(.map 2),(.own 6),(.int .i64 72),(.own 4),(.int .i64 0),(.bool false)],
  .arr .str ([([83,0,0,0,0,0,0,0,3,1,0,24,28,19,43,48]++List.replicate 48 0),([74,3,0,199,130,97,169]++List.replicate 57 0),([69]++List.replicate 30 0++[231,223,105,83]++List.replicate 29 0),([69]++List.replicate 30 0++[231,223,105,83]++List.replicate 29 0)]++List.replicate 11 Zs++[([76,0,0,0,0,0,4,0,0,0,0,0,54,0,0,80,25,215,37]++List.replicate 45 0),([76,0,0,0,0,0,3,0,0,0,0,0,30,0,16,165,115,95,106]++List.replicate 45 0),([82,0,0,0,0,0,25,4,0,0,0,1,0,2,0,3,117,167,109,229]++List.replicate 44 0),([83,0,0,0,0,0,0,0,3,1,0,24,28,19,43,48]++List.replicate 48 0),([74,3,0,199,130,97,169]++List.replicate 57 0),([69]++List.replicate 30 0++[231,223,105,83]++List.replicate 29 0),([69]++List.replicate 30 0++[231,223,105,83]++List.replicate 29 0),([82,0,0,0,0,0,26,1,0,10,83,154,189,196]++List.replicate 50 0),Zs,([82,0,0,0,0,0,27,2,0,4,0,5,231,115,28,134]++List.replicate 48 0),Zs,Zs,([82,0,0,0,0,0,28,2,0,6,0,7,223,196,140,108]++List.replicate 48 0),Zs,Zs,([82,0,0,0,0,0,29,2,0,8,0,9,71,94,147,107]++List.replicate 48 0)]++List.replicate 8 Zs),
  .mp .i64 .str [],
  .arr (.st (.pair (.int .i64) .str)) [],
  .arr (.int .i64) [],
  .cells [(.ptr 0 0),(.ptr 7 0),(.ptr 8 0),(.int .i64 15),(.int .i64 24),(.int .i64 4),(.int .i64 0),(.int .i64 54),(.int .i64 0),(.bool false),(.bool false),(.ptr 9 0)],
  .arr (.st (.pair (.int .i64) .str)) [],
  .cells [(.ptr 0 0),(.int .i64 15),(.int .i64 2)],
  .cells [(.ptr 0 0),(.int .i64 17),(.int .i64 22)],
  .cells [(.map 10),(.map 11)],
  .mp .i64 .str [],
  .mp .i64 .str []]
noncomputable def T9f:=yA T9l T9h T9v T9k
def Zck:List AV:=[(.ptr 0 0)]
def Zc5:List AE.Obj :=
  [.cells [(.own 1),(.map 2),(.own 3),(.int .i64 64),(.own 4),(.int .i64 0),(.bool false)],
  .arr .str ([([83,0,0,0,0,0,0,0,3,1,0,24,28,19,43,48]++List.replicate 48 0),([74,3,0,199,130,97,169]++List.replicate 57 0),([69]++List.replicate 30 0++[231,223,105,83]++List.replicate 29 0),([69]++List.replicate 30 0++[231,223,105,83]++List.replicate 29 0)]++List.replicate 11 Zs++[([76,0,0,0,0,0,2,0,0,0,0,0,25,0,0,7,97,220,101]++List.replicate 45 0),([76,0,0,0,0,0,3,0,0,0,0,0,30,0,16,165,115,95,106]++List.replicate 45 0),([82,0,0,0,0,0,25,4,0,0,0,1,0,2,0,3,117,167,109,229]++List.replicate 44 0),([83,0,0,0,0,0,0,0,3,1,0,24,28,19,43,48]++List.replicate 48 0),([74,3,0,199,130,97,169]++List.replicate 57 0),([69]++List.replicate 30 0++[231,223,105,83]++List.replicate 29 0),([69]++List.replicate 30 0++[231,223,105,83]++List.replicate 29 0),([82,0,0,0,0,0,26,1,0,10,83,154,189,196]++List.replicate 50 0),Zs,([82,0,0,0,0,0,27,2,0,4,0,5,231,115,28,134]++List.replicate 48 0),Zs,Zs,([82,0,0,0,0,0,28,2,0,6,0,7,223,196,140,108]++List.replicate 48 0),Zs,Zs,([82,0,0,0,0,0,29,2,0,8,0,9,71,94,147,107]++List.replicate 48 0)]++List.replicate 8 Zs),
  .mp .i64 .str [],
  .arr (.st (.pair (.int .i64) .str)) [],
  .arr (.int .i64) []]
def ZcI:AV:=(.tup [(.ptr 5 0),(.int .i64 0)])
def Zcx:List AE.Obj :=
  [.cells [(.own 1),(.map 2),(.own 6),(.int .i64 73),(.own 4),(.int .i64 0),(.bool false)],
  .arr .str ([([83,0,0,0,0,0,0,0,3,1,0,24,28,19,43,48]++List.replicate 48 0),([74,3,0,199,130,97,169]++List.replicate 57 0),([69]++List.replicate 30 0++[231,223,105,83]++List.replicate 29 0),([69]++List.replicate 30 0++[231,223,105,83]++List.replicate 29 0)]++List.replicate 11 Zs++[([76,0,0,0,0,0,4,0,0,0,0,0,54,0,0,80,25,215,37]++List.replicate 45 0),([76,0,0,0,0,0,3,0,0,0,0,0,30,0,16,165,115,95,106]++List.replicate 45 0),([82,0,0,0,0,0,25,4,0,0,0,1,0,2,0,3,117,167,109,229]++List.replicate 44 0),([83,0,0,0,0,0,0,0,3,1,0,24,28,19,43,48]++List.replicate 48 0),([74,3,0,199,130,97,169]++List.replicate 57 0),([69]++List.replicate 30 0++[231,223,105,83]++List.replicate 29 0),([69]++List.replicate 30 0++[231,223,105,83]++List.replicate 29 0),([82,0,0,0,0,0,26,1,0,10,83,154,189,196]++List.replicate 50 0),Zs,([82,0,0,0,0,0,27,2,0,4,0,5,231,115,28,134]++List.replicate 48 0),Zs,Zs,([82,0,0,0,0,0,28,2,0,6,0,7,223,196,140,108]++List.replicate 48 0),Zs,Zs,([82,0,0,0,0,0,29,2,0,8,0,9,71,94,147,107]++List.replicate 48 0)]++List.replicate 8 Zs),
  .mp .i64 .str [],
  .arr (.st (.pair (.int .i64) .str)) [],
  .arr (.int .i64) [],
  .cells [(.ptr 7 0),(.int .i64 0),(.int .i64 0),(.int .i64 0),(.int .i64 0),(.int .i64 3),(.int .i64 1),(.int .i64 24),(.ptr 8 0),(.ptr 9 0),(.ptr 10 0)],
  .arr (.st (.pair (.int .i64) .str)) [],
  .cells [(.ptr 0 0),(.ptr 11 0),(.ptr 12 0),(.int .i64 15),(.int .i64 24),(.int .i64 4),(.int .i64 0),(.int .i64 54),(.int .i64 0),(.bool false),(.bool false),(.ptr 13 0)],
  .cells [(.ptr 7 0),(.int .i64 3),(.int .i64 1),(.int .i64 24)],
  .cells [(.ptr 7 0),(.int .i64 3),(.int .i64 1),(.int .i64 24)],
  .cells [(.int .i64 3),(.own 14)],
  .cells [(.ptr 0 0),(.int .i64 15),(.int .i64 2)],
  .cells [(.ptr 0 0),(.int .i64 17),(.int .i64 22)],
  .cells [(.map 15),(.map 16)],
  .arr (.int .u8) [0],
  .mp .i64 .str [],
  .mp .i64 .str []]
noncomputable def zkL:=yA Zck Zc5 ZcI Zcx
def Zcy:List AV:=[(.ptr 0 0),(.sub 1 0 1 1)]
def Zc9:List AE.Obj :=
  [.cells [(.ptr 2 0),(.int .i64 0),(.int .i64 0),(.int .i64 0),(.int .i64 0),(.int .i64 3),(.int .i64 1),(.int .i64 24),(.ptr 3 0),(.ptr 4 0),(.ptr 5 0)],
  .cells [(.fn (.func 132) [] [(.ptr 6 0),(.ptr 7 0)])],
  .cells [(.ptr 8 0),(.ptr 9 0),(.ptr 10 0),(.int .i64 15),(.int .i64 24),(.int .i64 4),(.int .i64 0),(.int .i64 54),(.int .i64 0),(.bool false),(.bool false),(.ptr 11 0)],
  .cells [(.ptr 2 0),(.int .i64 3),(.int .i64 1),(.int .i64 24)],
  .cells [(.ptr 2 0),(.int .i64 3),(.int .i64 1),(.int .i64 24)],
  .cells [(.int .i64 3),(.own 12)],
  .cells [(.ptr 0 0)],
  .cells [(.int .i64 0),(.int .i64 0),(.int .i64 1),(.int .i64 0),(.int .i64 3),(.int .i64 1),(.int .i64 24)],
  .cells [(.own 13),(.map 14),(.own 15),(.int .i64 74),(.own 16),(.int .i64 0),(.bool false)],
  .cells [(.ptr 8 0),(.int .i64 15),(.int .i64 2)],
  .cells [(.ptr 8 0),(.int .i64 17),(.int .i64 22)],
  .cells [(.map 17),(.map 18)],
  .arr (.int .u8) [0],
  .arr .str ([([83,0,0,0,0,0,0,0,3,1,0,24,28,19,43,48]++List.replicate 48 0),([74,3,0,199,130,97,169]++List.replicate 57 0),([69]++List.replicate 30 0++[231,223,105,83]++List.replicate 29 0),([69]++List.replicate 30 0++[231,223,105,83]++List.replicate 29 0)]++List.replicate 11 Zs++[([76,0,0,0,0,0,4,0,0,0,0,0,54,0,0,80,25,215,37]++List.replicate 45 0),([76,0,0,0,0,0,3,0,0,0,0,0,30,0,16,165,115,95,106]++List.replicate 45 0),([82,0,0,0,0,0,25,4,0,0,0,1,0,2,0,3,117,167,109,229]++List.replicate 44 0),([83,0,0,0,0,0,0,0,3,1,0,24,28,19,43,48]++List.replicate 48 0),([74,3,0,199,130,97,169]++List.replicate 57 0),([69]++List.replicate 30 0++[231,223,105,83]++List.replicate 29 0),([69]++List.replicate 30 0++[231,223,105,83]++List.replicate 29 0),([82,0,0,0,0,0,26,1,0,10,83,154,189,196]++List.replicate 50 0),Zs,([82,0,0,0,0,0,27,2,0,4,0,5,231,115,28,134]++List.replicate 48 0),Zs,Zs,([82,0,0,0,0,0,28,2,0,6,0,7,223,196,140,108]++List.replicate 48 0),Zs,Zs,([82,0,0,0,0,0,29,2,0,8,0,9,71,94,147,107]++List.replicate 48 0)]++List.replicate 8 Zs),
  .mp .i64 .str [],
  .arr (.st (.pair (.int .i64) .str)) [],
  .arr (.int .i64) [],
  .mp .i64 .str [],
  .mp .i64 .str []]
def Zdp:AV:=(.int .i64 0)
def Zdi:List AE.Obj :=
  [.cells [(.ptr 2 0),(.int .i64 0),(.int .i64 0),(.int .i64 0),(.int .i64 0),(.int .i64 3),(.int .i64 1),(.int .i64 24),(.ptr 3 0),(.ptr 4 0),(.ptr 5 0)],
  .cells [(.fn (.func 132) [] [(.ptr 6 0),(.ptr 7 0)])],
  .cells [(.ptr 8 0),(.ptr 9 0),(.ptr 10 0),(.int .i64 15),(.int .i64 24),(.int .i64 4),(.int .i64 2),(.int .i64 55),(.int .i64 2),(.bool false),(.bool true),(.ptr 11 0)],
  .cells [(.ptr 2 0),(.int .i64 3),(.int .i64 1),(.int .i64 24)],
  .cells [(.ptr 2 0),(.int .i64 3),(.int .i64 1),(.int .i64 24)],
  .cells [(.int .i64 3),(.own 12)],
  .cells [(.ptr 0 0)],
  .cells [(.int .i64 0),(.int .i64 0),(.int .i64 1),(.int .i64 0),(.int .i64 3),(.int .i64 1),(.int .i64 24)],
  .cells [(.own 13),(.map 14),(.own 15),(.int .i64 76),(.own 16),(.int .i64 0),(.bool false)],
  .cells [(.ptr 8 0),(.int .i64 15),(.int .i64 2)],
  .cells [(.ptr 8 0),(.int .i64 17),(.int .i64 22)],
  .cells [(.map 17),(.map 19)],
  .arr (.int .u8) [0],
  .arr .str ([([83,0,0,0,0,0,0,0,3,1,0,24,28,19,43,48]++List.replicate 48 0),([74,3,0,199,130,97,169]++List.replicate 57 0),([69]++List.replicate 30 0++[231,223,105,83]++List.replicate 29 0),([69]++List.replicate 30 0++[231,223,105,83]++List.replicate 29 0)]++List.replicate 11 Zs++[([76,0,0,0,0,0,4,0,0,0,0,0,54,0,0,80,25,215,37]++List.replicate 45 0),([76,0,0,0,0,0,3,0,0,0,0,0,30,0,16,165,115,95,106]++List.replicate 45 0),([82,0,0,0,0,0,25,4,0,0,0,1,0,2,0,3,117,167,109,229]++List.replicate 44 0),([83,0,0,0,0,0,0,0,3,1,0,24,28,19,43,48]++List.replicate 48 0),([74,3,0,199,130,97,169]++List.replicate 57 0),([69]++List.replicate 30 0++[231,223,105,83]++List.replicate 29 0),([69]++List.replicate 30 0++[231,223,105,83]++List.replicate 29 0),([82,0,0,0,0,0,26,1,0,10,83,154,189,196]++List.replicate 50 0),Zs,([82,0,0,0,0,0,27,2,0,4,0,5,231,115,28,134]++List.replicate 48 0),Zs,Zs,([82,0,0,0,0,0,28,2,0,6,0,7,223,196,140,108]++List.replicate 48 0),Zs,Zs,([82,0,0,0,0,0,29,2,0,8,0,9,71,94,147,107]++List.replicate 48 0)]++List.replicate 8 Zs),
  .mp .i64 .str [(18,([83,0,0,0,0,0,1,0,3,1,0,24,185,192,119,251]++List.replicate 48 0)),(17,([82,0,0,0,0,0,54,1,0,0,62,64,235,186]++List.replicate 50 0))],
  .arr (.st (.pair (.int .i64) .str)) [(18,([83,0,0,0,0,0,1,0,3,1,0,24,185,192,119,251]++List.replicate 48 0)),(17,([82,0,0,0,0,0,54,1,0,0,62,64,235,186]++List.replicate 50 0))],
  .arr (.int .i64) [],
  .mp .i64 .str [(0,([83,0,0,0,0,0,1,0,3,1,0,24,185,192,119,251]++List.replicate 48 0))],
  .mp .i64 .str [(0,([83,0,0,0,0,0,1,0,3,1,0,24,185,192,119,251]++List.replicate 48 0))],
  .mp .i64 .str []]
noncomputable def zsJ:=yA Zcy Zc9 Zdp Zdi
def ZcY:List AV:=[(.ptr 0 0)]
def Zdl:List AE.Obj :=
  [.cells [(.own 1),(.map 2),(.own 3),(.int .i64 64),(.own 4),(.int .i64 0),(.bool false)],
  .arr .str ([([83,0,0,0,0,0,0,0,3,1,0,24,28,19,43,48]++List.replicate 48 0),([74,3,0,199,130,97,169]++List.replicate 57 0),([69]++List.replicate 30 0++[231,223,105,83]++List.replicate 29 0),([69]++List.replicate 30 0++[231,223,105,83]++List.replicate 29 0)]++List.replicate 11 Zs++[([76,0,0,0,0,0,2,0,0,0,0,0,25,0,0,7,97,220,101]++List.replicate 45 0),([76,0,0,0,0,0,3,0,0,0,0,0,30,0,16,165,115,95,106]++List.replicate 45 0),([82,0,0,0,0,0,25,4,0,0,0,1,0,2,0,3,117,167,109,229]++List.replicate 44 0),([83,0,0,0,0,0,0,0,3,1,0,24,28,19,43,48]++List.replicate 48 0),([74,3,0,199,130,97,169]++List.replicate 57 0),([69]++List.replicate 30 0++[231,223,105,83]++List.replicate 29 0),([69]++List.replicate 30 0++[231,223,105,83]++List.replicate 29 0),([82,0,0,0,0,0,26,1,0,10,83,154,189,196]++List.replicate 50 0),Zs,([82,0,0,0,0,0,27,2,0,4,0,5,231,115,28,134]++List.replicate 48 0),Zs,Zs,([82,0,0,0,0,0,28,2,0,6,0,7,223,196,140,108]++List.replicate 48 0),Zs,Zs,([82,0,0,0,0,0,29,2,0,8,0,9,71,94,147,107]++List.replicate 48 0)]++List.replicate 8 Zs),
  .mp .i64 .str [],
  .arr (.st (.pair (.int .i64) .str)) [],
  .arr (.int .i64) []]
def ZcJ:AV:=(.tup [(.ptr 5 0),(.int .i64 0)])
def Zd8:List AE.Obj :=
  [.cells [(.own 1),(.map 2),(.own 6),(.int .i64 77),(.own 4),(.int .i64 0),(.bool false)],
  .arr .str ([([83,0,0,0,0,0,0,0,3,1,0,24,28,19,43,48]++List.replicate 48 0),([74,3,0,199,130,97,169]++List.replicate 57 0),([69]++List.replicate 30 0++[231,223,105,83]++List.replicate 29 0),([69]++List.replicate 30 0++[231,223,105,83]++List.replicate 29 0)]++List.replicate 11 Zs++[([76,0,0,0,0,0,4,0,0,0,0,0,54,0,0,80,25,215,37]++List.replicate 45 0),([76,0,0,0,0,0,3,0,0,0,0,0,30,0,16,165,115,95,106]++List.replicate 45 0),([82,0,0,0,0,0,54,1,0,0,62,64,235,186]++List.replicate 50 0),([83,0,0,0,0,0,1,0,3,1,0,24,185,192,119,251]++List.replicate 48 0),([74,3,0,199,130,97,169]++List.replicate 57 0),([69]++List.replicate 30 0++[231,223,105,83]++List.replicate 29 0),([69]++List.replicate 30 0++[231,223,105,83]++List.replicate 29 0),([82,0,0,0,0,0,26,1,0,10,83,154,189,196]++List.replicate 50 0),Zs,([82,0,0,0,0,0,27,2,0,4,0,5,231,115,28,134]++List.replicate 48 0),Zs,Zs,([82,0,0,0,0,0,28,2,0,6,0,7,223,196,140,108]++List.replicate 48 0),Zs,Zs,([82,0,0,0,0,0,29,2,0,8,0,9,71,94,147,107]++List.replicate 48 0)]++List.replicate 8 Zs),
  .mp .i64 .str [],
  .arr (.st (.pair (.int .i64) .str)) [],
  .arr (.int .i64) [],
  .cells [(.ptr 7 0),(.int .i64 0),(.int .i64 0),(.int .i64 1),(.int .i64 0),(.int .i64 3),(.int .i64 1),(.int .i64 24),(.ptr 8 0),(.ptr 9 0),(.ptr 10 0)],
  .arr (.st (.pair (.int .i64) .str)) [],
  .cells [(.ptr 0 0),(.ptr 11 0),(.ptr 12 0),(.int .i64 15),(.int .i64 24),(.int .i64 4),(.int .i64 2),(.int .i64 55),(.int .i64 2),(.bool false),(.bool false),(.ptr 13 0)],
  .cells [(.ptr 7 0),(.int .i64 3),(.int .i64 1),(.int .i64 24)],
  .cells [(.ptr 7 0),(.int .i64 3),(.int .i64 1),(.int .i64 24)],
  .cells [(.int .i64 3),(.own 14)],
  .cells [(.ptr 0 0),(.int .i64 15),(.int .i64 2)],
  .cells [(.ptr 0 0),(.int .i64 17),(.int .i64 22)],
  .cells [(.map 15),(.map 16)],
  .arr (.int .u8) [0],
  .mp .i64 .str [(0,([83,0,0,0,0,0,1,0,3,1,0,24,185,192,119,251]++List.replicate 48 0))],
  .mp .i64 .str []]
noncomputable def zA0:=yA ZcY Zdl ZcJ Zd8
def Zct:List AV:=[(.ptr 0 0)]
def Zb2:List AE.Obj :=
  [.cells [(.ptr 1 0),(.int .i64 0),(.int .i64 0),(.int .i64 1),(.int .i64 0),(.int .i64 3),(.int .i64 1),(.int .i64 24),(.ptr 2 0),(.ptr 3 0),(.ptr 4 0)],
  .cells [(.ptr 5 0),(.ptr 6 0),(.ptr 7 0),(.int .i64 15),(.int .i64 24),(.int .i64 4),(.int .i64 2),(.int .i64 55),(.int .i64 2),(.bool false),(.bool false),(.ptr 8 0)],
  .cells [(.ptr 1 0),(.int .i64 3),(.int .i64 1),(.int .i64 24)],
  .cells [(.ptr 1 0),(.int .i64 3),(.int .i64 1),(.int .i64 24)],
  .cells [(.int .i64 3),(.own 9)],
  .cells [(.own 10),(.map 11),(.own 12),(.int .i64 77),(.own 13),(.int .i64 0),(.bool false)],
  .cells [(.ptr 5 0),(.int .i64 15),(.int .i64 2)],
  .cells [(.ptr 5 0),(.int .i64 17),(.int .i64 22)],
  .cells [(.map 14),(.map 15)],
  .arr (.int .u8) [0],
  .arr .str ([([83,0,0,0,0,0,0,0,3,1,0,24,28,19,43,48]++List.replicate 48 0),([74,3,0,199,130,97,169]++List.replicate 57 0),([69]++List.replicate 30 0++[231,223,105,83]++List.replicate 29 0),([69]++List.replicate 30 0++[231,223,105,83]++List.replicate 29 0)]++List.replicate 11 Zs++[([76,0,0,0,0,0,4,0,0,0,0,0,54,0,0,80,25,215,37]++List.replicate 45 0),([76,0,0,0,0,0,3,0,0,0,0,0,30,0,16,165,115,95,106]++List.replicate 45 0),([82,0,0,0,0,0,54,1,0,0,62,64,235,186]++List.replicate 50 0),([83,0,0,0,0,0,1,0,3,1,0,24,185,192,119,251]++List.replicate 48 0),([74,3,0,199,130,97,169]++List.replicate 57 0),([69]++List.replicate 30 0++[231,223,105,83]++List.replicate 29 0),([69]++List.replicate 30 0++[231,223,105,83]++List.replicate 29 0),([82,0,0,0,0,0,26,1,0,10,83,154,189,196]++List.replicate 50 0),Zs,([82,0,0,0,0,0,27,2,0,4,0,5,231,115,28,134]++List.replicate 48 0),Zs,Zs,([82,0,0,0,0,0,28,2,0,6,0,7,223,196,140,108]++List.replicate 48 0),Zs,Zs,([82,0,0,0,0,0,29,2,0,8,0,9,71,94,147,107]++List.replicate 48 0)]++List.replicate 8 Zs),
  .mp .i64 .str [],
  .arr (.st (.pair (.int .i64) .str)) [],
  .arr (.int .i64) [],
  .mp .i64 .str [(0,([83,0,0,0,0,0,1,0,3,1,0,24,185,192,119,251]++List.replicate 48 0))],
  .mp .i64 .str []]
def ZcF:AV:=(.tup [(.agg [(.int .i64 0),(.int .i64 0),(.int .i64 1),(.int .i64 0),(.int .i64 3),(.int .i64 1),(.int .i64 24),(.own 16),(.own 17)]),(.int .i64 0)])
def ZcC:List AE.Obj :=
  [.cells [(.ptr 1 0),(.int .i64 0),(.int .i64 0),(.int .i64 1),(.int .i64 0),(.int .i64 3),(.int .i64 1),(.int .i64 24),(.ptr 2 0),(.ptr 3 0),(.ptr 4 0)],
  .cells [(.ptr 5 0),(.ptr 6 0),(.ptr 7 0),(.int .i64 15),(.int .i64 24),(.int .i64 4),(.int .i64 2),(.int .i64 55),(.int .i64 2),(.bool false),(.bool false),(.ptr 8 0)],
  .cells [(.ptr 1 0),(.int .i64 3),(.int .i64 1),(.int .i64 24)],
  .cells [(.ptr 1 0),(.int .i64 3),(.int .i64 1),(.int .i64 24)],
  .cells [(.int .i64 3),(.own 9)],
  .cells [(.own 10),(.map 11),(.own 12),(.int .i64 86),(.own 13),(.int .i64 0),(.bool false)],
  .cells [(.ptr 5 0),(.int .i64 15),(.int .i64 2)],
  .cells [(.ptr 5 0),(.int .i64 17),(.int .i64 22)],
  .cells [(.map 14),(.map 15)],
  .arr (.int .u8) [0],
  .arr .str ([([83,0,0,0,0,0,0,0,3,1,0,24,28,19,43,48]++List.replicate 48 0),([74,3,0,199,130,97,169]++List.replicate 57 0),([69]++List.replicate 30 0++[231,223,105,83]++List.replicate 29 0),([69]++List.replicate 30 0++[231,223,105,83]++List.replicate 29 0)]++List.replicate 11 Zs++[([76,0,0,0,0,0,4,0,0,0,0,0,54,0,0,80,25,215,37]++List.replicate 45 0),([76,0,0,0,0,0,3,0,0,0,0,0,30,0,16,165,115,95,106]++List.replicate 45 0),([82,0,0,0,0,0,54,1,0,0,62,64,235,186]++List.replicate 50 0),([83,0,0,0,0,0,1,0,3,1,0,24,185,192,119,251]++List.replicate 48 0),([74,3,0,199,130,97,169]++List.replicate 57 0),([69]++List.replicate 30 0++[231,223,105,83]++List.replicate 29 0),([69]++List.replicate 30 0++[231,223,105,83]++List.replicate 29 0),([82,0,0,0,0,0,26,1,0,10,83,154,189,196]++List.replicate 50 0),Zs,([82,0,0,0,0,0,27,2,0,4,0,5,231,115,28,134]++List.replicate 48 0),Zs,Zs,([82,0,0,0,0,0,28,2,0,6,0,7,223,196,140,108]++List.replicate 48 0),Zs,Zs,([82,0,0,0,0,0,29,2,0,8,0,9,71,94,147,107]++List.replicate 48 0)]++List.replicate 8 Zs),
  .mp .i64 .str [],
  .arr (.st (.pair (.int .i64) .str)) [],
  .arr (.int .i64) [],
  .mp .i64 .str [(0,([83,0,0,0,0,0,1,0,3,1,0,24,185,192,119,251]++List.replicate 48 0))],
  .mp .i64 .str [],
  .arr (.st (.pair (.int .i64) (.pair (.pair (.int .i64) (.int .i64)) (.pair .str (.pair (.pair (.pair (.int .i64) (.int .i64)) .str) (.pair (.pair (.int .i64) (.int .i64)) .str)))))) [(0,((0,0),((List.replicate 128 0),(((0,0),[]),((0,0),[]))))),(0,((0,0),((List.replicate 128 0),(((0,0),[]),((0,0),[]))))),(0,((0,0),((List.replicate 128 0),(((0,0),[]),((0,0),[])))))],
  .arr .bool [false,false,false]]
noncomputable def zKT:=yA Zct Zb2 ZcF ZcC
def Zce:List AV:=[(.agg [(.int .i64 0),(.int .i64 0),(.int .i64 1),(.int .i64 0),(.int .i64 3),(.int .i64 1),(.int .i64 24),(.ro (.st (.pair (.int .i64) (.pair (.pair (.int .i64) (.int .i64)) (.pair .str (.pair (.pair (.pair (.int .i64) (.int .i64)) .str) (.pair (.pair (.int .i64) (.int .i64)) .str)))))) [(0,((0,0),((List.replicate 128 0),(((0,0),[]),((0,0),[]))))),(0,((0,0),((List.replicate 128 0),(((0,0),[]),((0,0),[]))))),(0,((0,0),((List.replicate 128 0),(((0,0),[]),((0,0),[])))))]),(.ro .bool [false,false,false])])]
def Zcn:List AE.Obj :=
  []
def Zc8:AV:=(.tup [(.own 0),(.int .i64 0)])
def ZdK:List AE.Obj :=
  [.arr .str [([20,0,64,83,0,0,0,0,0,1,0,3,1,0,24,185,192,119,251]++List.replicate 48 0++[161,18,126,15]),([21,0,145]++List.replicate 145 0++[163,155,109,121]),([21,0,145,1]++List.replicate 144 0++[190,96,35,33]),([21,0,145,2]++List.replicate 144 0++[153,109,240,201]),[22,0,6,0,4,132,108,85,101,65,147,97,118]]]
noncomputable def z0n:=yA Zce Zcn Zc8 ZdK
def Zdg:List AV:=[(.ro .str [([20,0,64,83,0,0,0,0,0,1,0,3,1,0,24,185,192,119,251]++List.replicate 48 0++[161,18,126,15]),([21,0,145]++List.replicate 145 0++[163,155,109,121]),([21,0,145,1]++List.replicate 144 0++[190,96,35,33]),([21,0,145,2]++List.replicate 144 0++[153,109,240,201]),[22,0,6,0,4,132,108,85,101,65,147,97,118]])]
def Zdr:List AE.Obj :=
  []
def ZdR:AV:=(.tup [(.agg [(.int .i64 0),(.int .i64 0),(.int .i64 1),(.int .i64 0),(.int .i64 3),(.int .i64 1),(.int .i64 24),(.own 0),(.own 1)]),(.int .i64 0)])
def Zdq:List AE.Obj :=
  [.arr (.st (.pair (.int .i64) (.pair (.pair (.int .i64) (.int .i64)) (.pair .str (.pair (.pair (.pair (.int .i64) (.int .i64)) .str) (.pair (.pair (.int .i64) (.int .i64)) .str)))))) [(0,((0,0),((List.replicate 128 0),(((0,0),[]),((0,0),[]))))),(0,((0,0),((List.replicate 128 0),(((0,0),[]),((0,0),[]))))),(0,((0,0),((List.replicate 128 0),(((0,0),[]),((0,0),[])))))],
  .arr .bool [false,false,false]]
noncomputable def z6T:=yA Zdg Zdr ZdR Zdq
def Zdw:List AV:=[(.agg [(.int .i64 0),(.int .i64 0),(.int .i64 1),(.int .i64 0),(.int .i64 3),(.int .i64 1),(.int .i64 24),(.ro (.st (.pair (.int .i64) (.pair (.pair (.int .i64) (.int .i64)) (.pair .str (.pair (.pair (.pair (.int .i64) (.int .i64)) .str) (.pair (.pair (.int .i64) (.int .i64)) .str)))))) [(0,((0,0),((List.replicate 128 0),(((0,0),[]),((0,0),[]))))),(0,((0,0),((List.replicate 128 0),(((0,0),[]),((0,0),[]))))),(0,((0,0),((List.replicate 128 0),(((0,0),[]),((0,0),[])))))]),(.ro .bool [false,false,false])]),(.agg [(.int .i64 0),(.int .i64 0),(.int .i64 1),(.int .i64 0),(.int .i64 3),(.int .i64 1),(.int .i64 24),(.ro (.st (.pair (.int .i64) (.pair (.pair (.int .i64) (.int .i64)) (.pair .str (.pair (.pair (.pair (.int .i64) (.int .i64)) .str) (.pair (.pair (.int .i64) (.int .i64)) .str)))))) [(0,((0,0),((List.replicate 128 0),(((0,0),[]),((0,0),[]))))),(0,((0,0),((List.replicate 128 0),(((0,0),[]),((0,0),[]))))),(0,((0,0),((List.replicate 128 0),(((0,0),[]),((0,0),[])))))]),(.ro .bool [false,false,false])])]
def Zcz:List AE.Obj :=
  []
def Zc1:AV:=(.bool true)
def Zcw:List AE.Obj :=
  []
noncomputable def Zc2:=yA Zdw Zcz Zc1 Zcw
noncomputable def Tb0:Env:=yp
noncomputable def To0:Lo:=loD Tryz.prog Tryz.tab Tb0 y6 Yb 40
noncomputable def Tb1:Env:=(112,.func T0f)::yp
noncomputable def To1:Lo:=loD Tryz.prog Tryz.tab Tb1 y6 Yb 40
noncomputable def Tb2:Env:=(112,.func T0f)::(114,.func T1f)::yp
noncomputable def To2:Lo:=loD Tryz.prog Tryz.tab Tb2 y6 Yb 40
noncomputable def Tb3:Env:=(112,.func T0f)::(114,.func T1f)::(116,.func T2f)::yp
noncomputable def To3:Lo:=loD Tryz.prog Tryz.tab Tb3 y6 Yb 40
noncomputable def Tb4:Env:=(112,.func T0f)::(114,.func T1f)::(116,.func (orF T2f T3f))::yp
noncomputable def To4:Lo:=loD Tryz.prog Tryz.tab Tb4 y6 Yb 40
noncomputable def Tb5:Env:=(112,.func T0f)::(114,.func T1f)::(116,.func (orF T2f (orF T3f T4f)))::yp
noncomputable def To5:Lo:=loD Tryz.prog Tryz.tab Tb5 y6 Yb 40
noncomputable def Tb6:Env:=(112,.func T0f)::(114,.func T1f)::(116,.func (orF T2f (orF T3f (orF T4f T5f))))::yp
noncomputable def To6:Lo:=loD Tryz.prog Tryz.tab Tb6 y6 Yb 40
noncomputable def Tb7:Env:=(112,.func T0f)::(114,.func T1f)::(116,.func (orF T2f (orF T3f (orF T4f (orF T5f T6f)))))::yp
noncomputable def To7:Lo:=loD Tryz.prog Tryz.tab Tb7 y6 Yb 40
noncomputable def Tb8:Env:=(112,.func T0f)::(114,.func T1f)::(116,.func (orF T2f (orF T3f (orF T4f (orF T5f T6f)))))::(125,.func T7f)::yp
noncomputable def To8:Lo:=loD Tryz.prog Tryz.tab Tb8 y6 Yb 40
noncomputable def Tb9:Env:=(77,.func T8f)::(112,.func T0f)::(114,.func T1f)::(116,.func (orF T2f (orF T3f (orF T4f (orF T5f T6f)))))::(125,.func T7f)::yp
noncomputable def To9:Lo:=loD Tryz.prog Tryz.tab Tb9 y6 Yb 40
noncomputable def Zcj:Env:=(77,.func T8f)::(112,.func T0f)::(114,.func (orF T1f T9f))::(116,.func (orF T2f (orF T3f (orF T4f (orF T5f T6f)))))::(125,.func T7f)::yp
noncomputable def Zdf:Lo:=loD Tryz.prog Tryz.tab Zcj y6 Yb 40
noncomputable def ZdJ:Env:=(77,.func T8f)::(78,.func zkL)::(112,.func T0f)::(114,.func (orF T1f T9f))::(116,.func (orF T2f (orF T3f (orF T4f (orF T5f T6f)))))::(125,.func T7f)::yp
noncomputable def Zc3:Lo:=loD Tryz.prog Tryz.tab ZdJ y6 Yb 40
noncomputable def ZdD:Env:=(77,.func T8f)::(78,.func zkL)::(112,.func T0f)::(114,.func (orF T1f T9f))::(116,.func (orF T2f (orF T3f (orF T4f (orF T5f (orF T6f zsJ))))))::(125,.func T7f)::yp
noncomputable def Zd7:Lo:=loD Tryz.prog Tryz.tab ZdD y6 Yb 40
noncomputable def Zca:Env:=(43,.func zA0)::(77,.func T8f)::(78,.func zkL)::(112,.func T0f)::(114,.func (orF T1f T9f))::(116,.func (orF T2f (orF T3f (orF T4f (orF T5f (orF T6f zsJ))))))::(125,.func T7f)::yp
noncomputable def ZcW:Lo:=loD Tryz.prog Tryz.tab Zca y6 Yb 40
noncomputable def Zda:Env:=(18,.func zKT)::(43,.func zA0)::(77,.func T8f)::(78,.func zkL)::(112,.func T0f)::(114,.func (orF T1f T9f))::(116,.func (orF T2f (orF T3f (orF T4f (orF T5f (orF T6f zsJ))))))::(125,.func T7f)::yp
noncomputable def Zds:Lo:=loD Tryz.prog Tryz.tab Zda y6 Yb 40
noncomputable def ZdZ:Env:=(9,.func z0n)::(18,.func zKT)::(43,.func zA0)::(77,.func T8f)::(78,.func zkL)::(112,.func T0f)::(114,.func (orF T1f T9f))::(116,.func (orF T2f (orF T3f (orF T4f (orF T5f (orF T6f zsJ))))))::(125,.func T7f)::yp
noncomputable def ZcA:Lo:=loD Tryz.prog Tryz.tab ZdZ y6 Yb 40
noncomputable def Zcg:Env:=(7,.func z6T)::(9,.func z0n)::(18,.func zKT)::(43,.func zA0)::(77,.func T8f)::(78,.func zkL)::(112,.func T0f)::(114,.func (orF T1f T9f))::(116,.func (orF T2f (orF T3f (orF T4f (orF T5f (orF T6f zsJ))))))::(125,.func T7f)::yp
noncomputable def ZcU:Lo:=loD Tryz.prog Tryz.tab Zcg y6 Yb 40
noncomputable def ZdL:Env:=(7,.func z6T)::(9,.func z0n)::(10,.func Zc2)::(18,.func zKT)::(43,.func zA0)::(77,.func T8f)::(78,.func zkL)::(112,.func T0f)::(114,.func (orF T1f T9f))::(116,.func (orF T2f (orF T3f (orF T4f (orF T5f (orF T6f zsJ))))))::(125,.func T7f)::yp
noncomputable def ZdV:Lo:=loD Tryz.prog Tryz.tab ZdL y6 Yb 40
end Go.Proofs.R9
