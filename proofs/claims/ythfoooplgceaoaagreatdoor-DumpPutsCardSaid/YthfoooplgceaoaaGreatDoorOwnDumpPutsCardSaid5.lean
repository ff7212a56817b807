/- What the functions that DumpPutsCardSaid reaches compute: part 5. -/
import Derived.Test.YthfoooplgceaoaaGreatDoorOwnDumpPutsCardSaid4
set_option linter.unusedVariables false
set_option linter.unusedSimpArgs false
namespace Go.Proofs.R9
open Go Go.AE Go.Plain
set_option maxRecDepth 100000
def rdV (r:List UInt8) (e:Int):VD×List UInt8×Int :=
  (((((num (rdB 7 r e).1:Nat):Int),((num (rdB 7 (rdB 7 r e).2.1 (rdB 7 r e).2.2).1:Nat):Int)),(rdB 128 (rdB 7 (rdB 7 r e).2.1 (rdB 7 r e).2.2).2.1 (rdB 7 (rdB 7 r e).2.1 (rdB 7 r e).2.2).2.2).1),
    (rdB 128 (rdB 7 (rdB 7 r e).2.1 (rdB 7 r e).2.2).2.1 (rdB 7 (rdB 7 r e).2.1 (rdB 7 r e).2.2).2.2).2.1,(rdB 128 (rdB 7 (rdB 7 r e).2.1 (rdB 7 r e).2.2).2.1 (rdB 7 (rdB 7 r e).2.1 (rdB 7 r e).2.2).2.2).2.2)
theorem z9X (r:List UInt8) (e:Int):(rdV r e).2.1.length≤r.length:=by
  have h1:=zcD 7 r e
  have h2:=zcD 7 (rdB 7 r e).2.1 (rdB 7 r e).2.2
  have h3:=zcD 128 (rdB 7 (rdB 7 r e).2.1 (rdB 7 r e).2.2).2.1 (rdB 7 (rdB 7 r e).2.1 (rdB 7 r e).2.2).2.2
  exact Nat.le_trans h3 (Nat.le_trans h2 h1)
theorem zsJ (r:List UInt8) (e:Int) (hl:r.length≤1000000000000) :
    zcp (r,e)=some ((rdV r e).1.1.1,(rdV r e).1.1.2,(rdV r e).1.2,(rdV r e).2.1,(rdV r e).2.2):=by
  have h1:=zcD 7 r e
  have h2:=zcD 7 (rdB 7 r e).2.1 (rdB 7 r e).2.2
  have e1:=zdW 7 r e (by omega) hl
  have e2:=zdW 7 (rdB 7 r e).2.1 (rdB 7 r e).2.2 (by omega) (by omega)
  have e3:=zeu 128 (rdB 7 (rdB 7 r e).2.1 (rdB 7 r e).2.2).2.1 (rdB 7 (rdB 7 r e).2.1 (rdB 7 r e).2.2).2.2 (by omega)
  simp only [Int.cast_ofNat_Int] at e1 e2 e3
  simp only [zcp,zwS,e1,e2,e3,zc,unP]
  rfl
def zWN:SV×Int→Int×Int×Int×List UInt8×Int×Int×List UInt8×Int×Int×List UInt8×Int:=fun ((k,(va,vb),d,((aa,ab),ad),(ba,bb),bd),e)=>(k,va,vb,d,aa,ab,ad,ba,bb,bd,e)
def zcV (s:SV) (e:Int):SV×Int:=if (if e=0 then Za s else e)≠0 then (noS,if e=0 then Za s else e) else (s,0)
def Jj (t:List UInt8):SV×Int :=
  if ((num (rdB 1 t 0).1:Nat):Int)=0 then zcV (((num (rdB 1 t 0).1:Nat):Int),(rdV (rdB 1 t 0).2.1 (rdB 1 t 0).2.2).1.1,(rdV (rdB 1 t 0).2.1 (rdB 1 t 0).2.2).1.2,((0,0),[]),(0,0),[]) (rdE (rdV (rdB 1 t 0).2.1 (rdB 1 t 0).2.2).2.1 (rdV (rdB 1 t 0).2.1 (rdB 1 t 0).2.2).2.2)
  else if ((num (rdB 1 t 0).1:Nat):Int)=1 then
    zcV (((num (rdB 1 t 0).1:Nat):Int),((rdV (rdB 1 t 0).2.1 (rdB 1 t 0).2.2).1.1.1,(rdV (rdV (rdB 1 t 0).2.1 (rdB 1 t 0).2.2).2.1 (rdV (rdB 1 t 0).2.1 (rdB 1 t 0).2.2).2.2).1.1.2),[],(rdV (rdB 1 t 0).2.1 (rdB 1 t 0).2.2).1,(rdV (rdV (rdB 1 t 0).2.1 (rdB 1 t 0).2.2).2.1 (rdV (rdB 1 t 0).2.1 (rdB 1 t 0).2.2).2.2).1)
      (rdE (rdV (rdV (rdB 1 t 0).2.1 (rdB 1 t 0).2.2).2.1 (rdV (rdB 1 t 0).2.1 (rdB 1 t 0).2.2).2.2).2.1 (rdV (rdV (rdB 1 t 0).2.1 (rdB 1 t 0).2.2).2.1 (rdV (rdB 1 t 0).2.1 (rdB 1 t 0).2.2).2.2).2.2)
  else (noS,7)
theorem zLZ (k va vb:Int) (d:List UInt8) (aa ab:Int) (ad:List UInt8) (ba bb:Int) (bd:List UInt8) (e:Int) (c:Int) (hc:c=Za (k,(va,vb),d,((aa,ab),ad),(ba,bb),bd)) :
    (za (bif e == 0 then some c else some e:Option Int) fun t7=>bif t7 != 0 then some (0,0,0,[],0,0,[],0,0,[],t7) else some (k,va,vb,d,aa,ab,ad,ba,bb,bd,0)) =
      some (zWN (zcV (k,(va,vb),d,((aa,ab),ad),(ba,bb),bd) e)):=by
  subst hc
  unfold zcV
  by_cases he:e=0
  · subst he
    simp only [beq_self_eq_true,cond_true,zc,if_pos rfl,if_true]
    by_cases hz:Za (k,(va,vb),d,((aa,ab),ad),(ba,bb),bd)=0
    · rw [if_neg (fun h=>h hz),hz];rfl
    · have:(Za (k,(va,vb),d,((aa,ab),ad),(ba,bb),bd) != 0)=true:=by simpa using hz
      rw [if_pos hz,this];rfl
  · have h1:(e == 0)=false:=by simpa using he
    have h2:(e != 0)=true:=by simpa using he
    rw [h1,if_neg he,if_pos he]
    simp only [cond_false,zc,h2,cond_true]
    rfl
theorem zL1 (t:List UInt8) (hl:t.length≤1000000000000):zgl t=some (zWN (Jj t)):=by
  have e1:=zdW 1 t 0 (by omega) hl
  have l1:=zcD 1 t 0
  simp only [Int.cast_ofNat_Int] at e1
  unfold Jj
  simp only [zgl,zsI,Ws,zcU,zc,e1,unP,WB,zaF,W3,J9,zhZ,JX]
  generalize (rdB 1 t 0)=q at l1 ⊢
  obtain ⟨b,r,e⟩:=q
  dsimp only at l1 ⊢
  generalize ((num b:Nat):Int)=k
  have v1:=zsJ r e (by omega)
  have l2:=z9X r e
  have v2:=zsJ (rdV r e).2.1 (rdV r e).2.2 (by omega)
  by_cases h0:k=0
  · rw [zo h0,cond_true,if_pos h0]
    simp only [v1,zc,unP,Sum.elim_inl,zhR]
    exact zLZ k (rdV r e).1.1.1 (rdV r e).1.1.2 (rdV r e).1.2 0 0 [] 0 0 [] _ _ rfl
  · rw [zn h0,cond_false,if_neg h0]
    by_cases h1:k=1
    · rw [zo h1,cond_true,if_pos h1]
      simp only [v1,v2,zc,unP,Sum.elim_inl,zhR]
      exact zLZ k (rdV r e).1.1.1 (rdV (rdV r e).2.1 (rdV r e).2.2).1.1.2 [] (rdV r e).1.1.1 (rdV r e).1.1.2 (rdV r e).1.2 (rdV (rdV r e).2.1 (rdV r e).2.2).1.1.1 (rdV (rdV r e).2.1 (rdV r e).2.2).1.1.2 (rdV (rdV r e).2.1 (rdV r e).2.2).1.2 _ _ rfl
    · rw [zn h1,cond_false,if_neg h1]
      rfl
theorem yN {n:Int} {k:Nat} (t:List UInt8) (h:0≤n∧n<((256 ^ k:Nat):Int)):zG t n k=t++be k n.toNat:=by unfold zG;rw [if_pos h]
theorem zIF (k n:Nat) (r:List UInt8):rdB k (be k n++r) 0=(be k n,r,0):=by
  rw [YW (by rw [List.length_append,zW];omega),List.take_left' (zW ..),List.drop_left' (zW ..)]
theorem Zav {a:Int} (h:0≤a∧a≤1125899906842624):((num (be 7 a.toNat):Nat):Int)=a:=by
  rw [zl7,Nat.mod_eq_of_lt (by simp only [Nat.reducePow];omega)];omega
theorem zAU {a b:Int} {x r:List UInt8} (h:qU a b) (hx:x.length=128):rdV (be 7 a.toNat++(be 7 b.toNat++(x++r))) 0=(((a,b),x),r,0):=by
  unfold rdV
  simp only [zIF]
  rw [YW (by rw [List.length_append];omega),List.take_left' hx,List.drop_left' hx,Zav h.1,Zav h.2]
theorem zr0 {a b:Int} {x:List UInt8} (t:List UInt8) (h:qU a b):Yh t ((a,b),x)=t++(be 7 a.toNat++(be 7 b.toNat++x)):=by
  obtain ⟨ha,hb⟩:=h
  unfold Yh
  dsimp only
  rw [yN t ⟨ha.1,by simp only [Nat.reducePow];omega⟩,yN _ ⟨hb.1,by simp only [Nat.reducePow];omega⟩,List.append_assoc,List.append_assoc]
theorem zOC {s:SV} (h:Za s=0):Jj (ye s)=(s,0):=by
  have hc:=h
  obtain ⟨k,⟨va,vb⟩,d,⟨⟨aa,ab⟩,ad⟩,⟨ba,bb⟩,bd⟩:=s
  unfold Za at h
  dsimp only at h
  by_cases h0:k=0
  · rw [if_pos h0] at h
    split at h
    · cases h
    rename_i hv
    split at h
    · cases h
    rename_i hd
    split at h
    · cases h
    rename_i hn
    have hv:=Decidable.not_not.1 hv
    obtain ⟨⟨rfl,rfl,rfl⟩,rfl,rfl,rfl⟩:=Decidable.not_not.1 hn
    have hd:=Decidable.not_not.1 hd
    subst h0
    have eb:ye (0,(va,vb),d,((0,0),[]),(0,0),[])=be 1 0++(be 7 va.toNat++(be 7 vb.toNat++(d++[]))):=by
      unfold ye
      dsimp only
      rw [if_pos rfl,zr0 _ hv,yN [] (by decide),List.nil_append,List.append_nil];rfl
    unfold Jj
    rw [eb,zIF]
    dsimp only
    rw [zAU hv hd]
    have hz:((num (be 1 0):Nat):Int)=0:=by decide
    rw [hz,if_pos rfl]
    unfold zcV rdE
    dsimp only
    rw [if_pos rfl,if_pos rfl,if_pos rfl,hc]
    rfl
  · rw [if_neg h0] at h
    by_cases h1:k=1
    · rw [if_pos h1] at h
      split at h
      · rename_i hp;exact absurd h hp
      rename_i hp
      split at h
      · cases h
      rename_i hv
      obtain ⟨_,ha,hb,hx,hy⟩:=zCZ (Decidable.not_not.1 hp)
      have hv1:va=aa:=Decidable.byContradiction fun h=>hv (.inl h)
      have hv2:vb=bb:=Decidable.byContradiction fun h=>hv (.inr (.inl h))
      have hv3:d=[]:=Decidable.byContradiction fun h=>hv (.inr (.inr h))
      subst hv1 hv2 hv3 h1
      have eb:ye (1,(va,vb),[],((va,ab),ad),(ba,vb),bd)=be 1 1++(be 7 va.toNat++(be 7 ab.toNat++(ad++(be 7 ba.toNat++(be 7 vb.toNat++(bd++[])))))):=by
        unfold ye
        dsimp only
        rw [if_neg (by decide),zr0 _ ha,zr0 _ hb,yN [] (by decide),List.nil_append,List.append_nil]
        simp only [List.append_assoc]
        rfl
      unfold Jj
      rw [eb,zIF]
      dsimp only
      rw [zAU ha hx]
      dsimp only
      rw [zAU hb hy]
      have hz:((num (be 1 1):Nat):Int)=1:=by decide
      rw [hz,if_neg (by decide),if_pos rfl]
      unfold zcV rdE
      dsimp only
      rw [if_pos rfl,if_pos rfl,if_pos rfl,hc]
      rfl
    · rw [if_neg h1] at h;cases h
theorem zY3 {t:List UInt8} (h:(Jj t).2=0):Za (Jj t).1=0:=by
  have key : ∀(s:SV) (e:Int),(zcV s e).2=0→Za (zcV s e).1=0:=by
    intro s e h
    unfold zcV at h ⊢
    by_cases hz:(if e=0 then Za s else e)=0
    · rw [if_neg (fun h=>h hz)]
      by_cases he:e=0
      · rw [if_pos he] at hz;exact hz
      · rw [if_neg he] at hz;exact absurd hz he
    · rw [if_pos hz] at h;exact absurd h hz
  unfold Jj at h ⊢
  split
  · rename_i h0;rw [if_pos h0] at h;exact key _ _ h
  · rename_i h0
    rw [if_neg h0] at h
    split
    · rename_i h1;rw [if_pos h1] at h;exact key _ _ h
    · rename_i h1;rw [if_neg h1] at h;cases h
end Go.Proofs.R9
namespace Go.Plain
open Go Go.AE
def fnz:List Int→Int
  | []=>0
  | e::r=>if e≠0 then e else fnz r
theorem ziJ : ∀(a b:List Int),fnz (a++b)=if fnz a≠0 then fnz a else fnz b
  | [],b=>by simp [fnz]
  | e::r,b=>by
    rw [List.cons_append,fnz,fnz,ziJ r b]
    by_cases h:e=0
    · subst h;rfl
    · rw [if_pos h,if_pos h,if_pos h]
theorem z5Z {α:Type} {l:List α} {j:Nat} {x:α} (h:l[j]? = some x):l=l.take j++x::l.drop (j+1):=by
  have hj:j<l.length:=by
    apply Decidable.byContradiction;intro hn;rw [List.getElem?_eq_none (by omega)] at h;cases h
  have hx:l[j]=x:=by rw [List.getElem?_eq_getElem hj] at h;exact Option.some.inj h
  rw [← hx]
  conv=>lhs;rw [← List.take_append_drop j l]
  rw [List.drop_eq_getElem_cons hj]
theorem zRB {α:Type} {l:List α} {j:Nat} {x:α} (h:l[j]? = some x):l.drop j=x::l.drop (j+1):=by
  have hj:j<l.length:=by
    apply Decidable.byContradiction;intro hn;rw [List.getElem?_eq_none (by omega)] at h;cases h
  rw [List.getElem?_eq_getElem hj] at h
  rw [List.drop_eq_getElem_cons hj,Option.some.inj h]
theorem zgy {α:Type} {l:List α} {j:Nat} {x:α} (h:l[j]? = some x):l.take (j+1)=l.take j++[x]:=by
  rw [List.take_add_one,h];rfl
theorem zJH {α:Type} {f:α→Int} {l:List α} {j:Nat} {x:α} (h0:fnz ((l.take j).map f)=0) (h:l[j]? = some x) (hx:f x≠0):fnz (l.map f)=f x:=by
  rw [z5Z h,List.map_append,ziJ,if_neg (fun h=>h h0),List.map_cons,fnz,if_pos hx]
theorem zri {α:Type} {f:α→Int} {l:List α} {j:Nat} {x:α} (h0:fnz ((l.take j).map f)=0) (h:l[j]? = some x) (hx:f x=0):fnz ((l.take (j+1)).map f)=0:=by
  rw [zgy h,List.map_append,ziJ,if_neg (fun h=>h h0),List.map_cons,List.map_nil,fnz,if_neg (fun h=>h hx)];rfl
theorem z6l {l:List Int} (h:fnz l=0) : ∀x ∈ l,x=0:=by
  induction l with
  | nil=>intro x hx;cases hx
  | cons e r ih =>
    rw [fnz] at h
    by_cases he:e=0
    · rw [if_neg (fun h=>h he)] at h
      intro x hx
      rcases List.mem_cons.1 hx with rfl | hx
      · exact he
      · exact ih h x hx
    · rw [if_pos he] at h;exact absurd h he
theorem z8w {l:List Int} (h : ∀x ∈ l,x=0):fnz l=0:=by
  induction l with
  | nil=>rfl
  | cons e r ih=>rw [fnz,if_neg (fun h'=>h' (h e (List.mem_cons_self ..)))];exact ih fun x hx=>h x (List.mem_cons_of_mem _ hx)
def zbB {α:Type} (p:Nat→α→Bool):Nat→List α→Bool
  | _,[]=>true
  | i,x::r=>p i x&&zbB p (i+1) r
theorem zrF {α:Type} {p:Nat→α→Bool} : ∀{l:List α} {i:Nat},zbB p i l=true ↔ ∀j x,l[j]? = some x→p (i+j) x=true
  | [],i=>by simp [zbB]
  | x::r,i=>by
    rw [zbB,Bool.and_eq_true,zrF]
    constructor
    · rintro ⟨h1,h2⟩ j y hy
      cases j with
      | zero=>cases hy;exact h1
      | succ j=>have:=h2 j y hy;rwa [show i+(j+1)=i+1+j by omega]
    · intro h
      exact ⟨h 0 x rfl,fun j y hy=>by have:=h (j+1) y hy;rwa [show i+(j+1)=i+1+j by omega] at this⟩
theorem zJb {α Y:Type} (l:List α) (p:Nat→α→Bool) (f:Int→Option (Int ⊕ Y)) (bad good:Y)
    (hs : ∀(j:Nat) x,l[j]? = some x→f (j:Int)=some (if p j x=true then .inl ((j+1:Nat):Int) else .inr bad)) (he:f (l.length:Int)=some (.inr good)) (hl:l.length≤18446744073709551000) :
    zP f zZ 0=some (if zbB p 0 l=true then good else bad):=by
  have key : ∃y,zP f zZ ((0:Nat):Int)=some y∧y=if zbB p 0 l=true then good else bad:=by
    refine y0 l (fun j (_:Unit)=>(j:Int)) (fun j _=>zbB p 0 l=zbB p j (l.drop j)) _ ?_ ?_ (s0:=()) (by rw [List.drop_zero]) hl
    · intro j x _ hj _ hi
      rw [zRB hj,zbB] at hi
      cases hp:p j x with
      | true =>
        refine .inl ⟨(),by rw [hs j x hj,if_pos hp],?_⟩
        rw [hi,hp,Bool.true_and]
      | false =>
        refine .inr ⟨bad,by rw [hs j x hj,if_neg (by rw [hp];decide)],?_⟩
        rw [hi,hp,Bool.false_and,if_neg (by decide)]
    · intro _ hi
      refine ⟨good,he,?_⟩
      rw [hi,List.drop_length,zbB,if_pos rfl]
  obtain ⟨y,hy,rfl⟩:=key
  exact hy
def zbD {α β:Type} (g:Nat→α→Option β):Nat→List α→Option (List β)
  | _,[]=>some []
  | i,x::r=>match g i x with
    | none=>none
    | some b=>match zbD g (i+1) r with
      | none=>none
      | some bs=>some (b::bs)
theorem zYn {α β V Y:Type} (l:List α) (g:Nat→α→Option β) (enc:Nat→List β→V) (f:V→Option (V ⊕ Y)) (bad:Y) (good:List β→Y)
    (hs : ∀(j:Nat) x acc,l[j]? = some x→acc.length=j→f (enc j acc)=some (match g j x with | none => .inr bad | some b => .inl (enc (j+1) (acc++[b]))))
    (he : ∀acc,acc.length=l.length→f (enc l.length acc)=some (.inr (good acc))) (hl:l.length≤18446744073709551000) :
    zP f zZ (enc 0 [])=some (match zbD g 0 l with | none=>bad | some bs=>good bs):=by
  have key : ∃y,zP f zZ (enc 0 [])=some y∧y=(match zbD g 0 l with | none=>bad | some bs=>good bs):=by
    refine y0 l enc (fun j acc=>acc.length=j∧zbD g 0 l=(zbD g j (l.drop j)).map (acc ++ ·)) _ ?_ ?_ (s0:=[]) ⟨rfl,by rw [List.drop_zero];cases zbD g 0 l <;> rfl⟩ hl
    · rintro j x acc hj _ ⟨ha,hi⟩
      rw [zRB hj,zbD] at hi
      cases hg:g j x with
      | none =>
        refine .inr ⟨bad,by rw [hs j x acc hj ha,hg],?_⟩
        rw [hi,hg];rfl
      | some b =>
        refine .inl ⟨acc++[b],by rw [hs j x acc hj ha,hg],by rw [List.length_append,ha];rfl,?_⟩
        rw [hi,hg]
        dsimp only
        cases zbD g (j+1) (l.drop (j+1)) <;> simp
    · rintro acc ⟨ha,hi⟩
      refine ⟨good acc,he acc ha,?_⟩
      rw [hi,List.drop_length,zbD];simp
  obtain ⟨y,hy,rfl⟩:=key
  exact hy
end Go.Plain
namespace Go.Proofs.R9
open Go Go.AE Go.Plain
set_option maxRecDepth 100000
theorem zCU (x:SV):zaP (x.fst,x.snd.fst.fst,x.snd.fst.snd,x.snd.snd.fst,x.snd.snd.snd.fst.fst.fst,x.snd.snd.snd.fst.fst.snd,x.snd.snd.snd.fst.snd,x.snd.snd.snd.snd.fst.fst,x.snd.snd.snd.snd.fst.snd,x.snd.snd.snd.snd.snd)=some (Za x):=zhZ ..
theorem zjW (x:SV):zcu (x.fst,x.snd.fst.fst,x.snd.fst.snd,x.snd.snd.fst,x.snd.snd.snd.fst.fst.fst,x.snd.snd.snd.fst.fst.snd,x.snd.snd.snd.fst.snd,x.snd.snd.snd.snd.fst.fst,x.snd.snd.snd.snd.fst.snd,x.snd.snd.snd.snd.snd)=some (Za x):=zi8 ..
theorem zXQ {x:SV} (h:Za x=0):x.1=0∨x.1=1:=by
  obtain ⟨k,⟨va,vb⟩,d,⟨⟨aa,ab⟩,ad⟩,⟨ba,bb⟩,bd⟩:=x
  unfold Za at h
  dsimp only at h ⊢
  by_cases h0:k=0
  · exact .inl h0
  · rw [if_neg h0] at h
    by_cases h1:k=1
    · exact .inr h1
    · rw [if_neg h1] at h;cases h
def qO (l:List SV):Nat:=l.countP fun x=>decide (x.1=1)
def wh (n r b c x s l:Int) (ss:List SV) (cs:List Bool):Int :=
  if zbH n r b c x s l≠0 then zbH n r b c x s l else if (ss.length:Int)≠x∨(cs.length:Int)≠x then 12
  else if fnz (ss.map Za)≠0 then fnz (ss.map Za) else if (qO ss:Int)>s then 16 else 0
theorem zDo {l:List SV} {j:Nat} {x:SV} (h:l[j]? = some x):qO (l.take (j+1))=qO (l.take j)+if x.1=1 then 1 else 0:=by
  unfold qO
  rw [zgy h,List.countP_append,List.countP_cons,List.countP_nil]
  by_cases hx:x.1=1 <;> simp [hx]
theorem zDa (l:List SV):qO l≤l.length:=List.countP_le_length
theorem zLm (a b x:Int):(bif a != x then some true else some (b != x):Option Bool)=some (decide (a≠x∨b≠x)):=by
  by_cases h1:a=x
  · by_cases h2:b=x
    · rw [zn (by simp [h1,h2]),Z1,Z1,zo h1,zo h2];rfl
    · rw [zo (.inr h2),Z1,Z1,zo h1,zn h2];rfl
  · rw [zo (.inl h1),Z1,zn h1];rfl
theorem zQZ (a s:Int):(bif decide (a>s) then some (16:Int) else some 0)=some (if a>s then 16 else 0):=by
  by_cases h:a>s
  · rw [zo h,if_pos h];rfl
  · rw [zn h,if_neg h];rfl
theorem zdO (n r b c x s l:Int) (ss:List SV) (cs:List Bool):zc9 (n,r,b,c,x,s,l,ss,cs)=some (wh n r b c x s l ss cs):=by
  unfold wh
  simp only [zc9,zLo,zCW,zc,Z1]
  by_cases h0:zbH n r b c x s l=0
  · rw [zo h0,if_neg (fun h=>h h0)]
    simp only [Bool.not_true,cond_false,Q0,zb1,zLm,zc]
    by_cases h1:(ss.length:Int)≠x∨(cs.length:Int)≠x
    · rw [zo h1,if_pos h1];rfl
    rw [zn h1,if_neg h1,cond_false]
    have hx:ss.length≤24:=by
      have h2:(ss.length:Int)=x:=Decidable.byContradiction fun h=>h1 (.inl h)
      unfold zbH at h0
      by_cases hm:zfQ n r b c x s l
      · have:=hm.1.1;omega
      · rw [if_neg hm] at h0;cases h0
    have key : ∃y,zP (yS (ss,(ss.length:Int),n,r,b,c,x,s,l,ss,cs)) zZ ((qO (ss.take 0):Int),((0:Nat):Int))=some y ∧
        y=(if fnz (ss.map Za)≠0 then .inl (fnz (ss.map Za)) else .inr (qO ss:Int)):=by
      refine y0 ss (fun j (_:Unit)=>((qO (ss.take j):Int),(j:Int))) (fun j _=>fnz ((ss.take j).map Za)=0) _ ?_ ?_ (s0:=()) rfl (by omega)
      · intro j y _ hj hlt hi
        have hc:=zDa (ss.take j)
        rw [List.length_take] at hc
        by_cases hy:Za y=0
        · left
          refine ⟨(),?_,zri hi hj hy⟩
          simp only [yS,qR,Wg,JE,zo (show (j:Int)<(ss.length:Int) by omega),cond_true,Z6 hj,zc,zCU,Z1,JX,zo hy,Bool.not_true,cond_false,zDo hj]
          rw [Zd (n:=j) (by omega)]
          by_cases h1:y.1=1
          · rw [zo h1,if_pos h1,Zd (by omega)];rfl
          · rw [zn h1,if_neg h1];rfl
        · right
          refine ⟨.inl (Za y),?_,?_⟩
          · simp only [yS,qR,Wg,JE,zo (show (j:Int)<(ss.length:Int) by omega),cond_true,Z6 hj,zc,zCU,Z1,zn hy]
            rfl
          · rw [zJH hi hj hy,if_pos hy]
      · intro _ hi
        rw [List.take_length] at hi ⊢
        refine ⟨_,?_,rfl⟩
        simp only [yS,qR,zn (show ¬(ss.length:Int)<(ss.length:Int) by omega),cond_false]
        rw [if_neg (fun h=>h hi)]
    obtain ⟨y,hy,rfl⟩:=key
    have hy':zP (yS (ss,(ss.length:Int),n,r,b,c,x,s,l,ss,cs)) zZ (0,0)=_:=hy
    rw [hy',zc]
    by_cases hz:fnz (ss.map Za)=0
    · rw [if_neg (fun h=>h hz),if_neg (fun h=>h hz),Sum.elim_inr,zQZ]
    · rw [if_pos hz,if_pos hz,Sum.elim_inl]
  · rw [zn h0,if_pos h0];rfl
theorem zfc (n r b c x s l:Int) (ss:List SV) (cs:List Bool):zcB (n,r,b,c,x,s,l,ss,cs)=some (wh n r b c x s l ss cs):=by
  unfold wh
  simp only [zcB,zwU,zwX,zc,Z1]
  by_cases h0:zbH n r b c x s l=0
  · rw [zo h0,if_neg (fun h=>h h0)]
    simp only [Bool.not_true,cond_false,qe,zbm,zLm,zc]
    by_cases h1:(ss.length:Int)≠x∨(cs.length:Int)≠x
    · rw [zo h1,if_pos h1];rfl
    rw [zn h1,if_neg h1,cond_false]
    have hx:ss.length≤24:=by
      have h2:(ss.length:Int)=x:=Decidable.byContradiction fun h=>h1 (.inl h)
      unfold zbH at h0
      by_cases hm:zfQ n r b c x s l
      · have:=hm.1.1;omega
      · rw [if_neg hm] at h0;cases h0
    have key : ∃y,zP (yq (n,r,b,c,x,s,l,ss,cs)) zZ ((qO (ss.take 0):Int),((0:Nat):Int))=some y ∧
        y=(if fnz (ss.map Za)≠0 then .inl (fnz (ss.map Za)) else .inr (qO ss:Int)):=by
      refine y0 ss (fun j (_:Unit)=>((qO (ss.take j):Int),(j:Int))) (fun j _=>fnz ((ss.take j).map Za)=0) _ ?_ ?_ (s0:=()) rfl (by omega)
      · intro j y _ hj hlt hi
        have hc:=zDa (ss.take j)
        rw [List.length_take] at hc
        by_cases hy:Za y=0
        · left
          refine ⟨(),?_,zri hi hj hy⟩
          simp only [yq,Wo,zo (show (j:Int)<(ss.length:Int) by omega),cond_true,Z6 hj,zc,zjW,Z1,zo hy,Bool.not_true,cond_false,zDo hj]
          rw [Zd (n:=j) (by omega)]
          rcases zXQ hy with h1 | h1
          · rw [h1,if_neg (by decide),Int.add_zero,YS (by omega) (by omega)];rfl
          · rw [h1,if_pos rfl,Zd (by omega)]
        · right
          refine ⟨.inl (Za y),?_,?_⟩
          · simp only [yq,Wo,zo (show (j:Int)<(ss.length:Int) by omega),cond_true,Z6 hj,zc,zjW,Z1,zn hy]
            rfl
          · rw [zJH hi hj hy,if_pos hy]
      · intro _ hi
        rw [List.take_length] at hi ⊢
        refine ⟨_,?_,rfl⟩
        simp only [yq,Wo,zn (show ¬(ss.length:Int)<(ss.length:Int) by omega),cond_false]
        rw [if_neg (fun h=>h hi)]
    obtain ⟨y,hy,rfl⟩:=key
    have hy':zP (yq (n,r,b,c,x,s,l,ss,cs)) zZ (0,0)=_:=hy
    rw [hy',zc]
    by_cases hz:fnz (ss.map Za)=0
    · rw [if_neg (fun h=>h hz),if_neg (fun h=>h hz),Sum.elim_inr,zQZ]
    · rw [if_pos hz,if_pos hz,Sum.elim_inl]
  · rw [zn h0,if_pos h0];rfl
def y4 (c:Bool):Int:=if c=true then 1 else 0
def ZM (i:Int) (x:SV) (c:Bool):List UInt8:=zG (zG [] i 1) (y4 c) 1++ye x
theorem zJN (c:Bool):0≤y4 c∧y4 c≤1:=by cases c <;> decide
theorem ziE {i:Int} {x:SV} {c:Bool} (h:Za x=0):(ZM i x c).length≤287:=by
  have h1:=zX [] i 1
  have h2:=zX (zG [] i 1) (y4 c) 1
  have h3:=zh3 h
  simp only [List.length_nil] at h1
  unfold ZM
  rw [List.length_append];omega
theorem zC3 (i k va vb:Int) (d:List UInt8) (aa ab:Int) (ad:List UInt8) (ba bb:Int) (bd:List UInt8) (ch:Bool) :
    zb0 (i,k,va,vb,d,aa,ab,ad,ba,bb,bd,ch)=some (if Za (k,(va,vb),d,((aa,ab),ad),(ba,bb),bd)≠0 then ([],Za (k,(va,vb),d,((aa,ab),ad),(ba,bb),bd)) else (ZM i (k,(va,vb),d,((aa,ab),ad),(ba,bb),bd) ch,0)):=by
  simp only [zb0,zsm,z5l,zc,Z1]
  unfold zo1
  by_cases h:Za (k,(va,vb),d,((aa,ab),ad),(ba,bb),bd)=0
  · have hb:=zh3 h
    have h1:=zX [] i 1
    have h2:=zX (zG [] i 1) (y4 ch) 1
    simp only [List.length_nil] at h1
    have e1:Zz ([],i,1)=some (zG [] i 1):=yx [] i 1 (by omega) (by simp)
    have e2:Zz (zG [] i 1,y4 ch,1)=some (zG (zG [] i 1) (y4 ch) 1):=yx _ (y4 ch) 1 (by omega) (by omega)
    have em:(wa (i,ye (k,(va,vb),d,((aa,ab),ad),(ba,bb),bd),ch))=some (y4 ch):=by
      simp only [wa,za0];cases ch <;> rfl
    rw [if_neg (fun h'=>h' h),if_neg (fun h'=>h' h)]
    simp only [unP,zo,Bool.not_true,cond_false,em,zc,e1,e2,Zf (show (zG (zG [] i 1) (y4 ch) 1).length+(ye (k,(va,vb),d,((aa,ab),ad),(ba,bb),bd)).length≤9223372036854775807 by omega),cond_true]
    rfl
  · rw [if_pos h,if_pos h]
    simp only [unP,zn h]
    rfl
theorem zVK (i k va vb:Int) (d:List UInt8) (aa ab:Int) (ad:List UInt8) (ba bb:Int) (bd:List UInt8) (ch:Bool) (hi:InI i) (h:Za (k,(va,vb),d,((aa,ab),ad),(ba,bb),bd)=0) :
    zdZ (i,k,va,vb,d,aa,ab,ad,ba,bb,bd,ch)=some (ZM i (k,(va,vb),d,((aa,ab),ad),(ba,bb),bd) ch):=by
  have hb:=zh3 h
  have h1:=zX [] i 1
  have h2:=zX (zG [] i 1) (y4 ch) 1
  have hm:=zJN ch
  simp only [List.length_nil] at h1
  have e1:Zw ([],i,1)=some (zG [] i 1):=yr [] i 1 (by omega) hi (by simp)
  have e2:Zw (zG [] i 1,y4 ch,1)=some (zG (zG [] i 1) (y4 ch) 1):=yr _ (y4 ch) 1 (by omega) (by omega) (by omega)
  have em:(wk (i,ye (k,(va,vb),d,((aa,ab),ad),(ba,bb),bd),ch))=some (y4 ch):=by
    simp only [wk,zam];cases ch <;> rfl
  simp only [zdZ,zwz,zNE,zc]
  unfold zo1
  rw [if_neg (fun h'=>h' h)]
  simp only [unP,em,zc,e1,e2,Zf (show (zG (zG [] i 1) (y4 ch) 1).length+(ye (k,(va,vb),d,((aa,ab),ad),(ba,bb),bd)).length≤9223372036854775807 by omega),cond_true]
  rfl
def Jr (l:List (List UInt8)):List UInt8:=zG [] (l.length:Int) 2++tail l.flatten
theorem z6v (l:List (List UInt8)):Lib.join l []=l.flatten:=by
  unfold Lib.join
  induction l with
  | nil=>rfl
  | cons x r ih =>
    cases r with
    | nil=>simp [List.intercalate]
    | cons y r =>
      have:([]:List UInt8).intercalate (x::y::r)=x++([]++([]:List UInt8).intercalate (y::r)):=by simp [List.intercalate,List.intersperse]
      rw [this,ih];rfl
theorem zvv (l:List (List UInt8)) (h1:l.length≤100000) (h2:l.flatten.length≤1000000000):zds l=some (Jr l):=by
  have hp:=zX [] (l.length:Int) 2
  simp only [List.length_nil] at hp
  have e1:Zz ([],(l.length:Int),2)=some (zG [] (l.length:Int) 2):=yx [] _ 2 (by omega) (by simp)
  have e2:Y4 (l,[])=some l.flatten:=by
    unfold Y4
    dsimp only
    rw [z6v,Zf (by omega),Zf (by omega)];rfl
  simp only [zds,zsP,e1,zc,e2,wD _ (show l.flatten.length≤1000000000000 by omega),Zk,Zf (show (zG [] (l.length:Int) 2).length+4≤9223372036854775807 by omega),cond_true]
  rfl
theorem zv2 (l:List (List UInt8)) (j:Nat):(l.take j).flatten.length≤l.flatten.length:=by
  conv=>rhs;rw [← List.take_append_drop j l]
  rw [List.flatten_append,List.length_append];omega
theorem zFR (l:List (List UInt8)) (h1:l.length≤100000) (h2:l.flatten.length≤1000000000):zhu l=some (Jr l):=by
  have hp:=zX [] (l.length:Int) 2
  simp only [List.length_nil] at hp
  have e1:Zw ([],(l.length:Int),2)=some (zG [] (l.length:Int) 2):=yr [] _ 2 (by omega) (by omega) (by simp)
  have key : ∃y,zP (yP l) zZ ((l.take 0).flatten,((0:Nat):Int))=some y∧y=l.flatten:=by
    refine y0 l (fun j (_:Unit)=>((l.take j).flatten,(j:Int))) (fun _ _=>True) _ ?_ ?_ (s0:=()) trivial (by omega)
    · intro j x _ hj hlt _
      left
      refine ⟨(),?_,trivial⟩
      have hle:=zv2 l (j+1)
      have ef:(l.take (j+1)).flatten=(l.take j).flatten++x:=by rw [zgy hj,List.flatten_append];simp
      rw [ef] at hle ⊢
      rw [List.length_append] at hle
      simp only [yP,QH,zo (show (j:Int)<(l.length:Int) by omega),cond_true,Z6 hj,zc,Zf (show (l.take j).flatten.length+x.length≤9223372036854775807 by omega),Zd (n:=j) (by omega)]
    · intro _ _
      rw [List.take_length]
      refine ⟨_,?_,rfl⟩
      simp only [yP,QH,zn (show ¬(l.length:Int)<(l.length:Int) by omega),cond_false]
  obtain ⟨y,hy,rfl⟩:=key
  have hy':zP (yP l) zZ ([],0)=some l.flatten:=hy
  simp only [zhu,zt6,hy',e1,zc,zcJ _ (show l.flatten.length≤1000000000000 by omega),Zk,Zf (show (zG [] (l.length:Int) 2).length+4≤9223372036854775807 by omega),cond_true]
  rfl
end Go.Proofs.R9
namespace Go.Proofs.R9
open Go Go.AE Go.Plain
set_option maxRecDepth 100000
def qW (l:List (List UInt8)):Int:=fnz (l.map fun s=>(Zy s).2.2)
def Zi (l:List (List UInt8)):List Int:=l.map fun s=>(Zy s).1
def Zh (l:List (List UInt8)):List (List UInt8):=l.map fun s=>(Zy s).2.1
def zhY (n i:Nat):Int:=if i=0 then 20 else if i+1=n then 22 else 21
def kOk (ks:List Int):Bool:=zbB (fun i x=>decide (x=zhY ks.length i)) 0 ks
def Fit (l:List (List UInt8)):Prop:=l.length≤1000 ∧ ∀s ∈ l,s.length≤100000
theorem Fit.at {l:List (List UInt8)} (h:Fit l) {j:Nat} {x:List UInt8} (hj:l[j]? = some x):x.length≤100000:=h.2 x (List.mem_of_getElem? hj)
theorem zRa : ∀(l:List (List UInt8)),(∀s ∈ l,s.length≤100000)→l.flatten.length≤100000*l.length
  | [],_=>by simp
  | x::r,h=>by
    rw [List.flatten_cons,List.length_append,List.length_cons]
    have h1:=h x (List.mem_cons_self ..)
    have h2:=zRa r fun s hs=>h s (List.mem_cons_of_mem _ hs)
    omega
theorem Fit.take {l:List (List UInt8)} (h:Fit l) (k:Nat):Fit (l.take k):=⟨by rw [List.length_take];have:=h.1;omega,fun s hs=>h.2 s (List.mem_of_mem_take hs)⟩
theorem Fit.flat {l:List (List UInt8)} (h:Fit l):l.flatten.length≤1000000000:=by have:=zRa l h.2;have:=h.1;omega
theorem z3Z {l:List (List UInt8)} (h:Fit l):Fit (Zh l):=by
  refine ⟨by rw [Zh,List.length_map];exact h.1,fun s hs => ?_⟩
  rw [Zh,List.mem_map] at hs
  obtain ⟨t,ht,rfl⟩:=hs
  have:=h.2 t ht
  unfold Zy
  split
  · exact Nat.zero_le _
  split
  · exact Nat.zero_le _
  split
  · exact Nat.zero_le _
  split
  · exact Nat.zero_le _
  split
  · exact Nat.zero_le _
  · show ((t.drop 3).take (JQ t)).length≤_
    rw [List.length_take,List.length_drop];omega
theorem zYX (l:List (List UInt8)) (hf:Fit l) (f:Int×List Int×List (List UInt8)→Option ((Int×List Int×List (List UInt8)) ⊕ (Int ⊕ (List Int×List (List UInt8)))))
    (hs : ∀(j:Nat) x,l[j]? = some x→f ((j:Int),Zi (l.take j),Zh (l.take j))=some (if (Zy x).2.2≠0 then .inr (.inl (Zy x).2.2) else .inl (((j+1:Nat):Int),Zi (l.take j)++[(Zy x).1],Zh (l.take j)++[(Zy x).2.1])))
    (he:f ((l.length:Int),Zi l,Zh l)=some (.inr (.inr (Zi l,Zh l)))) :
    zP f zZ (0,[],[])=some (if qW l≠0 then .inl (qW l) else .inr (Zi l,Zh l)):=by
  have key : ∃y,zP f zZ (((0:Nat):Int),Zi (l.take 0),Zh (l.take 0))=some y∧y=(if qW l≠0 then .inl (qW l) else .inr (Zi l,Zh l)):=by
    refine y0 l (fun j (_:Unit)=>((j:Int),Zi (l.take j),Zh (l.take j))) (fun j _=>qW (l.take j)=0) _ ?_ ?_ (s0:=()) rfl (by have:=hf.1;omega)
    · intro j x _ hj hlt hi
      have h:=hs j x hj
      by_cases hx:(Zy x).2.2=0
      · left
        refine ⟨(),?_,zri (f:=fun s=>(Zy s).2.2) hi hj hx⟩
        rw [h,if_neg (fun h'=>h' hx)]
        unfold Zi Zh
        rw [zgy hj,List.map_append,List.map_append];rfl
      · right
        refine ⟨.inl (Zy x).2.2,by rw [h,if_pos hx],?_⟩
        have:=zJH (f:=fun s=>(Zy s).2.2) hi hj hx
        unfold qW
        rw [this,if_pos hx]
    · intro _ hi
      rw [List.take_length] at hi ⊢
      exact ⟨_,he,by rw [if_neg (fun h=>h hi)]⟩
  obtain ⟨y,hy,rfl⟩:=key
  exact hy
theorem zJK (l:List (List UInt8)) (hf:Fit l) (h2:2≤l.length) :
    zgE l=some (if qW l≠0 then (qW l,[]) else if kOk (Zi l)=true then (0,Zh l) else (7,[])):=by
  have hlen:=hf.1
  have h1:=zYX l hf (Yu (l,(l.length:Int)))
    (fun j x hj=>by
      have hlt:j<l.length:=by apply Decidable.byContradiction;intro hn;rw [List.getElem?_eq_none (by omega)] at hj;cases hj
      have hk:(Zi (l.take j)).length=j:=by rw [Zi,List.length_map,List.length_take];omega
      have hb:(Zh (l.take j)).length=j:=by rw [Zh,List.length_map,List.length_take];omega
      have hx:=hf.at hj
      simp only [Yu,jx,zo (show (j:Int)<(l.length:Int) by omega),cond_true,Z6 hj,zc,zUb x (by omega),unP,Z1,hk,hb,List.length_singleton]
      by_cases hz:(Zy x).2.2=0
      · rw [zo hz,if_neg (fun h=>h hz),Zf (by omega),Zf (by omega),Zd (by omega)];rfl
      · rw [zn hz,if_pos hz];rfl)
    (by simp only [Yu,jx,zn (show ¬(l.length:Int)<(l.length:Int) by omega),cond_false])
  simp only [zgE,zum,h1,zc]
  by_cases he:qW l=0
  · rw [if_neg (fun h=>h he),if_neg (fun h=>h he),Sum.elim_inr]
    have hk:(Zi l).length=l.length:=by rw [Zi,List.length_map]
    have h3:=zJb (Zi l) (fun i x=>decide (x=zhY (Zi l).length i)) (Yr (((Zi l).length:Int),Zi l,Zh l)) (.inl ()) (.inr ())
      (fun j x hj=>by
        have hlt:j<(Zi l).length:=by apply Decidable.byContradiction;intro hn;rw [List.getElem?_eq_none (by omega)] at hj;cases hj
        have hw:wj (x,((Zi l).length:Int),(j:Int),(j:Int),Zi l,Zh l)=some (zhY (Zi l).length j):=by
          simp only [wj,zay,JX]
          unfold zhY
          rw [YS (x:=((Zi l).length:Int) - 1) (by omega) (by omega)]
          by_cases h0:j=0
          · rw [zo (show (j:Int)=0 by omega),if_pos h0];rfl
          · rw [zn (show ¬(j:Int)=0 by omega),if_neg h0]
            by_cases h1:j+1=(Zi l).length
            · rw [zo (show (j:Int)=((Zi l).length:Int) - 1 by omega),if_pos h1];rfl
            · rw [zn (show ¬(j:Int)=((Zi l).length:Int) - 1 by omega),if_neg h1];rfl
        simp only [Yr,jO,WJ,zae,zo (show (j:Int)<((Zi l).length:Int) by omega),cond_true,yL (show (0:Int)≤(j:Int)∧(j:Int)<((Zi l).length:Int) by omega),Int.toNat_natCast,hj,zc,hw,Z1]
        by_cases hx:x=zhY (Zi l).length j
        · rw [zo hx,if_pos rfl,Zd (by omega)];rfl
        · rw [zn hx,if_neg (by decide)];rfl)
      (by simp only [Yr,jO,zn (show ¬((Zi l).length:Int)<((Zi l).length:Int) by omega),cond_false])
      (by omega)
    simp only [unP,h3,zc]
    unfold kOk
    cases zbB (fun i x=>decide (x=zhY (Zi l).length i)) 0 (Zi l) <;> rfl
  · rw [if_pos he,if_pos he,Sum.elim_inl]
def mkB (b:List UInt8):Bool:=decide (((num ((b.drop 1).take 1):Nat):Int)=1)
def zc0 (i:Nat) (b:List UInt8):Option (SV×Bool) :=
  if b.length<2 then none else if (Jj (b.drop 2)).2≠0 then none else if ZM (i:Int) (Jj (b.drop 2)).1 (mkB b)=b then some ((Jj (b.drop 2)).1,mkB b) else none
theorem zNg (i:Nat) (b:List UInt8) (n r bt c x s l:Int) (o1:List SV) (o2:List Bool) (hb:b.length≤100000) (h1:o1.length≤1000) (h2:o2.length≤1000) :
    zes ((i:Int),b,n,r,bt,c,x,s,l,o1,o2)=some (match zc0 i b with | none=>(4,o1,o2) | some q=>(0,o1++[q.1],o2++[q.2])):=by
  have e1:=zdW 1 b 0 (by omega) (by omega)
  have l1:=zcD 1 b 0
  have e2:=zdW 1 (rdB 1 b 0).2.1 (rdB 1 b 0).2.2 (by omega) (by omega)
  have l2:=zcD 1 (rdB 1 b 0).2.1 (rdB 1 b 0).2.2
  have e3:=zeu (rdB 1 (rdB 1 b 0).2.1 (rdB 1 b 0).2.2).2.1.length (rdB 1 (rdB 1 b 0).2.1 (rdB 1 b 0).2.2).2.1 (rdB 1 (rdB 1 b 0).2.1 (rdB 1 b 0).2.2).2.2 (by omega)
  simp only [Int.cast_ofNat_Int] at e1 e2
  unfold zc0
  by_cases hs:b.length<2
  · rw [if_pos hs]
    have hd:(rdB (rdB 1 (rdB 1 b 0).2.1 (rdB 1 b 0).2.2).2.1.length (rdB 1 (rdB 1 b 0).2.1 (rdB 1 b 0).2.2).2.1 (rdB 1 (rdB 1 b 0).2.1 (rdB 1 b 0).2.2).2.2).1=[]:=by
      match b,hs with
      | [],_=>rfl
      | [a],_=>rfl
      | a::c::r,h=>simp only [List.length_cons] at h;omega
    simp only [zes,znH,Ws,zcU,zc,e1,e2,unP,zcc,zh1,e3,hd,zL1 [] (by simp)]
    rfl
  · have hE:rdB 1 b 0=(b.take 1,b.drop 1,0):=YW (by omega)
    have hE2:rdB 1 (b.drop 1) 0=((b.drop 1).take 1,b.drop 2,0):=by rw [YW (by rw [List.length_drop];omega),List.drop_drop]
    have hE3:rdB (b.drop 2).length (b.drop 2) 0=(b.drop 2,[],0):=by rw [YW (Nat.le_refl _),List.take_length,List.drop_length]
    rw [if_neg hs]
    rw [hE] at e1 e2 e3
    dsimp only at e1 e2 e3
    rw [hE2] at e2 e3
    dsimp only at e2 e3
    rw [hE3] at e3
    have hg := @zY3 (b.drop 2)
    have em : ∀z:Int,(z == 1)=decide (z=1):=fun _=>rfl
    simp only [zes,znH,Ws,zcU,zc,e1,e2,unP,zcc,zh1,e3,zL1 (b.drop 2) (by rw [List.length_drop];omega),em]
    have emk:decide (((num ((b.drop 1).take 1):Nat):Int)=1)=mkB b:=rfl
    rw [emk]
    generalize Jj (b.drop 2)=g at hg
    obtain ⟨⟨k,⟨va,vb⟩,d,⟨⟨aa,ab⟩,ad⟩,⟨ba,bb⟩,bd⟩,e⟩:=g
    simp only [zWN,unP,Z1] at hg ⊢
    by_cases he:e=0
    · rw [zo he,if_neg (fun h=>h he)]
      simp only [Bool.not_true,cond_false,zC3,zc]
      rw [if_neg (fun h=>h (hg he))]
      simp only [WP,zaE,ql,Wp,unP,List.length_singleton,emk]
      by_cases hq:ZM (i:Int) (k,(va,vb),d,((aa,ab),ad),(ba,bb),bd) (mkB b)=b
      · rw [if_pos hq,hq,beq_self_eq_true,Zf (show (o1.length+1)*104≤140737488355328 by omega),Zf (show (o2.length+1)*1≤140737488355328 by omega)]
        rfl
      · have hn:(ZM (i:Int) (k,(va,vb),d,((aa,ab),ad),(ba,bb),bd) (mkB b) == b)=false:=by rw [beq_eq_false_iff_ne];exact hq
        rw [if_neg hq,hn];rfl
    · rw [zn he,if_pos he];rfl
abbrev Im:=Int×Int×Int×Int×Int×Int×Int×Int×List SV×List Bool
def noI (e:Int):Im:=(0,0,0,0,0,0,0,e,[],[])
def zXm (l:List (List UInt8)) (n r b c x s lg e:Int):Im :=
  if e≠0∨x≠(l.length:Int) - 2 then noI 4 else
  match zbD zc0 0 (((Zh l).drop 1).take (l.length - 2)) with
  | none=>noI 4
  | some q=>if (Zh l)[l.length - 1]? ≠ some (Jr (l.take (l.length - 1))) then noI 5 else
    if wh n r b c x s lg (q.map (·.1)) (q.map (·.2))≠0 then noI (wh n r b c x s lg (q.map (·.1)) (q.map (·.2))) else (n,r,b,c,x,s,lg,0,q.map (·.1),q.map (·.2))
def zAj (l:List (List UInt8)):Im :=
  if l.length<2 then noI 1 else if qW l≠0 then noI (qW l) else if ¬kOk (Zi l)=true then noI 7 else
  zXm l (zbJ ((Zh l).headD [])).1 (zbJ ((Zh l).headD [])).2.1 (zbJ ((Zh l).headD [])).2.2.1 (zbJ ((Zh l).headD [])).2.2.2.1 (zbJ ((Zh l).headD [])).2.2.2.2.1 (zbJ ((Zh l).headD [])).2.2.2.2.2.1 (zbJ ((Zh l).headD [])).2.2.2.2.2.2.1 (zbJ ((Zh l).headD [])).2.2.2.2.2.2.2
theorem Zbu {l:List (List UInt8)} {k j:Nat} {x:List UInt8} (h:((l.drop 1).take k)[j]? = some x):l[1+j]? = some x∧j<k:=by
  have hj:j<k:=by
    apply Decidable.byContradiction;intro hn
    rw [List.getElem?_eq_none (by rw [List.length_take];omega)] at h;cases h
  rw [List.getElem?_take_of_lt hj,List.getElem?_drop] at h
  exact ⟨h,hj⟩
theorem zTC (l:List (List UInt8)) (hf:Fit l):zoF l=some (zAj l):=by
  have hlen:=hf.1
  unfold zAj
  simp only [zoF,zMF]
  by_cases h2:l.length<2
  · rw [if_pos h2,zo (show (l.length:Int)<2 by omega)];rfl
  rw [if_neg h2,zn (show ¬(l.length:Int)<2 by omega),cond_false,zJK l hf (by omega)]
  by_cases he:qW l=0
  rotate_left
  · rw [if_pos he,if_pos he]
    have:(qW l != 0)=true:=by simpa using he
    simp only [zc,unP,this,cond_true]
    rfl
  have he' : ¬(qW l≠0):=fun h=>h he
  rw [if_neg he',if_neg he']
  by_cases hk:kOk (Zi l)=true
  rotate_left
  · rw [if_neg hk,if_pos hk];rfl
  have hk' : ¬¬kOk (Zi l)=true:=fun h=>h hk
  rw [if_pos hk,if_neg hk']
  have hb:=z3Z hf
  have hbl:(Zh l).length=l.length:=by rw [Zh,List.length_map]
  obtain ⟨b0,hb0⟩ : ∃b0,(Zh l)[0]? = some b0:=⟨_,List.getElem?_eq_getElem (by omega)⟩
  have hh:(Zh l).headD []=b0:=by
    cases hq:Zh l with
    | nil=>rw [hq] at hbl;simp at hbl;omega
    | cons y r=>rw [hq] at hb0;cases hb0;rfl
  have hw1:IntKind.wrap .i64 (((Zh l).length:Int) - 1)=((l.length - 1:Nat):Int):=by rw [hbl,YS (by omega) (by omega)];omega
  rw [hh]
  simp only [zc,unP,bne_self_eq_false,cond_false,yL (show (0:Int)≤0∧(0:Int)<((Zh l).length:Int) by omega),cond_true,Int.toNat_zero,hb0,z8n b0 (by have:=hb.at hb0;omega),hw1]
  generalize zbJ b0=g
  obtain ⟨n,r,b,c,x,s,lg,e⟩:=g
  unfold zXm
  simp only [unP,Q5,zcm]
  have hw2:IntKind.wrap .i64 (((l.length - 1:Nat):Int) - 1)=(l.length:Int) - 2:=by rw [YS (by omega) (by omega)];omega
  have hc:(bif e != 0 then some true else some (x != IntKind.wrap .i64 (((l.length - 1:Nat):Int) - 1)):Option Bool)=some (decide (e≠0∨x≠(l.length:Int) - 2)):=by
    rw [hw2]
    by_cases h1:e=0
    · by_cases h3:x=(l.length:Int) - 2
      · rw [zn (by simp [h1,h3]),Z1,Z1,zo h1,zo h3];rfl
      · rw [zo (.inr h3),Z1,Z1,zo h1,zn h3];rfl
    · rw [zo (.inl h1),Z1,zn h1];rfl
  rw [hc,zc]
  by_cases hbad:e≠0∨x≠(l.length:Int) - 2
  · rw [zo hbad,if_pos hbad];rfl
  rw [zn hbad,if_neg hbad,cond_false,Int.toNat_natCast,yL (show (0:Int)≤((l.length - 1:Nat):Int)∧((l.length - 1:Nat):Int)<(((Zh l).length+1:Nat):Int) by omega),
    yL (show (0:Int)≤1∧(1:Int)<((l.length - 1+1:Nat):Int) by omega)]
  have hM:(((Zh l).drop 1).take (l.length - 2)).length=l.length - 2:=by rw [List.length_take,List.length_drop];omega
  have hloop:=zYn (((Zh l).drop 1).take (l.length - 2)) zc0 (fun j acc=>((j:Int),acc.map (·.1),acc.map (·.2)))
    (Yi (l,((l.length - 1:Nat):Int),l.length - 1 - 1,((l.length - 1 - 1:Nat):Int),n,r,b,c,x,s,lg,Zh l)) (.inl 4) (fun q => .inr (q.map (·.1),q.map (·.2)))
    (fun j y acc hj ha=>by
      obtain ⟨hj1,hlt⟩:=Zbu hj
      have hy:=hb.at hj1
      simp only [Yi,JB,zo (show (j:Int)<((l.length - 1 - 1:Nat):Int) by omega),cond_true,yL (show (0:Int)≤(j:Int)∧(j:Int)<((l.length - 1 - 1:Nat):Int) by omega),Int.toNat_natCast,hj1,zc,
        zNg j y n r b c x s lg (acc.map (·.1)) (acc.map (·.2)) (by omega) (by rw [List.length_map];omega) (by rw [List.length_map];omega),Zd (n:=j) (by omega)]
      cases zc0 j y with
      | none=>rfl
      | some q=>simp only [unP,bne_self_eq_false,cond_false,List.map_append,List.map_cons,List.map_nil])
    (fun acc ha=>by
      simp only [Yi,JB,hM,zn (show ¬((l.length - 2:Nat):Int)<((l.length - 1 - 1:Nat):Int) by omega),cond_false])
    (by omega)
  have hloop':zP (Yi (l,((l.length - 1:Nat):Int),l.length - 1 - 1,((l.length - 1 - 1:Nat):Int),n,r,b,c,x,s,lg,Zh l)) zZ (0,[],[])=_:=hloop
  simp only [Bool.and_self,cond_true,hloop',zc]
  cases zbD zc0 0 (((Zh l).drop 1).take (l.length - 2)) with
  | none=>rfl
  | some q =>
    dsimp only
    obtain ⟨z,hz⟩ : ∃z,(Zh l)[l.length - 1]? = some z:=⟨_,List.getElem?_eq_getElem (by omega)⟩
    have hft:=hf.take (l.length - 1)
    simp only [Sum.elim_inr,unP,yL (show (0:Int)≤((l.length - 1:Nat):Int)∧((l.length - 1:Nat):Int)<((Zh l).length:Int) by omega),cond_true,hz,zc,
      yL (show (0:Int)≤((l.length - 1:Nat):Int)∧((l.length - 1:Nat):Int)<((l.length+1:Nat):Int) by omega),zvv (l.take (l.length - 1)) (by have:=hft.1;omega) hft.flat,zdO]
    by_cases hze:z=Jr (l.take (l.length - 1))
    · rw [if_neg (fun h=>h (by rw [hze])),hze,beq_self_eq_true]
      simp only [Bool.not_true,cond_false,Z1]
      by_cases hci:wh n r b c x s lg (q.map (·.1)) (q.map (·.2))=0
      · rw [zo hci,if_neg (fun h=>h hci)];rfl
      · rw [zn hci,if_pos hci];rfl
    · have hn:(z == Jr (l.take (l.length - 1)))=false:=by rw [beq_eq_false_iff_ne];exact hze
      rw [if_pos (fun h=>hze (Option.some.inj h)),hn];rfl
end Go.Proofs.R9
namespace Go.Proofs.R9
open Go Go.AE Go.Plain
set_option maxRecDepth 100000
end Go.Proofs.R9
namespace Go.Proofs.R9
open Go Go.AE Go.Plain
set_option maxRecDepth 100000
def zhK (l:List (SV×Bool)):List (List UInt8):=(l.zipIdx).map fun q=>yB 21 (ZM (q.2:Int) q.1.1 q.1.2)
def yp (n r b c x s lg:Int) (l:List (SV×Bool)):List (List UInt8):=yB 20 (ZO n r b c x s lg)::zhK l
def ZA (n r b c x s lg:Int) (l:List (SV×Bool)):List (List UInt8):=yp n r b c x s lg l++[yB 22 (Jr (yp n r b c x s lg l))]
def YA (n r b c x s lg:Int) (ss:List SV) (cs:List Bool):Int×List (List UInt8) :=
  if wh n r b c x s lg ss cs≠0 then (wh n r b c x s lg ss cs,[]) else (0,ZA n r b c x s lg (ss.zip cs))
theorem zd2 (l:List (SV×Bool)):(zhK l).length=l.length:=by simp [zhK]
theorem z8t {l:List (SV×Bool)} {j:Nat} {q:SV×Bool} (h:l[j]? = some q):zhK (l.take (j+1))=zhK (l.take j)++[yB 21 (ZM (j:Int) q.1 q.2)]:=by
  have hj:j<l.length:=by apply Decidable.byContradiction;intro hn;rw [List.getElem?_eq_none (by omega)] at h;cases h
  unfold zhK
  rw [zgy h,List.zipIdx_append,List.map_append,List.length_take,show 0+min j l.length=j by omega]
  rfl
theorem zcN {n r b c x s lg:Int} {ss:List SV} {cs:List Bool} (h:wh n r b c x s lg ss cs=0) :
    zfQ n r b c x s lg∧(ss.length:Int)=x∧(cs.length:Int)=x∧(∀y ∈ ss,Za y=0):=by
  unfold wh at h
  split at h
  · rename_i h0;exact absurd h h0
  rename_i h0
  split at h
  · cases h
  rename_i h1
  split at h
  · rename_i h2;exact absurd h h2
  rename_i h2
  refine ⟨?_,Decidable.byContradiction fun h=>h1 (.inl h),Decidable.byContradiction fun h=>h1 (.inr h),fun y hy=>z6l (Decidable.not_not.1 h2) _ (List.mem_map_of_mem hy)⟩
  have h0:=Decidable.not_not.1 h0
  unfold zbH at h0
  by_cases hm:zfQ n r b c x s lg
  · exact hm
  · rw [if_neg hm] at h0;cases h0
theorem zem (n r b c x s lg:Int):(ZO n r b c x s lg).length≤600:=by
  unfold ZO
  have h1:=z3U (ZF n r b c x s lg++tail (ZF n r b c x s lg))
  have h2:=zra n r b c x s lg
  rw [List.length_append,Zk] at h1
  omega
theorem zo4 (l:List (List UInt8)):(Jr l).length≤600:=by
  unfold Jr
  have:=zX [] (l.length:Int) 2
  simp only [List.length_nil] at this
  rw [List.length_append,Zk];omega
theorem z9y {ss:List SV} {cs:List Bool} {j:Nat} {y:SV} {ch:Bool} (h1:ss[j]? = some y) (h2:cs[j]? = some ch):(ss.zip cs)[j]? = some (y,ch):=by
  rw [List.getElem?_zip_eq_some];exact ⟨h1,h2⟩
def Wb (n r b c x s lg:Int) (ss:List SV) (cs:List Bool) (j:Nat):List (List UInt8):=yp n r b c x s lg ((ss.zip cs).take j)
theorem zC9 {n r b c x s lg:Int} {ss:List SV} {cs:List Bool} {j:Nat}:(Wb n r b c x s lg ss cs j).length≤j+1:=by
  unfold Wb yp
  rw [List.length_cons,zd2,List.length_take];omega
theorem zKl {n r b c x s lg:Int} {ss:List SV} {cs:List Bool} {j:Nat} {y:SV} {ch:Bool} (h1:ss[j]? = some y) (h2:cs[j]? = some ch) :
    Wb n r b c x s lg ss cs (j+1)=Wb n r b c x s lg ss cs j++[yB 21 (ZM (j:Int) y ch)]:=by
  unfold Wb yp
  rw [z8t (z9y h1 h2)]
  rfl
theorem z4r (i:Int) (x:SV) (ch:Bool) (h:Za x=0):zb0 (i,x.fst,x.snd.fst.fst,x.snd.fst.snd,x.snd.snd.fst,x.snd.snd.snd.fst.fst.fst,x.snd.snd.snd.fst.fst.snd,x.snd.snd.snd.fst.snd,x.snd.snd.snd.snd.fst.fst,x.snd.snd.snd.snd.fst.snd,x.snd.snd.snd.snd.snd,ch)=some (ZM i x ch,0):=by
  have:=zC3 i x.fst x.snd.fst.fst x.snd.fst.snd x.snd.snd.fst x.snd.snd.snd.fst.fst.fst x.snd.snd.snd.fst.fst.snd x.snd.snd.snd.fst.snd x.snd.snd.snd.snd.fst.fst x.snd.snd.snd.snd.fst.snd x.snd.snd.snd.snd.snd ch
  rw [this]
  show some (if Za x≠0 then ([],Za x) else (ZM i x ch,0))=_
  rw [if_neg (fun h'=>h' h)]
theorem zZT (i:Int) (x:SV) (ch:Bool) (hi:InI i) (h:Za x=0):zdZ (i,x.fst,x.snd.fst.fst,x.snd.fst.snd,x.snd.snd.fst,x.snd.snd.snd.fst.fst.fst,x.snd.snd.snd.fst.fst.snd,x.snd.snd.snd.fst.snd,x.snd.snd.snd.snd.fst.fst,x.snd.snd.snd.snd.fst.snd,x.snd.snd.snd.snd.snd,ch)=some (ZM i x ch) :=
  zVK i x.fst x.snd.fst.fst x.snd.fst.snd x.snd.snd.fst x.snd.snd.snd.fst.fst.fst x.snd.snd.snd.fst.fst.snd x.snd.snd.snd.fst.snd x.snd.snd.snd.snd.fst.fst x.snd.snd.snd.snd.fst.snd x.snd.snd.snd.snd.snd ch hi h
theorem zLa (k:Nat) (t:List UInt8) (o:List (List UInt8)) (hk:k≤255) (ht:t.length≤600) (ho:o.length≤1000):zb7 ((k:Int),t,0,0,o)=some (true,0,o++[yB k t]):=by
  simp only [zb7,ztg,zXj k t hk ht,zc,unP,List.length_singleton,Zf (show (o.length+1)*16≤140737488355328 by omega)]
  rfl
theorem zkw {n r b c x s lg:Int} {l:List (SV×Bool)} (hl:l.length≤24) (hc : ∀q ∈ l,Za q.1=0):Fit (yp n r b c x s lg l):=by
  refine ⟨by unfold yp;rw [List.length_cons,zd2];omega,fun t ht => ?_⟩
  unfold yp at ht
  rcases List.mem_cons.1 ht with ht | ht
  · have e:=zfs (k:=20) (by omega) (zem n r b c x s lg)
    have:=zem n r b c x s lg
    rw [← ht] at e
    omega
  · unfold zhK at ht
    rw [List.mem_map] at ht
    obtain ⟨⟨q,i⟩,hq,rfl⟩:=ht
    have hm:q ∈ l:=by have:=List.mem_zipIdx hq;obtain ⟨_,_,h⟩:=this;rw [h];exact List.getElem_mem _
    have:=ziE (i:=(i:Int)) (c:=q.2) (hc q hm)
    have e:=zfs (k:=21) (b:=ZM (i:Int) q.1 q.2) (by omega) (by omega)
    dsimp only
    omega
theorem z6k {n r b c x s lg:Int} {l:List (SV×Bool)} (hl:l.length≤24) (hc : ∀q ∈ l,Za q.1=0):Fit (ZA n r b c x s lg l):=by
  have h:=zkw (n:=n) (r:=r) (b:=b) (c:=c) (x:=x) (s:=s) (lg:=lg) hl hc
  refine ⟨by unfold ZA yp;rw [List.length_append,List.length_cons,zd2,List.length_singleton];omega,fun t ht => ?_⟩
  unfold ZA at ht
  rcases List.mem_append.1 ht with ht | ht
  · exact h.2 t ht
  · have ht:=List.mem_singleton.1 ht
    have:=zo4 (yp n r b c x s lg l)
    have e:=zfs (k:=22) (by omega) this
    rw [← ht] at e
    omega
theorem zXn (n r b c x s lg:Int) (ss:List SV) (cs:List Bool):zoY (n,r,b,c,x,s,lg,ss,cs)=some (.inl (YA n r b c x s lg ss cs)):=by
  unfold YA
  simp only [zoY,zKW,zdO,zc,Z1]
  by_cases h:wh n r b c x s lg ss cs=0
  rotate_left
  · rw [zn h,if_pos h];rfl
  have hN : ¬(wh n r b c x s lg ss cs≠0):=fun h'=>h' h
  rw [zo h,if_neg hN]
  obtain ⟨hm,h1,h2,h3⟩:=zcN h
  have hx:=hm.1.1
  have hlz:(ss.zip cs).length=ss.length:=by rw [List.length_zip];omega
  have hp:zdr n r b c x s lg=(ZO n r b c x s lg,0):=by unfold zdr;rw [if_pos hm]
  have ha:=zLa 20 (ZO n r b c x s lg) [] (by omega) (zem ..) (by simp)
  have key : ∃y,zP (yV (ss,(ss.length:Int),n,r,b,c,x,s,lg,ss,cs)) zZ (((0:Nat):Int),0,Wb n r b c x s lg ss cs 0)=some y∧y = .inr (0,yp n r b c x s lg (ss.zip cs)):=by
    refine y0 ss (fun j (_:Unit)=>((j:Int),(0:Int),Wb n r b c x s lg ss cs j)) (fun _ _=>True) _ ?_ ?_ (s0:=()) trivial (by omega)
    · intro j y _ hj hlt _
      left
      obtain ⟨ch,hch⟩ : ∃ch,cs[j]? = some ch:=⟨_,List.getElem?_eq_getElem (by omega)⟩
      have hy:=h3 y (List.mem_of_getElem? hj)
      have hle:=ziE (i:=(j:Int)) (c:=ch) hy
      have hso := @zC9 n r b c x s lg ss cs j
      have ha:=zLa 21 (ZM (j:Int) y ch) (Wb n r b c x s lg ss cs j) (by omega) (by omega) (by omega)
      simp only [Int.cast_ofNat_Int] at ha
      refine ⟨(),?_,trivial⟩
      simp only [yV,Qf,zo (show (j:Int)<(ss.length:Int) by omega),cond_true,Z6 hj,Z6 hch,zc,z4r (j:Int) y ch hy,unP,ha,Bool.not_true,cond_false,zKl hj hch,Zd (n:=j) (by omega)]
    · intro _ _
      refine ⟨_,?_,rfl⟩
      have:Wb n r b c x s lg ss cs ss.length=yp n r b c x s lg (ss.zip cs):=by unfold Wb;rw [List.take_of_length_le (by omega)]
      simp only [yV,Qf,zn (show ¬(ss.length:Int)<(ss.length:Int) by omega),cond_false,this]
  obtain ⟨y,hy,rfl⟩:=key
  have hy':zP (yV (ss,(ss.length:Int),n,r,b,c,x,s,lg,ss,cs)) zZ (0,0,[]++[yB 20 (ZO n r b c x s lg)])=_:=hy
  have hcz : ∀q ∈ ss.zip cs,Za q.1=0:=fun q hq=>h3 q.1 (List.of_mem_zip (a:=q.1) (b:=q.2) hq).1
  have hfit:=zkw (n:=n) (r:=r) (b:=b) (c:=c) (x:=x) (s:=s) (lg:=lg) (l:=ss.zip cs) (by omega) hcz
  have hlast:=zLa 22 (Jr (yp n r b c x s lg (ss.zip cs))) (yp n r b c x s lg (ss.zip cs)) (by omega) (zo4 _) hfit.1
  simp only [Int.cast_ofNat_Int] at ha hlast
  have hfl:=hfit.1
  simp only [Bool.not_true,cond_false,zjm,zsu,zc,zlH,zv5,zPQ,hp,unP,ha,hy',Sum.elim_inr,QV,zch,beq_self_eq_true,cond_true,
    zvv _ (show (yp n r b c x s lg (ss.zip cs)).length≤100000 by omega) hfit.flat,hlast,bne_self_eq_false]
  rfl
theorem z1u (n r b c x s lg:Int) (ss:List SV) (cs:List Bool):zeZ (n,r,b,c,x,s,lg,ss,cs)=some (YA n r b c x s lg ss cs):=by
  unfold YA
  simp only [zeZ,zsv,zfc,zc,Z1]
  by_cases h:wh n r b c x s lg ss cs=0
  rotate_left
  · rw [zn h,if_pos h];rfl
  have hN : ¬(wh n r b c x s lg ss cs≠0):=fun h'=>h' h
  rw [zo h,if_neg hN]
  obtain ⟨hm,h1,h2,h3⟩:=zcN h
  have hx:=hm.1.1
  have hlz:(ss.zip cs).length=ss.length:=by rw [List.length_zip];omega
  have hp:zdr n r b c x s lg=(ZO n r b c x s lg,0):=by unfold zdr;rw [if_pos hm]
  have ha:=zcH 20 (ZO n r b c x s lg) (by omega) (zem ..)
  have key : ∃y,zP (yZ (n,r,b,c,x,s,lg,ss,cs)) zZ (((0:Nat):Int),Wb n r b c x s lg ss cs 0)=some y∧y=yp n r b c x s lg (ss.zip cs):=by
    refine y0 ss (fun j (_:Unit)=>((j:Int),Wb n r b c x s lg ss cs j)) (fun _ _=>True) _ ?_ ?_ (s0:=()) trivial (by omega)
    · intro j y _ hj hlt _
      left
      obtain ⟨ch,hch⟩ : ∃ch,cs[j]? = some ch:=⟨_,List.getElem?_eq_getElem (by omega)⟩
      have hy:=h3 y (List.mem_of_getElem? hj)
      have hle:=ziE (i:=(j:Int)) (c:=ch) hy
      have hso := @zC9 n r b c x s lg ss cs j
      have ha:=zcH 21 (ZM (j:Int) y ch) (by omega) (by omega)
      simp only [Int.cast_ofNat_Int] at ha
      refine ⟨(),?_,trivial⟩
      simp only [yZ,Ql,zo (show (j:Int)<(ss.length:Int) by omega),cond_true,Z6 hj,Z6 hch,zc,zZT (j:Int) y ch (by unfold InI;omega) hy,unP,ha,List.length_singleton,
        Zf (show ((Wb n r b c x s lg ss cs j).length+1)*16≤140737488355328 by omega),zKl hj hch,Zd (n:=j) (by omega)]
    · intro _ _
      refine ⟨_,?_,rfl⟩
      have:Wb n r b c x s lg ss cs ss.length=yp n r b c x s lg (ss.zip cs):=by unfold Wb;rw [List.take_of_length_le (by omega)]
      simp only [yZ,Ql,zn (show ¬(ss.length:Int)<(ss.length:Int) by omega),cond_false,this]
  obtain ⟨y,hy,rfl⟩:=key
  have hy':zP (yZ (n,r,b,c,x,s,lg,ss,cs)) zZ (0,[yB 20 (ZO n r b c x s lg)])=_:=hy
  have hcz : ∀q ∈ ss.zip cs,Za q.1=0:=fun q hq=>h3 q.1 (List.of_mem_zip (a:=q.1) (b:=q.2) hq).1
  have hfit:=zkw (n:=n) (r:=r) (b:=b) (c:=c) (x:=x) (s:=s) (lg:=lg) (l:=ss.zip cs) (by omega) hcz
  have hlast:=zcH 22 (Jr (yp n r b c x s lg (ss.zip cs))) (by omega) (zo4 _)
  simp only [Int.cast_ofNat_Int] at ha hlast
  have hfl:=hfit.1
  simp only [Bool.not_true,cond_false,z4A,hp,zc,unP,ha,hy',zFR _ (show (yp n r b c x s lg (ss.zip cs)).length≤100000 by omega) hfit.flat,hlast,List.length_singleton,
    Zf (show ((yp n r b c x s lg (ss.zip cs)).length+1)*16≤140737488355328 by omega),cond_true]
  rfl
end Go.Proofs.R9
namespace Go.Proofs.R9
open Go Go.AE Go.Plain
set_option maxRecDepth 100000
instance decVD:DecidableEq VD:=instDecidableEqProd
instance decP2:DecidableEq ((Int×Int)×List UInt8):=instDecidableEqProd
instance decP3:DecidableEq (VD×(Int×Int)×List UInt8):=instDecidableEqProd
instance decP4:DecidableEq (List UInt8×VD×(Int×Int)×List UInt8):=instDecidableEqProd
instance decP5:DecidableEq ((Int×Int)×List UInt8×VD×(Int×Int)×List UInt8):=instDecidableEqProd
instance decSV:DecidableEq SV:=instDecidableEqProd
instance decSVs:DecidableEq (List SV):=instDecidableEqList
theorem z8r {α:Type} [DecidableEq α] {l m:List α} (h:l.length=m.length):zbB (fun i x=>decide (m[i]? = some x)) 0 l=decide (l=m):=by
  rw [Bool.eq_iff_iff,zrF,decide_eq_true_eq]
  constructor
  · intro hh
    refine List.ext_getElem? fun j => ?_
    by_cases hj:j<l.length
    · have:=hh j l[j] (List.getElem?_eq_getElem hj)
      rw [decide_eq_true_eq,Nat.zero_add] at this
      rw [List.getElem?_eq_getElem hj,this]
    · rw [List.getElem?_eq_none (by omega),List.getElem?_eq_none (by omega)]
  · rintro rfl j x hj
    rw [decide_eq_true_eq,Nat.zero_add];exact hj
theorem z2R (x y:SV):(x.fst == y.fst&&(x.snd.fst.fst == y.snd.fst.fst&&(x.snd.fst.snd == y.snd.fst.snd&&true)&&(x.snd.snd.fst == y.snd.snd.fst&&(x.snd.snd.snd.fst.fst.fst == y.snd.snd.snd.fst.fst.fst&&(x.snd.snd.snd.fst.fst.snd == y.snd.snd.snd.fst.fst.snd&&true)&&(x.snd.snd.snd.fst.snd == y.snd.snd.snd.fst.snd&&true)&&(x.snd.snd.snd.snd.fst.fst == y.snd.snd.snd.snd.fst.fst&&(x.snd.snd.snd.snd.fst.snd == y.snd.snd.snd.snd.fst.snd&&true)&&(x.snd.snd.snd.snd.snd == y.snd.snd.snd.snd.snd&&true)&&true)))))=decide (x=y):=by
  obtain ⟨k,⟨va,vb⟩,d,⟨⟨aa,ab⟩,ad⟩,⟨ba,bb⟩,bd⟩:=x
  obtain ⟨k',⟨va',vb'⟩,d',⟨⟨aa',ab'⟩,ad'⟩,⟨ba',bb'⟩,bd'⟩:=y
  rw [Bool.eq_iff_iff,decide_eq_true_eq]
  simp only [Bool.and_true,Bool.and_eq_true,beq_iff_eq,Prod.mk.injEq]
theorem zR7 (n r b c x s l n' r' b' c' x' s' l':Int):(n == n'&&(r == r'&&(b == b'&&(c == c'&&(x == x'&&(s == s'&&(l == l'&&true))&&true)))))=decide (n=n'∧r=r'∧b=b'∧c=c'∧x=x'∧s=s'∧l=l'):=by
  rw [Bool.eq_iff_iff,decide_eq_true_eq]
  simp only [Bool.and_true,Bool.and_eq_true,beq_iff_eq]
theorem zcq {α Y:Type} [DecidableEq α] (l m:List α) (h:l.length=m.length) (f:Int→Option (Int ⊕ Y)) (bad good:Y)
    (hs : ∀(j:Nat) x y,l[j]? = some x→m[j]? = some y→f (j:Int)=some (if x=y then .inl ((j+1:Nat):Int) else .inr bad)) (he:f (l.length:Int)=some (.inr good)) (hl:l.length≤18446744073709551000) :
    zP f zZ 0=some (if l=m then good else bad):=by
  have:=zJb l (fun i x=>decide (m[i]? = some x)) f bad good (fun j x hj=>by
    have hlt:j<l.length:=by apply Decidable.byContradiction;intro hn;rw [List.getElem?_eq_none (by omega)] at hj;cases hj
    have hm:m[j]? = some m[j]:=List.getElem?_eq_getElem (by omega)
    rw [hs j x _ hj hm,hm]
    by_cases hx:x=m[j]
    · rw [if_pos hx,if_pos (by rw [decide_eq_true_eq,← hx])]
    · rw [if_neg hx,if_neg (by rw [decide_eq_true_eq];exact fun h=>hx (Option.some.inj h).symm)]) he hl
  rw [this,z8r h]
  by_cases he:l=m
  · rw [if_pos he,if_pos (by rw [decide_eq_true_eq];exact he)]
  · rw [if_neg he,if_neg (by rw [decide_eq_true_eq];exact he)]
theorem z4X (l m:List (List UInt8)) (hl:l.length≤1000000) (hm:m.length≤1000000):zgG (l,m)=some (decide (l=m)):=by
  simp only [zgG,zs0,Z1]
  by_cases h:l.length=m.length
  · have hlp:=zcq l m h (Ys (l,m)) (.inl ()) (.inr ()) (fun j x y hj hk=>by
      have hlt:j<l.length:=by apply Decidable.byContradiction;intro hn;rw [List.getElem?_eq_none (by omega)] at hj;cases hj
      simp only [Ys,jT,wc,QK,zo (show (j:Int)<(l.length:Int) by omega),zo (show (j:Int)<(m.length:Int) by omega),cond_true,zc,Z6 hj,Z6 hk,Zd (n:=j) (by omega)]
      by_cases hx:x=y
      · subst hx;rw [beq_self_eq_true,if_pos rfl];rfl
      · have:(x == y)=false:=by rw [beq_eq_false_iff_ne];exact hx
        rw [this,if_neg hx];rfl)
      (by simp only [Ys,jT,wc,QK,zn (show ¬(l.length:Int)<(l.length:Int) by omega),cond_false,zc]) (by omega)
    rw [zo (show (l.length:Int)=(m.length:Int) by omega),Bool.not_true,cond_false,hlp,zc]
    by_cases he:l=m
    · rw [if_pos he,zo he];rfl
    · rw [if_neg he,zn he];rfl
  · rw [zn (show ¬(l.length:Int)=(m.length:Int) by omega),zn (show ¬l=m from fun he=>h (by rw [he]))];rfl
theorem ztw (n r b c x s l:Int) (ss:List SV) (cs:List Bool) (n' r' b' c' x' s' l':Int) (ss':List SV) (cs':List Bool) (h1:ss.length≤1000000000) (h2:cs.length≤1000000000) :
    j3 (n,r,b,c,x,s,l,ss,cs,n',r',b',c',x',s',l',ss',cs')=some (decide ((n=n'∧r=r'∧b=b'∧c=c'∧x=x'∧s=s'∧l=l')∧ss=ss'∧cs=cs')):=by
  simp only [j3,zxf,WO,zbb,zR7,Z1]
  have fin : ∀v:Bool,(v=true↔((n=n'∧r=r'∧b=b'∧c=c'∧x=x'∧s=s'∧l=l')∧ss=ss'∧cs=cs'))→some v=some (decide ((n=n'∧r=r'∧b=b'∧c=c'∧x=x'∧s=s'∧l=l')∧ss=ss'∧cs=cs')):=fun v h=>by rw [Option.some.injEq,Bool.eq_iff_iff,decide_eq_true_eq];exact h
  have no : ∀{p:Prop},¬p→(false=true↔p):=fun h=>⟨fun h=>(by cases h),fun h'=>absurd h' h⟩
  by_cases h0:n=n'∧r=r'∧b=b'∧c=c'∧x=x'∧s=s'∧l=l'
  rotate_left
  · rw [zn h0];exact fin false (no fun h=>h0 h.1)
  rw [zo h0]
  by_cases hs:ss.length=ss'.length
  rotate_left
  · rw [zn (show ¬(ss.length:Int)=(ss'.length:Int) by omega)];exact fin false (no fun h=>hs (by rw [h.2.1]))
  rw [zo (show (ss.length:Int)=(ss'.length:Int) by omega)]
  by_cases hc:cs.length=cs'.length
  rotate_left
  · rw [zn (show ¬(cs.length:Int)=(cs'.length:Int) by omega)];exact fin false (no fun h=>hc (by rw [h.2.2]))
  rw [zo (show (cs.length:Int)=(cs'.length:Int) by omega)]
  have l1:=zcq ss ss' hs (Yl (n,r,b,c,x,s,l,ss,cs,n',r',b',c',x',s',l',ss',cs')) (.inl ()) (.inr ()) (fun j y z hj hk=>by
    have hlt:j<ss.length:=by apply Decidable.byContradiction;intro hn;rw [List.getElem?_eq_none (by omega)] at hj;cases hj
    simp only [Yl,QM,zo (show (j:Int)<(ss.length:Int) by omega),cond_true,zc,Z6 hj,Z6 hk,z2R,Zd (n:=j) (by omega)]
    by_cases hx:y=z
    · rw [zo hx,if_pos hx];rfl
    · rw [zn hx,if_neg hx];rfl)
    (by simp only [Yl,QM,zn (show ¬(ss.length:Int)<(ss.length:Int) by omega),cond_false]) (by omega)
  have l2:=zcq cs cs' hc (Yt (n,r,b,c,x,s,l,ss,cs,n',r',b',c',x',s',l',ss',cs')) (.inl ()) (.inr ()) (fun j y z hj hk=>by
    have hlt:j<cs.length:=by apply Decidable.byContradiction;intro hn;rw [List.getElem?_eq_none (by omega)] at hj;cases hj
    simp only [Yt,Qa,zo (show (j:Int)<(cs.length:Int) by omega),cond_true,zc,Z6 hj,Z6 hk,Zd (n:=j) (by omega)]
    by_cases hx:y=z
    · subst hx;rw [beq_self_eq_true,if_pos rfl];rfl
    · have:(y == z)=false:=by rw [beq_eq_false_iff_ne];exact hx
      rw [this,if_neg hx];rfl)
    (by simp only [Yt,Qa,zn (show ¬(cs.length:Int)<(cs.length:Int) by omega),cond_false]) (by omega)
  simp only [Bool.not_true,cond_false,zc,l1,l2]
  by_cases hS:ss=ss'
  · rw [if_pos hS]
    by_cases hC:cs=cs'
    · rw [if_pos hC];exact fin true ⟨fun _=>⟨h0,hS,hC⟩,fun _=>rfl⟩
    · rw [if_neg hC];exact fin false (no fun h=>hC h.2.2)
  · rw [if_neg hS];exact fin false (no fun h=>hS h.2.1)
theorem zNx (n r b c x s l:Int) (ss:List SV) (cs:List Bool) (n' r' b' c' x' s' l':Int) (ss':List SV) (cs':List Bool) (h1:ss.length≤1000000000) (h2:cs.length≤1000000000) :
    zek (n,r,b,c,x,s,l,ss,cs,n',r',b',c',x',s',l',ss',cs')=some (decide ((n=n'∧r=r'∧b=b'∧c=c'∧x=x'∧s=s'∧l=l')∧ss=ss'∧cs=cs')):=by
  simp only [zek,zvN,qb,J7,zR7]
  have fin : ∀v:Bool,(v=true↔((n=n'∧r=r'∧b=b'∧c=c'∧x=x'∧s=s'∧l=l')∧ss=ss'∧cs=cs'))→some v=some (decide ((n=n'∧r=r'∧b=b'∧c=c'∧x=x'∧s=s'∧l=l')∧ss=ss'∧cs=cs')):=fun v h=>by rw [Option.some.injEq,Bool.eq_iff_iff,decide_eq_true_eq];exact h
  have no : ∀{p:Prop},¬p→(false=true↔p):=fun h=>⟨fun h=>(by cases h),fun h'=>absurd h' h⟩
  by_cases h0:n=n'∧r=r'∧b=b'∧c=c'∧x=x'∧s=s'∧l=l'
  rotate_left
  · rw [zn h0];exact fin false (no fun h=>h0 h.1)
  rw [zo h0,cond_true]
  have e1:zgT (ss,ss')=some (decide (ss=ss')):=by
    simp only [zgT,zsU,Z1]
    by_cases hs:ss.length=ss'.length
    rotate_left
    · rw [zn (show ¬(ss.length:Int)=(ss'.length:Int) by omega),zn (show ¬ss=ss' from fun h=>hs (by rw [h]))];rfl
    rw [zo (show (ss.length:Int)=(ss'.length:Int) by omega)]
    have l1:=zcq ss ss' hs (Yp (ss,ss',(ss.length:Int))) (.inl ()) (.inr ()) (fun j y z hj hk=>by
      have hlt:j<ss.length:=by apply Decidable.byContradiction;intro hn;rw [List.getElem?_eq_none (by omega)] at hj;cases hj
      simp only [Yp,jy,zo (show (j:Int)<(ss.length:Int) by omega),cond_true,zc,Z6 hj,Z6 hk,z2R,Zd (n:=j) (by omega)]
      by_cases hx:y=z
      · rw [zo hx,if_pos hx];rfl
      · rw [zn hx,if_neg hx];rfl)
      (by simp only [Yp,jy,zn (show ¬(ss.length:Int)<(ss.length:Int) by omega),cond_false]) (by omega)
    simp only [Bool.not_true,cond_false,zc,l1]
    by_cases hS:ss=ss'
    · rw [if_pos hS,zo hS];rfl
    · rw [if_neg hS,zn hS];rfl
  have e2:zgK (cs,cs')=some (decide (cs=cs')):=by
    simp only [zgK,zsW,Z1]
    by_cases hs:cs.length=cs'.length
    rotate_left
    · rw [zn (show ¬(cs.length:Int)=(cs'.length:Int) by omega),zn (show ¬cs=cs' from fun h=>hs (by rw [h]))];rfl
    rw [zo (show (cs.length:Int)=(cs'.length:Int) by omega)]
    have l1:=zcq cs cs' hs (Yo (cs,cs',(cs.length:Int))) (.inl ()) (.inr ()) (fun j y z hj hk=>by
      have hlt:j<cs.length:=by apply Decidable.byContradiction;intro hn;rw [List.getElem?_eq_none (by omega)] at hj;cases hj
      simp only [Yo,QY,zo (show (j:Int)<(cs.length:Int) by omega),cond_true,zc,Z6 hj,Z6 hk,Zd (n:=j) (by omega)]
      by_cases hx:y=z
      · subst hx;rw [beq_self_eq_true,if_pos rfl];rfl
      · have:(y == z)=false:=by rw [beq_eq_false_iff_ne];exact hx
        rw [this,if_neg hx];rfl)
      (by simp only [Yo,QY,zn (show ¬(cs.length:Int)<(cs.length:Int) by omega),cond_false]) (by omega)
    simp only [Bool.not_true,cond_false,zc,l1]
    by_cases hS:cs=cs'
    · rw [if_pos hS,zo hS];rfl
    · rw [if_neg hS,zn hS];rfl
  simp only [e1,zc,e2]
  by_cases hS:ss=ss'
  · rw [zo hS]
    by_cases hC:cs=cs'
    · rw [zo hC];exact fin true ⟨fun _=>⟨h0,hS,hC⟩,fun _=>rfl⟩
    · rw [zn hC];exact fin false (no fun h=>hC h.2.2)
  · rw [zn hS];exact fin false (no fun h=>hS h.2.1)
theorem zOg {i:Nat} (hi:i<256) (x:SV) (ch:Bool):ZM (i:Int) x ch=be 1 i++(be 1 (y4 ch).toNat++ye x):=by
  have hm:=zJN ch
  unfold ZM
  rw [yN [] ⟨by omega,by simp only [Nat.reducePow];omega⟩,yN _ ⟨hm.1,by simp only [Nat.reducePow];omega⟩,List.nil_append,List.append_assoc,Int.toNat_natCast]
theorem z4B (ch:Bool):decide (((num (be 1 (y4 ch).toNat):Nat):Int)=1)=ch:=by cases ch <;> decide
theorem zW1 {i:Nat} (hi:i<256) {x:SV} {ch:Bool} (h:Za x=0):zc0 i (ZM (i:Int) x ch)=some (x,ch):=by
  have e:=zOg hi x ch
  have hl:(be 1 i).length=1:=zW ..
  have hl2:(be 1 (y4 ch).toNat).length=1:=zW ..
  have d1:(ZM (i:Int) x ch).drop 1=be 1 (y4 ch).toNat++ye x:=by rw [e,List.drop_left' hl]
  have d2:(ZM (i:Int) x ch).drop 2=ye x:=by rw [show 2=1+1 from rfl,← List.drop_drop,d1,List.drop_left' hl2]
  have hlen : ¬(ZM (i:Int) x ch).length<2:=by rw [e,List.length_append,List.length_append];omega
  have hm:mkB (ZM (i:Int) x ch)=ch:=by unfold mkB;rw [d1,List.take_left' hl2];exact z4B ch
  unfold zc0
  rw [if_neg hlen,d2,zOC h,hm,if_neg (fun h=>h rfl),if_pos rfl]
theorem zvK : ∀(l:List (SV×Bool)) (i:Nat),i+l.length≤256→(∀q ∈ l,Za q.1=0)→zbD zc0 i ((l.zipIdx i).map fun q=>ZM (q.2:Int) q.1.1 q.1.2)=some l
  | [],i,_,_=>rfl
  | q::r,i,h,hc=>by
    rw [List.length_cons] at h
    rw [List.zipIdx_cons,List.map_cons,zbD]
    dsimp only
    rw [zW1 (by omega) (hc q (List.mem_cons_self ..))]
    dsimp only
    rw [zvK r (i+1) (by omega) fun q hq=>hc q (List.mem_cons_of_mem _ hq)]
theorem zOy {n r b c x s lg:Int} (h:zfQ n r b c x s lg) :
    ZO n r b c x s lg=[83]++(be 1 n.toNat++(be 1 r.toNat++(be 4 b.toNat++(be 1 c.toNat++(be 1 x.toNat++(be 1 s.toNat++(be 2 lg.toNat++(tail (ZF n r b c x s lg)++List.replicate 48 0)))))))) ∧
      ZF n r b c x s lg=[83]++(be 1 n.toNat++(be 1 r.toNat++(be 4 b.toNat++(be 1 c.toNat++(be 1 x.toNat++(be 1 s.toNat++be 2 lg.toNat)))))):=by
  obtain ⟨⟨hx,hs,hl⟩,hn,hr,hb,hc⟩:=h
  have e:ZF n r b c x s lg=[83]++(be 1 n.toNat++(be 1 r.toNat++(be 4 b.toNat++(be 1 c.toNat++(be 1 x.toNat++(be 1 s.toNat++be 2 lg.toNat)))))):=by
    unfold ZF zib Wf
    rw [yN [83] ⟨hn.1,by simp only [Nat.reducePow];omega⟩,yN _ ⟨hr.1,by simp only [Nat.reducePow];omega⟩,yN _ ⟨hb.1,by simp only [Nat.reducePow];omega⟩,yN _ ⟨hc.1,by simp only [Nat.reducePow];omega⟩,
      yN _ ⟨by omega,by simp only [Nat.reducePow];omega⟩,yN _ ⟨by omega,by simp only [Nat.reducePow];omega⟩,yN _ ⟨by omega,by simp only [Nat.reducePow];omega⟩]
    simp only [List.append_assoc]
  refine ⟨?_,e⟩
  have hlen:(ZF n r b c x s lg).length=12:=by rw [e];simp only [List.length_append,zW,List.length_cons,List.length_nil]
  unfold ZO
  rw [zba (by omega),hlen]
  conv=>lhs;lhs;lhs;rw [e]
  simp only [List.append_assoc]
theorem q5 {k:Nat} {a:Int} (h:0≤a∧a<((256 ^ k:Nat):Int)):((num (be k a.toNat):Nat):Int)=a:=by
  rw [zl7,Nat.mod_eq_of_lt (by omega)];omega
theorem zZs {n r b c x s lg:Int} (h:zfQ n r b c x s lg):zbJ (ZO n r b c x s lg)=(n,r,b,c,x,s,lg,0):=by
  obtain ⟨e,eb⟩:=zOy h
  have hp:zdr n r b c x s lg=(ZO n r b c x s lg,0):=by unfold zdr;rw [if_pos h]
  obtain ⟨⟨hx,hs,hl⟩,hn,hr,hb,hc⟩:=h
  have htl:=Zk (ZF n r b c x s lg)
  have hlen:(ZO n r b c x s lg).length=64:=by rw [e];simp only [List.length_append,zW,List.length_cons,List.length_nil,htl,List.length_replicate]
  have hbl:(ZF n r b c x s lg).length=12:=by rw [eb];simp only [List.length_append,zW,List.length_cons,List.length_nil]
  have d1:(ZO n r b c x s lg).drop 1=be 1 n.toNat++(be 1 r.toNat++(be 4 b.toNat++(be 1 c.toNat++(be 1 x.toNat++(be 1 s.toNat++(be 2 lg.toNat++(tail (ZF n r b c x s lg)++List.replicate 48 0))))))):=by rw [e];rfl
  have d2:(ZO n r b c x s lg).drop 2=be 1 r.toNat++(be 4 b.toNat++(be 1 c.toNat++(be 1 x.toNat++(be 1 s.toNat++(be 2 lg.toNat++(tail (ZF n r b c x s lg)++List.replicate 48 0)))))):=by rw [show 2=1+1 from rfl,← List.drop_drop,d1,List.drop_left' (zW ..)]
  have d3:(ZO n r b c x s lg).drop 3=be 4 b.toNat++(be 1 c.toNat++(be 1 x.toNat++(be 1 s.toNat++(be 2 lg.toNat++(tail (ZF n r b c x s lg)++List.replicate 48 0))))):=by rw [show 3=2+1 from rfl,← List.drop_drop,d2,List.drop_left' (zW ..)]
  have d7:(ZO n r b c x s lg).drop 7=be 1 c.toNat++(be 1 x.toNat++(be 1 s.toNat++(be 2 lg.toNat++(tail (ZF n r b c x s lg)++List.replicate 48 0)))):=by rw [show 7=3+4 from rfl,← List.drop_drop,d3,List.drop_left' (zW ..)]
  have d8:(ZO n r b c x s lg).drop 8=be 1 x.toNat++(be 1 s.toNat++(be 2 lg.toNat++(tail (ZF n r b c x s lg)++List.replicate 48 0))):=by rw [show 8=7+1 from rfl,← List.drop_drop,d7,List.drop_left' (zW ..)]
  have d9:(ZO n r b c x s lg).drop 9=be 1 s.toNat++(be 2 lg.toNat++(tail (ZF n r b c x s lg)++List.replicate 48 0)):=by rw [show 9=8+1 from rfl,← List.drop_drop,d8,List.drop_left' (zW ..)]
  have d10:(ZO n r b c x s lg).drop 10=be 2 lg.toNat++(tail (ZF n r b c x s lg)++List.replicate 48 0):=by rw [show 10=9+1 from rfl,← List.drop_drop,d9,List.drop_left' (zW ..)]
  have d12:(ZO n r b c x s lg).drop 12=tail (ZF n r b c x s lg)++List.replicate 48 0:=by rw [show 12=10+2 from rfl,← List.drop_drop,d10,List.drop_left' (zW ..)]
  have t12:(ZO n r b c x s lg).take 12=ZF n r b c x s lg:=by
    have:ZO n r b c x s lg=ZF n r b c x s lg++(tail (ZF n r b c x s lg)++List.replicate 48 0):=by rw [e,eb];simp only [List.append_assoc]
    rw [this,List.take_left' hbl]
  have t1:(ZO n r b c x s lg).take 1=[83]:=by rw [e];rfl
  unfold zbJ
  rw [if_neg (fun h=>h hlen),t1,if_neg (fun h=>h rfl),d12,t12,List.take_left' htl,if_neg (fun h=>h rfl)]
  unfold nS
  rw [d1,d2,d3,d7,d8,d9,d10]
  simp only [List.take_left' (zW _ _)]
  rw [q5 ⟨hn.1,by simp only [Nat.reducePow];omega⟩,q5 ⟨hr.1,by simp only [Nat.reducePow];omega⟩,q5 ⟨hb.1,by simp only [Nat.reducePow];omega⟩,q5 ⟨hc.1,by simp only [Nat.reducePow];omega⟩,
    q5 ⟨by omega,by simp only [Nat.reducePow];omega⟩,q5 ⟨by omega,by simp only [Nat.reducePow];omega⟩,q5 ⟨by omega,by simp only [Nat.reducePow];omega⟩]
  unfold zJa
  rw [hp,if_pos rfl]
end Go.Proofs.R9
namespace Go.Proofs.R9
open Go Go.AE Go.Plain
set_option maxRecDepth 100000
theorem z5Y (n r b c x s lg:Int) (l:List (SV×Bool)):(ZA n r b c x s lg l).length=l.length+2:=by
  unfold ZA yp
  rw [List.length_append,List.length_cons,zd2,List.length_singleton]
theorem zUk {l:List (SV×Bool)} {q:(SV×Bool)×Nat} (h:q ∈ l.zipIdx):q.1 ∈ l∧q.2<l.length:=by
  obtain ⟨p,i⟩:=q
  obtain ⟨_,h2,h3⟩:=List.mem_zipIdx h
  exact ⟨by dsimp only;rw [h3];exact List.getElem_mem _,by dsimp only;omega⟩
theorem zUX {n r b c x s lg:Int} {l:List (SV×Bool)} (hc : ∀q ∈ l,Za q.1=0) :
    (ZA n r b c x s lg l).map Zy=(20,ZO n r b c x s lg,0)::(l.zipIdx.map fun q=>(21,ZM (q.2:Int) q.1.1 q.1.2,0))++[(22,Jr (yp n r b c x s lg l),0)]:=by
  have e0:=zfw (k:=20) (by omega) (zem n r b c x s lg)
  have e2:=zfw (k:=22) (by omega) (zo4 (yp n r b c x s lg l))
  simp only [Int.cast_ofNat_Int] at e0 e2
  have hmid:(zhK l).map Zy=l.zipIdx.map fun q=>(21,ZM (q.2:Int) q.1.1 q.1.2,0):=by
    unfold zhK
    rw [List.map_map]
    refine List.map_congr_left fun q hq => ?_
    have hm:=zUk hq
    have hle:=ziE (i:=(q.2:Int)) (c:=q.1.2) (hc q.1 hm.1)
    have e1:=zfw (k:=21) (b:=ZM (q.2:Int) q.1.1 q.1.2) (by omega) (by omega)
    simp only [Int.cast_ofNat_Int] at e1
    rw [Function.comp_apply,e1]
  have hall:(yp n r b c x s lg l).map Zy=(20,ZO n r b c x s lg,0)::(l.zipIdx.map fun q=>(21,ZM (q.2:Int) q.1.1 q.1.2,0)):=by
    unfold yp
    rw [List.map_cons,e0,hmid]
  unfold ZA
  rw [List.map_append,List.map_singleton,e2,hall]
theorem z7A (n:Nat):kOk (20::(List.replicate n 21++[22]))=true:=by
  unfold kOk
  rw [zrF]
  intro j x hj
  rw [decide_eq_true_eq,Nat.zero_add]
  have hlen:(20::(List.replicate n (21:Int)++[22])).length=n+2:=by simp
  rw [hlen]
  unfold zhY
  cases j with
  | zero=>cases hj;rw [if_pos rfl]
  | succ i =>
    rw [List.getElem?_cons_succ] at hj
    rw [if_neg (by omega)]
    by_cases h:i<n
    · rw [List.getElem?_append_left (by simpa using h),List.getElem?_replicate,if_pos h] at hj
      cases hj
      rw [if_neg (by omega)]
    · rw [List.getElem?_append_right (by simpa using h),List.length_replicate] at hj
      by_cases h2:i=n
      · subst h2
        rw [Nat.sub_self] at hj
        cases hj
        rw [if_pos (by omega)]
      · rw [List.getElem?_eq_none (by simp;omega)] at hj
        cases hj
theorem z1H {n r b c x s lg:Int} {ss:List SV} {cs:List Bool} (h:wh n r b c x s lg ss cs=0):zAj (ZA n r b c x s lg (ss.zip cs))=(n,r,b,c,x,s,lg,0,ss,cs):=by
  obtain ⟨hm,h1,h2,h3⟩:=zcN h
  have hx:=hm.1.1
  have hlz:(ss.zip cs).length=ss.length:=by rw [List.length_zip];omega
  have hcz : ∀q ∈ ss.zip cs,Za q.1=0:=fun q hq=>h3 q.1 (List.of_mem_zip (a:=q.1) (b:=q.2) hq).1
  have hf:(ss.zip cs).map (·.1)=ss:=List.map_fst_zip (by omega)
  have hs:(ss.zip cs).map (·.2)=cs:=List.map_snd_zip (by omega)
  generalize ss.zip cs=l at hlz hcz hf hs
  have hsl:=zUX (n:=n) (r:=r) (b:=b) (c:=c) (x:=x) (s:=s) (lg:=lg) hcz
  have hlen:=z5Y n r b c x s lg l
  have hE:qW (ZA n r b c x s lg l)=0:=by
    unfold qW
    have:((ZA n r b c x s lg l).map fun t=>(Zy t).2.2)=((ZA n r b c x s lg l).map Zy).map (·.2.2):=by rw [List.map_map];rfl
    rw [this,hsl]
    refine z8w fun y hy => ?_
    rw [List.mem_map] at hy
    obtain ⟨t,ht,rfl⟩:=hy
    rcases List.mem_append.1 ht with ht | ht
    · rcases List.mem_cons.1 ht with ht | ht
      · rw [ht]
      · rw [List.mem_map] at ht
        obtain ⟨q,_,rfl⟩:=ht
        rfl
    · rw [List.mem_singleton.1 ht]
  have hK:Zi (ZA n r b c x s lg l)=20::(List.replicate l.length 21++[22]):=by
    unfold Zi
    have:((ZA n r b c x s lg l).map fun t=>(Zy t).1)=((ZA n r b c x s lg l).map Zy).map (·.1):=by rw [List.map_map];rfl
    have hrep:List.map ((fun x:Int×List UInt8×Int=>x.1)∘fun q:(SV×Bool)×Nat=>((21:Int),ZM (q.2:Int) q.1.1 q.1.2,(0:Int))) l.zipIdx=List.replicate l.length 21:=by
      rw [List.eq_replicate_iff]
      exact ⟨by simp,fun b hb=>by rw [List.mem_map] at hb;obtain ⟨q,_,rfl⟩:=hb;rfl⟩
    rw [this,hsl,List.map_append,List.map_cons,List.map_map,List.map_singleton,List.cons_append,hrep]
  have hB:Zh (ZA n r b c x s lg l)=ZO n r b c x s lg::((l.zipIdx.map fun q=>ZM (q.2:Int) q.1.1 q.1.2)++[Jr (yp n r b c x s lg l)]):=by
    unfold Zh
    have:((ZA n r b c x s lg l).map fun t=>(Zy t).2.1)=((ZA n r b c x s lg l).map Zy).map (·.2.1):=by rw [List.map_map];rfl
    rw [this,hsl,List.map_append,List.map_cons,List.map_map,List.map_singleton,List.cons_append]
    rfl
  have hmid:(((Zh (ZA n r b c x s lg l)).drop 1).take ((ZA n r b c x s lg l).length - 2))=l.zipIdx.map fun q=>ZM (q.2:Int) q.1.1 q.1.2:=by
    rw [hB,hlen]
    show ((l.zipIdx.map fun q=>ZM (q.2:Int) q.1.1 q.1.2)++[Jr (yp n r b c x s lg l)]).take (l.length+2 - 2)=_
    rw [List.take_left' (by simp)]
  have hlast:(Zh (ZA n r b c x s lg l))[(ZA n r b c x s lg l).length - 1]? = some (Jr ((ZA n r b c x s lg l).take ((ZA n r b c x s lg l).length - 1))):=by
    have ha:(yp n r b c x s lg l).length=l.length+1:=by unfold yp;rw [List.length_cons,zd2]
    have ht:(ZA n r b c x s lg l).take ((ZA n r b c x s lg l).length - 1)=yp n r b c x s lg l:=by
      rw [hlen];unfold ZA;rw [List.take_left' (by omega)]
    rw [ht,hB,hlen,show l.length+2 - 1=l.length+1 by omega,List.getElem?_cons_succ,List.getElem?_append_right (by simp)]
    simp
  unfold zAj
  have hE' : ¬(qW (ZA n r b c x s lg l)≠0):=fun h=>h hE
  have hK' : ¬¬kOk (Zi (ZA n r b c x s lg l))=true:=fun h=>h (by rw [hK];exact z7A _)
  have hh:(Zh (ZA n r b c x s lg l)).headD []=ZO n r b c x s lg:=by rw [hB];rfl
  rw [if_neg (by omega),if_neg hE',if_neg hK',hh,zZs hm]
  dsimp only
  unfold zXm
  have hn : ¬((0:Int)≠0∨x≠(((ZA n r b c x s lg l).length:Nat):Int) - 2):=by
    rintro (h | h)
    · exact h rfl
    · exact h (by rw [hlen];omega)
  rw [if_neg hn,hmid,zvK l 0 (by omega) hcz]
  dsimp only
  have hl' : ¬((Zh (ZA n r b c x s lg l))[(ZA n r b c x s lg l).length - 1]? ≠ some (Jr ((ZA n r b c x s lg l).take ((ZA n r b c x s lg l).length - 1)))):=fun h=>h hlast
  rw [if_neg hl',hf,hs]
  have hq : ¬(wh n r b c x s lg ss cs≠0):=fun h'=>h' h
  rw [if_neg hq]
end Go.Proofs.R9
namespace Go.Proofs.R9
open Go Go.AE
noncomputable def yy:Env:=[(49,.func zx3),(92,.pure zXB),(91,.func zVW),(50,.func zqZ),(51,.func zr1),(96,.func zT3),(139,.func Fq0),(179,.pure Fq5),(140,.func Fq2),(141,.func Fq3),(93,.pure Fq1),(52,.pure Fq4),(55,.func zVn),(90,.pure z6b),(48,.pure z5G),(19,.func z4S),(106,.pure z38),(68,.pure z5j),(69,.pure z4z),(34,.pure zUO),(98,.pure z7C),(57,.pure zjN),(94,.pure z4b),(53,.pure zT1),(20,.pure z4R),(95,.func z68),(70,.func zXx),(246,.pure z4E),(224,.pure zTs),(311,.pure z36),(263,.pure z4U),(251,.pure z5z),(233,.pure z3S),(312,.pure z4G),(35,.pure zMn),(54,.pure z59),(181,.pure z6f),(182,.pure z6E),(143,.pure z4L),(180,.pure z6O),(142,.pure z6S),(97,.pure z4p),(56,.pure zTl),(22,.pure zTm),(14,.pure Fq6),(29,.pure z49),(75,.pure qz),(58,.pure Jm),(101,.func (orF zaY w9)),(144,.func qM),(100240,.iter (zhL .str) (zeb .str))]
theorem ZH:zf Tryz.prog yy:=zf.cons zgI (zf.cons zAL (zf.cons zBq (zf.cons zdm (zf.cons zdl (zf.cons zBw (zf.cons z2H (zf.cons z0y (zf.cons z1C (zf.cons zZb (zf.cons zZe (zf.cons zhd (zf.cons zxB (zf.cons zQm (zf.cons zSt (zf.cons zSg (zf.cons zRL (zf.cons zPG (zf.cons zRO (zf.cons zB5 (zf.cons zPi (zf.cons zbo (zf.cons zPe (zf.cons zCj (zf.cons zPS (zf.cons zRI (zf.cons zAI (zf.cons zSC (zf.cons zA7 (zf.cons zQ6 (zf.cons zQL (zf.cons zRc (zf.cons zRo (zf.cons zPs (zf.cons zpW (zf.cons zQX (zf.cons zP2 (zf.cons zRb (zf.cons zPW (zf.cons zRM (zf.cons zQA (zf.cons zRK (zf.cons zyy (zf.cons zCO (zf.cons zwW (zf.cons zPX (zf.cons zb5 (zf.cons zeU (zf.cons (zQ zlr ze7) (zf.cons zhe (zf.cons (zGg ▸ zL4) (zf.nil)))))))))))))))))))))))))))))))))))))))))))))))))))
def ZbF:List ZN:=[
  ⟨7,false,[(0,[0,2,4,5,6,8,51,52,53])]⟩,
  ⟨9,false,[]⟩,
  ⟨10,true,[(0,[2,3,5]),(2,[2,3,6])]⟩,
  ⟨17,false,[]⟩,
  ⟨18,false,[(0,[0,2,4,5,20,21])]⟩,
  ⟨21,false,[]⟩,
  ⟨28,false,[]⟩,
  ⟨30,false,[]⟩,
  ⟨40,false,[]⟩,
  ⟨41,true,[]⟩,
  ⟨42,false,[]⟩,
  ⟨43,false,[]⟩,
  ⟨44,false,[]⟩,
  ⟨45,false,[]⟩,
  ⟨46,false,[]⟩,
  ⟨47,false,[]⟩,
  ⟨66,false,[(0,[0,1,21,22,23])]⟩,
  ⟨74,false,[(0,[7,8])]⟩,
  ⟨76,true,[]⟩,
  ⟨77,false,[(0,[5,8,10,13,79,80])]⟩,
  ⟨78,false,[]⟩,
  ⟨79,false,[]⟩,
  ⟨80,false,[]⟩,
  ⟨81,false,[]⟩,
  ⟨82,false,[]⟩,
  ⟨83,false,[]⟩,
  ⟨84,false,[]⟩,
  ⟨85,false,[]⟩,
  ⟨86,false,[]⟩,
  ⟨87,false,[]⟩,
  ⟨88,false,[]⟩,
  ⟨89,true,[]⟩,
  ⟨99,false,[]⟩,
  ⟨100,false,[]⟩,
  ⟨108,true,[]⟩,
  ⟨109,true,[]⟩,
  ⟨110,false,[]⟩,
  ⟨111,false,[]⟩,
  ⟨112,false,[(0,[7,9,26]),(2,[7,9,44,45])]⟩,
  ⟨113,true,[]⟩,
  ⟨114,false,[(0,[8,28,29,30])]⟩,
  ⟨115,false,[]⟩,
  ⟨117,false,[(0,[0,4,6])]⟩,
  ⟨118,false,[]⟩,
  ⟨119,false,[]⟩,
  ⟨120,false,[]⟩,
  ⟨121,false,[]⟩,
  ⟨122,false,[(0,[0,15,16])]⟩,
  ⟨123,false,[]⟩,
  ⟨124,false,[]⟩,
  ⟨125,false,[]⟩,
  ⟨126,false,[]⟩,
  ⟨127,true,[]⟩,
  ⟨128,false,[]⟩,
  ⟨129,false,[]⟩,
  ⟨130,true,[]⟩,
  ⟨131,false,[]⟩,
  ⟨132,false,[]⟩,
  ⟨133,false,[]⟩,
  ⟨134,false,[]⟩,
  ⟨135,false,[]⟩,
  ⟨136,true,[]⟩,
  ⟨137,false,[(0,[0,1,8,18,19])]⟩,
  ⟨138,false,[]⟩,
  ⟨145,false,[]⟩,
  ⟨147,true,[]⟩,
  ⟨148,true,[]⟩,
  ⟨149,true,[]⟩,
  ⟨150,false,[]⟩,
  ⟨151,false,[(0,[0,8,19,20,21])]⟩,
  ⟨152,false,[]⟩,
  ⟨153,false,[]⟩,
  ⟨154,false,[]⟩,
  ⟨155,false,[]⟩,
  ⟨156,false,[(0,[0,27,28,29]),(2,[0,6,27,28,29,34,35,36])]⟩,
  ⟨157,false,[]⟩,
  ⟨158,false,[(0,[2,3,4,24,79])]⟩,
  ⟨159,false,[]⟩,
  ⟨160,false,[]⟩,
  ⟨161,false,[]⟩,
  ⟨162,false,[]⟩,
  ⟨163,false,[]⟩,
  ⟨164,true,[(0,[4,8,9])]⟩,
  ⟨165,true,[]⟩,
  ⟨166,false,[]⟩,
  ⟨167,false,[]⟩,
  ⟨168,false,[]⟩,
  ⟨169,false,[]⟩,
  ⟨170,false,[(0,[0,1,2,26,27])]⟩,
  ⟨171,false,[]⟩,
  ⟨172,false,[]⟩,
  ⟨173,false,[]⟩,
  ⟨174,false,[(0,[0,6,7,8])]⟩,
  ⟨175,true,[(0,[0,2,4,5,6,21])]⟩,
  ⟨176,true,[]⟩,
  ⟨177,true,[]⟩,
  ⟨178,true,[]⟩,
  ⟨185,false,[]⟩,
  ⟨186,false,[]⟩,
  ⟨187,false,[(1,[2,9,10])]⟩,
  ⟨188,false,[]⟩,
  ⟨190,true,[]⟩,
  ⟨191,false,[]⟩,
  ⟨192,false,[(1,[0,1,8,24,25])]⟩,
  ⟨193,true,[(0,[4,6,7,14,15,16])]⟩,
  ⟨194,false,[]⟩,
  ⟨195,false,[]⟩,
  ⟨196,false,[]⟩,
  ⟨197,false,[]⟩,
  ⟨198,false,[(0,[1,12,23])]⟩,
  ⟨199,false,[]⟩,
  ⟨200,false,[]⟩,
  ⟨201,false,[]⟩,
  ⟨202,false,[(0,[0,2,3,17,104])]⟩,
  ⟨203,true,[]⟩,
  ⟨204,false,[]⟩,
  ⟨205,false,[]⟩,
  ⟨206,false,[(0,[3,4,10,16])]⟩,
  ⟨207,true,[]⟩,
  ⟨208,true,[]⟩,
  ⟨209,true,[]⟩,
  ⟨210,true,[]⟩,
  ⟨215,true,[]⟩,
  ⟨216,true,[]⟩,
  ⟨217,false,[(0,[0])]⟩,
  ⟨218,false,[]⟩,
  ⟨219,false,[]⟩,
  ⟨220,false,[]⟩,
  ⟨221,false,[]⟩,
  ⟨222,true,[(0,[7,8,27,28,29])]⟩,
  ⟨223,false,[(1,[7,9,10])]⟩,
  ⟨225,true,[(0,[0,1,7,8])]⟩,
  ⟨226,true,[(0,[0,1])]⟩,
  ⟨227,true,[(0,[0,1])]⟩,
  ⟨228,false,[(0,[0,2,4])]⟩,
  ⟨229,false,[(0,[0,1])]⟩,
  ⟨230,false,[(0,[0,1])]⟩,
  ⟨231,true,[(0,[0,1])]⟩,
  ⟨232,true,[(0,[0,1])]⟩,
  ⟨237,true,[]⟩,
  ⟨238,false,[]⟩,
  ⟨239,false,[]⟩,
  ⟨242,true,[(1,[0,13,14,15])]⟩,
  ⟨243,true,[]⟩,
  ⟨244,false,[]⟩,
  ⟨245,false,[]⟩,
  ⟨247,false,[]⟩,
  ⟨248,true,[]⟩,
  ⟨249,true,[]⟩,
  ⟨250,true,[(0,[0,4,5,6])]⟩,
  ⟨252,false,[]⟩,
  ⟨253,false,[(0,[0,1,8,12,13])]⟩,
  ⟨254,true,[]⟩,
  ⟨255,false,[(0,[0,5,6,8,10,51,52]),(2,[0,8,10,11,77,78])]⟩,
  ⟨258,false,[]⟩,
  ⟨259,false,[]⟩,
  ⟨260,true,[]⟩,
  ⟨261,true,[(9,[175])]⟩,
  ⟨262,true,[]⟩,
  ⟨275,false,[(0,[0,1,7,8])]⟩,
  ⟨276,true,[]⟩,
  ⟨277,true,[]⟩,
  ⟨278,true,[]⟩,
  ⟨286,true,[]⟩]
def Zbl:List ZN:=[⟨116,false,[(0,[0,21,22,23])]⟩]
end Go.Proofs.R9
namespace Go.Proofs.R9
open Go Go.AE
set_option maxRecDepth 100000
def Zs:List UInt8:=List.replicate 64 0
def Yj:List ZN:=ZbF.filter fun r => !([112,114,116,125,77,78,43,18,9,7,10].any fun g=>Nat.beq g r.g)
def Yk:List ZN:=Zbl.filter fun r => !([112,114,116,125,77,78,43,18,9,7,10].any fun g=>Nat.beq g r.g)
def T0l:List AV:=[(.ptr 0 0),(.int .i64 15),(.int .i64 24)]
def T0h:List AE.Obj :=
  [.cells [(.own 1),(.map 2),(.own 3),(.int .i64 0),(.own 4),(.int .i64 0),(.bool false)],
  .arr .str (List.replicate 39 Zs),
  .mp .i64 .str [],
  .arr (.st (.pair (.int .i64) .str)) [],
  .arr (.int .i64) []]
def T0v:AV:=(.int .i64 0)
def T0k:List AE.Obj :=
  [.cells [(.own 1),(.map 2),(.own 5),(.int .i64 26),(.own 4),(.int .i64 0),(.bool false)],
  .arr .str (List.replicate 16 Zs++[([76,0,0,0,0,0,1,0,0,0,0,0,1,0,0,10,175,100,78]++List.replicate 45 0)]++List.replicate 22 Zs),
  .mp .i64 .str [],
  .arr (.st (.pair (.int .i64) .str)) [(15,Zs),(16,Zs),(17,Zs),(18,Zs),(19,Zs),(20,Zs),(21,Zs),(22,Zs),(23,Zs),(24,Zs),(25,Zs),(26,Zs),(27,Zs),(28,Zs),(29,Zs),(30,Zs),(31,Zs),(32,Zs),(33,Zs),(34,Zs),(35,Zs),(36,Zs),(37,Zs),(38,Zs),(16,([76,0,0,0,0,0,1,0,0,0,0,0,1,0,0,10,175,100,78]++List.replicate 45 0))],
  .arr (.int .i64) [],
  .arr (.st (.pair (.int .i64) .str)) []]
noncomputable def T0f:=yI T0l T0h T0v T0k
def T1l:List AV:=[(.ptr 0 0),(.int .i64 15),(.int .i64 24)]
def T1h:List AE.Obj :=
  [.cells [(.own 1),(.map 2),(.own 3),(.int .i64 26),(.own 4),(.int .i64 0),(.bool false)],
  .arr .str (List.replicate 16 Zs++[([76,0,0,0,0,0,1,0,0,0,0,0,1,0,0,10,175,100,78]++List.replicate 45 0)]++List.replicate 22 Zs),
  .mp .i64 .str [],
  .arr (.st (.pair (.int .i64) .str)) [],
  .arr (.int .i64) []]
def T1v:AV:=(.tup [(.ptr 5 0),(.int .i64 0)])
def T1k:List AE.Obj :=
  [.cells [(.own 1),(.map 2),(.own 6),(.int .i64 33),(.own 4),(.int .i64 0),(.bool false)],
  .arr .str (List.replicate 15 Zs++[([76,0,0,0,0,0,2,0,0,0,0,0,25,0,0,7,97,220,101]++List.replicate 45 0),([76,0,0,0,0,0,1,0,0,0,0,0,1,0,0,10,175,100,78]++List.replicate 45 0)]++List.replicate 22 Zs),
  .mp .i64 .str [],
  .arr (.st (.pair (.int .i64) .str)) [],
  .arr (.int .i64) [],
  .cells [(.ptr 0 0),(.ptr 7 0),(.ptr 8 0),(.int .i64 15),(.int .i64 24),(.int .i64 2),(.int .i64 0),(.int .i64 25),(.int .i64 0),(.bool false),(.bool false),(.ptr 9 0)],
  .arr (.st (.pair (.int .i64) .str)) [],
  .cells [(.ptr 0 0),(.int .i64 15),(.int .i64 2)],
  .cells [(.ptr 0 0),(.int .i64 17),(.int .i64 22)],
  .cells [(.map 10),(.map 11)],
  .mp .i64 .str [],
  .mp .i64 .str []]
noncomputable def T1f:=yI T1l T1h T1v T1k
def T2l:List AV:=[(.ptr 0 0),(.sub 1 0 3 1)]
def T2h:List AE.Obj :=
  [.cells [(.ptr 2 0),(.int .i64 0),(.int .i64 0),(.int .i64 0),(.int .i64 0),(.int .i64 3),(.int .i64 1),(.int .i64 24),(.ptr 3 0),(.ptr 4 0),(.ptr 5 0)],
  .cells [(.fn (.func 117) [(.ptr 3 0)] []),(.fn (.func 118) [] [(.ptr 6 0),(.ptr 7 0)]),(.fn (.func 120) [] [(.ptr 6 0),(.ptr 8 0),(.ptr 9 0)])],
  .cells [(.ptr 10 0),(.ptr 11 0),(.ptr 12 0),(.int .i64 15),(.int .i64 24),(.int .i64 2),(.int .i64 0),(.int .i64 25),(.int .i64 0),(.bool false),(.bool false),(.ptr 13 0)],
  .cells [(.ptr 2 0),(.int .i64 3),(.int .i64 1),(.int .i64 24)],
  .cells [(.ptr 2 0),(.int .i64 3),(.int .i64 1),(.int .i64 24)],
  .cells [(.int .i64 3),(.own 14)],
  .cells [(.ptr 2 0)],
  .cells [(.int .i64 0),(.int .i64 0),(.int .i64 0),(.int .i64 0),(.int .i64 3),(.int .i64 1),(.int .i64 24)],
  .cells [(.int .i64 3),(.int .i64 1),(.int .i64 24)],
  .cells [(.ptr 0 0)],
  .cells [(.own 15),(.map 16),(.own 17),(.int .i64 33),(.own 18),(.int .i64 0),(.bool false)],
  .cells [(.ptr 10 0),(.int .i64 15),(.int .i64 2)],
  .cells [(.ptr 10 0),(.int .i64 17),(.int .i64 22)],
  .cells [(.map 19),(.map 20)],
  .arr (.int .u8) [0],
  .arr .str (List.replicate 15 Zs++[([76,0,0,0,0,0,2,0,0,0,0,0,25,0,0,7,97,220,101]++List.replicate 45 0),([76,0,0,0,0,0,1,0,0,0,0,0,1,0,0,10,175,100,78]++List.replicate 45 0)]++List.replicate 22 Zs),
  .mp .i64 .str [],
  .arr (.st (.pair (.int .i64) .str)) [],
  .arr (.int .i64) [],
  .mp .i64 .str [],
  .mp .i64 .str []]
def T2v:AV:=(.int .i64 0)
def T2k:List AE.Obj :=
  [.cells [(.ptr 2 0),(.int .i64 0),(.int .i64 0),(.int .i64 0),(.int .i64 0),(.int .i64 3),(.int .i64 1),(.int .i64 24),(.ptr 3 0),(.ptr 4 0),(.ptr 5 0)],
  .cells [(.fn (.func 117) [(.ptr 3 0)] []),(.fn (.func 118) [] [(.ptr 6 0),(.ptr 7 0)]),(.fn (.func 120) [] [(.ptr 6 0),(.ptr 8 0),(.ptr 9 0)])],
  .cells [(.ptr 10 0),(.ptr 11 0),(.ptr 12 0),(.int .i64 15),(.int .i64 24),(.int .i64 2),(.int .i64 5),(.int .i64 26),(.int .i64 5),(.bool false),(.bool true),(.ptr 13 0)],
  .cells [(.ptr 2 0),(.int .i64 3),(.int .i64 1),(.int .i64 24)],
  .cells [(.ptr 2 0),(.int .i64 3),(.int .i64 1),(.int .i64 24)],
  .cells [(.int .i64 3),(.own 14)],
  .cells [(.ptr 2 0)],
  .cells [(.int .i64 0),(.int .i64 0),(.int .i64 0),(.int .i64 0),(.int .i64 3),(.int .i64 1),(.int .i64 24)],
  .cells [(.int .i64 3),(.int .i64 1),(.int .i64 24)],
  .cells [(.ptr 0 0)],
  .cells [(.own 15),(.map 16),(.own 17),(.int .i64 38),(.own 18),(.int .i64 0),(.bool false)],
  .cells [(.ptr 10 0),(.int .i64 15),(.int .i64 2)],
  .cells [(.ptr 10 0),(.int .i64 17),(.int .i64 22)],
  .cells [(.map 19),(.map 21)],
  .arr (.int .u8) [0],
  .arr .str (List.replicate 15 Zs++[([76,0,0,0,0,0,2,0,0,0,0,0,25,0,0,7,97,220,101]++List.replicate 45 0),([76,0,0,0,0,0,1,0,0,0,0,0,1,0,0,10,175,100,78]++List.replicate 45 0)]++List.replicate 22 Zs),
  .mp .i64 .str [(18,([83,0,0,0,0,0,0,0,3,1,0,24,28,19,43,48]++List.replicate 48 0)),(19,([74,3,0,199,130,97,169]++List.replicate 57 0)),(20,([69]++List.replicate 30 0++[231,223,105,83]++List.replicate 29 0)),(21,([69]++List.replicate 30 0++[231,223,105,83]++List.replicate 29 0)),(17,([82,0,0,0,0,0,25,4,0,0,0,1,0,2,0,3,117,167,109,229]++List.replicate 44 0))],
  .arr (.st (.pair (.int .i64) .str)) [(18,([83,0,0,0,0,0,0,0,3,1,0,24,28,19,43,48]++List.replicate 48 0)),(19,([74,3,0,199,130,97,169]++List.replicate 57 0)),(20,([69]++List.replicate 30 0++[231,223,105,83]++List.replicate 29 0)),(21,([69]++List.replicate 30 0++[231,223,105,83]++List.replicate 29 0)),(17,([82,0,0,0,0,0,25,4,0,0,0,1,0,2,0,3,117,167,109,229]++List.replicate 44 0))],
  .arr (.int .i64) [],
  .mp .i64 .str [(0,([83,0,0,0,0,0,0,0,3,1,0,24,28,19,43,48]++List.replicate 48 0)),(1,([74,3,0,199,130,97,169]++List.replicate 57 0)),(2,([69]++List.replicate 30 0++[231,223,105,83]++List.replicate 29 0)),(3,([69]++List.replicate 30 0++[231,223,105,83]++List.replicate 29 0))],
  .mp .i64 .str [(2,([69]++List.replicate 30 0++[231,223,105,83]++List.replicate 29 0)),(3,([69]++List.replicate 30 0++[231,223,105,83]++List.replicate 29 0)),(0,([83,0,0,0,0,0,0,0,3,1,0,24,28,19,43,48]++List.replicate 48 0)),(1,([74,3,0,199,130,97,169]++List.replicate 57 0))],
  .mp .i64 .str []]
noncomputable def T2f:=yI T2l T2h T2v T2k
def T3l:List AV:=[(.ptr 0 0),(.sub 1 0 1 1)]
def T3h:List AE.Obj :=
  [.cells [(.ptr 2 0),(.int .i64 0),(.int .i64 0),(.int .i64 0),(.int .i64 0),(.int .i64 3),(.int .i64 1),(.int .i64 24),(.ptr 3 0),(.ptr 4 0),(.ptr 5 0)],
  .cells [(.fn (.func 122) [(.ptr 4 0)] [])],
  .cells [(.ptr 6 0),(.ptr 7 0),(.ptr 8 0),(.int .i64 15),(.int .i64 24),(.int .i64 2),(.int .i64 5),(.int .i64 26),(.int .i64 5),(.bool false),(.bool true),(.ptr 9 0)],
  .cells [(.ptr 2 0),(.int .i64 3),(.int .i64 1),(.int .i64 24)],
  .cells [(.ptr 2 0),(.int .i64 3),(.int .i64 1),(.int .i64 24)],
  .cells [(.int .i64 3),(.own 10)],
  .cells [(.own 11),(.map 12),(.own 13),(.int .i64 38),(.own 14),(.int .i64 0),(.bool false)],
  .cells [(.ptr 6 0),(.int .i64 15),(.int .i64 2)],
  .cells [(.ptr 6 0),(.int .i64 17),(.int .i64 22)],
  .cells [(.map 15),(.map 16)],
  .arr (.int .u8) [0],
  .arr .str (List.replicate 15 Zs++[([76,0,0,0,0,0,2,0,0,0,0,0,25,0,0,7,97,220,101]++List.replicate 45 0),([76,0,0,0,0,0,1,0,0,0,0,0,1,0,0,10,175,100,78]++List.replicate 45 0)]++List.replicate 22 Zs),
  .mp .i64 .str [(18,([83,0,0,0,0,0,0,0,3,1,0,24,28,19,43,48]++List.replicate 48 0)),(19,([74,3,0,199,130,97,169]++List.replicate 57 0)),(20,([69]++List.replicate 30 0++[231,223,105,83]++List.replicate 29 0)),(21,([69]++List.replicate 30 0++[231,223,105,83]++List.replicate 29 0)),(17,([82,0,0,0,0,0,25,4,0,0,0,1,0,2,0,3,117,167,109,229]++List.replicate 44 0))],
  .arr (.st (.pair (.int .i64) .str)) [(18,([83,0,0,0,0,0,0,0,3,1,0,24,28,19,43,48]++List.replicate 48 0)),(19,([74,3,0,199,130,97,169]++List.replicate 57 0)),(20,([69]++List.replicate 30 0++[231,223,105,83]++List.replicate 29 0)),(21,([69]++List.replicate 30 0++[231,223,105,83]++List.replicate 29 0)),(17,([82,0,0,0,0,0,25,4,0,0,0,1,0,2,0,3,117,167,109,229]++List.replicate 44 0))],
  .arr (.int .i64) [],
  .mp .i64 .str [(0,([83,0,0,0,0,0,0,0,3,1,0,24,28,19,43,48]++List.replicate 48 0)),(1,([74,3,0,199,130,97,169]++List.replicate 57 0)),(2,([69]++List.replicate 30 0++[231,223,105,83]++List.replicate 29 0)),(3,([69]++List.replicate 30 0++[231,223,105,83]++List.replicate 29 0))],
  .mp .i64 .str []]
def T3v:AV:=(.int .i64 0)
def T3k:List AE.Obj :=
  [.cells [(.ptr 2 0),(.int .i64 0),(.int .i64 0),(.int .i64 0),(.int .i64 0),(.int .i64 3),(.int .i64 1),(.int .i64 24),(.ptr 3 0),(.ptr 4 0),(.ptr 5 0)],
  .cells [(.fn (.func 122) [(.ptr 4 0)] [])],
  .cells [(.ptr 6 0),(.ptr 7 0),(.ptr 8 0),(.int .i64 15),(.int .i64 24),(.int .i64 2),(.int .i64 7),(.int .i64 27),(.int .i64 7),(.bool false),(.bool true),(.ptr 9 0)],
  .cells [(.ptr 2 0),(.int .i64 3),(.int .i64 1),(.int .i64 24)],
  .cells [(.ptr 2 0),(.int .i64 3),(.int .i64 1),(.int .i64 24)],
  .cells [(.int .i64 3),(.own 10)],
  .cells [(.own 11),(.map 12),(.own 13),(.int .i64 40),(.own 14),(.int .i64 0),(.bool false)],
  .cells [(.ptr 6 0),(.int .i64 15),(.int .i64 2)],
  .cells [(.ptr 6 0),(.int .i64 17),(.int .i64 22)],
  .cells [(.map 15),(.map 17)],
  .arr (.int .u8) [0],
  .arr .str (List.replicate 15 Zs++[([76,0,0,0,0,0,2,0,0,0,0,0,25,0,0,7,97,220,101]++List.replicate 45 0),([76,0,0,0,0,0,1,0,0,0,0,0,1,0,0,10,175,100,78]++List.replicate 45 0)]++List.replicate 22 Zs),
  .mp .i64 .str [(18,([83,0,0,0,0,0,0,0,3,1,0,24,28,19,43,48]++List.replicate 48 0)),(19,([74,3,0,199,130,97,169]++List.replicate 57 0)),(20,([69]++List.replicate 30 0++[231,223,105,83]++List.replicate 29 0)),(21,([69]++List.replicate 30 0++[231,223,105,83]++List.replicate 29 0)),(17,([82,0,0,0,0,0,25,4,0,0,0,1,0,2,0,3,117,167,109,229]++List.replicate 44 0)),(23,Zs),(22,([82,0,0,0,0,0,26,1,0,10,83,154,189,196]++List.replicate 50 0))],
  .arr (.st (.pair (.int .i64) .str)) [(18,([83,0,0,0,0,0,0,0,3,1,0,24,28,19,43,48]++List.replicate 48 0)),(19,([74,3,0,199,130,97,169]++List.replicate 57 0)),(20,([69]++List.replicate 30 0++[231,223,105,83]++List.replicate 29 0)),(21,([69]++List.replicate 30 0++[231,223,105,83]++List.replicate 29 0)),(17,([82,0,0,0,0,0,25,4,0,0,0,1,0,2,0,3,117,167,109,229]++List.replicate 44 0)),(23,Zs),(22,([82,0,0,0,0,0,26,1,0,10,83,154,189,196]++List.replicate 50 0))],
  .arr (.int .i64) [],
  .mp .i64 .str [(0,([83,0,0,0,0,0,0,0,3,1,0,24,28,19,43,48]++List.replicate 48 0)),(1,([74,3,0,199,130,97,169]++List.replicate 57 0)),(2,([69]++List.replicate 30 0++[231,223,105,83]++List.replicate 29 0)),(3,([69]++List.replicate 30 0++[231,223,105,83]++List.replicate 29 0)),(10,Zs)],
  .mp .i64 .str [(10,Zs)],
  .mp .i64 .str []]
noncomputable def T3f:=yI T3l T3h T3v T3k
def T4l:List AV:=[(.ptr 0 0),(.sub 1 0 1 1)]
def T4h:List AE.Obj :=
  [.cells [(.ptr 2 0),(.int .i64 0),(.int .i64 0),(.int .i64 0),(.int .i64 0),(.int .i64 3),(.int .i64 1),(.int .i64 24),(.ptr 3 0),(.ptr 4 0),(.ptr 5 0)],
  .cells [(.fn (.func 123) [] [(.ptr 6 0),(.ptr 7 0),(.ptr 8 0),(.ptr 9 0)])],
  .cells [(.ptr 10 0),(.ptr 11 0),(.ptr 12 0),(.int .i64 15),(.int .i64 24),(.int .i64 2),(.int .i64 7),(.int .i64 27),(.int .i64 7),(.bool false),(.bool true),(.ptr 13 0)],
  .cells [(.ptr 2 0),(.int .i64 3),(.int .i64 1),(.int .i64 24)],
  .cells [(.ptr 2 0),(.int .i64 3),(.int .i64 1),(.int .i64 24)],
  .cells [(.int .i64 3),(.own 14)],
  .cells [(.ptr 2 0)],
  .cells [(.int .i64 3),(.int .i64 1),(.int .i64 24)],
  .cells [(.int .i64 0)],
  .cells [(.str (List.replicate 128 0))],
  .cells [(.own 15),(.map 16),(.own 17),(.int .i64 40),(.own 18),(.int .i64 0),(.bool false)],
  .cells [(.ptr 10 0),(.int .i64 15),(.int .i64 2)],
  .cells [(.ptr 10 0),(.int .i64 17),(.int .i64 22)],
  .cells [(.map 19),(.map 20)],
  .arr (.int .u8) [0],
  .arr .str (List.replicate 15 Zs++[([76,0,0,0,0,0,2,0,0,0,0,0,25,0,0,7,97,220,101]++List.replicate 45 0),([76,0,0,0,0,0,1,0,0,0,0,0,1,0,0,10,175,100,78]++List.replicate 45 0)]++List.replicate 22 Zs),
  .mp .i64 .str [(18,([83,0,0,0,0,0,0,0,3,1,0,24,28,19,43,48]++List.replicate 48 0)),(19,([74,3,0,199,130,97,169]++List.replicate 57 0)),(20,([69]++List.replicate 30 0++[231,223,105,83]++List.replicate 29 0)),(21,([69]++List.replicate 30 0++[231,223,105,83]++List.replicate 29 0)),(17,([82,0,0,0,0,0,25,4,0,0,0,1,0,2,0,3,117,167,109,229]++List.replicate 44 0)),(23,Zs),(22,([82,0,0,0,0,0,26,1,0,10,83,154,189,196]++List.replicate 50 0))],
  .arr (.st (.pair (.int .i64) .str)) [(18,([83,0,0,0,0,0,0,0,3,1,0,24,28,19,43,48]++List.replicate 48 0)),(19,([74,3,0,199,130,97,169]++List.replicate 57 0)),(20,([69]++List.replicate 30 0++[231,223,105,83]++List.replicate 29 0)),(21,([69]++List.replicate 30 0++[231,223,105,83]++List.replicate 29 0)),(17,([82,0,0,0,0,0,25,4,0,0,0,1,0,2,0,3,117,167,109,229]++List.replicate 44 0)),(23,Zs),(22,([82,0,0,0,0,0,26,1,0,10,83,154,189,196]++List.replicate 50 0))],
  .arr (.int .i64) [],
  .mp .i64 .str [(0,([83,0,0,0,0,0,0,0,3,1,0,24,28,19,43,48]++List.replicate 48 0)),(1,([74,3,0,199,130,97,169]++List.replicate 57 0)),(2,([69]++List.replicate 30 0++[231,223,105,83]++List.replicate 29 0)),(3,([69]++List.replicate 30 0++[231,223,105,83]++List.replicate 29 0)),(10,Zs)],
  .mp .i64 .str []]
def T4v:AV:=(.int .i64 0)
def T4k:List AE.Obj :=
  [.cells [(.ptr 2 0),(.int .i64 0),(.int .i64 0),(.int .i64 0),(.int .i64 0),(.int .i64 3),(.int .i64 1),(.int .i64 24),(.ptr 3 0),(.ptr 4 0),(.ptr 5 0)],
  .cells [(.fn (.func 123) [] [(.ptr 6 0),(.ptr 7 0),(.ptr 8 0),(.ptr 9 0)])],
  .cells [(.ptr 10 0),(.ptr 11 0),(.ptr 12 0),(.int .i64 15),(.int .i64 24),(.int .i64 2),(.int .i64 10),(.int .i64 28),(.int .i64 10),(.bool false),(.bool true),(.ptr 13 0)],
  .cells [(.ptr 2 0),(.int .i64 3),(.int .i64 1),(.int .i64 24)],
  .cells [(.ptr 2 0),(.int .i64 3),(.int .i64 1),(.int .i64 24)],
  .cells [(.int .i64 3),(.own 14)],
  .cells [(.ptr 2 0)],
  .cells [(.int .i64 3),(.int .i64 1),(.int .i64 24)],
  .cells [(.int .i64 0)],
  .cells [(.str (List.replicate 128 0))],
  .cells [(.own 15),(.map 16),(.own 17),(.int .i64 43),(.own 18),(.int .i64 0),(.bool false)],
  .cells [(.ptr 10 0),(.int .i64 15),(.int .i64 2)],
  .cells [(.ptr 10 0),(.int .i64 17),(.int .i64 22)],
  .cells [(.map 19),(.map 21)],
  .arr (.int .u8) [0],
  .arr .str (List.replicate 15 Zs++[([76,0,0,0,0,0,2,0,0,0,0,0,25,0,0,7,97,220,101]++List.replicate 45 0),([76,0,0,0,0,0,1,0,0,0,0,0,1,0,0,10,175,100,78]++List.replicate 45 0)]++List.replicate 22 Zs),
  .mp .i64 .str [(18,([83,0,0,0,0,0,0,0,3,1,0,24,28,19,43,48]++List.replicate 48 0)),(19,([74,3,0,199,130,97,169]++List.replicate 57 0)),(20,([69]++List.replicate 30 0++[231,223,105,83]++List.replicate 29 0)),(21,([69]++List.replicate 30 0++[231,223,105,83]++List.replicate 29 0)),(17,([82,0,0,0,0,0,25,4,0,0,0,1,0,2,0,3,117,167,109,229]++List.replicate 44 0)),(23,Zs),(22,([82,0,0,0,0,0,26,1,0,10,83,154,189,196]++List.replicate 50 0)),(25,Zs),(26,Zs),(24,([82,0,0,0,0,0,27,2,0,4,0,5,231,115,28,134]++List.replicate 48 0))],
  .arr (.st (.pair (.int .i64) .str)) [(18,([83,0,0,0,0,0,0,0,3,1,0,24,28,19,43,48]++List.replicate 48 0)),(19,([74,3,0,199,130,97,169]++List.replicate 57 0)),(20,([69]++List.replicate 30 0++[231,223,105,83]++List.replicate 29 0)),(21,([69]++List.replicate 30 0++[231,223,105,83]++List.replicate 29 0)),(17,([82,0,0,0,0,0,25,4,0,0,0,1,0,2,0,3,117,167,109,229]++List.replicate 44 0)),(23,Zs),(22,([82,0,0,0,0,0,26,1,0,10,83,154,189,196]++List.replicate 50 0)),(25,Zs),(26,Zs),(24,([82,0,0,0,0,0,27,2,0,4,0,5,231,115,28,134]++List.replicate 48 0))],
  .arr (.int .i64) [],
  .mp .i64 .str [(0,([83,0,0,0,0,0,0,0,3,1,0,24,28,19,43,48]++List.replicate 48 0)),(1,([74,3,0,199,130,97,169]++List.replicate 57 0)),(2,([69]++List.replicate 30 0++[231,223,105,83]++List.replicate 29 0)),(3,([69]++List.replicate 30 0++[231,223,105,83]++List.replicate 29 0)),(10,Zs),(4,Zs),(5,Zs)],
  .mp .i64 .str [(4,Zs),(5,Zs)],
  .mp .i64 .str []]
noncomputable def T4f:=yI T4l T4h T4v T4k
def T5l:List AV:=[(.ptr 0 0),(.sub 1 0 1 1)]
def T5h:List AE.Obj :=
  [.cells [(.ptr 2 0),(.int .i64 0),(.int .i64 0),(.int .i64 0),(.int .i64 0),(.int .i64 3),(.int .i64 1),(.int .i64 24),(.ptr 3 0),(.ptr 4 0),(.ptr 5 0)],
  .cells [(.fn (.func 123) [] [(.ptr 6 0),(.ptr 7 0),(.ptr 8 0),(.ptr 9 0)])],
  .cells [(.ptr 10 0),(.ptr 11 0),(.ptr 12 0),(.int .i64 15),(.int .i64 24),(.int .i64 2),(.int .i64 10),(.int .i64 28),(.int .i64 10),(.bool false),(.bool true),(.ptr 13 0)],
  .cells [(.ptr 2 0),(.int .i64 3),(.int .i64 1),(.int .i64 24)],
  .cells [(.ptr 2 0),(.int .i64 3),(.int .i64 1),(.int .i64 24)],
  .cells [(.int .i64 3),(.own 14)],
  .cells [(.ptr 2 0)],
  .cells [(.int .i64 3),(.int .i64 1),(.int .i64 24)],
  .cells [(.int .i64 1)],
  .cells [(.str (List.replicate 128 0))],
  .cells [(.own 15),(.map 16),(.own 17),(.int .i64 43),(.own 18),(.int .i64 0),(.bool false)],
  .cells [(.ptr 10 0),(.int .i64 15),(.int .i64 2)],
  .cells [(.ptr 10 0),(.int .i64 17),(.int .i64 22)],
  .cells [(.map 19),(.map 20)],
  .arr (.int .u8) [0],
  .arr .str (List.replicate 15 Zs++[([76,0,0,0,0,0,2,0,0,0,0,0,25,0,0,7,97,220,101]++List.replicate 45 0),([76,0,0,0,0,0,1,0,0,0,0,0,1,0,0,10,175,100,78]++List.replicate 45 0)]++List.replicate 22 Zs),
  .mp .i64 .str [(18,([83,0,0,0,0,0,0,0,3,1,0,24,28,19,43,48]++List.replicate 48 0)),(19,([74,3,0,199,130,97,169]++List.replicate 57 0)),(20,([69]++List.replicate 30 0++[231,223,105,83]++List.replicate 29 0)),(21,([69]++List.replicate 30 0++[231,223,105,83]++List.replicate 29 0)),(17,([82,0,0,0,0,0,25,4,0,0,0,1,0,2,0,3,117,167,109,229]++List.replicate 44 0)),(23,Zs),(22,([82,0,0,0,0,0,26,1,0,10,83,154,189,196]++List.replicate 50 0)),(25,Zs),(26,Zs),(24,([82,0,0,0,0,0,27,2,0,4,0,5,231,115,28,134]++List.replicate 48 0))],
  .arr (.st (.pair (.int .i64) .str)) [(18,([83,0,0,0,0,0,0,0,3,1,0,24,28,19,43,48]++List.replicate 48 0)),(19,([74,3,0,199,130,97,169]++List.replicate 57 0)),(20,([69]++List.replicate 30 0++[231,223,105,83]++List.replicate 29 0)),(21,([69]++List.replicate 30 0++[231,223,105,83]++List.replicate 29 0)),(17,([82,0,0,0,0,0,25,4,0,0,0,1,0,2,0,3,117,167,109,229]++List.replicate 44 0)),(23,Zs),(22,([82,0,0,0,0,0,26,1,0,10,83,154,189,196]++List.replicate 50 0)),(25,Zs),(26,Zs),(24,([82,0,0,0,0,0,27,2,0,4,0,5,231,115,28,134]++List.replicate 48 0))],
  .arr (.int .i64) [],
  .mp .i64 .str [(0,([83,0,0,0,0,0,0,0,3,1,0,24,28,19,43,48]++List.replicate 48 0)),(1,([74,3,0,199,130,97,169]++List.replicate 57 0)),(2,([69]++List.replicate 30 0++[231,223,105,83]++List.replicate 29 0)),(3,([69]++List.replicate 30 0++[231,223,105,83]++List.replicate 29 0)),(10,Zs),(4,Zs),(5,Zs)],
  .mp .i64 .str []]
def T5v:AV:=(.int .i64 0)
def T5k:List AE.Obj :=
  [.cells [(.ptr 2 0),(.int .i64 0),(.int .i64 0),(.int .i64 0),(.int .i64 0),(.int .i64 3),(.int .i64 1),(.int .i64 24),(.ptr 3 0),(.ptr 4 0),(.ptr 5 0)],
  .cells [(.fn (.func 123) [] [(.ptr 6 0),(.ptr 7 0),(.ptr 8 0),(.ptr 9 0)])],
  .cells [(.ptr 10 0),(.ptr 11 0),(.ptr 12 0),(.int .i64 15),(.int .i64 24),(.int .i64 2),(.int .i64 13),(.int .i64 29),(.int .i64 13),(.bool false),(.bool true),(.ptr 13 0)],
  .cells [(.ptr 2 0),(.int .i64 3),(.int .i64 1),(.int .i64 24)],
  .cells [(.ptr 2 0),(.int .i64 3),(.int .i64 1),(.int .i64 24)],
  .cells [(.int .i64 3),(.own 14)],
  .cells [(.ptr 2 0)],
  .cells [(.int .i64 3),(.int .i64 1),(.int .i64 24)],
  .cells [(.int .i64 1)],
  .cells [(.str (List.replicate 128 0))],
  .cells [(.own 15),(.map 16),(.own 17),(.int .i64 46),(.own 18),(.int .i64 0),(.bool false)],
  .cells [(.ptr 10 0),(.int .i64 15),(.int .i64 2)],
  .cells [(.ptr 10 0),(.int .i64 17),(.int .i64 22)],
  .cells [(.map 19),(.map 21)],
  .arr (.int .u8) [0],
  .arr .str (List.replicate 15 Zs++[([76,0,0,0,0,0,2,0,0,0,0,0,25,0,0,7,97,220,101]++List.replicate 45 0),([76,0,0,0,0,0,1,0,0,0,0,0,1,0,0,10,175,100,78]++List.replicate 45 0)]++List.replicate 22 Zs),
  .mp .i64 .str [(18,([83,0,0,0,0,0,0,0,3,1,0,24,28,19,43,48]++List.replicate 48 0)),(19,([74,3,0,199,130,97,169]++List.replicate 57 0)),(20,([69]++List.replicate 30 0++[231,223,105,83]++List.replicate 29 0)),(21,([69]++List.replicate 30 0++[231,223,105,83]++List.replicate 29 0)),(17,([82,0,0,0,0,0,25,4,0,0,0,1,0,2,0,3,117,167,109,229]++List.replicate 44 0)),(23,Zs),(22,([82,0,0,0,0,0,26,1,0,10,83,154,189,196]++List.replicate 50 0)),(25,Zs),(26,Zs),(24,([82,0,0,0,0,0,27,2,0,4,0,5,231,115,28,134]++List.replicate 48 0)),(28,Zs),(29,Zs),(27,([82,0,0,0,0,0,28,2,0,6,0,7,223,196,140,108]++List.replicate 48 0))],
  .arr (.st (.pair (.int .i64) .str)) [(18,([83,0,0,0,0,0,0,0,3,1,0,24,28,19,43,48]++List.replicate 48 0)),(19,([74,3,0,199,130,97,169]++List.replicate 57 0)),(20,([69]++List.replicate 30 0++[231,223,105,83]++List.replicate 29 0)),(21,([69]++List.replicate 30 0++[231,223,105,83]++List.replicate 29 0)),(17,([82,0,0,0,0,0,25,4,0,0,0,1,0,2,0,3,117,167,109,229]++List.replicate 44 0)),(23,Zs),(22,([82,0,0,0,0,0,26,1,0,10,83,154,189,196]++List.replicate 50 0)),(25,Zs),(26,Zs),(24,([82,0,0,0,0,0,27,2,0,4,0,5,231,115,28,134]++List.replicate 48 0)),(28,Zs),(29,Zs),(27,([82,0,0,0,0,0,28,2,0,6,0,7,223,196,140,108]++List.replicate 48 0))],
  .arr (.int .i64) [],
  .mp .i64 .str [(0,([83,0,0,0,0,0,0,0,3,1,0,24,28,19,43,48]++List.replicate 48 0)),(1,([74,3,0,199,130,97,169]++List.replicate 57 0)),(2,([69]++List.replicate 30 0++[231,223,105,83]++List.replicate 29 0)),(3,([69]++List.replicate 30 0++[231,223,105,83]++List.replicate 29 0)),(10,Zs),(4,Zs),(5,Zs),(6,Zs),(7,Zs)],
  .mp .i64 .str [(6,Zs),(7,Zs)],
  .mp .i64 .str []]
noncomputable def T5f:=yI T5l T5h T5v T5k
def T6l:List AV:=[(.ptr 0 0),(.sub 1 0 1 1)]
def T6h:List AE.Obj :=
  [.cells [(.ptr 2 0),(.int .i64 0),(.int .i64 0),(.int .i64 0),(.int .i64 0),(.int .i64 3),(.int .i64 1),(.int .i64 24),(.ptr 3 0),(.ptr 4 0),(.ptr 5 0)],
  .cells [(.fn (.func 123) [] [(.ptr 6 0),(.ptr 7 0),(.ptr 8 0),(.ptr 9 0)])],
  .cells [(.ptr 10 0),(.ptr 11 0),(.ptr 12 0),(.int .i64 15),(.int .i64 24),(.int .i64 2),(.int .i64 13),(.int .i64 29),(.int .i64 13),(.bool false),(.bool true),(.ptr 13 0)],
  .cells [(.ptr 2 0),(.int .i64 3),(.int .i64 1),(.int .i64 24)],
  .cells [(.ptr 2 0),(.int .i64 3),(.int .i64 1),(.int .i64 24)],
  .cells [(.int .i64 3),(.own 14)],
  .cells [(.ptr 2 0)],
  .cells [(.int .i64 3),(.int .i64 1),(.int .i64 24)],
  .cells [(.int .i64 2)],
  .cells [(.str (List.replicate 128 0))],
  .cells [(.own 15),(.map 16),(.own 17),(.int .i64 46),(.own 18),(.int .i64 0),(.bool false)],
  .cells [(.ptr 10 0),(.int .i64 15),(.int .i64 2)],
  .cells [(.ptr 10 0),(.int .i64 17),(.int .i64 22)],
  .cells [(.map 19),(.map 20)],
  .arr (.int .u8) [0],
  .arr .str (List.replicate 15 Zs++[([76,0,0,0,0,0,2,0,0,0,0,0,25,0,0,7,97,220,101]++List.replicate 45 0),([76,0,0,0,0,0,1,0,0,0,0,0,1,0,0,10,175,100,78]++List.replicate 45 0)]++List.replicate 22 Zs),
  .mp .i64 .str [(18,([83,0,0,0,0,0,0,0,3,1,0,24,28,19,43,48]++List.replicate 48 0)),(19,([74,3,0,199,130,97,169]++List.replicate 57 0)),(20,([69]++List.replicate 30 0++[231,223,105,83]++List.replicate 29 0)),(21,([69]++List.replicate 30 0++[231,223,105,83]++List.replicate 29 0)),(17,([82,0,0,0,0,0,25,4,0,0,0,1,0,2,0,3,117,167,109,229]++List.replicate 44 0)),(23,Zs),(22,([82,0,0,0,0,0,26,1,0,10,83,154,189,196]++List.replicate 50 0)),(25,Zs),(26,Zs),(24,([82,0,0,0,0,0,27,2,0,4,0,5,231,115,28,134]++List.replicate 48 0)),(28,Zs),(29,Zs),(27,([82,0,0,0,0,0,28,2,0,6,0,7,223,196,140,108]++List.replicate 48 0))],
  .arr (.st (.pair (.int .i64) .str)) [(18,([83,0,0,0,0,0,0,0,3,1,0,24,28,19,43,48]++List.replicate 48 0)),(19,([74,3,0,199,130,97,169]++List.replicate 57 0)),(20,([69]++List.replicate 30 0++[231,223,105,83]++List.replicate 29 0)),(21,([69]++List.replicate 30 0++[231,223,105,83]++List.replicate 29 0)),(17,([82,0,0,0,0,0,25,4,0,0,0,1,0,2,0,3,117,167,109,229]++List.replicate 44 0)),(23,Zs),(22,([82,0,0,0,0,0,26,1,0,10,83,154,189,196]++List.replicate 50 0)),(25,Zs),(26,Zs),(24,([82,0,0,0,0,0,27,2,0,4,0,5,231,115,28,134]++List.replicate 48 0)),(28,Zs),(29,Zs),(27,([82,0,0,0,0,0,28,2,0,6,0,7,223,196,140,108]++List.replicate 48 0))],
  .arr (.int .i64) [],
  .mp .i64 .str [(0,([83,0,0,0,0,0,0,0,3,1,0,24,28,19,43,48]++List.replicate 48 0)),(1,([74,3,0,199,130,97,169]++List.replicate 57 0)),(2,([69]++List.replicate 30 0++[231,223,105,83]++List.replicate 29 0)),(3,([69]++List.replicate 30 0++[231,223,105,83]++List.replicate 29 0)),(10,Zs),(4,Zs),(5,Zs),(6,Zs),(7,Zs)],
  .mp .i64 .str []]
def T6v:AV:=(.int .i64 0)
def T6k:List AE.Obj :=
  [.cells [(.ptr 2 0),(.int .i64 0),(.int .i64 0),(.int .i64 0),(.int .i64 0),(.int .i64 3),(.int .i64 1),(.int .i64 24),(.ptr 3 0),(.ptr 4 0),(.ptr 5 0)],
  .cells [(.fn (.func 123) [] [(.ptr 6 0),(.ptr 7 0),(.ptr 8 0),(.ptr 9 0)])],
  .cells [(.ptr 10 0),(.ptr 11 0),(.ptr 12 0),(.int .i64 15),(.int .i64 24),(.int .i64 2),(.int .i64 16),(.int .i64 30),(.int .i64 16),(.bool false),(.bool true),(.ptr 13 0)],
  .cells [(.ptr 2 0),(.int .i64 3),(.int .i64 1),(.int .i64 24)],
  .cells [(.ptr 2 0),(.int .i64 3),(.int .i64 1),(.int .i64 24)],
  .cells [(.int .i64 3),(.own 14)],
  .cells [(.ptr 2 0)],
  .cells [(.int .i64 3),(.int .i64 1),(.int .i64 24)],
  .cells [(.int .i64 2)],
  .cells [(.str (List.replicate 128 0))],
  .cells [(.own 15),(.map 16),(.own 17),(.int .i64 49),(.own 18),(.int .i64 0),(.bool false)],
  .cells [(.ptr 10 0),(.int .i64 15),(.int .i64 2)],
  .cells [(.ptr 10 0),(.int .i64 17),(.int .i64 22)],
  .cells [(.map 19),(.map 21)],
  .arr (.int .u8) [0],
  .arr .str (List.replicate 15 Zs++[([76,0,0,0,0,0,2,0,0,0,0,0,25,0,0,7,97,220,101]++List.replicate 45 0),([76,0,0,0,0,0,1,0,0,0,0,0,1,0,0,10,175,100,78]++List.replicate 45 0)]++List.replicate 22 Zs),
  .mp .i64 .str [(18,([83,0,0,0,0,0,0,0,3,1,0,24,28,19,43,48]++List.replicate 48 0)),(19,([74,3,0,199,130,97,169]++List.replicate 57 0)),(20,([69]++List.replicate 30 0++[231,223,105,83]++List.replicate 29 0)),(21,([69]++List.replicate 30 0++[231,223,105,83]++List.replicate 29 0)),(17,([82,0,0,0,0,0,25,4,0,0,0,1,0,2,0,3,117,167,109,229]++List.replicate 44 0)),(23,Zs),(22,([82,0,0,0,0,0,26,1,0,10,83,154,189,196]++List.replicate 50 0)),(25,Zs),(26,Zs),(24,([82,0,0,0,0,0,27,2,0,4,0,5,231,115,28,134]++List.replicate 48 0)),(28,Zs),(29,Zs),(27,([82,0,0,0,0,0,28,2,0,6,0,7,223,196,140,108]++List.replicate 48 0)),(31,Zs),(32,Zs),(30,([82,0,0,0,0,0,29,2,0,8,0,9,71,94,147,107]++List.replicate 48 0))],
  .arr (.st (.pair (.int .i64) .str)) [(18,([83,0,0,0,0,0,0,0,3,1,0,24,28,19,43,48]++List.replicate 48 0)),(19,([74,3,0,199,130,97,169]++List.replicate 57 0)),(20,([69]++List.replicate 30 0++[231,223,105,83]++List.replicate 29 0)),(21,([69]++List.replicate 30 0++[231,223,105,83]++List.replicate 29 0)),(17,([82,0,0,0,0,0,25,4,0,0,0,1,0,2,0,3,117,167,109,229]++List.replicate 44 0)),(23,Zs),(22,([82,0,0,0,0,0,26,1,0,10,83,154,189,196]++List.replicate 50 0)),(25,Zs),(26,Zs),(24,([82,0,0,0,0,0,27,2,0,4,0,5,231,115,28,134]++List.replicate 48 0)),(28,Zs),(29,Zs),(27,([82,0,0,0,0,0,28,2,0,6,0,7,223,196,140,108]++List.replicate 48 0)),(31,Zs),(32,Zs),(30,([82,0,0,0,0,0,29,2,0,8,0,9,71,94,147,107]++List.replicate 48 0))],
  .arr (.int .i64) [],
  .mp .i64 .str [(0,([83,0,0,0,0,0,0,0,3,1,0,24,28,19,43,48]++List.replicate 48 0)),(1,([74,3,0,199,130,97,169]++List.replicate 57 0)),(2,([69]++List.replicate 30 0++[231,223,105,83]++List.replicate 29 0)),(3,([69]++List.replicate 30 0++[231,223,105,83]++List.replicate 29 0)),(10,Zs),(4,Zs),(5,Zs),(6,Zs),(7,Zs),(8,Zs),(9,Zs)],
  .mp .i64 .str [(8,Zs),(9,Zs)],
  .mp .i64 .str []]
noncomputable def T6f:=yI T6l T6h T6v T6k
def T7l:List AV:=[(.ptr 0 0)]
def T7h:List AE.Obj :=
  [.cells [(.ptr 1 0),(.ptr 2 0),(.ptr 3 0),(.int .i64 15),(.int .i64 24),(.int .i64 2),(.int .i64 16),(.int .i64 30),(.int .i64 16),(.bool false),(.bool true),(.ptr 4 0)],
  .cells [(.own 5),(.map 6),(.own 7),(.int .i64 49),(.own 8),(.int .i64 0),(.bool false)],
  .cells [(.ptr 1 0),(.int .i64 15),(.int .i64 2)],
  .cells [(.ptr 1 0),(.int .i64 17),(.int .i64 22)],
  .cells [(.map 9),(.map 10)],
  .arr .str (List.replicate 15 Zs++[([76,0,0,0,0,0,2,0,0,0,0,0,25,0,0,7,97,220,101]++List.replicate 45 0),([76,0,0,0,0,0,1,0,0,0,0,0,1,0,0,10,175,100,78]++List.replicate 45 0)]++List.replicate 22 Zs),
  .mp .i64 .str [(18,([83,0,0,0,0,0,0,0,3,1,0,24,28,19,43,48]++List.replicate 48 0)),(19,([74,3,0,199,130,97,169]++List.replicate 57 0)),(20,([69]++List.replicate 30 0++[231,223,105,83]++List.replicate 29 0)),(21,([69]++List.replicate 30 0++[231,223,105,83]++List.replicate 29 0)),(17,([82,0,0,0,0,0,25,4,0,0,0,1,0,2,0,3,117,167,109,229]++List.replicate 44 0)),(23,Zs),(22,([82,0,0,0,0,0,26,1,0,10,83,154,189,196]++List.replicate 50 0)),(25,Zs),(26,Zs),(24,([82,0,0,0,0,0,27,2,0,4,0,5,231,115,28,134]++List.replicate 48 0)),(28,Zs),(29,Zs),(27,([82,0,0,0,0,0,28,2,0,6,0,7,223,196,140,108]++List.replicate 48 0)),(31,Zs),(32,Zs),(30,([82,0,0,0,0,0,29,2,0,8,0,9,71,94,147,107]++List.replicate 48 0))],
  .arr (.st (.pair (.int .i64) .str)) [(18,([83,0,0,0,0,0,0,0,3,1,0,24,28,19,43,48]++List.replicate 48 0)),(19,([74,3,0,199,130,97,169]++List.replicate 57 0)),(20,([69]++List.replicate 30 0++[231,223,105,83]++List.replicate 29 0)),(21,([69]++List.replicate 30 0++[231,223,105,83]++List.replicate 29 0)),(17,([82,0,0,0,0,0,25,4,0,0,0,1,0,2,0,3,117,167,109,229]++List.replicate 44 0)),(23,Zs),(22,([82,0,0,0,0,0,26,1,0,10,83,154,189,196]++List.replicate 50 0)),(25,Zs),(26,Zs),(24,([82,0,0,0,0,0,27,2,0,4,0,5,231,115,28,134]++List.replicate 48 0)),(28,Zs),(29,Zs),(27,([82,0,0,0,0,0,28,2,0,6,0,7,223,196,140,108]++List.replicate 48 0)),(31,Zs),(32,Zs),(30,([82,0,0,0,0,0,29,2,0,8,0,9,71,94,147,107]++List.replicate 48 0))],
  .arr (.int .i64) [],
  .mp .i64 .str [(0,([83,0,0,0,0,0,0,0,3,1,0,24,28,19,43,48]++List.replicate 48 0)),(1,([74,3,0,199,130,97,169]++List.replicate 57 0)),(2,([69]++List.replicate 30 0++[231,223,105,83]++List.replicate 29 0)),(3,([69]++List.replicate 30 0++[231,223,105,83]++List.replicate 29 0)),(10,Zs),(4,Zs),(5,Zs),(6,Zs),(7,Zs),(8,Zs),(9,Zs)],
  .mp .i64 .str []]
def T7v:AV:=(.int .i64 0)
def T7k:List AE.Obj :=
  [.cells [(.ptr 1 0),(.ptr 2 0),(.ptr 3 0),(.int .i64 15),(.int .i64 24),(.int .i64 3),(.int .i64 16),(.int .i64 30),(.int .i64 0),(.bool false),(.bool false),(.ptr 4 0)],
  .cells [(.own 5),(.map 6),(.own 11),(.int .i64 64),(.own 8),(.int .i64 0),(.bool false)],
  .cells [(.ptr 1 0),(.int .i64 15),(.int .i64 2)],
  .cells [(.ptr 1 0),(.int .i64 17),(.int .i64 22)],
  .cells [(.map 12),(.map 10)],
  .arr .str ([([83,0,0,0,0,0,0,0,3,1,0,24,28,19,43,48]++List.replicate 48 0),([74,3,0,199,130,97,169]++List.replicate 57 0),([69]++List.replicate 30 0++[231,223,105,83]++List.replicate 29 0),([69]++List.replicate 30 0++[231,223,105,83]++List.replicate 29 0)]++List.replicate 11 Zs++[([76,0,0,0,0,0,2,0,0,0,0,0,25,0,0,7,97,220,101]++List.replicate 45 0),([76,0,0,0,0,0,3,0,0,0,0,0,30,0,16,165,115,95,106]++List.replicate 45 0),([82,0,0,0,0,0,25,4,0,0,0,1,0,2,0,3,117,167,109,229]++List.replicate 44 0),([83,0,0,0,0,0,0,0,3,1,0,24,28,19,43,48]++List.replicate 48 0),([74,3,0,199,130,97,169]++List.replicate 57 0),([69]++List.replicate 30 0++[231,223,105,83]++List.replicate 29 0),([69]++List.replicate 30 0++[231,223,105,83]++List.replicate 29 0),([82,0,0,0,0,0,26,1,0,10,83,154,189,196]++List.replicate 50 0),Zs,([82,0,0,0,0,0,27,2,0,4,0,5,231,115,28,134]++List.replicate 48 0),Zs,Zs,([82,0,0,0,0,0,28,2,0,6,0,7,223,196,140,108]++List.replicate 48 0),Zs,Zs,([82,0,0,0,0,0,29,2,0,8,0,9,71,94,147,107]++List.replicate 48 0)]++List.replicate 8 Zs),
  .mp .i64 .str [],
  .arr (.st (.pair (.int .i64) .str)) [(18,([83,0,0,0,0,0,0,0,3,1,0,24,28,19,43,48]++List.replicate 48 0)),(19,([74,3,0,199,130,97,169]++List.replicate 57 0)),(20,([69]++List.replicate 30 0++[231,223,105,83]++List.replicate 29 0)),(21,([69]++List.replicate 30 0++[231,223,105,83]++List.replicate 29 0)),(17,([82,0,0,0,0,0,25,4,0,0,0,1,0,2,0,3,117,167,109,229]++List.replicate 44 0)),(23,Zs),(22,([82,0,0,0,0,0,26,1,0,10,83,154,189,196]++List.replicate 50 0)),(25,Zs),(26,Zs),(24,([82,0,0,0,0,0,27,2,0,4,0,5,231,115,28,134]++List.replicate 48 0)),(28,Zs),(29,Zs),(27,([82,0,0,0,0,0,28,2,0,6,0,7,223,196,140,108]++List.replicate 48 0)),(31,Zs),(32,Zs),(30,([82,0,0,0,0,0,29,2,0,8,0,9,71,94,147,107]++List.replicate 48 0))],
  .arr (.int .i64) [],
  .mp .i64 .str [(0,([83,0,0,0,0,0,0,0,3,1,0,24,28,19,43,48]++List.replicate 48 0)),(1,([74,3,0,199,130,97,169]++List.replicate 57 0)),(2,([69]++List.replicate 30 0++[231,223,105,83]++List.replicate 29 0)),(3,([69]++List.replicate 30 0++[231,223,105,83]++List.replicate 29 0)),(10,Zs),(4,Zs),(5,Zs),(6,Zs),(7,Zs),(8,Zs),(9,Zs)],
  .mp .i64 .str [],
  .arr (.st (.pair (.int .i64) .str)) [],
  .mp .i64 .str []]
noncomputable def T7f:=yI T7l T7h T7v T7k
def T8l:List AV:=[(.ptr 0 0),(.agg [(.int .i64 0),(.int .i64 0),(.int .i64 0),(.int .i64 0),(.int .i64 3),(.int .i64 1),(.int .i64 24)])]
def T8h:List AE.Obj :=
  [.cells [(.own 1),(.map 2),(.own 3),(.int .i64 0),(.own 4),(.int .i64 0),(.bool false)],
  .arr .str (List.replicate 39 Zs),
  .mp .i64 .str [],
  .arr (.st (.pair (.int .i64) .str)) [],
  .arr (.int .i64) []]
def T8v:AV:=(.int .i64 0)
def T8k:List AE.Obj :=
  [.cells [(.own 1),(.map 2),(.own 5),(.int .i64 64),(.own 4),(.int .i64 0),(.bool false)],
  .arr .str ([([83,0,0,0,0,0,0,0,3,1,0,24,28,19,43,48]++List.replicate 48 0),([74,3,0,199,130,97,169]++List.replicate 57 0),([69]++List.replicate 30 0++[231,223,105,83]++List.replicate 29 0),([69]++List.replicate 30 0++[231,223,105,83]++List.replicate 29 0)]++List.replicate 11 Zs++[([76,0,0,0,0,0,2,0,0,0,0,0,25,0,0,7,97,220,101]++List.replicate 45 0),([76,0,0,0,0,0,3,0,0,0,0,0,30,0,16,165,115,95,106]++List.replicate 45 0),([82,0,0,0,0,0,25,4,0,0,0,1,0,2,0,3,117,167,109,229]++List.replicate 44 0),([83,0,0,0,0,0,0,0,3,1,0,24,28,19,43,48]++List.replicate 48 0),([74,3,0,199,130,97,169]++List.replicate 57 0),([69]++List.replicate 30 0++[231,223,105,83]++List.replicate 29 0),([69]++List.replicate 30 0++[231,223,105,83]++List.replicate 29 0),([82,0,0,0,0,0,26,1,0,10,83,154,189,196]++List.replicate 50 0),Zs,([82,0,0,0,0,0,27,2,0,4,0,5,231,115,28,134]++List.replicate 48 0),Zs,Zs,([82,0,0,0,0,0,28,2,0,6,0,7,223,196,140,108]++List.replicate 48 0),Zs,Zs,([82,0,0,0,0,0,29,2,0,8,0,9,71,94,147,107]++List.replicate 48 0)]++List.replicate 8 Zs),
  .mp .i64 .str [],
  .arr (.st (.pair (.int .i64) .str)) [(15,Zs),(16,Zs),(17,Zs),(18,Zs),(19,Zs),(20,Zs),(21,Zs),(22,Zs),(23,Zs),(24,Zs),(25,Zs),(26,Zs),(27,Zs),(28,Zs),(29,Zs),(30,Zs),(31,Zs),(32,Zs),(33,Zs),(34,Zs),(35,Zs),(36,Zs),(37,Zs),(38,Zs),(16,([76,0,0,0,0,0,1,0,0,0,0,0,1,0,0,10,175,100,78]++List.replicate 45 0))],
  .arr (.int .i64) [],
  .arr (.st (.pair (.int .i64) .str)) []]
noncomputable def T8f:=yI T8l T8h T8v T8k
def T9l:List AV:=[(.ptr 0 0),(.int .i64 15),(.int .i64 24)]
def T9h:List AE.Obj :=
  [.cells [(.own 1),(.map 2),(.own 3),(.int .i64 65),(.own 4),(.int .i64 0),(.bool false)],
  .arr .str ([([83,0,0,0,0,0,0,0,3,1,0,24,28,19,43,48]++List.replicate 48 0),([74,3,0,199,130,97,169]++List.replicate 57 0),([69]++List.replicate 30 0++[231,223,105,83]++List.replicate 29 0),([69]++List.replicate 30 0++[231,223,105,83]++List.replicate 29 0)]++List.replicate 11 Zs++[([76,0,0,0,0,0,2,0,0,0,0,0,25,0,0,7,97,220,101]++List.replicate 45 0),([76,0,0,0,0,0,3,0,0,0,0,0,30,0,16,165,115,95,106]++List.replicate 45 0),([82,0,0,0,0,0,25,4,0,0,0,1,0,2,0,3,117,167,109,229]++List.replicate 44 0),([83,0,0,0,0,0,0,0,3,1,0,24,28,19,43,48]++List.replicate 48 0),([74,3,0,199,130,97,169]++List.replicate 57 0),([69]++List.replicate 30 0++[231,223,105,83]++List.replicate 29 0),([69]++List.replicate 30 0++[231,223,105,83]++List.replicate 29 0),([82,0,0,0,0,0,26,1,0,10,83,154,189,196]++List.replicate 50 0),Zs,([82,0,0,0,0,0,27,2,0,4,0,5,231,115,28,134]++List.replicate 48 0),Zs,Zs,([82,0,0,0,0,0,28,2,0,6,0,7,223,196,140,108]++List.replicate 48 0),Zs,Zs,([82,0,0,0,0,0,29,2,0,8,0,9,71,94,147,107]++List.replicate 48 0)]++List.replicate 8 Zs),
  .mp .i64 .str [],
  .arr (.st (.pair (.int .i64) .str)) [],
  .arr (.int .i64) []]
def T9v:AV:=(.tup [(.ptr 5 0),(.int .i64 0)])
def T9k:List AE.Obj :=
  [.cells [(.own 1),(.map 2),(.own 6),(.int .i64 72),(.own 4),(.int .i64 0),(.bool false)],
  .arr .str ([([83,0,0,0,0,0,0,0,3,1,0,24,28,19,43,48]++List.replicate 48 0),([74,3,0,199,130,97,169]++List.replicate 57 0),([69]++List.replicate 30 0++[231,223,105,83]++List.replicate 29 0),([69]++List.replicate 30 0++[231,223,105,83]++List.replicate 29 0)]++List.replicate 11 Zs++[([76,0,0,0,0,0,4,0,0,0,0,0,54,0,0,80,25,215,37]++List.replicate 45 0),([76,0,0,0,0,0,3,0,0,0,0,0,30,0,16,165,115,95,106]++List.replicate 45 0),([82,0,0,0,0,0,25,4,0,0,0,1,0,2,0,3,117,167,109,229]++List.replicate 44 0),([83,0,0,0,0,0,0,0,3,1,0,24,28,19,43,48]++List.replicate 48 0),([74,3,0,199,130,97,169]++List.replicate 57 0),([69]++List.replicate 30 0++[231,223,105,83]++List.replicate 29 0),([69]++List.replicate 30 0++[231,223,105,83]++List.replicate 29 0),([82,0,0,0,0,0,26,1,0,10,83,154,189,196]++List.replicate 50 0),Zs,([82,0,0,0,0,0,27,2,0,4,0,5,231,115,28,134]++List.replicate 48 0),Zs,Zs,([82,0,0,0,0,0,28,2,0,6,0,7,223,196,140,108]++List.replicate 48 0),Zs,Zs,([82,0,0,0,0,0,29,2,0,8,0,9,71,94,147,107]++List.replicate 48 0)]++List.replicate 8 Zs),
  .mp .i64 .str [],
  .arr (.st (.pair (.int .i64) .str)) [],
  .arr (.int .i64) [],
  .cells [(.ptr 0 0),(.ptr 7 0),(.ptr 8 0),(.int .i64 15),(.int .i64 24),(.int .i64 4),(.int .i64 0),(.int .i64 54),(.int .i64 0),(.bool false),(.bool false),(.ptr 9 0)],
  .arr (.st (.pair (.int .i64) .str)) [],
  .cells [(.ptr 0 0),(.int .i64 15),(.int .i64 2)],
  .cells [(.ptr 0 0),(.int .i64 17),(.int .i64 22)],
  .cells [(.map 10),(.map 11)],
  .mp .i64 .str [],
  .mp .i64 .str []]
noncomputable def T9f:=yI T9l T9h T9v T9k
def Zbs:List AV:=[(.ptr 0 0)]
def Zbp:List AE.Obj :=
  [.cells [(.own 1),(.map 2),(.own 3),(.int .i64 64),(.own 4),(.int .i64 0),(.bool false)],
  .arr .str ([([83,0,0,0,0,0,0,0,3,1,0,24,28,19,43,48]++List.replicate 48 0),([74,3,0,199,130,97,169]++List.replicate 57 0),([69]++List.replicate 30 0++[231,223,105,83]++List.replicate 29 0),([69]++List.replicate 30 0++[231,223,105,83]++List.replicate 29 0)]++List.replicate 11 Zs++[([76,0,0,0,0,0,2,0,0,0,0,0,25,0,0,7,97,220,101]++List.replicate 45 0),([76,0,0,0,0,0,3,0,0,0,0,0,30,0,16,165,115,95,106]++List.replicate 45 0),([82,0,0,0,0,0,25,4,0,0,0,1,0,2,0,3,117,167,109,229]++List.replicate 44 0),([83,0,0,0,0,0,0,0,3,1,0,24,28,19,43,48]++List.replicate 48 0),([74,3,0,199,130,97,169]++List.replicate 57 0),([69]++List.replicate 30 0++[231,223,105,83]++List.replicate 29 0),([69]++List.replicate 30 0++[231,223,105,83]++List.replicate 29 0),([82,0,0,0,0,0,26,1,0,10,83,154,189,196]++List.replicate 50 0),Zs,([82,0,0,0,0,0,27,2,0,4,0,5,231,115,28,134]++List.replicate 48 0),Zs,Zs,([82,0,0,0,0,0,28,2,0,6,0,7,223,196,140,108]++List.replicate 48 0),Zs,Zs,([82,0,0,0,0,0,29,2,0,8,0,9,71,94,147,107]++List.replicate 48 0)]++List.replicate 8 Zs),
  .mp .i64 .str [],
  .arr (.st (.pair (.int .i64) .str)) [],
  .arr (.int .i64) []]
def Zab:AV:=(.tup [(.ptr 5 0),(.int .i64 0)])
def ZaP:List AE.Obj :=
  [.cells [(.own 1),(.map 2),(.own 6),(.int .i64 73),(.own 4),(.int .i64 0),(.bool false)],
  .arr .str ([([83,0,0,0,0,0,0,0,3,1,0,24,28,19,43,48]++List.replicate 48 0),([74,3,0,199,130,97,169]++List.replicate 57 0),([69]++List.replicate 30 0++[231,223,105,83]++List.replicate 29 0),([69]++List.replicate 30 0++[231,223,105,83]++List.replicate 29 0)]++List.replicate 11 Zs++[([76,0,0,0,0,0,4,0,0,0,0,0,54,0,0,80,25,215,37]++List.replicate 45 0),([76,0,0,0,0,0,3,0,0,0,0,0,30,0,16,165,115,95,106]++List.replicate 45 0),([82,0,0,0,0,0,25,4,0,0,0,1,0,2,0,3,117,167,109,229]++List.replicate 44 0),([83,0,0,0,0,0,0,0,3,1,0,24,28,19,43,48]++List.replicate 48 0),([74,3,0,199,130,97,169]++List.replicate 57 0),([69]++List.replicate 30 0++[231,223,105,83]++List.replicate 29 0),([69]++List.replicate 30 0++[231,223,105,83]++List.replicate 29 0),([82,0,0,0,0,0,26,1,0,10,83,154,189,196]++List.replicate 50 0),Zs,([82,0,0,0,0,0,27,2,0,4,0,5,231,115,28,134]++List.replicate 48 0),Zs,Zs,([82,0,0,0,0,0,28,2,0,6,0,7,223,196,140,108]++List.replicate 48 0),Zs,Zs,([82,0,0,0,0,0,29,2,0,8,0,9,71,94,147,107]++List.replicate 48 0)]++List.replicate 8 Zs),
  .mp .i64 .str [],
  .arr (.st (.pair (.int .i64) .str)) [],
  .arr (.int .i64) [],
  .cells [(.ptr 7 0),(.int .i64 0),(.int .i64 0),(.int .i64 0),(.int .i64 0),(.int .i64 3),(.int .i64 1),(.int .i64 24),(.ptr 8 0),(.ptr 9 0),(.ptr 10 0)],
  .arr (.st (.pair (.int .i64) .str)) [],
  .cells [(.ptr 0 0),(.ptr 11 0),(.ptr 12 0),(.int .i64 15),(.int .i64 24),(.int .i64 4),(.int .i64 0),(.int .i64 54),(.int .i64 0),(.bool false),(.bool false),(.ptr 13 0)],
  .cells [(.ptr 7 0),(.int .i64 3),(.int .i64 1),(.int .i64 24)],
  .cells [(.ptr 7 0),(.int .i64 3),(.int .i64 1),(.int .i64 24)],
  .cells [(.int .i64 3),(.own 14)],
  .cells [(.ptr 0 0),(.int .i64 15),(.int .i64 2)],
  .cells [(.ptr 0 0),(.int .i64 17),(.int .i64 22)],
  .cells [(.map 15),(.map 16)],
  .arr (.int .u8) [0],
  .mp .i64 .str [],
  .mp .i64 .str []]
noncomputable def zjX:=yI Zbs Zbp Zab ZaP
def Zao:List AV:=[(.ptr 0 0),(.sub 1 0 1 1)]
def ZbG:List AE.Obj :=
  [.cells [(.ptr 2 0),(.int .i64 0),(.int .i64 0),(.int .i64 0),(.int .i64 0),(.int .i64 3),(.int .i64 1),(.int .i64 24),(.ptr 3 0),(.ptr 4 0),(.ptr 5 0)],
  .cells [(.fn (.func 132) [] [(.ptr 6 0),(.ptr 7 0)])],
  .cells [(.ptr 8 0),(.ptr 9 0),(.ptr 10 0),(.int .i64 15),(.int .i64 24),(.int .i64 4),(.int .i64 0),(.int .i64 54),(.int .i64 0),(.bool false),(.bool false),(.ptr 11 0)],
  .cells [(.ptr 2 0),(.int .i64 3),(.int .i64 1),(.int .i64 24)],
  .cells [(.ptr 2 0),(.int .i64 3),(.int .i64 1),(.int .i64 24)],
  .cells [(.int .i64 3),(.own 12)],
  .cells [(.ptr 0 0)],
  .cells [(.int .i64 0),(.int .i64 0),(.int .i64 1),(.int .i64 0),(.int .i64 3),(.int .i64 1),(.int .i64 24)],
  .cells [(.own 13),(.map 14),(.own 15),(.int .i64 74),(.own 16),(.int .i64 0),(.bool false)],
  .cells [(.ptr 8 0),(.int .i64 15),(.int .i64 2)],
  .cells [(.ptr 8 0),(.int .i64 17),(.int .i64 22)],
  .cells [(.map 17),(.map 18)],
  .arr (.int .u8) [0],
  .arr .str ([([83,0,0,0,0,0,0,0,3,1,0,24,28,19,43,48]++List.replicate 48 0),([74,3,0,199,130,97,169]++List.replicate 57 0),([69]++List.replicate 30 0++[231,223,105,83]++List.replicate 29 0),([69]++List.replicate 30 0++[231,223,105,83]++List.replicate 29 0)]++List.replicate 11 Zs++[([76,0,0,0,0,0,4,0,0,0,0,0,54,0,0,80,25,215,37]++List.replicate 45 0),([76,0,0,0,0,0,3,0,0,0,0,0,30,0,16,165,115,95,106]++List.replicate 45 0),([82,0,0,0,0,0,25,4,0,0,0,1,0,2,0,3,117,167,109,229]++List.replicate 44 0),([83,0,0,0,0,0,0,0,3,1,0,24,28,19,43,48]++List.replicate 48 0),([74,3,0,199,130,97,169]++List.replicate 57 0),([69]++List.replicate 30 0++[231,223,105,83]++List.replicate 29 0),([69]++List.replicate 30 0++[231,223,105,83]++List.replicate 29 0),([82,0,0,0,0,0,26,1,0,10,83,154,189,196]++List.replicate 50 0),Zs,([82,0,0,0,0,0,27,2,0,4,0,5,231,115,28,134]++List.replicate 48 0),Zs,Zs,([82,0,0,0,0,0,28,2,0,6,0,7,223,196,140,108]++List.replicate 48 0),Zs,Zs,([82,0,0,0,0,0,29,2,0,8,0,9,71,94,147,107]++List.replicate 48 0)]++List.replicate 8 Zs),
  .mp .i64 .str [],
  .arr (.st (.pair (.int .i64) .str)) [],
  .arr (.int .i64) [],
  .mp .i64 .str [],
  .mp .i64 .str []]
def ZbB:AV:=(.int .i64 0)
def Zbh:List AE.Obj :=
  [.cells [(.ptr 2 0),(.int .i64 0),(.int .i64 0),(.int .i64 0),(.int .i64 0),(.int .i64 3),(.int .i64 1),(.int .i64 24),(.ptr 3 0),(.ptr 4 0),(.ptr 5 0)],
  .cells [(.fn (.func 132) [] [(.ptr 6 0),(.ptr 7 0)])],
  .cells [(.ptr 8 0),(.ptr 9 0),(.ptr 10 0),(.int .i64 15),(.int .i64 24),(.int .i64 4),(.int .i64 2),(.int .i64 55),(.int .i64 2),(.bool false),(.bool true),(.ptr 11 0)],
  .cells [(.ptr 2 0),(.int .i64 3),(.int .i64 1),(.int .i64 24)],
  .cells [(.ptr 2 0),(.int .i64 3),(.int .i64 1),(.int .i64 24)],
  .cells [(.int .i64 3),(.own 12)],
  .cells [(.ptr 0 0)],
  .cells [(.int .i64 0),(.int .i64 0),(.int .i64 1),(.int .i64 0),(.int .i64 3),(.int .i64 1),(.int .i64 24)],
  .cells [(.own 13),(.map 14),(.own 15),(.int .i64 76),(.own 16),(.int .i64 0),(.bool false)],
  .cells [(.ptr 8 0),(.int .i64 15),(.int .i64 2)],
  .cells [(.ptr 8 0),(.int .i64 17),(.int .i64 22)],
  .cells [(.map 17),(.map 19)],
  .arr (.int .u8) [0],
  .arr .str ([([83,0,0,0,0,0,0,0,3,1,0,24,28,19,43,48]++List.replicate 48 0),([74,3,0,199,130,97,169]++List.replicate 57 0),([69]++List.replicate 30 0++[231,223,105,83]++List.replicate 29 0),([69]++List.replicate 30 0++[231,223,105,83]++List.replicate 29 0)]++List.replicate 11 Zs++[([76,0,0,0,0,0,4,0,0,0,0,0,54,0,0,80,25,215,37]++List.replicate 45 0),([76,0,0,0,0,0,3,0,0,0,0,0,30,0,16,165,115,95,106]++List.replicate 45 0),([82,0,0,0,0,0,25,4,0,0,0,1,0,2,0,3,117,167,109,229]++List.replicate 44 0),([83,0,0,0,0,0,0,0,3,1,0,24,28,19,43,48]++List.replicate 48 0),([74,3,0,199,130,97,169]++List.replicate 57 0),([69]++List.replicate 30 0++[231,223,105,83]++List.replicate 29 0),([69]++List.replicate 30 0++[231,223,105,83]++List.replicate 29 0),([82,0,0,0,0,0,26,1,0,10,83,154,189,196]++List.replicate 50 0),Zs,([82,0,0,0,0,0,27,2,0,4,0,5,231,115,28,134]++List.replicate 48 0),Zs,Zs,([82,0,0,0,0,0,28,2,0,6,0,7,223,196,140,108]++List.replicate 48 0),Zs,Zs,([82,0,0,0,0,0,29,2,0,8,0,9,71,94,147,107]++List.replicate 48 0)]++List.replicate 8 Zs),
  .mp .i64 .str [(18,([83,0,0,0,0,0,1,0,3,1,0,24,185,192,119,251]++List.replicate 48 0)),(17,([82,0,0,0,0,0,54,1,0,0,62,64,235,186]++List.replicate 50 0))],
  .arr (.st (.pair (.int .i64) .str)) [(18,([83,0,0,0,0,0,1,0,3,1,0,24,185,192,119,251]++List.replicate 48 0)),(17,([82,0,0,0,0,0,54,1,0,0,62,64,235,186]++List.replicate 50 0))],
  .arr (.int .i64) [],
  .mp .i64 .str [(0,([83,0,0,0,0,0,1,0,3,1,0,24,185,192,119,251]++List.replicate 48 0))],
  .mp .i64 .str [(0,([83,0,0,0,0,0,1,0,3,1,0,24,185,192,119,251]++List.replicate 48 0))],
  .mp .i64 .str []]
noncomputable def zrn:=yI Zao ZbG ZbB Zbh
def z9A:List AV:=[(.ptr 0 0)]
def z97:List AE.Obj :=
  [.cells [(.own 1),(.map 2),(.own 3),(.int .i64 64),(.own 4),(.int .i64 0),(.bool false)],
  .arr .str ([([83,0,0,0,0,0,0,0,3,1,0,24,28,19,43,48]++List.replicate 48 0),([74,3,0,199,130,97,169]++List.replicate 57 0),([69]++List.replicate 30 0++[231,223,105,83]++List.replicate 29 0),([69]++List.replicate 30 0++[231,223,105,83]++List.replicate 29 0)]++List.replicate 11 Zs++[([76,0,0,0,0,0,2,0,0,0,0,0,25,0,0,7,97,220,101]++List.replicate 45 0),([76,0,0,0,0,0,3,0,0,0,0,0,30,0,16,165,115,95,106]++List.replicate 45 0),([82,0,0,0,0,0,25,4,0,0,0,1,0,2,0,3,117,167,109,229]++List.replicate 44 0),([83,0,0,0,0,0,0,0,3,1,0,24,28,19,43,48]++List.replicate 48 0),([74,3,0,199,130,97,169]++List.replicate 57 0),([69]++List.replicate 30 0++[231,223,105,83]++List.replicate 29 0),([69]++List.replicate 30 0++[231,223,105,83]++List.replicate 29 0),([82,0,0,0,0,0,26,1,0,10,83,154,189,196]++List.replicate 50 0),Zs,([82,0,0,0,0,0,27,2,0,4,0,5,231,115,28,134]++List.replicate 48 0),Zs,Zs,([82,0,0,0,0,0,28,2,0,6,0,7,223,196,140,108]++List.replicate 48 0),Zs,Zs,([82,0,0,0,0,0,29,2,0,8,0,9,71,94,147,107]++List.replicate 48 0)]++List.replicate 8 Zs),
  .mp .i64 .str [],
  .arr (.st (.pair (.int .i64) .str)) [],
  .arr (.int .i64) []]
def ZbC:AV:=(.tup [(.ptr 5 0),(.int .i64 0)])
def Zbc:List AE.Obj :=
  [.cells [(.own 1),(.map 2),(.own 6),(.int .i64 77),(.own 4),(.int .i64 0),(.bool false)],
  .arr .str ([([83,0,0,0,0,0,0,0,3,1,0,24,28,19,43,48]++List.replicate 48 0),([74,3,0,199,130,97,169]++List.replicate 57 0),([69]++List.replicate 30 0++[231,223,105,83]++List.replicate 29 0),([69]++List.replicate 30 0++[231,223,105,83]++List.replicate 29 0)]++List.replicate 11 Zs++[([76,0,0,0,0,0,4,0,0,0,0,0,54,0,0,80,25,215,37]++List.replicate 45 0),([76,0,0,0,0,0,3,0,0,0,0,0,30,0,16,165,115,95,106]++List.replicate 45 0),([82,0,0,0,0,0,54,1,0,0,62,64,235,186]++List.replicate 50 0),([83,0,0,0,0,0,1,0,3,1,0,24,185,192,119,251]++List.replicate 48 0),([74,3,0,199,130,97,169]++List.replicate 57 0),([69]++List.replicate 30 0++[231,223,105,83]++List.replicate 29 0),([69]++List.replicate 30 0++[231,223,105,83]++List.replicate 29 0),([82,0,0,0,0,0,26,1,0,10,83,154,189,196]++List.replicate 50 0),Zs,([82,0,0,0,0,0,27,2,0,4,0,5,231,115,28,134]++List.replicate 48 0),Zs,Zs,([82,0,0,0,0,0,28,2,0,6,0,7,223,196,140,108]++List.replicate 48 0),Zs,Zs,([82,0,0,0,0,0,29,2,0,8,0,9,71,94,147,107]++List.replicate 48 0)]++List.replicate 8 Zs),
  .mp .i64 .str [],
  .arr (.st (.pair (.int .i64) .str)) [],
  .arr (.int .i64) [],
  .cells [(.ptr 7 0),(.int .i64 0),(.int .i64 0),(.int .i64 1),(.int .i64 0),(.int .i64 3),(.int .i64 1),(.int .i64 24),(.ptr 8 0),(.ptr 9 0),(.ptr 10 0)],
  .arr (.st (.pair (.int .i64) .str)) [],
  .cells [(.ptr 0 0),(.ptr 11 0),(.ptr 12 0),(.int .i64 15),(.int .i64 24),(.int .i64 4),(.int .i64 2),(.int .i64 55),(.int .i64 2),(.bool false),(.bool false),(.ptr 13 0)],
  .cells [(.ptr 7 0),(.int .i64 3),(.int .i64 1),(.int .i64 24)],
  .cells [(.ptr 7 0),(.int .i64 3),(.int .i64 1),(.int .i64 24)],
  .cells [(.int .i64 3),(.own 14)],
  .cells [(.ptr 0 0),(.int .i64 15),(.int .i64 2)],
  .cells [(.ptr 0 0),(.int .i64 17),(.int .i64 22)],
  .cells [(.map 15),(.map 16)],
  .arr (.int .u8) [0],
  .mp .i64 .str [(0,([83,0,0,0,0,0,1,0,3,1,0,24,185,192,119,251]++List.replicate 48 0))],
  .mp .i64 .str []]
noncomputable def zAi:=yI z9A z97 ZbC Zbc
def Zbg:List AV:=[(.ptr 0 0)]
def z93:List AE.Obj :=
  [.cells [(.ptr 1 0),(.int .i64 0),(.int .i64 0),(.int .i64 1),(.int .i64 0),(.int .i64 3),(.int .i64 1),(.int .i64 24),(.ptr 2 0),(.ptr 3 0),(.ptr 4 0)],
  .cells [(.ptr 5 0),(.ptr 6 0),(.ptr 7 0),(.int .i64 15),(.int .i64 24),(.int .i64 4),(.int .i64 2),(.int .i64 55),(.int .i64 2),(.bool false),(.bool false),(.ptr 8 0)],
  .cells [(.ptr 1 0),(.int .i64 3),(.int .i64 1),(.int .i64 24)],
  .cells [(.ptr 1 0),(.int .i64 3),(.int .i64 1),(.int .i64 24)],
  .cells [(.int .i64 3),(.own 9)],
  .cells [(.own 10),(.map 11),(.own 12),(.int .i64 77),(.own 13),(.int .i64 0),(.bool false)],
  .cells [(.ptr 5 0),(.int .i64 15),(.int .i64 2)],
  .cells [(.ptr 5 0),(.int .i64 17),(.int .i64 22)],
  .cells [(.map 14),(.map 15)],
  .arr (.int .u8) [0],
  .arr .str ([([83,0,0,0,0,0,0,0,3,1,0,24,28,19,43,48]++List.replicate 48 0),([74,3,0,199,130,97,169]++List.replicate 57 0),([69]++List.replicate 30 0++[231,223,105,83]++List.replicate 29 0),([69]++List.replicate 30 0++[231,223,105,83]++List.replicate 29 0)]++List.replicate 11 Zs++[([76,0,0,0,0,0,4,0,0,0,0,0,54,0,0,80,25,215,37]++List.replicate 45 0),([76,0,0,0,0,0,3,0,0,0,0,0,30,0,16,165,115,95,106]++List.replicate 45 0),([82,0,0,0,0,0,54,1,0,0,62,64,235,186]++List.replicate 50 0),([83,0,0,0,0,0,1,0,3,1,0,24,185,192,119,251]++List.replicate 48 0),([74,3,0,199,130,97,169]++List.replicate 57 0),([69]++List.replicate 30 0++[231,223,105,83]++List.replicate 29 0),([69]++List.replicate 30 0++[231,223,105,83]++List.replicate 29 0),([82,0,0,0,0,0,26,1,0,10,83,154,189,196]++List.replicate 50 0),Zs,([82,0,0,0,0,0,27,2,0,4,0,5,231,115,28,134]++List.replicate 48 0),Zs,Zs,([82,0,0,0,0,0,28,2,0,6,0,7,223,196,140,108]++List.replicate 48 0),Zs,Zs,([82,0,0,0,0,0,29,2,0,8,0,9,71,94,147,107]++List.replicate 48 0)]++List.replicate 8 Zs),
  .mp .i64 .str [],
  .arr (.st (.pair (.int .i64) .str)) [],
  .arr (.int .i64) [],
  .mp .i64 .str [(0,([83,0,0,0,0,0,1,0,3,1,0,24,185,192,119,251]++List.replicate 48 0))],
  .mp .i64 .str []]
def z94:AV:=(.tup [(.agg [(.int .i64 0),(.int .i64 0),(.int .i64 1),(.int .i64 0),(.int .i64 3),(.int .i64 1),(.int .i64 24),(.own 16),(.own 17)]),(.int .i64 0)])
def ZaJ:List AE.Obj :=
  [.cells [(.ptr 1 0),(.int .i64 0),(.int .i64 0),(.int .i64 1),(.int .i64 0),(.int .i64 3),(.int .i64 1),(.int .i64 24),(.ptr 2 0),(.ptr 3 0),(.ptr 4 0)],
  .cells [(.ptr 5 0),(.ptr 6 0),(.ptr 7 0),(.int .i64 15),(.int .i64 24),(.int .i64 4),(.int .i64 2),(.int .i64 55),(.int .i64 2),(.bool false),(.bool false),(.ptr 8 0)],
  .cells [(.ptr 1 0),(.int .i64 3),(.int .i64 1),(.int .i64 24)],
  .cells [(.ptr 1 0),(.int .i64 3),(.int .i64 1),(.int .i64 24)],
  .cells [(.int .i64 3),(.own 9)],
  .cells [(.own 10),(.map 11),(.own 12),(.int .i64 86),(.own 13),(.int .i64 0),(.bool false)],
  .cells [(.ptr 5 0),(.int .i64 15),(.int .i64 2)],
  .cells [(.ptr 5 0),(.int .i64 17),(.int .i64 22)],
  .cells [(.map 14),(.map 15)],
  .arr (.int .u8) [0],
  .arr .str ([([83,0,0,0,0,0,0,0,3,1,0,24,28,19,43,48]++List.replicate 48 0),([74,3,0,199,130,97,169]++List.replicate 57 0),([69]++List.replicate 30 0++[231,223,105,83]++List.replicate 29 0),([69]++List.replicate 30 0++[231,223,105,83]++List.replicate 29 0)]++List.replicate 11 Zs++[([76,0,0,0,0,0,4,0,0,0,0,0,54,0,0,80,25,215,37]++List.replicate 45 0),([76,0,0,0,0,0,3,0,0,0,0,0,30,0,16,165,115,95,106]++List.replicate 45 0),([82,0,0,0,0,0,54,1,0,0,62,64,235,186]++List.replicate 50 0),([83,0,0,0,0,0,1,0,3,1,0,24,185,192,119,251]++List.replicate 48 0),([74,3,0,199,130,97,169]++List.replicate 57 0),([69]++List.replicate 30 0++[231,223,105,83]++List.replicate 29 0),([69]++List.replicate 30 0++[231,223,105,83]++List.replicate 29 0),([82,0,0,0,0,0,26,1,0,10,83,154,189,196]++List.replicate 50 0),Zs,([82,0,0,0,0,0,27,2,0,4,0,5,231,115,28,134]++List.replicate 48 0),Zs,Zs,([82,0,0,0,0,0,28,2,0,6,0,7,223,196,140,108]++List.replicate 48 0),Zs,Zs,([82,0,0,0,0,0,29,2,0,8,0,9,71,94,147,107]++List.replicate 48 0)]++List.replicate 8 Zs),
  .mp .i64 .str [],
  .arr (.st (.pair (.int .i64) .str)) [],
  .arr (.int .i64) [],
  .mp .i64 .str [(0,([83,0,0,0,0,0,1,0,3,1,0,24,185,192,119,251]++List.replicate 48 0))],
  .mp .i64 .str [],
  .arr (.st (.pair (.int .i64) (.pair (.pair (.int .i64) (.int .i64)) (.pair .str (.pair (.pair (.pair (.int .i64) (.int .i64)) .str) (.pair (.pair (.int .i64) (.int .i64)) .str)))))) [(0,((0,0),((List.replicate 128 0),(((0,0),[]),((0,0),[]))))),(0,((0,0),((List.replicate 128 0),(((0,0),[]),((0,0),[]))))),(0,((0,0),((List.replicate 128 0),(((0,0),[]),((0,0),[])))))],
  .arr .bool [false,false,false]]
noncomputable def zKw:=yI Zbg z93 z94 ZaJ
def z9B:List AV:=[(.agg [(.int .i64 0),(.int .i64 0),(.int .i64 1),(.int .i64 0),(.int .i64 3),(.int .i64 1),(.int .i64 24),(.ro (.st (.pair (.int .i64) (.pair (.pair (.int .i64) (.int .i64)) (.pair .str (.pair (.pair (.pair (.int .i64) (.int .i64)) .str) (.pair (.pair (.int .i64) (.int .i64)) .str)))))) [(0,((0,0),((List.replicate 128 0),(((0,0),[]),((0,0),[]))))),(0,((0,0),((List.replicate 128 0),(((0,0),[]),((0,0),[]))))),(0,((0,0),((List.replicate 128 0),(((0,0),[]),((0,0),[])))))]),(.ro .bool [false,false,false])])]
def z9U:List AE.Obj :=
  []
def Zbz:AV:=(.tup [(.own 0),(.int .i64 0)])
def Zah:List AE.Obj :=
  [.arr .str [([20,0,64,83,0,0,0,0,0,1,0,3,1,0,24,185,192,119,251]++List.replicate 48 0++[161,18,126,15]),([21,0,145]++List.replicate 145 0++[163,155,109,121]),([21,0,145,1]++List.replicate 144 0++[190,96,35,33]),([21,0,145,2]++List.replicate 144 0++[153,109,240,201]),[22,0,6,0,4,132,108,85,101,65,147,97,118]]]
noncomputable def zWz:=yI z9B z9U Zbz Zah
def z9Q:List AV:=[(.ro .str [([20,0,64,83,0,0,0,0,0,1,0,3,1,0,24,185,192,119,251]++List.replicate 48 0++[161,18,126,15]),([21,0,145]++List.replicate 145 0++[163,155,109,121]),([21,0,145,1]++List.replicate 144 0++[190,96,35,33]),([21,0,145,2]++List.replicate 144 0++[153,109,240,201]),[22,0,6,0,4,132,108,85,101,65,147,97,118]])]
def Zbv:List AE.Obj :=
  []
def ZaQ:AV:=(.tup [(.agg [(.int .i64 0),(.int .i64 0),(.int .i64 1),(.int .i64 0),(.int .i64 3),(.int .i64 1),(.int .i64 24),(.own 0),(.own 1)]),(.int .i64 0)])
def z99:List AE.Obj :=
  [.arr (.st (.pair (.int .i64) (.pair (.pair (.int .i64) (.int .i64)) (.pair .str (.pair (.pair (.pair (.int .i64) (.int .i64)) .str) (.pair (.pair (.int .i64) (.int .i64)) .str)))))) [(0,((0,0),((List.replicate 128 0),(((0,0),[]),((0,0),[]))))),(0,((0,0),((List.replicate 128 0),(((0,0),[]),((0,0),[]))))),(0,((0,0),((List.replicate 128 0),(((0,0),[]),((0,0),[])))))],
  .arr .bool [false,false,false]]
noncomputable def z6D:=yI z9Q Zbv ZaQ z99
def z9Y:List AV:=[(.agg [(.int .i64 0),(.int .i64 0),(.int .i64 1),(.int .i64 0),(.int .i64 3),(.int .i64 1),(.int .i64 24),(.ro (.st (.pair (.int .i64) (.pair (.pair (.int .i64) (.int .i64)) (.pair .str (.pair (.pair (.pair (.int .i64) (.int .i64)) .str) (.pair (.pair (.int .i64) (.int .i64)) .str)))))) [(0,((0,0),((List.replicate 128 0),(((0,0),[]),((0,0),[]))))),(0,((0,0),((List.replicate 128 0),(((0,0),[]),((0,0),[]))))),(0,((0,0),((List.replicate 128 0),(((0,0),[]),((0,0),[])))))]),(.ro .bool [false,false,false])]),(.agg [(.int .i64 0),(.int .i64 0),(.int .i64 1),(.int .i64 0),(.int .i64 3),(.int .i64 1),(.int .i64 24),(.ro (.st (.pair (.int .i64) (.pair (.pair (.int .i64) (.int .i64)) (.pair .str (.pair (.pair (.pair (.int .i64) (.int .i64)) .str) (.pair (.pair (.int .i64) (.int .i64)) .str)))))) [(0,((0,0),((List.replicate 128 0),(((0,0),[]),((0,0),[]))))),(0,((0,0),((List.replicate 128 0),(((0,0),[]),((0,0),[]))))),(0,((0,0),((List.replicate 128 0),(((0,0),[]),((0,0),[])))))]),(.ro .bool [false,false,false])])]
def Zaf:List AE.Obj :=
  []
def Zaj:AV:=(.bool true)
def Zal:List AE.Obj :=
  []
noncomputable def z9I:=yI z9Y Zaf Zaj Zal
noncomputable def Tb0:Env:=yy
noncomputable def To0:Lo:=loD Tryz.prog Tryz.tab Tb0 Yj Yk 40
noncomputable def Tb1:Env:=(112,.func T0f)::yy
noncomputable def To1:Lo:=loD Tryz.prog Tryz.tab Tb1 Yj Yk 40
noncomputable def Tb2:Env:=(112,.func T0f)::(114,.func T1f)::yy
noncomputable def To2:Lo:=loD Tryz.prog Tryz.tab Tb2 Yj Yk 40
noncomputable def Tb3:Env:=(112,.func T0f)::(114,.func T1f)::(116,.func T2f)::yy
noncomputable def To3:Lo:=loD Tryz.prog Tryz.tab Tb3 Yj Yk 40
noncomputable def Tb4:Env:=(112,.func T0f)::(114,.func T1f)::(116,.func (orF T2f T3f))::yy
noncomputable def To4:Lo:=loD Tryz.prog Tryz.tab Tb4 Yj Yk 40
noncomputable def Tb5:Env:=(112,.func T0f)::(114,.func T1f)::(116,.func (orF T2f (orF T3f T4f)))::yy
noncomputable def To5:Lo:=loD Tryz.prog Tryz.tab Tb5 Yj Yk 40
noncomputable def Tb6:Env:=(112,.func T0f)::(114,.func T1f)::(116,.func (orF T2f (orF T3f (orF T4f T5f))))::yy
noncomputable def To6:Lo:=loD Tryz.prog Tryz.tab Tb6 Yj Yk 40
noncomputable def Tb7:Env:=(112,.func T0f)::(114,.func T1f)::(116,.func (orF T2f (orF T3f (orF T4f (orF T5f T6f)))))::yy
noncomputable def To7:Lo:=loD Tryz.prog Tryz.tab Tb7 Yj Yk 40
noncomputable def Tb8:Env:=(112,.func T0f)::(114,.func T1f)::(116,.func (orF T2f (orF T3f (orF T4f (orF T5f T6f)))))::(125,.func T7f)::yy
noncomputable def To8:Lo:=loD Tryz.prog Tryz.tab Tb8 Yj Yk 40
noncomputable def Tb9:Env:=(77,.func T8f)::(112,.func T0f)::(114,.func T1f)::(116,.func (orF T2f (orF T3f (orF T4f (orF T5f T6f)))))::(125,.func T7f)::yy
noncomputable def To9:Lo:=loD Tryz.prog Tryz.tab Tb9 Yj Yk 40
noncomputable def Zbx:Env:=(77,.func T8f)::(112,.func T0f)::(114,.func (orF T1f T9f))::(116,.func (orF T2f (orF T3f (orF T4f (orF T5f T6f)))))::(125,.func T7f)::yy
noncomputable def Za9:Lo:=loD Tryz.prog Tryz.tab Zbx Yj Yk 40
noncomputable def ZaV:Env:=(77,.func T8f)::(78,.func zjX)::(112,.func T0f)::(114,.func (orF T1f T9f))::(116,.func (orF T2f (orF T3f (orF T4f (orF T5f T6f)))))::(125,.func T7f)::yy
noncomputable def Zba:Lo:=loD Tryz.prog Tryz.tab ZaV Yj Yk 40
noncomputable def z9z:Env:=(77,.func T8f)::(78,.func zjX)::(112,.func T0f)::(114,.func (orF T1f T9f))::(116,.func (orF T2f (orF T3f (orF T4f (orF T5f (orF T6f zrn))))))::(125,.func T7f)::yy
noncomputable def Zbq:Lo:=loD Tryz.prog Tryz.tab z9z Yj Yk 40
noncomputable def Zbj:Env:=(43,.func zAi)::(77,.func T8f)::(78,.func zjX)::(112,.func T0f)::(114,.func (orF T1f T9f))::(116,.func (orF T2f (orF T3f (orF T4f (orF T5f (orF T6f zrn))))))::(125,.func T7f)::yy
noncomputable def Zas:Lo:=loD Tryz.prog Tryz.tab Zbj Yj Yk 40
noncomputable def z9T:Env:=(18,.func zKw)::(43,.func zAi)::(77,.func T8f)::(78,.func zjX)::(112,.func T0f)::(114,.func (orF T1f T9f))::(116,.func (orF T2f (orF T3f (orF T4f (orF T5f (orF T6f zrn))))))::(125,.func T7f)::yy
noncomputable def ZaG:Lo:=loD Tryz.prog Tryz.tab z9T Yj Yk 40
noncomputable def z9F:Env:=(9,.func zWz)::(18,.func zKw)::(43,.func zAi)::(77,.func T8f)::(78,.func zjX)::(112,.func T0f)::(114,.func (orF T1f T9f))::(116,.func (orF T2f (orF T3f (orF T4f (orF T5f (orF T6f zrn))))))::(125,.func T7f)::yy
noncomputable def Zak:Lo:=loD Tryz.prog Tryz.tab z9F Yj Yk 40
noncomputable def Zaz:Env:=(7,.func z6D)::(9,.func zWz)::(18,.func zKw)::(43,.func zAi)::(77,.func T8f)::(78,.func zjX)::(112,.func T0f)::(114,.func (orF T1f T9f))::(116,.func (orF T2f (orF T3f (orF T4f (orF T5f (orF T6f zrn))))))::(125,.func T7f)::yy
noncomputable def Za2:Lo:=loD Tryz.prog Tryz.tab Zaz Yj Yk 40
noncomputable def Zax:Env:=(7,.func z6D)::(9,.func zWz)::(10,.func z9I)::(18,.func zKw)::(43,.func zAi)::(77,.func T8f)::(78,.func zjX)::(112,.func T0f)::(114,.func (orF T1f T9f))::(116,.func (orF T2f (orF T3f (orF T4f (orF T5f (orF T6f zrn))))))::(125,.func T7f)::yy
noncomputable def z90:Lo:=loD Tryz.prog Tryz.tab Zax Yj Yk 40
end Go.Proofs.R9
