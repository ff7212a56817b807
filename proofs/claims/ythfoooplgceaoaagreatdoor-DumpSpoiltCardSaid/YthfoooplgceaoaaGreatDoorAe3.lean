/- The abstract evaluator AE, proved: part 3. -/
import Derived.Test.YthfoooplgceaoaaGreatDoorAe2
import Derived.OpenShut
import Derived.WalkKit
import Derived.ProofKit
import Derived.ShutString
import Derived.ChangeOld
import Derived.SizedLaws
import Derived.Carry
set_option linter.unusedVariables false
set_option linter.unusedSimpArgs false
namespace Go.AE
open Go.RowKit (Below)
variable {P:Program} {T:Tab} {E:Env} {hint:ziK}
theorem qm {r:Option Nat} {c:Code} {Q:Exit→Act→World→Prop} {a:Act} {w:World} (h:wE r P c Q a w):(Code.loop c).wpIn (WF r) 0 P Q a w:=by
  intro b k cs hro _ _
  obtain ⟨e,a',w',hq,harr⟩:=h b k cs hro
  exact ⟨e,a',w',hq,.of_steps (.one (fenced_calm (fr:=b.atR a (.code (.loop c)::k)) (zbq r _) (zvg r (cs.length+1+0)) rfl) stepR_loop) harr⟩
theorem zcR {r:Option Nat} {c:Code} {Q:Exit→Act→World→Prop} {a:Act} {w:World} (h:c.wpIn (WF r) 0 P (Exit.then (wE r P c Q) Q) a w):wE r P c Q a w:=by
  intro b k cs hro
  obtain ⟨e,a₁,w₁,hq,harr⟩:=h b (.inLoop c::k) cs hro (zbq r _) (zvg r _)
  cases e with
  | normal =>
    obtain ⟨e₂,a₂,w₂,hq₂,harr₂⟩:=hq b k cs hro
    exact ⟨e₂,a₂,w₂,hq₂,.of_steps (StepsIn.trans harr (.one (fenced_calm (fr:=b.atR a₁ (.inLoop c::k)) (zbq r _) (zvg r (cs.length+1+0)) rfl) stepR_inLoop)) harr₂⟩
  | exit id=>exact ⟨_,a₁,w₁,hq,.pass (x := .inLoop c) rfl (fun _ _ => .inl (by simp)) harr⟩
  | goto l=>exact ⟨_,a₁,w₁,hq,.pass (x := .inLoop c) rfl (fun _ _ => .inl (by simp)) harr⟩
  | ret=>exact ⟨_,a₁,w₁,hq,.pass (x := .inLoop c) rfl (fun _ _ => .inl (by simp)) harr⟩
  | panic ch=>exact ⟨_,a₁,w₁,hq,.pass (x := .inLoop c) rfl (fun _ _ => .inl (by simp)) harr⟩
  | outgrown=>exact ⟨_,a₁,w₁,hq,.pass (x := .inLoop c) rfl (fun _ _ => .inl (by simp)) harr⟩
def zz0 [BT] (P:Program) (X:Nat→Ann→Code→(Ex→St→Ans)→St→Ans):Prop :=
  ∀{r:Option Nat} {F:Fr} {nt:Nat} {x:Ann} {c:Code} {K:Ex→St→Ans} {s:St} {C:Cx} {a:Act} {stk:List (Array Value)} {res:AV×List Obj},
    X nt x (.loop c) K s=some res→zr P nt (.loop c) x→y6 r F→zw F C s a.tmps stk→nt≤a.tmps.size→Ym F a.defers→wE r P c (yx F K stk nt res) a C.w
theorem zw.blk [BT] {F:Fr} {C:Cx} {env:zQ} {sk:List zQ} {H:List Obj} {x y:Nat} {tmps:Array Value} {stk:List (Array Value)} (h:zw F C ⟨env,sk,H,x⟩ tmps stk):zw F C ⟨env,sk,H,y⟩ tmps stk :=
  ⟨h.H,h.heap,h.env,h.stk,h.frame⟩
theorem wE.mono {r:Option Nat} {c:Code} {Q Q':Exit→Act→World→Prop} {a:Act} {w:World} (h:wE r P c Q a w) (hq : ∀e a w,Q e a w→Q' e a w):wE r P c Q' a w :=
  fun b k cs hro=>let ⟨e,a',w',q,h⟩:=h b k cs hro;⟨e,a',w',hq _ _ _ q,h⟩
theorem wc [BT] {r:Option Nat} {nt:Nat} {F:Fr} {stk:List (Array Value)} {res:AV×List Obj} {c:Code} {f:Ann→(Ex→St→Ans)→St→Ans}
    (hf : ∀{x:Ann} {K:Ex→St→Ans} {s:St} {C:Cx} {a:Act},f x K s=some res→zr P nt c x→y6 r F→zw F C s a.tmps stk→nt≤a.tmps.size→Ym F a.defers→c.wpIn (WF r) 0 P (yx F K stk nt res) a C.w)
    {x:Ann} {K:Ex→St→Ans} {s:St} {C:Cx} {a:Act} (h:zaz f x K s=some res) (hx:za8 P nt c x (zr P nt c x)) (hro:y6 r F) (hS:zw F C s a.tmps stk) (hsz:nt≤a.tmps.size) (hd:Ym F a.defers) :
    c.wpIn (WF r) 0 P (yx F K stk nt res) a C.w:=by
  unfold zaz at h
  unfold za8 at hx
  split at h
  · rename_i k0 keep G
    rw [ZS] at h
    obtain ⟨C',hw,hS'⟩:=YU hS keep
    obtain ⟨s'',C'',hw',hS'',h⟩:=wt hS' h
    rw [← hw,← hw']
    exact hx h hro hS'' hsz hd
  · rename_i hne
    refine hf h ?_ hro hS hsz hd
    split at hx
    · exact absurd rfl (hne _ _ _)
    · exact hx
section
variable [BT] (hm:P.follows .mixedOrders=true) (hT:zJ P T) (hE:zd P E) {inl:Nat→Ann→Code→(Ex→St→Ans)→St→Ans} (hI:qj P inl)
  {nt:Nat} {rec:Nat→Ann→Code→(Ex→St→Ans)→St→Ans} (hR:zz0 P rec) {r:Option Nat} {stk:List (Array Value)} {res:AV×List Obj}
include hm hT hE hI hR
theorem Q6 : ∀(c:Code) {F:Fr} {x:Ann} {K:Ex→St→Ans} {s:St} {C:Cx} {a:Act},Z7 T E hint inl nt rec c x K s=some res→zr P nt c x→y6 r F→zw F C s a.tmps stk→nt≤a.tmps.size→Ym F a.defers →
    c.wpIn (WF r) 0 P (yx F K stk nt res) a C.w:=by
  intro c
  induction c with
  | skip =>
    intro F x K s C a h hx hro hS hsz hd
    rw [Z7] at h
    exact wpIn_skip ⟨F,.norm,s,C,FLe.refl F,rfl,h,rfl,hS,hsz,hd⟩
  | region id ops draw =>
    intro F x K s C a h hx hro hS hsz hd
    rw [Z7] at h
    cases draw with
    | false =>
      simp only [cond_false] at h
      refine wpIn_region ?_
      have:=zfG hT hE hI (Q:=yx F K stk nt res) (all:=ops) (ds:=a.defers) (rn:=r) (fun s C a' hK hS hsz hd'=>⟨F,.norm,s,C,FLe.refl F,rfl,hK,rfl,hS,hsz,by rw [hd'];exact hd⟩) ops.toList 0 (by simp) h hS hsz rfl
      rw [List.range_eq_range']
      simpa using this
    | true =>
      simp only [cond_true] at h
      have hW:Below C.w.heap.size C.w { C.w with drawn:=C.w.drawn+1 }:=⟨rfl,rfl,rfl,Nat.le_refl _,fun _ _=>rfl⟩
      have hS1:=Yt hS hW
      replace h:=zC h;obtain ⟨hsel,h⟩:=h
      refine wpIn_region_any hm ?_
      refine j5 (ents:=[]) (an:=zea (Yw ops ops.size)) (Q:=fun a' w'=>yx F K stk nt res .normal a' w') (fun a' w' h=>h) _ _ _ _ ?_
      refine qY hT hE hI hsel (ds:=a.defers) (fun s C a' hK hS hsz hd' => ?_) ops.size _ [] [] ?_ (by rw [ZX]) h hS1 hsz rfl
      · obtain ⟨s',C',hw,hS',hK⟩:=zEd hS hK
        rw [← hw]
        exact ⟨F,.norm,s',C',FLe.refl F,rfl,hK,rfl,hS',hsz,by rw [hd'];exact hd⟩
      intro j oj _ hl
      rw [getD_replicate_false] at hl
      cases hl
  | seq p q ihx ihy =>
    intro F x K s C a h hx hro hS hsz hd
    rw [Z7] at h
    refine wpIn_seq (wpIn_mono (wc (fun h hx hro hS hsz hd=>ihx h hx hro hS hsz hd) h hx.1 hro hS hsz hd) ?_)
    rintro e a' w' ⟨F',e',s',C',hle,rfl,hK,rfl,hS',hsz',hd'⟩
    cases e' with
    | norm=>exact wpIn_mono (wc (fun h hx hro hS hsz hd=>ihy h hx hro hS hsz hd) hK hx.2 (hro.le hle) hS' hsz' hd') fun _ _ _ h=>h.of_le hle
    | exit i=>exact ⟨F',.exit i,s',C',hle,rfl,hK,rfl,hS',hsz',hd'⟩
    | ret=>exact ⟨F',.ret,s',C',hle,rfl,hK,rfl,hS',hsz',hd'⟩
    | goto l=>exact ⟨F',.goto l,s',C',hle,rfl,hK,rfl,hS',hsz',hd'⟩
  | cond c p q ihx ihy =>
    intro F x K s C a h hx hro hS hsz hd
    rw [Z7] at h
    split at h
    · rename_i p hp
      have hv:=zN (C:=C) hS.env c
      rw [hp,VRel] at hv
      refine wpIn_cond hv ?_
      cases p with
      | true=>exact wc (fun h hx hro hS hsz hd=>ihx h hx hro hS hsz hd) h hx.1 hro hS hsz hd
      | false=>exact wc (fun h hx hro hS hsz hd=>ihy h hx hro hS hsz hd) h hx.2 hro hS hsz hd
    · cases h
  | block id c ih =>
    intro F x K s C a h hx hro hS hsz hd
    obtain ⟨env,sk,H,blk⟩:=s
    rw [Z7] at h
    refine wpIn_block (wpIn_mono (wc (fun h hx hro hS hsz hd=>ih h hx hro hS hsz hd) h hx hro hS.blk hsz hd) ?_)
    rintro e a' w' ⟨F',e',s',C',hle,rfl,hK,rfl,hS',hsz',hd'⟩
    cases e' with
    | norm=>exact ⟨F',.norm,s',C',hle,rfl,hK,rfl,hS',hsz',hd'⟩
    | exit i =>
      simp only at hK
      show if i=id then _ else _
      by_cases hi:i=id
      · subst hi
        rw [if_pos rfl]
        rw [Nat.beq_refl,cond_true] at hK
        exact ⟨F',.norm,s',C',hle,rfl,hK,rfl,hS',hsz',hd'⟩
      · rw [if_neg hi]
        rw [zeE hi,cond_false] at hK
        exact ⟨F',.exit i,s',C',hle,rfl,hK,rfl,hS',hsz',hd'⟩
    | ret=>exact ⟨F',.ret,s',C',hle,rfl,hK,rfl,hS',hsz',hd'⟩
    | goto l=>exact ⟨F',.goto l,s',C',hle,rfl,hK,rfl,hS',hsz',hd'⟩
  | loop c ih =>
    intro F x K s C a h hx hro hS hsz hd
    rw [Z7] at h
    obtain ⟨s',C',hw,hS',h⟩:=zd1 hS h
    rw [← hw]
    split at h
    · rename_i G hG
      exact qm (hx.2 G hG h hro hS' hsz hd)
    · exact qm (hR h hx hro hS' hsz hd)
  | exit id =>
    intro F x K s C a h hx hro hS hsz hd
    rw [Z7] at h
    exact wpIn_exit ⟨F,.exit id,s,C,FLe.refl F,rfl,h,rfl,hS,hsz,hd⟩
  | ret =>
    intro F x K s C a h hx hro hS hsz hd
    rw [Z7] at h
    exact wpIn_ret ⟨F,.ret,s,C,FLe.refl F,rfl,h,rfl,hS,hsz,hd⟩
  | label l =>
    intro F x K s C a h hx hro hS hsz hd
    rw [Z7] at h
    exact wpIn_label ⟨F,.norm,s,C,FLe.refl F,rfl,h,rfl,hS,hsz,hd⟩
  | _=>intro F x K s C a h hx hro hS hsz hd;simp [Z7] at h
end
section
variable [BT] (hm:P.follows .mixedOrders=true) (hT:zJ P T) (hE:zd P E)
include hm hT hE
theorem Q8 {inl:Nat→Ann→Code→(Ex→St→Ans)→St→Ans} (hI:qj P inl) : ∀n:Nat,qj P (zA T E hint inl n)∧zz0 P (zA T E hint inl n)
  | 0=>by
    constructor
    · intro r F nt x c K s C a stk res h _ _ _ _ _
      rw [zA] at h
      cases h
    · intro r F nt x c K s C a stk res h _ _ _ _ _
      rw [zA] at h
      cases h
  | n+1=>by
    obtain ⟨ih1,ih2⟩:=Q8 hI n
    have hL:zz0 P (zA T E hint inl (n+1)):=by
      intro r F nt x c K s C a stk res h hx hro hS hsz hd
      rw [zA] at h
      unfold zM0 at h
      refine zcR (wpIn_mono (wc (fun h hx hro hS hsz hd=>Q6 hm hT hE hI ih2 c h hx hro hS hsz hd) h hx.1 hro hS hsz hd) ?_)
      rintro e a' w' ⟨F',e',s',C',hle,rfl,hK,rfl,hS',hsz',hd'⟩
      cases e' with
      | norm =>
        obtain ⟨env,sk,H,blk⟩:=s'
        simp only at hK
        rw [Z7] at hK
        obtain ⟨s'',C'',hw,hS'',hK⟩:=zd1 (s:=⟨env,sk,H,s.blk⟩) hS'.blk hK
        refine wE.mono ?_ (fun _ _ _ h=>yx.of_le hle h)
        show wE r P c (yx F' K stk nt res) a' C'.w
        rw [← hw]
        split at hK
        · rename_i G hG
          exact hx.2 G hG hK (hro.le hle) hS'' hsz' hd'
        · exact ih2 hK hx (hro.le hle) hS'' hsz' hd'
      | exit i=>exact ⟨F',.exit i,s',C',hle,rfl,hK,rfl,hS',hsz',hd'⟩
      | ret=>exact ⟨F',.ret,s',C',hle,rfl,hK,rfl,hS',hsz',hd'⟩
      | goto l=>exact ⟨F',.goto l,s',C',hle,rfl,hK,rfl,hS',hsz',hd'⟩
    refine ⟨?_,hL⟩
    intro r F nt x c K s C a stk res h hx hro hS hsz hd
    cases c with
    | loop b=>exact qm (hL h hx hro hS hsz hd)
    | rangeFunc g ps as b =>
      cases x with
      | rnd y=>exact hx.elim
      | _=>rw [zA] at h <;> first | exact Q6 hm hT hE hI ih2 _ h hx hro hS hsz hd | (intro y e;cases e)
    | _=>rw [zA] at h <;> first | exact Q6 hm hT hE hI ih2 _ h hx hro hS hsz hd | (intro b hb;cases hb;done) | (intro _ _ _ b hb;cases hb;done)
theorem WJ : ∀(d n:Nat),qj P (zD T E hint d n)
  | 0,n=>by
    intro h hx hro hS hsz hd
    rw [zD] at h
    refine (Q8 (hint:=hint) hm hT hE (inl:=fun _ _ _ _ _=>none) ?_ n).1 h hx hro hS hsz hd
    intro r F nt x c K s C a stk res h _ _ _ _ _
    cases h
  | d+1,n=>by
    intro h hx hro hS hsz hd
    rw [zD] at h
    exact (Q8 (hint:=hint) hm hT hE (WJ d n) n).1 h hx hro hS hsz hd
end
def zaQ (o:Obj) (t:Nat):AV :=
  match o with
  | .mp _ _ _ => .map t
  | _ => .ptr t 0
def zbM (o:Obj) (b:Nat):Value :=
  match o with
  | .mp _ _ _ => .map (some b)
  | _ => .pointer (some ⟨b,0,none⟩)
theorem zrl : ∀(l:List Obj) (n t:Nat),Zd (Z4 n l) t = .unk∨(Zd (Z4 n l) t=zaQ (zn l (t - n)) t∧n≤t∧(zn l (t - n)).isBlk=true)
  | [],n,t => .inl rfl
  | o::r,n,t=>by
    have ih:=zrl r (n+1) t
    have step:(Zd (Z4 (n+1) r) t=zaQ (zn r (t - (n+1))) t∧n+1≤t∧(zn r (t - (n+1))).isBlk=true)→Zd (Z4 (n+1) r) t=zaQ (zn (o::r) (t - n)) t∧n≤t∧(zn (o::r) (t - n)).isBlk=true:=by
      rintro ⟨h0,h1,h2⟩
      rw [show t - n=(t - (n+1))+1 by omega,zn]
      exact ⟨h0,by omega,h2⟩
    cases o with
    | cells cs =>
      rw [Z4,Zm]
      split
      · rename_i e
        subst e
        exact .inr ⟨by rw [Nat.sub_self,zn];rfl,Nat.le_refl _,by rw [Nat.sub_self,zn];rfl⟩
      · rcases ih with h | h
        · exact .inl h
        · exact .inr (step h)
    | bcells cs =>
      rw [Z4,Zm]
      split
      · rename_i e
        subst e
        exact .inr ⟨by rw [Nat.sub_self,zn];rfl,Nat.le_refl _,by rw [Nat.sub_self,zn];rfl⟩
      · rcases ih with h | h
        · exact .inl h
        · exact .inr (step h)
    | btold cs =>
      rw [Z4,Zm]
      split
      · rename_i e
        subst e
        exact .inr ⟨by rw [Nat.sub_self,zn];rfl,Nat.le_refl _,by rw [Nat.sub_self,zn];rfl⟩
      · rcases ih with h | h
        · exact .inl h
        · exact .inr (step h)
    | mp kk tt ll =>
      rw [Z4,Zm]
      split
      · rename_i e
        subst e
        exact .inr ⟨by rw [Nat.sub_self,zn];rfl,Nat.le_refl _,by rw [Nat.sub_self,zn];rfl⟩
      · rcases ih with h | h
        · exact .inl h
        · exact .inr (step h)
    | _ =>
      rw [Z4]
      · rcases ih with h | h
        · exact .inl h
        · exact .inr (step h)
      all_goals simp
theorem zLi {n:Nat} {a:AV} (h:ziR n a=true):a = .ptr n 0:=by
  unfold ziR at h
  split at h
  · rw [Bool.and_eq_true] at h
    rw [Nat.eq_of_beq_eq_true h.1,Nat.eq_of_beq_eq_true h.2]
  · cases h
theorem zJk {n:Nat} {a:AV} (h:zsg n a=true):a = .map n:=by
  unfold zsg at h
  split at h
  · rw [Nat.eq_of_beq_eq_true h]
  · cases h
theorem JK {env:zQ} : ∀(l:List Obj) (n:Nat),Z3 env n l=true → ∀j,(zn l j).isBlk=true→Zd env (n+j)=zaQ (zn l j) (n+j)
  | [],n,_,j,hj=>by rw [zn] at hj;cases hj
  | o::r,n,h,j,hj=>by
    cases j with
    | zero =>
      rw [zn] at hj ⊢
      cases o <;> first | (cases hj;done) | skip
      case mp kk tt ll =>
        rw [Z3,Bool.and_eq_true] at h
        exact zJk h.1
      all_goals
        rw [Z3,Bool.and_eq_true] at h
        exact zLi h.1
    | succ j =>
      rw [zn] at hj ⊢
      have hr:Z3 env (n+1) r=true:=by
        cases o with
        | cells cs=>rw [Z3,Bool.and_eq_true] at h;exact h.2
        | bcells cs=>rw [Z3,Bool.and_eq_true] at h;exact h.2
        | btold cs=>rw [Z3,Bool.and_eq_true] at h;exact h.2
        | mp kk tt ll=>rw [Z3,Bool.and_eq_true] at h;exact h.2
        | _ =>
          rw [Z3] at h
          · exact h
          all_goals simp
      have:=JK r (n+1) hr j hj
      rwa [show n+1+j=n+(j+1) by omega] at this
def Yu (C:Cx):Array Value:=((List.range C.H.length).map fun i=>match C.ρ i with | some b=>zbM (zn C.H i) b | none=>undef).toArray
theorem JQ {C:Cx} {i b:Nat} (hi:i<C.H.length) (hb:C.ρ i=some b):(Yu C).getD i undef=zbM (zn C.H i) b:=by
  simp [Yu,hi,hb]
theorem wX {H:List Obj} {i:Nat} (h:(zn H i).isBlk=true):zt H i:=by
  unfold zt
  intro e
  rw [e] at h
  cases h
theorem zUg [BT] {C:Cx} (hh:zY C) {i:Nat} (h:(zn C.H i).isBlk=true) : ∃b,C.ρ i=some b:=by
  cases hg:zn C.H i <;> rw [hg] at h <;> first | (cases h;done) | skip
  case cells cs =>
    obtain ⟨b,_,_,_,hb,_⟩:=qy hh hg
    exact ⟨b,hb⟩
  case bcells cs =>
    obtain ⟨b,_,_,hb,_⟩:=zbr hh hg
    exact ⟨b,hb⟩
  case btold cs =>
    obtain ⟨b,_,_,hb,_⟩:=zvI hh hg
    exact ⟨b,hb⟩
  case mp kk tt ll =>
    have:=hh.obj i
    rw [hg] at this
    obtain ⟨b,_,_,hb,_⟩:=this
    exact ⟨b,hb⟩
theorem zIM {C:Cx} {o:Obj} {t b:Nat} (hb:C.ρ t=some b) (hl:zt C.H t):VRel C (zaQ o t) (zbM o b):=by
  cases o <;> (simp only [zaQ,zbM];rw [VRel];exact ⟨b,hb,rfl,hl⟩)
theorem zdZ {C:Cx} {o:Obj} {t b:Nat} (h:VRel C (zaQ o t) (zbM o b)):C.ρ t=some b∧zt C.H t:=by
  cases o <;>
    (simp only [zaQ,zbM] at h
     rw [VRel] at h
     obtain ⟨b',hb',e,hl⟩:=h
     have:b=b':=by simpa using e
     subst this
     exact ⟨hb',hl⟩)
theorem zi7 [BT] {C:Cx} (hh:zY C):Zj C (Z4 0 C.H) (Yu C):=by
  intro t
  rcases zrl C.H 0 t with h | ⟨h,_,hg⟩
  · rw [h,VRel];trivial
  · rw [Nat.sub_zero] at hg h
    obtain ⟨b,hb⟩:=zUg hh hg
    have hl:=wX hg
    rw [h,JQ (Z2 hl) hb]
    exact zIM hb hl
section
variable [BT] (hm:P.follows .mixedOrders=true) (hT:zJ P T) (hE:zd P E)
include hm hT hE
theorem zjh {F:Fr} {C:Cx} (hh:zY C) (hF:zF F C) {g:Nat} {fn:Func} {c:Code} (hf:P.funcs[g]? = some fn) (hb:fn.body=some c) {args:List AV} {us:Array Value} (hargs:VRels C args us.toList)
    {d n:Nat} {x:Ann} (hx:zr P fn.ntmps c x) {K:AV→List Obj→Ans} {res:AV×List Obj} (h:fnE T E hint d n g fn.ntmps fn.results.toList x c args C.H K=some res) :
    Calls P g us C.w fun
      | .returned v,w' => ∃r C',K r C'.H=some res∧C'.w=w'∧zY C'∧zF F C'∧VRel C' r v∧(∀j b,(zn C.H j).isBlk=true→C.ρ j=some b→C'.ρ j=some b∧zt C'.H j)
      | _,_=>False:=by
  unfold fnE at h
  obtain ⟨F1,hF1⟩ : ∃F1:Fr,F1={ F.re C with base:=C.w.heap.size }:=⟨_,rfl⟩
  have hF1C:zF F1 C:=by rw [hF1];exact ⟨rfl,rfl,rfl,Nat.le_refl _,fun _ _ _=>rfl,fun _ h=>h,fun _ h => .inl h,fun i b hl hb => .inl ⟨i,hl,hb⟩⟩
  have hback : ∀C',zF F1 C'→zF F C':=fun C' h=>(zbt hF).frame C' (by rw [hF1] at h;exact ⟨h.os,h.tape,h.output,h.size,h.keep,h.r0,h.rN,h.own⟩)
  have hb1:F1.base=C.w.heap.size:=by rw [hF1]
  have hw1:F.w0.heap.size≤C.w.heap.size:=hF.size
  have hS:zw F1 C { env:=ZD 0 args,stk:=[Z4 0 C.H],H:=C.H,blk:=Nat.mul g 4096 } (us++Array.replicate (fn.ntmps - us.size) undef) [Yu C] :=
    ⟨rfl,hh,jk hargs _,by rw [Zz];exact ⟨_,[],rfl,zi7 hh,by rw [Zz]⟩,hF1C⟩
  refine (callsIn_wide (n:=0)).1 (callsIn_of_wp_marks hf hb trivial (wpIn_mono (WJ (hint:=hint) hm hT hE d n (r:=none) (a:={ tmps:=us++Array.replicate (fn.ntmps - us.size) undef,defers:=[] }) h hx (y6.none _) hS (by simp;omega) ⟨by rw [hF1];exact Nat.le_refl _,trivial⟩) ?_))
  rintro e a' w' ⟨F2,e',s',C0,hle,rfl,hK,rfl,hS0,hsz,hd⟩
  have fin:(match s'.stk with
      | [env]=>cond (Z3 env 0 C.H) (Zn T s' fn.results.toList [] fun vs=>zfp C.H.length (yP vs) s'.H K) none
      | _=>none)=some res → ∀W,Priv F2.base C0 W →
      ∃v,(results fn a'.tmps).run P W = .ok v W ∧ ∃r C'',K r C''.H=some res∧C''.w=W∧zY C''∧zF F C''∧VRel C'' r v∧(∀j b,(zn C.H j).isBlk=true→C.ρ j=some b→C''.ρ j=some b∧zt C''.H j):=by
    intro hr W hW
    obtain ⟨C',hC'⟩ : ∃C',C'=C0.at W:=⟨_,rfl⟩
    have hS':zw F C' s' a'.tmps [Yu C]:=by
      rw [hC']
      exact Z8 (F:=F) ⟨hS0.H,hS0.heap,hS0.env,hS0.stk,hback _ (hle.frame _ hS0.frame)⟩ (by rw [hle.base,hb1];exact hw1) hW
    have hCw:C'.w=W:=by rw [hC'];rfl
    rw [← hCw]
    split at hr
    · rename_i env hst
      replace hr:=zC hr;obtain ⟨hro,hr⟩:=hr
      obtain ⟨rs,v,h1,h2,h3⟩:=YD hT hS' hr
      rw [← hS'.H] at h1
      obtain ⟨r',C'',hw'',hh'',hF'',hv'',hK'',hkeep⟩:=zdx hS'.heap hS'.frame h3 h1
      refine ⟨v,h2,r',C'',hK'',hw'',hh'',hF'',hv'',?_⟩
      intro j b hg hbj
      have hl:zt C.H j:=wX hg
      have hlt:=Z2 hl
      have hst':=hS'.stk
      rw [hst,Zz] at hst'
      obtain ⟨v',vs',he,henv,_⟩:=hst'
      cases he
      have hv:=henv j
      have hroot:=JK C.H 0 hro j hg
      rw [Nat.zero_add] at hroot
      rw [hroot,JQ hlt hbj] at hv
      obtain ⟨hb',hlv⟩:=zdZ hv
      exact hkeep j hlt b hb' hlv
    · cases hr
  cases e' with
  | norm=>exact yl _ F2 C0 hd.2 hS0.frame (fun W hW=>fin hK W hW)
  | ret=>exact yl _ F2 C0 hd.2 hS0.frame (fun W hW=>fin hK W hW)
  | exit i=>cases hK
  | goto l=>cases hK
theorem zOe {g:Nat} {fn:Func} {c:Code} (hf:P.funcs[g]? = some fn) (hb:fn.body=some c) (hn:fn.name ≠ "runtime.NumGoroutine") {Ff:List AV→List Obj→(AV→List Obj→Ans)→Ans} {d:Nat} {x:Ann} (hx:zr P fn.ntmps c x)
    (h : ∀args H K res,Ff args H K=some res → ∃n,fnE T E hint d n g fn.ntmps fn.results.toList x c args H K=some res):zP P g Ff:=by
  refine ⟨⟨fn,hf,by rw [hb];rfl,hn⟩,fun C args us K res Fr hh hF hargs hFf => ?_⟩
  obtain ⟨n,hn⟩:=h args C.H K res hFf
  exact zjh (hint:=hint) hm hT hE hh hF hf hb hargs hx hn
end
def AV.scal:AV→Bool
  | .bool _=>true
  | .int _ _=>true
  | .str _=>true
  | .nilp=>true
  | .nils=>true
  | .nilm=>true
  | .nilf=>true
  | .nili=>true
  | _=>false
mutual
def AV.closed1:AV→Bool
  | .tup vs=>AV.closedL vs
  | .agg vs=>AV.closedL vs
  | .ifc _ v=>v.closed1
  | v=>v.scal
def AV.closedL:List AV→Bool
  | []=>true
  | v::r=>v.closed1&&AV.closedL r
end
mutual
def yS:AV→Value
  | .tup vs => .tuple (zcd vs).toArray
  | .agg vs => .agg (zcd vs).toArray
  | .ifc t v => .iface t (yS v)
  | v=>zaA v
def zcd:List AV→List Value
  | []=>[]
  | v::r=>yS v::zcd r
end
theorem jr {C:Cx} {a:AV} {v:Value} (hc:a.scal=true):VRel C a v↔v=zaA a:=by
  cases a <;> first | (cases hc;done) | (rw [VRel];rfl)
mutual
theorem y3 {C:Cx} : ∀{a:AV} {v:Value},a.closed1=true→(VRel C a v↔v=yS a)
  | .tup vs,v,hc=>by
    rw [AV.closed1] at hc
    rw [VRel,yS]
    constructor
    · rintro ⟨us,rfl,h⟩
      congr 1
      rw [← ZJ us,(qX hc).1 h]
    · intro e
      exact ⟨_,e,(qX hc).2 rfl⟩
  | .agg vs,v,hc=>by
    rw [AV.closed1] at hc
    rw [VRel,yS]
    constructor
    · rintro ⟨us,rfl,h⟩
      congr 1
      rw [← ZJ us,(qX hc).1 h]
    · intro e
      exact ⟨_,e,(qX hc).2 rfl⟩
  | .ifc t x,v,hc=>by
    rw [AV.closed1] at hc
    rw [VRel,yS]
    constructor
    · rintro ⟨y,rfl,h⟩
      rw [(y3 hc).1 h]
    · intro e
      exact ⟨_,e,(y3 hc).2 rfl⟩
  | .bool _,v,_=>by rw [yS];exact jr rfl;all_goals simp
  | .int _ _,v,_=>by rw [yS];exact jr rfl;all_goals simp
  | .str _,v,_=>by rw [yS];exact jr rfl;all_goals simp
  | .nilp,v,_=>by rw [yS];exact jr rfl;all_goals simp
  | .nils,v,_=>by rw [yS];exact jr rfl;all_goals simp
  | .nilm,v,_=>by rw [yS];exact jr rfl;all_goals simp
  | .nilf,v,_=>by rw [yS];exact jr rfl;all_goals simp
  | .nili,v,_=>by rw [yS];exact jr rfl;all_goals simp
  | .unk,v,hc=>by simp [AV.closed1,AV.scal] at hc
  | .gh _,v,hc=>by simp [AV.closed1,AV.scal] at hc
  | .ptr _ _,v,hc=>by simp [AV.closed1,AV.scal] at hc
  | .eptr _ _ _,v,hc=>by simp [AV.closed1,AV.scal] at hc
  | .rptr _ _ _,v,hc=>by simp [AV.closed1,AV.scal] at hc
  | .own _,v,hc=>by simp [AV.closed1,AV.scal] at hc
  | .sub _ _ _ _,v,hc=>by simp [AV.closed1,AV.scal] at hc
  | .ro _ _,v,hc=>by simp [AV.closed1,AV.scal] at hc
  | .map _,v,hc=>by simp [AV.closed1,AV.scal] at hc
  | .fn _ _ _,v,hc=>by simp [AV.closed1,AV.scal] at hc
theorem qX {C:Cx} : ∀{l:List AV} {vs:List Value},AV.closedL l=true→(VRels C l vs↔vs=zcd l)
  | [],vs,_=>by rw [VRels,zcd]
  | a::r,vs,hc=>by
    rw [AV.closedL,Bool.and_eq_true] at hc
    rw [VRels,zcd]
    constructor
    · rintro ⟨v,vs',rfl,h1,h2⟩
      rw [(y3 hc.1).1 h1,(qX hc.2).1 h2]
    · intro e
      exact ⟨yS a,zcd r,e,(y3 hc.1).2 rfl,(qX hc.2).2 rfl⟩
end
section
variable [BT] (hm:P.follows .mixedOrders=true) (hT:zJ P T) (hE:zd P E)
include hm hT hE
end
def zL:List Nat→Code→Code
  | [],c=>c
  | 0::r,.seq a _=>zL r a
  | _::r,.seq _ b=>zL r b
  | 0::r,.cond _ a _=>zL r a
  | _::r,.cond _ _ b=>zL r b
  | _::r,.block _ c=>zL r c
  | _::r,.loop c=>zL r c
  | _::r,.rangeFunc _ _ _ c=>zL r c
  | _::_,c=>c
section
variable [BT] (hm:P.follows .mixedOrders=true) (hT:zJ P T) (hE:zd P E)
include hm hT hE
end
section
variable [BT] (hm:P.follows .mixedOrders=true) (hT:zJ P T) (hE:zd P E)
include hm hT hE
end
end Go.AE
namespace Go.AE
variable {P:Program} {T:Tab}
def zuR (T:Tab) (g:Ty→Nat→Bool) (y:Ty) (t:Nat):Bool :=
  match Tab.get T t with
  | some i=>cond i.isAgg (g (.st y) t) (g y t)
  | none=>false
def zbV:Ty→Bool
  | .unit=>true
  | _=>false
def zfA (T:Tab) (g:Ty→Nat→Bool):Ty→List (Nat×Nat)→Nat→Bool
  | y,[],_=>zbV y
  | y,[(t,off)],o=>Nat.beq off o&&zuR T g y t
  | .pair a b,(t,off)::r,o=>Nat.beq off o&&zuR T g a t&&zfA T g b r (o+a.size)
  | _,_::_::_,_=>false
def zfo (T:Tab) (g:Ty→Nat→Bool) (t:Nat):Ty→Nat→Bool
  | y,0=>zbV y
  | y,1=>zuR T g y t
  | .pair a b,n+2=>zuR T g a t&&zfo T g t b (n+1)
  | _,_+2=>false
def fit (T:Tab):Nat→Ty→Nat→Bool
  | 0,_,_=>false
  | n+1,y,t=>match Tab.get T t with
    | none=>false
    | some i=>Nat.beq i.size y.size&&(match y,i.k with
      | .int k,.sc=>match zaU i with
        | some k'=>match decEq k' k with | isTrue _=>true | isFalse _=>false
        | none=>false
      | .bool,.sc=>match i.zero with
        | [.bool _]=>true
        | _=>false
      | .str,.sc=>W7 i
      | .list e,.slice e'=>fit T n e e'&&Nat.ble 1 e.size
      | .st f,.struct fs=>zfA T (fit T n) f fs 0
      | .st f,.array m e=>zfo T (fit T n) e f m
      | _,_=>false)
def Ty.wf:(t:Ty)→t.T→Prop
  | .int k,n=>k.min≤n∧n≤k.max
  | .bool,_=>True
  | .str,s=>s.length≤maxLen
  | .unit,_=>True
  | .st f,x=>f.wf x
  | .pair a b,x=>a.wf x.1∧b.wf x.2
  | .list e,l=>l.length≤maxLen ∧ ∀x ∈ l,e.wf x
theorem zBT [BT] {n:Nat} {y:Ty} {t:Nat} (hT:zJ P T) (h:fit T n y t=true):P.cellsOf t=y.size:=by
  cases n with
  | zero=>cases h
  | succ n =>
    rw [fit] at h
    split at h
    · cases h
    · rename_i i hi
      obtain ⟨d,info,z,hok⟩:=hT t i hi
      simp only [Bool.and_eq_true] at h
      have:=Nat.eq_of_beq_eq_true h.1
      simp [Program.cellsOf,hok.inf,hok.size,this]
section
variable {H:Type} {enc:TypeId×Value→H} {w:World} {base:Nat} {spare:Nat→Bool} {held:Bool}
abbrev Whole (w:World):Nat→Prop:=fun b=>b<w.heap.size
def zyj (P:Program) (enc:TypeId×Value→H) (w:World) (base:Nat) (spare:Nat→Bool) (held:Bool) (g:Ty→Nat→Bool):Prop :=
  ∀(y:Ty) (t:Nat) (m:Nat) (cs:List Value) (x:DataW H×List MemPlace),g y t=true→DataW.trod enc P w base spare held m t cs=some x → ∃v:y.T,zE (Whole w) w y v cs∧y.wf v
theorem zdc [BT] {g:Ty→Nat→Bool} (hT:zJ P T) (hg:zyj P enc w base spare held g) (hs : ∀y t,g y t=true→P.cellsOf t=y.size) {y:Ty} {t m:Nat} {cs:List Value} {x:DataW H×List MemPlace}
    (h:zuR T g y t=true) (hx:DataW.trod enc P w base spare held m t cs=some x):P.cellsOf t=y.size ∧ ∃v:y.T,zE (Whole w) w y v cs∧y.wf v:=by
  unfold zuR at h
  split at h
  · rename_i i hi
    cases ha:i.isAgg with
    | true =>
      rw [ha,cond_true] at h
      obtain ⟨v,hv,hw⟩:=hg (.st y) t m cs x h hx
      exact ⟨(hs (.st y) t h).trans rfl,v,hv,hw⟩
    | false =>
      rw [ha,cond_false] at h
      obtain ⟨v,hv,hw⟩:=hg y t m cs x h hx
      exact ⟨hs _ _ h,v,hv,hw⟩
  · cases h
theorem zv5 {y:Ty} (h:zbV y=true):y = .unit:=by
  cases y <;> first | rfl | cases h
theorem zry [BT] {g:Ty→Nat→Bool} (hT:zJ P T) (hg:zyj P enc w base spare held g) (hs : ∀y t,g y t=true→P.cellsOf t=y.size) {cs:List Value} {m:Nat} :
    ∀(fs:List (Nat×Nat)) (y:Ty) (o:Nat),zfA T g y fs o=true→cs.length=o+y.size →
      (∀f ∈ fs,∃x,DataW.trod enc P w base spare held m f.1 ((cs.drop f.2).take (P.cellsOf f.1))=some x) → ∃v:y.T,zE (Whole w) w y v (cs.drop o)∧y.wf v
  | [],y,o,h,hl,_=>by
    have hu:zbV y=true:=by rw [zfA] at h;exact h
    obtain rfl:=zv5 hu
    refine ⟨(),?_,trivial⟩
    rw [zE]
    simp only [Ty.size] at hl
    rw [List.drop_eq_nil_iff]
    omega
  | [(t,off)],y,o,h,hl,hf=>by
    rw [zfA] at h
    simp only [Bool.and_eq_true] at h
    obtain rfl:=Nat.eq_of_beq_eq_true h.1
    obtain ⟨x,hx⟩:=hf (t,off) (by simp)
    obtain ⟨h1,v,hv,hw⟩:=zdc hT hg hs h.2 hx
    refine ⟨v,?_,hw⟩
    dsimp only at hv
    rw [h1,List.take_of_length_le (by simp;omega)] at hv
    exact hv
  | (t,off)::q::r,y,o,h,hl,hf=>by
    cases y with
    | pair a b =>
      rw [zfA] at h
      · simp only [Bool.and_eq_true] at h
        obtain ⟨⟨ho,ha⟩,hb⟩:=h
        obtain rfl:=Nat.eq_of_beq_eq_true ho
        obtain ⟨x,hx⟩:=hf (t,off) (by simp)
        obtain ⟨h1,v,hv,hw⟩:=zdc hT hg hs ha hx
        obtain ⟨v',hv',hw'⟩:=zry hT hg hs (q::r) b (off+a.size) hb (by rw [hl,Ty.size];omega) (fun f hm=>hf f (List.mem_cons_of_mem _ hm))
        refine ⟨(v,v'),?_,hw,hw'⟩
        rw [zE]
        dsimp only at hv
        rw [h1] at hv
        refine ⟨_,_,?_,hv,hv'⟩
        rw [← List.drop_drop,List.take_append_drop]
      · simp
    | _=>simp [zfA] at h
theorem zoV [BT] {g:Ty→Nat→Bool} (hT:zJ P T) (hg:zyj P enc w base spare held g) (hs : ∀y t,g y t=true→P.cellsOf t=y.size) {t m:Nat} :
    ∀(n:Nat) (y:Ty) (cs:List Value),zfo T g t y n=true→cs.length=y.size →
      (∀i,i<n → ∃x,DataW.trod enc P w base spare held m t ((cs.drop (i*P.cellsOf t)).take (P.cellsOf t))=some x) → ∃v:y.T,zE (Whole w) w y v cs∧y.wf v
  | 0,y,cs,h,hl,_=>by
    have hu:zbV y=true:=by rw [zfo] at h;exact h
    obtain rfl:=zv5 hu
    refine ⟨(),?_,trivial⟩
    rw [zE]
    simp only [Ty.size] at hl
    exact List.length_eq_zero_iff.1 hl
  | 1,y,cs,h,hl,hf=>by
    rw [zfo] at h
    obtain ⟨x,hx⟩:=hf 0 (by omega)
    obtain ⟨h1,v,hv,hw⟩:=zdc hT hg hs h hx
    refine ⟨v,?_,hw⟩
    rw [h1,Nat.zero_mul,List.drop_zero,List.take_of_length_le (by omega)] at hv
    exact hv
  | n+2,y,cs,h,hl,hf=>by
    cases y with
    | pair a b =>
      rw [zfo] at h
      simp only [Bool.and_eq_true] at h
      obtain ⟨ha,hb⟩:=h
      obtain ⟨x,hx⟩:=hf 0 (by omega)
      obtain ⟨h1,v,hv,hw⟩:=zdc hT hg hs ha hx
      rw [Nat.zero_mul,List.drop_zero] at hv
      obtain ⟨v',hv',hw'⟩:=zoV hT hg hs (n+1) b (cs.drop (P.cellsOf t)) hb (by rw [List.length_drop,hl,Ty.size,h1];omega) (fun i hi=>by
        obtain ⟨x,hx⟩:=hf (i+1) (by omega)
        refine ⟨x,?_⟩
        rw [List.drop_drop,show P.cellsOf t+i*P.cellsOf t=(i+1)*P.cellsOf t by rw [Nat.add_mul];omega]
        exact hx)
      refine ⟨(v,v'),?_,hw,hw'⟩
      rw [zE]
      exact ⟨_,_,(List.take_append_drop _ _).symm,hv,hv'⟩
    | _=>simp [zfo] at h
theorem zzW {a:Addr} {n:Nat} (h:a.spot=none):a.add n=⟨a.block,a.off+n,none⟩:=by
  unfold Addr.add
  split
  · rename_i e;subst e;cases a;simp_all
  · rfl
theorem zNg {a:Addr} {u:Value} (h:w.cell? a=some u):a.spot=none:=by
  unfold World.cell? at h
  split at h
  · split at h
    · cases h
    · rename_i hs;simpa using hs
  · cases h
theorem zSG {a:Addr} {u:Value} (h:w.cell? a=some u):a.block<w.heap.size:=by
  unfold World.cell? at h
  split at h
  · rename_i e;exact (Array.getElem?_eq_some_iff.1 e).1
  · cases h
theorem zmd {α:Type} {p:Nat→α→Prop} : ∀(n:Nat),(∀i,i<n → ∃a,p i a) → ∃l:List α,l.length=n ∧ ∀i a,l[i]? = some a→p i a
  | 0,_=>⟨[],rfl,by simp⟩
  | n+1,h=>by
    obtain ⟨l,hl,hp⟩:=zmd n fun i hi=>h i (by omega)
    obtain ⟨a,ha⟩:=h n (by omega)
    refine ⟨l++[a],by simp [hl],fun i x hi => ?_⟩
    rcases Nat.lt_trichotomy i n with hlt | rfl | hgt
    · rw [List.getElem?_append_left (by omega)] at hi
      exact hp i x hi
    · rw [List.getElem?_append_right (by omega),hl] at hi
      simp at hi
      subst hi
      exact ha
    · rw [List.getElem?_eq_none (by simp;omega)] at hi
      cases hi
theorem zA5 [BT] (hT:zJ P T) : ∀n:Nat,zyj P enc w base spare held (fit T n)
  | 0=>fun y t m cs x h=>by cases h
  | n+1=>fun y t m cs x h hx=>by
    have ih:=zA5 hT n
    have hs : ∀y t,fit T n y t=true→P.cellsOf t=y.size:=fun y t h=>zBT hT h
    have hsz:=zBT hT h
    rw [fit] at h
    split at h
    · cases h
    · rename_i i hi
      obtain ⟨d,info,z,hok⟩:=hT t i hi
      simp only [Bool.and_eq_true] at h
      obtain ⟨hszb,h⟩:=h
      have hk:=hok.kind
      split at h
      · rename_i k hkk
        split at h
        · rename_i k' hk'
          split at h
          · rename_i e _
            subst e
            have hd:=Wv hok hk'
            obtain ⟨v,rfl,_,hw⟩:=DataW.trod_int (by rw [hok.under,hd]) hx
            refine ⟨v,by rw [zE],?_⟩
            rw [Ty.wf]
            simpa [Lit.wf] using hw
          · cases h
        · cases h
      · rename_i hkk
        split at h
        · rename_i b hz
          rw [hkk] at hk
          simp only [Z0,hz] at hk
          have hd:d = .bool:=by cases d <;> simp_all [yn]
          obtain ⟨v,rfl,_⟩:=DataW.trod_bool (by rw [hok.under,hd]) hx
          exact ⟨v,by rw [zE],trivial⟩
        · cases h
      · rename_i hkk
        have hd:=YY hok hkk h
        obtain ⟨v,rfl,_,hl⟩:=DataW.trod_string (by rw [hok.under,hd]) hx
        refine ⟨v.data.toList,by rw [zE],?_⟩
        rw [Ty.wf]
        rw [Array.length_toList]
        exact hl
      · rename_i e e' hkk
        rw [hkk] at hk
        obtain ⟨rfl,_⟩:=hk
        simp only [Bool.and_eq_true] at h
        have h1:=Nat.le_of_ble_eq_true h.2
        have hse:=hs _ _ h.1
        rcases DataW.trod_slice hok.under hx with ⟨rfl,_⟩ | ⟨a,len,cap,elems,rest,m',_,rfl,_,hb,hl,hm,hlen,hel,_,_⟩
        · exact ⟨[],by rw [zE];exact ⟨none,0,rfl,Nat.le_refl _,.inl rfl⟩,by rw [Ty.wf];simp⟩
        · have key : ∀i,i<len → ∃v:e.T,(∃us,us.length=e.size∧zE (Whole w) w e v us ∧ ∀j u,us[j]? = some u→w.cell? ((a.add (i*e.size)).add j)=some u)∧e.wf v:=by
            intro i hi
            have:=hel i hi
            rw [List.getElem?_eq_getElem (by omega)] at this
            obtain ⟨cs',hc,hy⟩:=Option.bind_eq_some_iff.1 this
            obtain ⟨v,hv,hw⟩:=ih e e' m' cs' _ h.1 hy
            obtain ⟨_,hcl,hcells⟩:=World.cells?_some hc
            rw [hse] at hcl hcells
            refine ⟨v,⟨cs',hcl,hv,fun j u hj => ?_⟩,hw⟩
            have hjl:=(List.getElem?_eq_some_iff.1 hj).1
            rw [hcells j (by omega)]
            exact hj
          obtain ⟨l,hll,hlp⟩:=zmd len key
          refine ⟨l,?_,by rw [Ty.wf];exact ⟨by omega,fun x hx=>by
            obtain ⟨i,hi,rfl⟩:=List.mem_iff_getElem.1 hx
            exact (hlp i _ (List.getElem?_eq_getElem hi)).2⟩⟩
          rw [zE]
          refine ⟨some a,cap,by rw [hll],by omega,?_⟩
          by_cases h0:l=[]
          · exact .inl h0
          · right
            have hpos:0<l.length:=List.length_pos_iff.2 h0
            obtain ⟨⟨us,hul,_,hu⟩,_⟩:=hlp 0 _ (List.getElem?_eq_getElem hpos)
            have hc0:w.cell? a=some (us[0]'(by omega)):=by
              have:=hu 0 _ (List.getElem?_eq_getElem (by omega))
              simpa [Addr.add] using this
            have hsp:=zNg hc0
            refine ⟨a.block,a.off,?_,zSG hc0,fun i x hi => ?_⟩
            · cases a;simp_all
            · obtain ⟨⟨us,_,hd,hu⟩,_⟩:=hlp i x hi
              refine ⟨us,hd,fun j u hj => ?_⟩
              have:=hu j u hj
              rw [zzW hsp,zzW rfl] at this
              rw [← Nat.add_assoc]
              exact this
      · rename_i f fs hkk
        rw [hkk] at hk
        obtain ⟨fields,rfl,hfs,_⟩:=hk
        obtain ⟨xs,m',_,_,hl,hxl,hxf⟩:=DataW.trod_struct hok.under hx
        obtain ⟨v,hv,hw⟩:=zry (cs:=cs) (m:=m') hT ih hs fs f 0 h (by rw [hl,hsz];simp [Ty.size]) (fun q hq=>by
          rw [← hfs] at hq
          obtain ⟨fl,hfl,rfl⟩:=List.mem_map.1 hq
          obtain ⟨j,hj,rfl⟩:=List.mem_iff_getElem.1 hfl
          have hj':j<fields.size:=by simpa using hj
          have:=hxf j fields[j] (by simp [hj'])
          rw [List.getElem?_eq_getElem (by omega)] at this
          exact ⟨_,by simpa using this⟩)
        exact ⟨v,by rw [zE];simpa using hv,hw⟩
      · rename_i f q e hkk
        rw [hkk] at hk
        simp only [Z0] at hk
        subst hk
        obtain ⟨xs,m',_,_,hl,hxl,hxf⟩:=DataW.trod_array hok.under hx
        obtain ⟨v,hv,hw⟩:=zoV (m:=m') hT ih hs q f cs h (by rw [hl,hsz];simp [Ty.size]) (fun i hi=>by
          have:=hxf i hi
          rw [List.getElem?_eq_getElem (by omega)] at this
          exact ⟨_,this⟩)
        exact ⟨v,by rw [zE];exact hv,hw⟩
      · cases h
end
end Go.AE
namespace Go.AE
open Go.RowKit (Below)
open Go.ChangeShapes Go.WideShapes Go.RowKit
variable {P:Program} {T:Tab} {E:Env} {hint:ziK}
def ztA:List Ty→Type
  | []=>Unit
  | y::r=>y.T×ztA r
def zjk:(l:List Ty)→ztA l→List AV
  | [],_=>[]
  | y::r,x=>AE.enc y x.1::zjk r x.2
def zyl:(l:List Ty)→ztA l→Prop
  | [],_=>True
  | y::r,x=>y.wf x.1∧zyl r x.2
def Ty.argOk:Ty→Bool
  | .unit=>false
  | .pair _ _=>false
  | _=>true
def zHy (T:Tab):List Ty→List Nat→Bool
  | [],[]=>true
  | y::r,t::ts=>y.argOk&&fit T 100 y t&&zHy T r ts
  | _,_=>false
section
variable {H:Type} {enc:TypeId×Value→H} {W:World}
theorem zSA [BT] {ρ:Nat→Option Nat} {Hs:List Obj} (hT:zJ P T) {y:Ty} {t:Nat} {v:Value} {d:DataW H} {p:List MemPlace} {r:Reach} {b0 base:Nat} {spare:Nat→Bool} {held:Bool} {n:Nat}
    (hu:y.argOk=true) (h:fit T n y t=true)
    (hval:Value.okWide P W r b0 t v) (hd:DataW.Trod enc P W base spare held t v d p) : ∃x:y.T,VRel ⟨Whole W,ρ,Hs,W⟩ (AE.enc y x) v∧y.wf x:=by
  obtain ⟨m,hm⟩:=hd
  obtain ⟨x,hx,hw⟩:=zA5 hT n y t m _ _ h hm
  refine ⟨x,?_,hw⟩
  cases n with
  | zero=>cases h
  | succ n =>
    rw [fit] at h
    split at h
    · cases h
    · rename_i i hi
      obtain ⟨dd,info,z,hok⟩:=hT t i hi
      simp only [Bool.and_eq_true] at h
      obtain ⟨hszb,h⟩:=h
      have hk:=hok.kind
      split at h
      · rename_i k hkk
        split at h
        · rename_i k' hk'
          split at h
          · rename_i e _
            subst e
            obtain ⟨q,rfl⟩:=okWide_int (hok.under.trans (by rw [Wv hok hk'])) hval
            rw [zE] at hx
            simp [Value.cells] at hx
            obtain ⟨_,rfl⟩:=hx
            rw [AE.enc,VRel]
          · cases h
        · cases h
      · rename_i hkk
        split at h
        · rename_i b hz
          rw [hkk] at hk
          simp only [Z0,hz] at hk
          have hd:dd = .bool:=by cases dd <;> simp_all [yn]
          obtain ⟨q,rfl⟩:=okWide_bool (hok.under.trans (by rw [hd])) hval
          rw [zE] at hx
          simp [Value.cells] at hx
          subst hx
          rw [AE.enc,VRel]
        · cases h
      · rename_i hkk
        obtain ⟨q,rfl⟩:=okWide_string (hok.under.trans (by rw [YY hok hkk h])) hval
        rw [zE] at hx
        simp [Value.cells] at hx
        subst hx
        rw [AE.enc,VRel]
      · rename_i e e' hkk
        rw [hkk] at hk
        obtain ⟨rfl,_⟩:=hk
        obtain ⟨a,len,cap,rfl⟩:=okWide_slice hok.under hval
        rw [AE.enc,VRel]
        exact hx
      · rename_i f fs hkk
        rw [hkk] at hk
        obtain ⟨fields,rfl,_⟩:=hk
        obtain ⟨cs,rfl,_⟩:=okWide_struct hok.under hval
        rw [AE.enc,VRel]
        rw [zE] at hx
        exact ⟨cs,rfl,hx.cells⟩
      · rename_i f q e hkk
        rw [hkk] at hk
        simp only [Z0] at hk
        subst hk
        have : ∃cs,v = .agg cs:=by
          unfold Value.okWide at hval
          rw [hok.under] at hval
          obtain ⟨cs,rfl,_⟩:=hval
          exact ⟨cs,rfl⟩
        obtain ⟨cs,rfl⟩:=this
        rw [AE.enc,VRel]
        rw [zE] at hx
        exact ⟨cs,rfl,hx.cells⟩
      · cases h
theorem zAX [BT] {ρ:Nat→Option Nat} {Hs:List Obj} (hT:zJ P T) {r:Reach} {b0 base:Nat} {spare:Nat→Bool} {held:Bool} : ∀{ys:List Ty} {ts:List TypeId} {vs:List Value} {ds:List (DataW H)} {p:List MemPlace},
    zHy T ys ts=true→(∀(j:Nat) t v,ts[j]? = some t→vs[j]? = some v→Value.okWide P W r b0 t v)→DataW.TrodAll enc P W base spare held ts vs ds p →
    ∃x:ztA ys,VRels ⟨Whole W,ρ,Hs,W⟩ (zjk ys x) vs∧zyl ys x
  | [],[],vs,ds,p,_,_,h=>by
    obtain ⟨rfl,_,_⟩:=trodAll_nil h
    exact ⟨(),(by show VRels _ [] [] ;rw [VRels]),trivial⟩
  | y::ys,t::ts,vs,ds,p,hf,hval,h=>by
    obtain ⟨v,vs',d,ds',p,q,rfl,rfl,rfl,h1,h2⟩:=trodAll_cons h
    rw [zHy] at hf
    simp only [Bool.and_eq_true] at hf
    obtain ⟨x,hx,hw⟩:=zSA (ρ:=ρ) (Hs:=Hs) hT hf.1.1 hf.1.2 (hval 0 t v rfl rfl) h1
    obtain ⟨x',hx',hw'⟩:=zAX (ρ:=ρ) (Hs:=Hs) hT hf.2 (fun j t v ht hv=>hval (j+1) t v (by simpa using ht) (by simpa using hv)) h2
    exact ⟨(x,x'),(by show VRels _ (AE.enc y x::zjk ys x') _;rw [VRels];exact ⟨v,vs',rfl,hx,hx'⟩),hw,hw'⟩
  | [],_::_,_,_,_,hf,_,_=>by cases hf
  | _::_,[],_,_,_,hf,_,_=>by cases hf
theorem zhb (hl:laidOutB P=true) {W':World} (hb:Below W.heap.size W W') : ∀{ts:List TypeId} {vs:List Value} {ds:List (DataW H)} {p:List MemPlace},
    ts.all (fun t=>P.readableRec t&&decide (t<P.types.size))=true→DataW.TrodAll enc P W 0 (fun _=>true) true ts vs ds p →
    DataW.TrodAll enc P W' 0 (fun b=>decide (b<W.heap.size)) true ts vs ds p
  | [],vs,ds,p,_,h=>by
    obtain ⟨rfl,rfl,rfl⟩:=trodAll_nil h
    rfl
  | t::ts,vs,ds,p,hr,h=>by
    obtain ⟨v,vs',d,ds',p,q,rfl,rfl,rfl,h1,h2⟩:=trodAll_cons h
    simp only [List.all_cons,Bool.and_eq_true,decide_eq_true_eq] at hr
    have hlt : ∀x ∈ p,x.block<W.heap.size:=by
      obtain ⟨m,hm⟩:=h1
      exact DataW.trod_lt m _ _ _ hm
    exact ⟨p,q,Below.trod hl hr.1.1 hr.1.2 h1 hb hlt,zhb hl hb (by simpa using hr.2) h2,rfl⟩
end
theorem TrodAll.length {H:Type} {enc:TypeId×Value→H} {W:World} {base:Nat} {spare:Nat→Bool} {held:Bool} : ∀{ts:List TypeId} {vs:List Value} {ds:List (DataW H)} {p:List MemPlace},DataW.TrodAll enc P W base spare held ts vs ds p→ds.length=ts.length
  | [],vs,ds,p,h=>by obtain ⟨rfl,rfl,rfl⟩:=trodAll_nil h;rfl
  | t::ts,vs,ds,p,h=>by
    obtain ⟨v,vs',d,ds',p,q,rfl,rfl,rfl,h1,h2⟩:=trodAll_cons h
    simp [TrodAll.length h2]
def Cx.start (W:World):Cx:=⟨Whole W,fun _=>none,[],W⟩
theorem zG1 [BT] (W:World):zY (Cx.start W):=⟨fun _=>trivial,fun _ _ _ h=>absurd rfl h,fun _ _ h=>absurd rfl h,fun _ h=>h⟩
def Fr.start (W:World):Fr:=⟨W,fun _=>False,Whole W,0⟩
theorem zDt (W:World):zF (Fr.start W) (Cx.start W) :=
  ⟨rfl,rfl,rfl,Nat.le_refl _,fun _ _ _=>rfl,fun _ h=>h,fun _ h => .inl h,fun _ _ h=>absurd rfl h⟩
theorem zDz {W:World} {C:Cx} (h:zF (Fr.start W) C):Below W.heap.size W C.w :=
  ⟨h.os,h.tape,h.output,h.size,fun k hk=>h.keep k hk fun h=>h⟩
theorem zy5 [BT] (hm:P.follows .mixedOrders=true) (hT:zJ P T) (hE:zd P E) (laid:laidOutB P=true) {g:Nat} {fn:Func} {c:Code} (hf:P.funcs[g]? = some fn) (hb:fn.body=some c)
    (hread:fn.params.toList.all (fun t=>P.readableRec t&&decide (t<P.types.size))=true) {tb:TypeId} (hres:fn.resultTypes = #[tb]) (htb:P.underlying tb=some .bool)
    {ys:List Ty} (hfit:zHy T ys fn.params.toList=true) {d:Nat} {ann:Ann} (hann:zr P fn.ntmps c ann)
    (hev : ∀x:ztA ys,zyl ys x → ∃n H',fnE T E hint d n g fn.ntmps fn.results.toList ann c (zjk ys x) [] (fun v H=>some (v,H))=some (.bool true,H'))
    {s:ChangeSpec} (hvars:s.vars=[]) {H:Type} (hfn : ∀ds:List (DataW H),ds.length=fn.params.size→s.fn H ds={ results:=[.lit (.bool true)],args:=ds })
    {enc:TypeId×Value→H} {W:World} {base:Nat} {args:Array Value} {ds gs:List (DataW H)} {before:List MemPlace}
    (hval : ∀(j:Nat) t v,fn.params[j]? = some t→args[j]? = some v→Value.okWide P W .any base t v)
    (hW:DataW.Whole enc P fn.params.toList s.vars false W args.toList ds gs before) :
    Calls P g args W fun e W' => ∃v,e = .returned v∧s.post enc P fn false true false false W args v W':=by
  have hW':=hW
  obtain ⟨p,q,hA,hV,rfl,hfz,hnd⟩:=hW
  rw [hvars] at hV
  obtain ⟨rfl,rfl⟩:=trodVars_none hV
  obtain ⟨x,hx,hw⟩:=zAX (ρ:=fun _=>none) (Hs:=[]) hT hfit (fun j t v ht hv=>hval j t v (by simpa using ht) (by simpa using hv)) hA
  obtain ⟨n,H',hn⟩:=hev x hw
  refine (zjh (hint:=hint) hm hT hE (C:=Cx.start W) (zG1 W) (zDt W) hf hb hx hann hn).mono ?_
  rintro e W' hw'
  cases e with
  | returned v =>
    obtain ⟨r,C',hK,rfl,_,hF,hv,_⟩:=hw'
    cases hK
    rw [VRel] at hv
    subst hv
    have bel:=zDz hF
    have hlen:(ds++[]).length=fn.params.size:=by rw [List.append_nil,TrodAll.length hA,Array.length_toList]
    refine ⟨_,rfl,ds,[],p++[],[],p,[],hW',?_,?_,?_,bel.frame _,fun h=>by cases h⟩
    · rw [hfn _ hlen,hres]
      exact trodAll_mk1 (shut_bool htb _)
    · rw [hfn _ hlen,List.append_nil]
      exact zhb laid bel hread hA
    · rw [hvars]
      have:(s.fn H (ds++[])).vars=[]:=by rw [hfn _ hlen]
      rw [this]
      rfl
  | panicked ch=>exact hw'.elim
  | outgrown=>exact hw'.elim
end Go.AE
namespace Go.AE
variable {P:Program} {T:Tab}
def zQA:AV→Value→Bool
  | .bool a,.bool b=>match a,b with
    | true,true=>true
    | false,false=>true
    | _,_=>false
  | .int k n,.int k' m=>match decEq k k' with
    | isTrue _=>match decEq n m with
      | isTrue _=>true
      | isFalse _=>false
    | isFalse _=>false
  | .str [],.string b=>match b.data.toList with
    | []=>true
    | _=>false
  | .nilp,.pointer none=>true
  | .nils,.slice none 0 0=>true
  | .nilm,.map none=>true
  | .nilf,.nilFunc=>true
  | .nili,.nilIface=>true
  | _,_=>false
def zyw:List AV→List Value→Bool
  | [],[]=>true
  | a::r,v::s=>zQA a v&&zyw r s
  | _,_=>false
theorem zTk {a:AV} {v:Value} (h:zQA a v=true):v=zaA a∧a.isZero=true:=by
  unfold zQA at h
  split at h
  · rename_i x y
    cases x <;> cases y <;> first | exact ⟨rfl,rfl⟩ | cases h
  · split at h
    · rename_i e _
      split at h
      · rename_i e' _
        subst e;subst e'
        exact ⟨rfl,rfl⟩
      · cases h
    · cases h
  · rename_i b
    split at h
    · rename_i e
      refine ⟨?_,rfl⟩
      show Value.string b = .string ⟨[].toArray⟩
      congr 1
      apply ByteArray.ext
      rw [← e]
    · cases h
  all_goals first | exact ⟨rfl,rfl⟩ | cases h
theorem zy1 : ∀{l:List AV} {vs:List Value},zyw l vs=true→vs=l.map zaA∧l.all AV.isZero=true
  | [],[],_=>⟨rfl,rfl⟩
  | a::r,v::s,h=>by
    rw [zyw,Bool.and_eq_true] at h
    obtain ⟨h1,h2⟩:=h
    obtain ⟨rfl,hz⟩:=zTk h1
    obtain ⟨rfl,hr⟩:=zy1 h2
    exact ⟨rfl,by simp [hz,hr]⟩
  | [],_::_,h=>by cases h
  | _::_,[],h=>by cases h
def zla:List (Nat×Nat)→List Field→Bool
  | [],[]=>true
  | (t,o)::r,f::s=>Nat.beq f.type t&&Nat.beq f.offset o&&(f.name != "_")&&zla r s
  | _,_=>false
theorem zq6 : ∀{fs:List (Nat×Nat)} {l:List Field},zla fs l=true→l.map (fun f=>(f.type,f.offset))=fs∧l.all (fun f=>f.name != "_")=true
  | [],[],_=>⟨rfl,rfl⟩
  | (t,o)::r,f::s,h=>by
    rw [zla] at h
    simp only [Bool.and_eq_true] at h
    obtain ⟨⟨⟨h1,h2⟩,h3⟩,h4⟩:=h
    obtain ⟨e,hr⟩:=zq6 h4
    have h1:=Nat.eq_of_beq_eq_true h1
    have h2:=Nat.eq_of_beq_eq_true h2
    exact ⟨by simp [e,h1,h2],by rw [List.all_cons,h3,hr];rfl⟩
  | [],_::_,h=>by cases h
  | _::_,[],h=>by cases h
def zH1 (zero:List AV):TK→TypeDesc→Bool
  | .sc,d=>yn zero d
  | .ptr e,.pointer e'=>Nat.beq e e'&&(match zero with | [.nilp]=>true | _=>false)
  | .slice e,.slice e'=>Nat.beq e e'&&(match zero with | [.nils]=>true | _=>false)
  | .array n e,.array n' e'=>Nat.beq n n'&&Nat.beq e e'
  | .map k e,.map k' e'=>Nat.beq k k'&&Nat.beq e e'&&(match zero with | [.nilm]=>true | _=>false)
  | .struct fs,.struct fields=>zla fs fields.toList
  | _,_=>false
theorem zQx {zero:List AV} {k:TK} {d:TypeDesc} (h:zH1 zero k d=true):Z0 zero k d:=by
  unfold zH1 at h
  split at h
  · exact h
  · simp only [Bool.and_eq_true] at h
    obtain ⟨h1,h2⟩:=h
    rw [Z0,Nat.eq_of_beq_eq_true h1]
    split at h2
    · exact ⟨rfl,rfl⟩
    · cases h2
  · simp only [Bool.and_eq_true] at h
    obtain ⟨h1,h2⟩:=h
    rw [Z0,Nat.eq_of_beq_eq_true h1]
    split at h2
    · exact ⟨rfl,rfl⟩
    · cases h2
  · simp only [Bool.and_eq_true] at h
    rw [Z0,Nat.eq_of_beq_eq_true h.1,Nat.eq_of_beq_eq_true h.2]
  · simp only [Bool.and_eq_true] at h
    obtain ⟨⟨h1,h2⟩,h3⟩:=h
    rw [Z0,Nat.eq_of_beq_eq_true h1,Nat.eq_of_beq_eq_true h2]
    split at h3
    · exact ⟨rfl,rfl⟩
    · cases h3
  · rename_i fs fields
    obtain ⟨h1,h2⟩:=zq6 h
    exact ⟨fields,rfl,h1,h2⟩
  · cases h
def zMf:Bool→Bool→Bool
  | true,true=>true
  | false,false=>true
  | _,_=>false
theorem zNI {a b:Bool} (h:zMf a b=true):a=b:=by cases a <;> cases b <;> first | rfl | cases h
def tyB (i:TI):Bool :=
  match i.ty with
  | none=>true
  | some y=>Nat.beq y.size i.size&&zMf y.isSt i.isAgg && !zbV y
def zIr [BT] (t:Nat) (i:TI):Bool :=
  match i.ty with
  | some (.int .u8)=>Nat.beq t BT.byte
  | _=>true
theorem zPy [BT] {t:Nat} {i:TI} (h:zIr t i=true) (e:i.ty=some (.int .u8)):t=BT.byte:=by
  unfold zIr at h
  rw [e] at h
  exact Nat.eq_of_beq_eq_true h
def zyK [BT] (P:Program) (t:Nat) (i:TI):Bool :=
  match P.underlying t,P.info? t with
  | some d,some info=>(match info.zero with
    | some z=>Nat.beq info.size i.size&&Nat.beq info.bytes i.bytes&&zyw i.zero z.cells.toList&&Nat.beq i.zero.length i.size&&zH1 i.zero i.k d &&
        cond i.isAgg ((!zBi i.zero || !P.stoodInHeld t && !P.eqGuardType P.depth t) && !zop z) (Nat.beq i.size 1&&zop z)&&tyB i&&zIr t i&&(BT.meths.all fun q => !Nat.beq q.1 t || methB P t q.2.1 q.2.2)
    | none=>false)
  | _,_=>false
theorem zv0 {t:Nat} {name:String} {g:Nat} : ∀{l:List (Nat×String×Nat)},zg7 l t name=some g→(l.all fun q => !Nat.beq q.1 t || methB P t q.2.1 q.2.2)=true→methB P t name g=true
  | [],h,_=>by cases h
  | (t',n,g')::r,h,ha=>by
    rw [List.all_cons,Bool.and_eq_true] at ha
    rw [zg7] at h
    cases hb:Nat.beq t' t&&n == name with
    | true =>
      rw [hb,cond_true] at h
      cases h
      simp only [Bool.and_eq_true,beq_iff_eq] at hb
      have h1:=ha.1
      simp only [hb.1,Bool.not_true,Bool.false_or] at h1
      rw [← hb.2];exact h1
    | false =>
      rw [hb,cond_false] at h
      exact zv0 h ha.2
theorem zN7 [BT] {t:Nat} {i:TI} (h:zyK P t i=true) : ∃d info z,y0 P t i d info z:=by
  unfold zyK at h
  split at h
  · rename_i d info hd hinfo
    split at h
    · rename_i z hz
      simp only [Bool.and_eq_true] at h
      obtain ⟨⟨⟨⟨⟨⟨⟨⟨h1,h2⟩,h3⟩,h4⟩,h5⟩,h6⟩,h7⟩,h8⟩,h9⟩:=h
      obtain ⟨hv,hall⟩:=zy1 h3
      refine ⟨d,info,z,hd,hinfo,Nat.eq_of_beq_eq_true h1,Nat.eq_of_beq_eq_true h2,hz,hv,hall,Nat.eq_of_beq_eq_true h4,zQx h5,?_,zPy h8,?_,?_,?_,?_,?_⟩
      · intro ha
        rw [ha,cond_false,Bool.and_eq_true] at h6
        exact Nat.eq_of_beq_eq_true h6.1
      · intro y hy
        unfold tyB at h7
        rw [hy] at h7
        simp only [Bool.and_eq_true,Bool.not_eq_true'] at h7
        refine ⟨Nat.eq_of_beq_eq_true h7.1.1,zNI h7.1.2,?_⟩
        intro e
        rw [e] at h7
        exact absurd h7.2 (by simp [zbV])
      · intro ha hno
        rw [ha,cond_true,Bool.and_eq_true,hno] at h6
        simpa using h6.1
      · intro ha
        rw [ha,cond_false,Bool.and_eq_true] at h6
        exact h6.2
      · intro ha
        rw [ha,cond_true,Bool.and_eq_true] at h6
        simpa using h6.2
      · exact fun name g hg=>zv0 hg h9
    · cases h
  · cases h
def zQg [BT] (P:Program):Tab→Bool
  | []=>true
  | (t,i)::r=>zyK P t i&&zQg P r
theorem zeG [BT] : ∀{T:Tab},zQg P T=true→zJ P T
  | [],_=>fun t i h=>by cases h
  | (t,i)::r,h=>fun t' i' h'=>by
    rw [zQg,Bool.and_eq_true] at h
    rw [Tab.get] at h'
    cases hb:Nat.beq t t' with
    | true =>
      rw [hb,cond_true] at h'
      cases h'
      rw [← Nat.eq_of_beq_eq_true hb]
      exact zN7 h.1
    | false =>
      rw [hb,cond_false] at h'
      exact zeG h.2 t' i' h'
theorem zd.nil [BT]:zd P []:=fun g sp h=>by cases h
theorem zd.cons [BT] {g:Nat} {sp:zkf} {E:Env} (h:zex P g sp) (hE:zd P E):zd P ((g,sp)::E):=fun g' sp' h'=>by
  rw [Env.get] at h'
  cases hb:Nat.beq g g' with
  | true =>
    rw [hb,cond_true] at h'
    cases h'
    rw [← Nat.eq_of_beq_eq_true hb]
    exact h
  | false =>
    rw [hb,cond_false] at h'
    exact hE g' sp' h'
end Go.AE
namespace Go.AE
variable {P:Program} {T:Tab} {E:Env} {hint:ziK}
def zpd {X Y:Type} (step:X→(X→Ans)→(Y→Ans)→Ans):Nat→X→(Y→Ans)→Ans
  | 0,_,_=>none
  | n+1,x,k=>step x (fun x'=>zpd step n x' k) k
theorem Zx {α:Type} {o:Option α} {k:α→Ans} {r:AV×List Obj} (h:za o k=some r) : ∃a,o=some a∧k a=some r:=by
  cases o with
  | none=>cases h
  | some a=>exact ⟨a,rfl,h⟩
theorem zvV {X Y:Type} {step:X→(X→Ans)→(Y→Ans)→Ans} {f:Nat→X→Ans} {k:Y→Ans} (h0 : ∀x,f 0 x=none)
    (h : ∀n x,f (n+1) x=step x (fun x'=>f n x') k) : ∀n x,f n x=zpd step n x k
  | 0,x=>h0 x
  | n+1,x=>by
    rw [h,zpd]
    congr 1
    funext x'
    exact zvV h0 h n x'
theorem zI {f:Func} (hb:f.body.isSome=true):f.body=some (f.body.getD .skip):=by
  cases h:f.body with
  | none=>rw [h] at hb;cases hb
  | some c=>rfl
def inl (f:Func):zkf := .inline f.ntmps f.results.toList .none (f.body.getD .skip)
section
variable [BT] (hm:P.follows .mixedOrders=true) (hT:zJ P T) (hE:zd P E)
include hm hT hE
theorem zS4 {g n:Nat} {fn:Func} {c:Code} (hf:P.funcs[g]? = some fn) (hb:fn.body=some c) (hn:fn.name ≠ "runtime.NumGoroutine") {d:Nat} {x:Ann} (hx:zr P fn.ntmps c x)
    {A:Type} {dec:List AV→Option A} {argsOf:A→List AV} (hdec : ∀l a,dec l=some a→l=argsOf a) {f v:A→(AV→Ans)→Ans}
    (hfn : ∀a,fnE T E hint d n g fn.ntmps fn.results.toList x c (argsOf a) [] (fun v _=>some (v,[]))=f a (fun v=>some (v,[])))
    (hv : ∀a K res,v a K=some res → ∃r,r.closed1=true∧K r=some res∧f a (fun v=>some (v,[]))=some (r,[])) :
    zV P g (fun l K=>za (dec l) fun a=>v a K):=by
  refine ⟨⟨fn,hf,by rw [hb];rfl,hn⟩,fun C args us K res hh hH hargs hFp => ?_⟩
  obtain ⟨a,ha,hFp⟩:=Zx hFp
  have hargsEq:=hdec _ _ ha
  obtain ⟨r,hr,hK,hfa⟩:=hv a K res hFp
  subst hargsEq
  refine ⟨r,yS r,hK,fun C'=>(y3 hr).2 rfl,fun W hW => ?_⟩
  obtain ⟨hh',hat⟩:=zGj hh hH hW
  have hargs':VRels (C.at W) (argsOf a) us.toList:=hat hargs
  let F:Fr:=⟨W,fun _=>False,C.R,0⟩
  have hF:zF F (C.at W):=⟨rfl,rfl,rfl,Nat.le_refl _,fun _ _ _=>rfl,fun _ h=>h,fun _ h => .inl h,fun i b hl=>by
    exact absurd (by show zn C.H i = .dead;rw [hH];rfl) hl⟩
  have hn':fnE T E hint d n g fn.ntmps fn.results.toList x c (argsOf a) (C.at W).H (fun v _=>some (v,[]))=some (r,[]):=by
    show fnE T E hint d n g fn.ntmps fn.results.toList x c (argsOf a) C.H _=_
    rw [hH,hfn a];exact hfa
  refine (zjh (hint:=hint) hm hT hE hh' hF hf hb hargs' hx hn').mono ?_
  intro e w' hw'
  cases e with
  | returned v =>
    obtain ⟨r',C',hK',rfl,_,hF',hv,_⟩:=hw'
    cases hK'
    refine ⟨by rw [(y3 hr).1 hv],⟨hF'.os,hF'.tape,hF'.output,hF'.size,fun k hk=>hF'.keep k hk fun h=>h⟩⟩
  | panicked ch=>exact hw'.elim
  | outgrown=>exact hw'.elim
theorem zSH {g n:Nat} {fn:Func} {c:Code} (hf:P.funcs[g]? = some fn) (hb:fn.body=some c) (hn:fn.name ≠ "runtime.NumGoroutine") {d:Nat} {x:Ann} (hx:zr P fn.ntmps c x)
    {A:Type} {dec:List AV→List Obj→Option A} {argsOf:A→List AV×List Obj} (hdec : ∀l H a,dec l H=some a→(l,H)=argsOf a) {f v:A→(AV→List Obj→Ans)→Ans}
    (hfn : ∀a K,fnE T E hint d n g fn.ntmps fn.results.toList x c (argsOf a).1 (argsOf a).2 K=f a K)
    (hv : ∀a K res,v a K=some res→f a K=some res) :
    zP P g (fun l H K=>za (dec l H) fun a=>v a K):=by
  refine zOe (hint:=hint) (d:=d) hm hT hE hf hb hn hx ?_
  intro args H K res h
  obtain ⟨a,ha,h⟩:=Zx h
  have e:=hdec _ _ _ ha
  refine ⟨n,?_⟩
  have e1:args=(argsOf a).1:=by rw [← e]
  have e2:H=(argsOf a).2:=by rw [← e]
  rw [e1,e2,hfn]
  exact hv a K res h
end
end Go.AE
namespace Go.AE
theorem yz {x:Int} (h : -9223372036854775808≤x) (h':x≤9223372036854775807):IntKind.wrap .i64 x=x:=by
  simp [IntKind.wrap,IntKind.bits,IntKind.signed]
  omega
theorem zSC {α:Type} (l:List α) (j:Nat):nth l (j:Int)=l[j]? := by
  unfold nth
  rw [if_pos (by omega),Int.toNat_natCast]
end Go.AE
namespace Go.AE
open Go.RowKit (Below)
variable {P:Program} {T:Tab} {E:Env} {hint:ziK}
theorem zl {α β:Type} (f:α→Option β):za none f=none:=rfl
theorem zc {α β:Type} (a:α) (f:α→Option β):za (some a) f=f a:=rfl
theorem zj {α β:Type} (c:Bool) (a b:Option α) (f:α→Option β):za (cond c a b) f=cond c (za a f) (za b f):=by cases c <;> rfl
theorem zg {α β γ:Type} (o:Option α) (g:α→Option β) (f:β→Option γ):za (za o g) f=za o fun a=>za (g a) f:=by cases o <;> rfl
theorem zi {α β γ δ:Type} (g:α→Option γ) (h:β→Option γ) (y:α ⊕ β) (f:γ→Option δ):za (Sum.elim g h y) f=Sum.elim (fun a=>za (g a) f) (fun b=>za (h b) f) y:=by cases y <;> rfl
theorem zh {α γ:Type} (y:Empty) (f:α→Option γ):za (Empty.elim y:Option α) f=Empty.elim y:=by cases y
def unP {α β γ:Type} (f:α→β→γ) (x:α×β):γ:=f x.1 x.2
theorem zm {α β γ δ:Type} (f:α→β→Option γ) (y:α×β) (k:γ→Option δ):za (unP f y) k=unP (fun a b=>za (f a b) k) y:=rfl
def zZ {V Y:Type} (f:V→Option (V ⊕ Y)):Nat→V→Option Y
  | 0,_=>none
  | n+1,v=>za (f v) (Sum.elim (fun v'=>zZ f n v') some)
def Zo:Nat:=18446744073709551616
theorem zl6 {V Y:Type} {step:V→(V→Ans)→(Y→Ans)→Ans} {f:V→Option (V ⊕ Y)} (h : ∀v next exit,step v next exit=za (f v) (Sum.elim next exit)) :
    ∀(n:Nat) (v:V) (y:Y),zZ f n v=some y → ∀k,zpd step n v k=k y
  | 0,v,y,he,_=>by cases he
  | n+1,v,y,he,k=>by
    rw [zpd,h]
    rw [zZ] at he
    cases hf:f v with
    | none=>rw [hf] at he;cases he
    | some x =>
      rw [hf] at he
      cases x with
      | inl v'=>exact zl6 h n v' y he k
      | inr z=>cases he;rfl
theorem zgo {V Y:Type} {f:V→Option (V ⊕ Y)} : ∀(n m:Nat) (v:V) (y:Y),n≤m→zZ f n v=some y→zZ f m v=some y
  | 0,_,_,_,_,he=>by cases he
  | n+1,0,_,_,hle,_=>by omega
  | n+1,m+1,v,y,hle,he=>by
    rw [zZ] at he ⊢
    cases hf:f v with
    | none=>rw [hf] at he;cases he
    | some x =>
      rw [hf] at he
      cases x with
      | inl v'=>exact zgo n m v' y (by omega) he
      | inr z=>exact he
def pk {α:Type} {p:α→Prop} (o:Option {x:α // p x}):Option α:=match o with
  | some y=>some y.1
  | none=>none
theorem zx {α:Type} {p:α→Prop} {o:Option {x:α // p x}} {x:α} (h:pk o=some x):p x:=by
  cases o with
  | none=>cases h
  | some y=>cases h;exact y.2
def y9 {I V Y:Type} (dec:St→Option (I×V)) (f:I→V→Option (V ⊕ Y)) (out:I→(Ex→St→Ans)→Y→Ans):(Ex→St→Ans)→St→Ans :=
  fun K s=>za (dec s) fun x=>za (zZ (f x.1) Zo x.2) fun y=>out x.1 K y
def zG {I Y:Type} (dec:St→Option I) (f:I→Option Y) (out:I→(Ex→St→Ans)→Y→Ans):(Ex→St→Ans)→St→Ans :=
  fun K s=>za (dec s) fun x=>za (f x) fun y=>out x K y
def ji {α:Type} (dec:St→Option α) (G1 G2:(Ex→St→Ans)→St→Ans):(Ex→St→Ans)→St→Ans :=
  fun K s=>match dec s with
    | some _=>G1 K s
    | none=>G2 K s
theorem yd [BT] {nt:Nat} {c:Code} {α:Type} {dec:St→Option α} {G1 G2:(Ex→St→Ans)→St→Ans} (h1:zy P nt c G1) (h2:zy P nt c G2):zy P nt c (ji dec G1 G2):=by
  intro r F K s C a stk res h hro hS hsz hd
  unfold ji at h
  split at h
  · exact h1 h hro hS hsz hd
  · exact h2 h hro hS hsz hd
def zUq:List (Nat×List Nat)→Nat→List Nat
  | [],_=>[]
  | (n,l)::r,i=>cond (Nat.beq n i) l (zUq r i)
def exk (n r:List Nat) (xs:List (Nat×List Nat)):Ex→List Nat
  | .norm=>n
  | .ret=>r
  | .exit i=>zUq xs i
  | .goto _=>[]
def zH (k0:Nat) (kp:Ex→List Nat) (K:Ex→St→Ans):Ex→St→Ans :=
  fun e s=>match e with
    | .norm=>yg (s.head (kp .norm)) fun s=>y2 k0 s fun s=>K .norm s
    | .ret=>yg (s.head (kp .ret)) fun s=>y2 k0 s fun s=>K .ret s
    | .exit i=>yg (s.head (kp (.exit i))) fun s=>y2 k0 s fun s=>K (.exit i) s
    | .goto _=>none
def zf:ziK:=fun _=>[]
theorem zlV [BT] {F:Fr} {k0:Nat} {kp:Ex→List Nat} {K:Ex→St→Ans} {stk:List (Array Value)} {nt:Nat} {res:AV×List Obj} {e:Exit} {a:Act} {w:World}
    (h:yx F (zH k0 kp K) stk nt res e a w):yx F K stk nt res e a w:=by
  obtain ⟨F',e',s',C',hle,he,hK,hw,hS',hsz',hd'⟩:=h
  have key : ∀e'',yg (s'.head (kp e'')) (fun s=>y2 k0 s fun s=>K e'' s)=some res→e''.toExit=e→yx F K stk nt res e a w:=by
    intro e'' h he
    rw [ZS] at h
    obtain ⟨C1,hw1,hS1⟩:=YU hS' (kp e'')
    obtain ⟨s2,C2,hw2,hS2,h⟩:=wt hS1 h
    exact ⟨F',e'',s2,C2,hle,he,h,hw2.trans (hw1.trans hw),hS2,hsz',hd'⟩
  cases e' with
  | norm=>exact key _ hK he
  | ret=>exact key _ hK he
  | exit i=>exact key _ hK he
  | goto l=>cases hK
section
variable [BT] (hm:P.follows .mixedOrders=true) (hT:zJ P T) (hE:zd P E)
include hm hT hE
theorem zFS {nt d:Nat} (k0:Nat) (kp:Ex→List Nat) {c:Code} {x:Ann} (hx:zr P nt c x) {G:(Ex→St→Ans)→St→Ans}
    (h : ∀K s res,G K s=some res → ∃m n,zA T E hint (zD T E hint d m) n nt x c (zH k0 kp K) s=some res):zy P nt c G:=by
  intro r F K s C a stk res hG hro hS hsz hd
  obtain ⟨m,n,hn⟩:=h K s res hG
  exact wpIn_mono ((Q8 (hint:=hint) hm hT hE (WJ (hint:=hint) hm hT hE d m) n).1 hn hx hro hS hsz hd) fun e a w hp=>zlV hp
theorem zB {nt d m n:Nat} (k0:Nat) (kp:Ex→List Nat) {c:Code} {x:Ann} (hx:zr P nt c x) {I Y:Type} {S:I→St} {dec:St→Option I} {f:I→Option Y} {p:I→(Y→Ans)→Ans} {out:I→(Ex→St→Ans)→Y→Ans}
    (hdec : ∀s i,dec s=some i→s=S i) (hnode : ∀i K,zA T E hint (zD T E hint d m) n nt x c (zH k0 kp K) (S i)=p i (out i K)) (hnat : ∀i k,p i k=za (f i) k) :
    zy P nt c (zG dec f out):=by
  refine zFS (hint:=hint) (d:=d) hm hT hE k0 kp hx ?_
  intro K s res h
  obtain ⟨i,hi,h⟩:=Zx h
  refine ⟨m,n,?_⟩
  rw [hdec s i hi,hnode,hnat]
  exact h
theorem yQ {nt d m:Nat} (k0:Nat) (kp:Ex→List Nat) {c:Code} {x:Ann} (hx:zr P nt (.loop c) x)
    {I V Y:Type} {S:I→V→St} {dec:St→Option (I×V)} {step:I→V→(V→Ans)→(Y→Ans)→Ans} {f:I→V→Option (V ⊕ Y)} {out:I→(Ex→St→Ans)→Y→Ans}
    (hdec : ∀s x,dec s=some x→s=S x.1 x.2)
    (hstep : ∀n i v K,zA T E hint (zD T E hint d m) (n+1) nt x (.loop c) (zH k0 kp K) (S i v) =
      step i v (fun v'=>zA T E hint (zD T E hint d m) n nt x (.loop c) (zH k0 kp K) (S i v')) (fun z=>out i K z))
    (hnat : ∀i v next exit,step i v next exit=za (f i v) (Sum.elim next exit)):zy P nt (.loop c) (y9 dec f out):=by
  refine zFS (hint:=hint) (d:=d) hm hT hE k0 kp hx ?_
  intro K s res h
  unfold y9 at h
  obtain ⟨⟨i,v⟩,hd,h⟩:=Zx h
  obtain ⟨z,hr,h⟩:=Zx h
  refine ⟨m,Zo,?_⟩
  rw [hdec s _ hd,zvV (step:=step i) (f:=fun n v=>zA T E hint (zD T E hint d m) n nt x (.loop c) (zH k0 kp K) (S i v)) (k:=fun z=>out i K z)
    (fun v=>by rw [zA]) (fun n v=>hstep n i v K) Zo v,zl6 (f:=f i) (fun v next exit=>hnat i v next exit) Zo v z hr]
  exact h
theorem ZN {g n:Nat} {fn:Func} {c:Code} (hf:P.funcs[g]? = some fn) (hb:fn.body=some c) (hn:fn.name ≠ "runtime.NumGoroutine") {d:Nat} {x:Ann} (hx:zr P fn.ntmps c x)
    {A Y:Type} {dec:List AV→List Obj→Option A} {argsOf:A→List AV×List Obj} (hdec : ∀l H a,dec l H=some a→(l,H)=argsOf a) {p:A→(Y→Ans)→Ans} {f:A→Option Y} {out:A→(AV→List Obj→Ans)→Y→Ans}
    (hfn : ∀a K,fnE T E hint d n g fn.ntmps fn.results.toList x c (argsOf a).1 (argsOf a).2 K=p a (out a K)) (hnat : ∀a k,p a k=za (f a) k) :
    zP P g (fun l H K=>za (dec l H) fun a=>za (f a) fun y=>out a K y) :=
  zSH (hint:=hint) hm hT hE hf hb hn hx hdec (f:=fun a K=>p a (out a K)) (v:=fun a K=>za (f a) fun y=>out a K y) hfn
    (fun a K res h=>by rw [hnat];exact h)
theorem zX {g n:Nat} {fn:Func} {c:Code} (hf:P.funcs[g]? = some fn) (hb:fn.body=some c) (hn:fn.name ≠ "runtime.NumGoroutine") {d:Nat} {x:Ann} (hx:zr P fn.ntmps c x)
    {A Y:Type} {dec:List AV→Option A} {argsOf:A→List AV} (hdec : ∀l a,dec l=some a→l=argsOf a) {p:A→(Y→Ans)→Ans} {f:A→Option Y} {rend:A→Y→AV}
    (hfn : ∀a,fnE T E hint d n g fn.ntmps fn.results.toList x c (argsOf a) [] (fun v _=>some (v,[]))=p a (fun y=>some (rend a y,[]))) (hnat : ∀a k,p a k=za (f a) k) (hcl : ∀a y,(rend a y).closed1=true) :
    zV P g (fun l K=>za (dec l) fun a=>za (f a) fun y=>K (rend a y)) :=
  zS4 (hint:=hint) hm hT hE hf hb hn hx hdec (f:=fun a K=>za (f a) fun y=>K (rend a y)) (v:=fun a K=>za (f a) fun y=>K (rend a y))
    (fun a=>by rw [hfn,hnat])
    (fun a K res h=>by
      obtain ⟨y,hy,h⟩:=Zx h
      refine ⟨rend a y,hcl a y,h,?_⟩
      dsimp only
      rw [hy]
      rfl)
end
theorem yG [BT] {nt:Nat} {c:Code} {x:Ann} {k0:Nat} {keep:List Nat} (h:za8 P nt c x (zr P nt c x)):zr P nt (.loop c) (.at k0 keep (.loop x)):=⟨h,fun G e=>by cases e⟩
end Go.AE
namespace Go.AE
theorem qp {V Y:Type} {f:V→Option (V ⊕ Y)} (Inv:Nat→V→Prop) (N:Nat) (Q:Y→Prop)
    (h : ∀j v,Inv j v→(∃v',f v=some (.inl v')∧j<N∧Inv (j+1) v') ∨ ∃y,f v=some (.inr y)∧Q y) {v:V} (h0:Inv 0 v) (hN:N≤18446744073709551000) :
    ∃y,zZ f Zo v=some y∧Q y:=by
  have key : ∀d j v,j+d=N→Inv j v → ∃y,zZ f (d+1) v=some y∧Q y:=by
    intro d
    induction d with
    | zero =>
      intro j v hj hi
      rcases h j v hi with ⟨v',_,hlt,_⟩ | ⟨y,hf,hq⟩
      · omega
      · exact ⟨y,by rw [zZ,hf];rfl,hq⟩
    | succ d ih =>
      intro j v hj hi
      rcases h j v hi with ⟨v',hf,hlt,hi'⟩ | ⟨y,hf,hq⟩
      · obtain ⟨y,hy,hq⟩:=ih (j+1) v' (by omega) hi'
        exact ⟨y,by rw [zZ,hf];exact hy,hq⟩
      · exact ⟨y,by rw [zZ,hf];rfl,hq⟩
  obtain ⟨y,hy,hq⟩:=key N 0 v (by omega) h0
  exact ⟨y,zgo _ _ v y (by unfold Zo;omega) hy,hq⟩
theorem Qj {α σ Y V:Type} {f:V→Option (V ⊕ Y)} (l:List α) (enc:Nat→σ→V) (Inv:Nat→σ→Prop) (Q:Y→Prop)
    (hs : ∀j x s,l[j]? = some x→j<l.length→Inv j s→(∃s',f (enc j s)=some (.inl (enc (j+1) s'))∧Inv (j+1) s') ∨ ∃y,f (enc j s)=some (.inr y)∧Q y)
    (he : ∀s,Inv l.length s → ∃y,f (enc l.length s)=some (.inr y)∧Q y) {s0:σ} (h0:Inv 0 s0) (hl:l.length≤18446744073709551000) :
    ∃y,zZ f Zo (enc 0 s0)=some y∧Q y:=by
  refine qp (fun j v=>j≤l.length ∧ ∃s,v=enc j s∧Inv j s) l.length Q ?_ ⟨Nat.zero_le _,s0,rfl,h0⟩ hl
  rintro j v ⟨hj,s,rfl,hi⟩
  by_cases hlt:j<l.length
  · rcases hs j l[j] s (List.getElem?_eq_getElem hlt) hlt hi with ⟨s',h1,h2⟩ | h
    · exact .inl ⟨_,h1,hlt,hlt,s',rfl,h2⟩
    · exact .inr h
  · obtain rfl:j=l.length:=by omega
    exact .inr (he s hi)
theorem ZG {n:Nat} (h:n<9223372036854775807):IntKind.wrap .i64 ((n:Int)+1)=((n+1:Nat):Int):=by rw [yz (by omega) (by omega)];rfl
theorem Zl {a b:Nat} (h:a≤b):Nat.ble a b=true:=Nat.ble_eq_true_of_le h
theorem zp {p:Prop} [Decidable p] (h:p):decide p=true:=decide_eq_true h
theorem zq {p:Prop} [Decidable p] (h : ¬p):decide p=false:=decide_eq_false h
theorem Zw {i:Int} {n:Nat} (h:0≤i∧i<(n:Int)):inR i n=true:=by simp [inR,h]
theorem zaG {α:Type} {l:List α} {j:Nat} {x:α} (h:l[j]? = some x):nth l (j:Int)=some x:=by rw [zSC,h]
theorem zdD (a b:Int):(a == b)=decide (a=b):=rfl
theorem Yo (a b:Int):(a != b) = !decide (a=b):=rfl
end Go.AE
namespace Go.AE
open Go.RowKit (Below)
variable {P:Program} {T:Tab} {E:Env} {hint:ziK}
theorem zCi (env:zQ) (n:Nat) : ∀l:List Nat,Zd (Yy env l) n = .unk∨Zd (Yy env l) n=Zd env n
  | [] => .inl rfl
  | d::r=>by
    rw [Yy,Zm]
    split
    · rename_i e;subst e;exact .inr rfl
    · exact zCi env n r
def wx (n:Nat) (L:List Int) (s:St):Prop:=Zd s.env n = .gh L∨Zd s.env n = .unk
theorem wx.map {n:Nat} {L:List Int} {env:zQ} (g:AV→AV) (h:Zd env n = .gh L∨Zd env n = .unk):Zd (Z1 g env) n = .gh L∨Zd (Z1 g env) n = .unk:=by
  rw [zg9]
  rcases h with h | h <;> rw [h]
  · exact .inl rfl
  · exact .inr rfl
theorem zMK {s s':St} (h:Q9 s s') {n:Nat} {L:List Int}:wx n L s→wx n L s':=by
  induction h with
  | refl=>exact fun hg=>hg
  | sel _ _ ih=>exact fun hg=>ih (wx.map _ hg)
  | loose _ _ ih=>exact fun hg=>ih (wx.map _ hg)
theorem zg5 (k0:Nat) (s:St) (n:Nat) (L:List Int) (h:wx n L s):(∃s',wx n L s' ∧ ∀K,y2 k0 s K=K s') ∨ ∀K,y2 k0 s K=none:=by
  rcases zv7 k0 s with ⟨s',hp,e⟩ | e
  · exact .inl ⟨s',zMK hp h,e⟩
  · exact .inr e
theorem zkH (s:St) (n:Nat) (L:List Int) (keep:List Nat) (h:wx n L s):wx n L (s.head keep):=by
  show Zd (Yy s.env keep) n=_∨Zd (Yy s.env keep) n=_
  rcases zCi s.env n keep with e | e
  · exact .inr e
  · rw [e];exact h
theorem zPC (keep:List Nat) (x:Ann) (s:St) (n:Nat) (L:List Int) (h:wx n L s):(∃s',wx n L s' ∧ ∀K,zaw keep x s K=K s') ∨ ∀K,zaw keep x s K=none:=by
  unfold zaw
  cases x.at? with
  | some p =>
    obtain ⟨k0,keep'⟩:=p
    simp only [ZS]
    exact zg5 k0 _ n L (zkH s n L keep' h)
  | none =>
    simp only [ZS]
    cases x.pack? with
    | some k0=>exact zg5 k0 _ n L (zkH s n L keep h)
    | none=>exact .inl ⟨_,zkH s n L keep h,fun K=>rfl⟩
open Classical in
theorem zRF [BT] {F:Fr} {C:Cx} {s:St} {tmps:Array Value} {stk:List (Array Value)} (hS:zw F C s tmps stk) {keep:List Nat} {x:Ann} {K:St→Ans} {res:AV×List Obj} (h:zaw keep x s K=some res) {n:Nat} {L:List Int} (hg:wx n L s) :
    ∃s' C',C'.w=C.w∧zw F C' s' tmps stk∧K s'=some res∧wx n L s':=by
  rcases zPC keep x s n L hg with ⟨s0,h0,e⟩ | e
  · have h2:zaw keep x s (fun s'=>if wx n L s' then K s' else none)=some res:=by
      rw [e]
      rw [e] at h
      rw [if_pos h0]
      exact h
    obtain ⟨s',C',h3,h4,h5⟩:=zd1 hS h2
    split at h5
    · rename_i hg';exact ⟨s',C',h3,h4,h5,hg'⟩
    · cases h5
  · rw [e] at h;cases h
open Classical in
theorem zMm [BT] {F:Fr} {C:Cx} {s:St} {tmps:Array Value} {stk:List (Array Value)} (hS:zw F C s tmps stk) {k0:Nat} {K:St→Ans} {res:AV×List Obj} (h:y2 k0 s K=some res) {n:Nat} {L:List Int} (hg:wx n L s) :
    ∃s' C',C'.w=C.w∧zw F C' s' tmps stk∧K s'=some res∧wx n L s':=by
  rcases zg5 k0 s n L hg with ⟨s0,h0,e⟩ | e
  · have h2:y2 k0 s (fun s'=>if wx n L s' then K s' else none)=some res:=by
      rw [e]
      rw [e] at h
      rw [if_pos h0]
      exact h
    obtain ⟨s',C',h3,h4,h5⟩:=wt hS h2
    split at h5
    · rename_i hg';exact ⟨s',C',h3,h4,h5,hg'⟩
    · cases h5
  · rw [e] at h;cases h
theorem zft (n t:Nat) : ∀env:zQ,Zd (Ju n env) t=if t=n then .unk else Zd env t
  | []=>by rw [Ju,zaf];split <;> rfl
  | (d,v)::r=>by
    rw [Ju]
    cases hb:Nat.beq d n with
    | true =>
      have hd:=Nat.eq_of_beq_eq_true hb
      rw [cond_true,zft n t r,Zm]
      by_cases e:t=n
      · rw [if_pos e,if_pos e]
      · rw [if_neg e,if_neg e,if_neg (by omega)]
    | false =>
      rw [cond_false,Zm,Zm,zft n t r]
      by_cases e:d=t
      · have:t≠n:=by intro h;rw [← e] at h;rw [h,Nat.beq_refl] at hb;cases hb
        rw [if_pos e,if_neg this,if_pos e]
      · rw [if_neg e,if_neg e]
theorem Zj.drop {C:Cx} {env:zQ} {tmps:Array Value} (h:Zj C env tmps) (n:Nat):Zj C (Ju n env) tmps:=by
  intro t
  rw [zft]
  split
  · rw [VRel];trivial
  · exact h t
theorem Zj.gh {C:Cx} {env:zQ} {tmps:Array Value} (h:Zj C env tmps) (n:Nat) (L:List Int):Zj C ((n,.gh L)::env) tmps:=by
  intro t
  rw [Zm]
  split
  · rw [VRel];trivial
  · exact h t
theorem zlZ {C:Cx} {nt:Nat} : ∀{ps:List Nat} {xs:List AV} {env:zQ} {K:zQ→Ans} {res:AV×List Obj} {vs:List Value} {tmps:Array Value},zdo nt ps xs env K=some res→VRels C xs vs→Zj C env tmps→nt≤tmps.size →
    ∃env',K env'=some res∧ps.length=vs.length∧Zj C env' ((ps.zip vs).foldl (fun t (p:Nat×Value)=>t.setIfInBounds p.1 p.2) tmps)∧nt≤((ps.zip vs).foldl (fun t (p:Nat×Value)=>t.setIfInBounds p.1 p.2) tmps).size
  | [],[],env,K,res,vs,tmps,h,hv,he,hn=>by
    rw [zdo] at h
    rw [VRels] at hv
    subst hv
    exact ⟨env,h,rfl,he,hn⟩
  | p::r,x::xs,env,K,res,vs,tmps,h,hv,he,hn=>by
    rw [zdo] at h
    replace h:=zC h;obtain ⟨hp,h⟩:=h
    rw [yf] at h
    rw [VRels] at hv
    obtain ⟨v,vs',rfl,h1,h2⟩:=hv
    have hp:p<nt:=Nat.lt_of_lt_of_le (Nat.lt_succ_self p) (Nat.le_of_ble_eq_true hp)
    obtain ⟨env',g1,g2,g3,g4⟩:=zlZ (tmps:=tmps.setIfInBounds p v) h h2 (Zj.put he h1 (by omega)) (by simpa using hn)
    exact ⟨env',g1,by simp [g2],g3,g4⟩
  | [],_::_,_,_,_,_,_,h,_,_,_=>by simp [zdo] at h
  | _::_,[],_,_,_,_,_,h,_,_,_=>by simp [zdo] at h
theorem zmg {C:Cx} {s:St} {g:Operand} {it:(List AV→List Obj→(List Int→Ans)→Ans)×(List AV→List Obj→List Int→Ans→(List AV→List Int→Ans)→Ans)×List AV} {a:Act} (h:zeM E s g=some it) (he:Zj C s.env a.tmps) :
    ∃gf us,Env.get E (gf+100000)=some (.iter it.1 it.2.1)∧a.eval g = .func (.func gf) #[] us∧VRels C it.2.2 us.toList:=by
  unfold zeM at h
  have hv:=zN (C:=C) he g
  split at h
  · rename_i gf cap hf
    rw [hf,VRel] at hv
    obtain ⟨a',b',e,h1,h2⟩:=hv
    rw [VRels] at h1
    have h1:a' = #[]:=by
      cases a'
      simpa using h1
    subst h1
    split at h
    · rename_i st nx hg
      cases h
      exact ⟨gf,b',hg,e,h2⟩
    · cases h
  · cases h
def wk (fn:Nat) (a:Act) (ps:Array Nat) (as c:Code) (dd:Nat) (st:LoopState) (pe:Option Code):Go.Loop :=
  { state:=st,pending:=pe,fn,tmps:=a.tmps,params:=ps,assign:=as,body:=c,defers:=dd }
def Wa (C:Cx) (mark:List Deferred) (lo l:Nat):Prop:=mark=[] ∨ ∃D,mark=[{ target := .collected D,args := #[] }]∧lo≤D∧D≠l∧C.w.heap[D]? = some (.deferred (some []))∧C.Beside D
theorem Beside.new [BT] {C:Cx} (hh:zY C) {b:Nat} (h:C.w.heap.size≤b):C.Beside b :=
  ⟨fun hb=>by have:=hh.rlt b hb;omega,fun i hl hb=>by have:=hh.blk_lt hl hb;omega⟩
theorem zNH [BT] {r:Option Nat} {F:Fr} {C:Cx} (hh:zY C) (hro:y6 r F) (hF:zF F C) (fn:Nat) (a:Act) (ps:Array Nat) (as c:Code) :
    ∃l mark W1 dd,(Instr.enterLoop fn a.tmps ps as c r).run P C.w = .ok (l,mark) W1∧W1.heap[l]? = some (.loop (wk fn a ps as c dd .ready none))∧C.w.heap.size≤l∧Below C.w.heap.size C.w W1∧l<W1.heap.size ∧
      ∀C':Cx,zY C'→C'.w.heap.size=C.w.heap.size→Wa (C'.at W1) mark C.w.heap.size l:=by
  cases r with
  | none =>
    refine ⟨C.w.heap.size+1,_,_,C.w.heap.size,run_enterLoop_outer _ _ _ _ _,?_,by omega,?_,by simp,fun C' hh' hs' => .inr ⟨C.w.heap.size,rfl,Nat.le_refl _,by omega,?_,?_⟩⟩
    · have:=World.alloc_heap_new (C.w.alloc (.deferred (some []))) (.loop (wk fn a ps as c C.w.heap.size .ready none))
      rwa [World.size_alloc] at this
    · exact ((Below.refl _ C.w).alloc (Nat.le_refl _) _).alloc (by simp) _
    · exact (Below.heap_alloc _ _ _ (by simp)).trans (World.alloc_heap_new C.w _)
    · exact Beside.new hh' (Nat.le_of_eq hs')
  | some l0 =>
    obtain ⟨r0,h0⟩:=hro l0 rfl
    refine ⟨C.w.heap.size,_,_,r0.defers,run_enterLoop_inner (h0.at hF).1 _ _ _ _ _,?_,Nat.le_refl _,?_,by simp,fun _ _ _ => .inl rfl⟩
    · exact World.alloc_heap_new C.w _
    · exact (Below.refl _ C.w).alloc (Nat.le_refl _) _
def zVh:Ex→Option Code
  | .ret=>some .ret
  | .exit i=>some (.exit i)
  | _=>none
theorem below_priv [BT] {C:Cx} (hh:zY C) {W:World} (h:Below C.w.heap.size C.w W) (n0:Nat):Priv n0 C W :=
  ⟨h.os,h.tape,h.output,h.size,fun b hb _=>h.block b hb,fun b hb=>h.block b (hh.rlt b hb),fun i b hl hb=>h.block b (hh.blk_lt hl hb)⟩
section
variable [BT] (hm:P.follows .mixedOrders=true) (hT:zJ P T) (hE:zd P E)
include hm hT hE
theorem zdA {nt d m:Nat} (k0:Nat) (kp:Ex→List Nat) (keep:List Nat) {g:Operand} {ps:Array Nat} {as c:Code} {x:Ann} (hx:za8 P nt c x.fst (zr P nt c x.fst)) {G:(Ex→St→Ans)→St→Ans}
    (h : ∀K s res,G K s=some res → ∃n,zA T E hint (zD T E hint d m) n nt (.rnd x) (.rangeFunc g ps as c) (zH k0 kp K) s=some res) :
    zy P nt (.rangeFunc g ps as c) (zeS E nt k0 keep g G):=by
  intro r F K0 s C a stk res hG hro hS hsz hd
  unfold zeS at hG
  obtain ⟨it,hit,hG⟩:=zo hG
  obtain ⟨start,next,cap⟩:=it
  dsimp only at hG
  obtain ⟨gf,us,hget,hev,hcap⟩:=zmg (a:=a) hit hS.env
  dsimp only at hget hcap
  obtain ⟨start0,nx,hIt,hst0,hnx⟩:zex P (gf+100000) (.iter start next):=hE _ _ hget
  rw [Nat.add_sub_cancel] at hIt
  rw [hst0] at hG
  obtain ⟨L,hL,hG⟩:=zo hG
  obtain ⟨env,sk,H,blk⟩:=s
  dsimp only at hG
  rw [ZS] at hG
  have hS1:zw F C ⟨(nt,.gh L)::env,sk,H,blk⟩ a.tmps stk:=⟨hS.H,hS.heap,Zj.gh hS.env nt L,hS.stk,hS.frame⟩
  obtain ⟨C2,hw2,hS2⟩:=YU hS1 keep
  have hg2:wx nt L (St.head ⟨(nt,.gh L)::env,sk,H,blk⟩ keep):=zkH _ nt L keep (.inl (by show Zd ((nt,.gh L)::env) nt=_;rw [Zm,if_pos rfl]))
  obtain ⟨s3,C3,hw3,hS3,hG,hg3⟩:=zMm hS2 hG hg2
  obtain ⟨n3,hn3⟩:=h K0 s3 res hG
  obtain ⟨K,hK⟩ : ∃K,K=zH k0 kp K0:=⟨_,rfl⟩
  rw [← hK] at hn3
  refine wpIn_mono ?_ (fun e a w hp=>zlV (k0:=k0) (kp:=kp) hp)
  rw [← hK]
  have hgoto : ∀l s',K (.goto l) s'≠some res:=fun l s' h'=>by rw [hK] at h';cases h'
  clear hG h
  -- a round's evaluation,unfolded
  have unf : ∀{F':Fr} {C':Cx} {n:Nat} {s':St} {L':List Int} {stk':List (Array Value)},zw F' C' s' a.tmps stk'→wx nt L' s'→zA T E hint (zD T E hint d m) n nt (.rnd x) (.rangeFunc g ps as c) K s'=some res →
      ∃n' cap',n=n'+1∧Zd s'.env nt = .gh L'∧zeM E s' g=some (start,next,cap')∧VRels C' cap' us.toList ∧ ∃o,nx cap' C'.H L'=some o∧(o=none→K .norm s'=some res) ∧
        ∀xs L2,o=some (xs,L2)→(match s' with
       | ⟨env,stk,H,blk⟩=>zdo nt ps.toList xs (Ju nt env) fun env' =>
          Z7 T E hint (zD T E hint d m) nt (zA T E hint (zD T E hint d m) n') as .none (fun e s1=>match e with
            | .norm=>zaz (fun x K s=>Z7 T E hint (zD T E hint d m) nt (zA T E hint (zD T E hint d m) n') c x K s) x.fst
                (zPf blk fun e s=>match e with
                  | .norm=>match s with
                    | ⟨env,stk,H,blk⟩=>zaw (hint blk) x ⟨(nt,.gh L2)::env,stk,H,blk⟩ fun s=>zA T E hint (zD T E hint d m) n' nt (.rnd x) (.rangeFunc g ps as c) K s
                  | e=>K e s) s1
            | _=>none) ⟨env',Ju nt env::stk,H,blk⟩)=some res:=by
    intro F' C' n s' L' stk' hS' hg hev'
    cases n with
    | zero=>rw [zA] at hev';cases hev'
    | succ n =>
      rw [zA] at hev'
      unfold zNk at hev'
      rcases hg with hg | hg
      · rw [hg] at hev'
        simp only at hev'
        obtain ⟨it,hit,hev'⟩:=zo hev'
        obtain ⟨gf',us',hget',hev2,hcap'⟩:=zmg (a:=a) hit hS'.env
        rw [hev] at hev2
        cases hev2
        rw [hget] at hget'
        obtain ⟨st',nx',cap'⟩:=it
        dsimp only at hget' hev' hcap'
        cases hget'
        rw [hnx] at hev'
        obtain ⟨o,ho,hev'⟩:=zo hev'
        refine ⟨n,cap',rfl,hg,hit,hcap',o,by rw [hS'.H];exact ho,fun e=>by subst e;exact hev',fun xs L2 e=>by subst e;exact hev'⟩
      · rw [hg] at hev'
        cases hev'
  refine wpIn_rangeFunc ?_
  intro fn _
  obtain ⟨l,mark,W1,dd,hent,hrec,hl0,hbel,hl1,hmark⟩:=zNH hS.heap hro hS.frame fn a ps as c
  refine ⟨l,mark,W1,{ target := .fn (.func gf) us,args := #[.func (.yield l) #[] #[]] },W1,gf,#[.func (.yield l) #[] #[]]++us,W1,hent,?_,fun _ _=>trivial,?_,zm0 r 0,?_⟩
  · simp only [resolve,hev]
    simp [go_sem]
  · have:=fun w=>hIt.1.run (#[.func (.yield l) #[] #[]]++us) w
    simp [invoke,go_sem] at this ⊢
    exact this W1
  have hw31:C3.w=C.w:=hw3.trans hw2
  have hs0:F.w0.heap.size≤l:=Nat.le_trans hS.frame.size hl0
  have hS31:zw F (C3.at W1) s3 a.tmps stk:=Yt hS3 (by rw [hw31];exact hbel)
  -- what holds between rounds
  obtain ⟨J,hJ⟩ : ∃J:List Int→Cx→List AV→Prop,J=fun L' C' cap' => ∃n s',zA T E hint (zD T E hint d m) n nt (.rnd x) (.rangeFunc g ps as c) K s'=some res∧wx nt L' s'∧zeM E s' g=some (start,next,cap')∧zw F C' s' a.tmps stk ∧
      C'.w.heap[l]? = some (.loop (wk fn a ps as c dd .ready none))∧C'.Beside l∧Wa C' mark C.w.heap.size l:=⟨_,rfl⟩
  obtain ⟨Jx,hJx⟩ : ∃Jx:Cx→Prop,Jx=fun C' => ∃e code s',zVh e=some code∧K e s'=some res∧zw F C' s' a.tmps stk ∧
      C'.w.heap[l]? = some (.loop (wk fn a ps as c dd .done (some code)))∧C'.Beside l∧Wa C' mark C.w.heap.size l:=⟨_,rfl⟩
  have hD1 : ∀D,mark=[{ target := .collected D,args := #[] }]→D<W1.heap.size:=by
    intro D hD
    rcases hmark C hS.heap rfl with e | ⟨D',e,_,_,h1,_⟩
    · rw [e] at hD;cases hD
    · rw [e] at hD
      cases hD
      exact (Array.getElem?_eq_some_iff.1 h1).1
  have mark_priv : ∀(C':Cx) (W:World),Wa C' mark C.w.heap.size l→Priv W1.heap.size C' W→Wa (C'.at W) mark C.w.heap.size l:=by
    intro C' W h hp
    rcases h with e | ⟨D,e,h1,h2,h3,h4⟩
    · exact .inl e
    · exact .inr ⟨D,e,h1,h2,(hp.low D (Array.getElem?_eq_some_iff.1 h3).1 (hD1 D e)).trans h3,h4⟩
  have mark_put : ∀(C':Cx) (o:Go.Obj),Wa C' mark C.w.heap.size l→Wa (C'.at (C'.w.putObj l o)) mark C.w.heap.size l:=by
    intro C' o h
    rcases h with e | ⟨D,e,h1,h2,h3,h4⟩
    · exact .inl e
    · exact .inr ⟨D,e,h1,h2,(World.putObj_heap_other h2).trans h3,h4⟩
  have mark_re : ∀(C' C'':Cx),Wa C' mark C.w.heap.size l→zF (F.re C') C''→Wa C'' mark C.w.heap.size l:=by
    intro C' C'' h hf
    rcases h with e | ⟨D,e,h1,h2,h3,h4⟩
    · exact .inl e
    · have:=(qT (F:=F) h3 h4).at hf
      exact .inr ⟨D,e,h1,h2,this.1,this.2⟩
  obtain ⟨_,cap3,_,_,hit3,_,_⟩:=unf hS31 hg3 hn3
  have J0:J L (C3.at W1) cap3:=by
    rw [hJ]
    exact ⟨n3,s3,hn3,hg3,hit3,hS31,hrec,Beside.new hS3.heap (by rw [hw31];exact hl0),hmark C3 hS3.heap (by rw [hw31])⟩
  have hrun:=hIt.2 (.func (.yield l) #[] #[]) (C.at W1) cap us L J Jx (zFk hS.heap hbel) (VRels.mono (zob hS.heap hbel) (zHG hS.heap hbel) hcap) (by show start0 cap C.H=some L;rw [hS.H];exact hL) ⟨C3.at W1,cap3,rfl,J0⟩ ?_ ?_ ?_ ?_
  · -- behind the iterator
    refine CallsIn.mono (F:=WF r) hrun ?_
    -- a way out
    have fin : ∀(C':Cx) (s':St) (o:Go.Obj) (e:Ex),zw F C' s' a.tmps stk→C'.Beside l→Wa C' mark C.w.heap.size l→K e s'=some res →
        yx F K stk nt res e.toExit { a with defers:=mark++a.defers } (C'.w.putObj l o):=by
      intro C' s' o e hS' hb hmk hK'
      obtain ⟨C6,hC6⟩ : ∃C6,C6=C'.at (C'.w.putObj l o):=⟨_,rfl⟩
      have hp:Priv F.w0.heap.size C' (C'.w.putObj l o):=wa o hb hs0
      have hS6:zw F C6 s' a.tmps stk:=by rw [hC6];exact Z8 hS' (Nat.le_refl _) hp
      have hmk6:Wa C6 mark C.w.heap.size l:=by rw [hC6];exact mark_put C' o hmk
      have hw6:C'.w.putObj l o=C6.w:=by rw [hC6];rfl
      rw [hw6]
      have hle:=zbt hS6.frame
      have hdre:=hd.le hle
      refine ⟨F.re C6,e,s',C6,hle,rfl,hK',rfl,⟨hS6.H,hS6.heap,hS6.env,hS6.stk,zIw F C6⟩,hsz,hdre.1,?_⟩
      rcases hmk6 with e' | ⟨D,e',h1,h2,h3,h4⟩
      · rw [e'];exact hdre.2
      · rw [e']
        refine ⟨⟨D,⟨rfl,Nat.le_trans hd.1 (Nat.le_trans hS.frame.size h1),qT h3 h4⟩,?_⟩,hdre.2⟩
        exact hd.2.fresh (Nat.le_trans hS.frame.size h1)
    rintro e W' ⟨rfl,hcase⟩
    rcases hcase with ⟨L',C',cap',rfl,hj,hnone⟩ | ⟨C',rfl,hj⟩
    · rw [hJ] at hj
      obtain ⟨n,s',hev',hg',hit',hS',hl',hbl',hmk'⟩:=hj
      obtain ⟨n',cap2,rfl,_,hit2,_,o,ho,hn,_⟩:=unf hS' hg' hev'
      rw [hit'] at hit2
      cases hit2
      rw [hnone] at ho
      cases ho
      exact ⟨none,_,run_endLoop hl' (by simp [wk]),fin C' s' _ .norm hS' hbl' hmk' (hn rfl)⟩
    · rw [hJx] at hj
      obtain ⟨e,code,s',hcode,hK',hS',hl',hbl',hmk'⟩:=hj
      refine ⟨some code,_,run_endLoop hl' (by simp [wk]),?_⟩
      cases e with
      | norm=>cases hcode
      | goto l=>cases hcode
      | ret =>
        cases hcode
        exact wpIn_ret (fin C' s' _ .ret hS' hbl' hmk' hK')
      | exit i =>
        cases hcode
        exact wpIn_exit (fin C' s' _ (.exit i) hS' hbl' hmk' hK')
  · intro L' C1 cap1 hj
    rw [hJ] at hj
    obtain ⟨n,s',hev',hg',hit',hS',hl',hbl',hmk'⟩:=hj
    obtain ⟨n',cap2,rfl,_,hit2,hcap2,o,ho,_,_⟩:=unf hS' hg' hev'
    rw [hit'] at hit2
    cases hit2
    exact ⟨hS'.heap,hcap2,o,ho⟩
  · intro L' C1 cap1 W hj hp
    rw [hJ] at hj ⊢
    obtain ⟨n,s',hev',hg',hit',hS',hl',hbl',hmk'⟩:=hj
    exact ⟨n,s',hev',hg',hit',Z8 hS' (Nat.le_trans hs0 (Nat.le_of_lt hl1)) hp,(hp.low l (Array.getElem?_eq_some_iff.1 hl').1 hl1).trans hl',hbl',mark_priv C1 W hmk' hp⟩
  · intro C1 W hj hp
    rw [hJx] at hj ⊢
    obtain ⟨e,code,s',hcode,hK',hS',hl',hbl',hmk'⟩:=hj
    exact ⟨e,code,s',hcode,hK',Z8 hS' (Nat.le_trans hs0 (Nat.le_of_lt hl1)) hp,(hp.low l (Array.getElem?_eq_some_iff.1 hl').1 hl1).trans hl',hbl',mark_priv C1 W hmk' hp⟩
  · -- one round
    intro L1 C1 cap1 xs L2 hj hnxv vs hvs
    rw [hJ] at hj
    obtain ⟨n,s',hev',hg',hit',hS',hl',hbl',hmk'⟩:=hj
    obtain ⟨n',cap2,rfl,_,hit2,hcap2,o,ho,_,hgo⟩:=unf hS' hg' hev'
    rw [hit'] at hit2
    cases hit2
    rw [hnxv] at ho
    cases ho
    replace hgo:=hgo xs L2 rfl
    obtain ⟨env,sk,H,blk⟩:=s'
    simp only at hgo
    obtain ⟨env',hgo,hlen,henv',hszr⟩:=zlZ hgo hvs (Zj.drop hS'.env nt) hsz
    have hy:=run_yield (P:=P) (args:=vs) hl' (by simpa [wk] using hlen.symm)
    have htm:((wk fn a ps as c dd .ready none).params.zip vs).foldl (fun tmps (t,a)=>tmps.setIfInBounds t a) (wk fn a ps as c dd .ready none).tmps=(ps.toList.zip vs.toList).foldl (fun t (p:Nat×Value)=>t.setIfInBounds p.1 p.2) a.tmps:=by
      rw [← Array.foldl_toList,Array.toList_zip]
      rfl
    rw [htm] at hy
    refine ⟨.yield l,#[],_,rfl,by simpa [invoke] using hy,roundIn_of_wpIn trivial ?_⟩
    generalize (ps.toList.zip vs.toList).foldl (fun t (p:Nat×Value)=>t.setIfInBounds p.1 p.2) a.tmps=tmpsR at henv' hszr
    have hSA:zw (F.re C1) C1 ⟨env',Ju nt env::sk,H,blk⟩ tmpsR (a.tmps::stk):=⟨hS'.H,hS'.heap,henv',by rw [Zz];exact ⟨_,_,rfl,Zj.drop hS'.env nt,hS'.stk⟩,zIw F C1⟩
    have hbase:F.base≤C1.w.heap.size:=Nat.le_trans hd.1 hS'.frame.size
    obtain ⟨_,ih2⟩:=Q8 (hint:=hint) hm hT hE (WJ (hint:=hint) hm hT hE d m) n'
    refine wpIn_mono (Q6 hm hT hE (WJ (hint:=hint) hm hT hE d m) ih2 as (r:=some l) (a:={ tmps:=tmpsR,defers:=[] }) hgo (zb P nt as) (fun l' e=>by cases e;exact ⟨_,qT hl' hbl'⟩) hSA hszr ⟨hbase,trivial⟩) ?_
    rintro e1 a1 w1 ⟨FA,e',s1,C2,hleA,rfl,hK1,rfl,hS2,hsz2,hmk2⟩
    cases e' with
    | exit i=>cases hK1
    | ret=>cases hK1
    | goto i=>cases hK1
    | norm =>
    simp only at hK1
    obtain ⟨hl2,hb2⟩:=(hleA.safe _ _ (qT hl' hbl')).at hS2.frame
    have hlt2:=(Array.getElem?_eq_some_iff.1 hl2).1
    refine ⟨_,run_beginRound hl2 rfl,?_⟩
    obtain ⟨C3',hC3⟩ : ∃C3',C3'=C2.at (C2.w.putObj l (.loop { wk fn a ps as c dd .ready none with state := .busy })):=⟨_,rfl⟩
    have hw3':C2.w.putObj l (.loop { wk fn a ps as c dd .ready none with state := .busy })=C3'.w:=by rw [hC3];rfl
    rw [hw3']
    have hp2:Priv F.w0.heap.size C2 (C2.w.putObj l (.loop { wk fn a ps as c dd .ready none with state := .busy })):=wa _ hb2 hs0
    have hF2:zF F C2:=(zbt hS'.frame).frame _ (hleA.frame _ hS2.frame)
    have hS2F:zw F C2 s1 a1.tmps (a.tmps::stk):=⟨hS2.H,hS2.heap,hS2.env,hS2.stk,hF2⟩
    have hS3F:zw F C3' s1 a1.tmps (a.tmps::stk):=by rw [hC3];exact Z8 hS2F (Nat.le_refl _) hp2
    have hS3B:zw (F.re C3') C3' s1 a1.tmps (a.tmps::stk):=⟨hS3F.H,hS3F.heap,hS3F.env,hS3F.stk,zIw F C3'⟩
    have hl3:C3'.w.heap[l]? = some (.loop (wk fn a ps as c dd .busy none)):=by rw [← hw3'];exact World.putObj_heap_same hlt2
    have hb3:C3'.Beside l:=by rw [hC3];exact hb2
    have hmB:Ym (F.re C3') a1.defers:=by
      refine ⟨by show F.base≤C3'.w.heap.size;rw [← hw3',World.putObj_size];exact Nat.le_trans hbase (hleA.frame _ hS2.frame).size,yk.to (F:=FA) (F':=F.re C3') (show F.base=FA.base from hleA.base.symm) (fun D hD => ?_) hmk2.2⟩
      obtain ⟨g1,g2⟩:=hD.at hS2.frame
      have hne:D≠l:=by intro e;subst e;rw [hl2] at g1;cases g1
      refine qT ?_ ?_
      · rw [← hw3'];exact (World.putObj_heap_other hne).trans g1
      · rw [hC3];exact g2
    refine wpIn_mono (wc (r:=some l) (fun h hx hro hS hsz hd=>Q6 hm hT hE (WJ (hint:=hint) hm hT hE d m) ih2 c h hx hro hS hsz hd) hK1 hx (fun l' e=>by cases e;exact ⟨_,qT hl3 hb3⟩) hS3B hsz2 hmB) ?_
    rintro e3 a3 w3 ⟨FB,e',s4,C4,hleB,rfl,hK4,rfl,hS4,hsz4,hmk4⟩
    obtain ⟨hl4,hb4⟩:=(hleB.safe _ _ (qT hl3 hb3)).at hS4.frame
    have hlt4:=(Array.getElem?_eq_some_iff.1 hl4).1
    obtain ⟨env4,sk4,H4,blk4⟩:=s4
    unfold zPf at hK4
    simp only at hK4
    split at hK4
    case h_2=>cases hK4
    case h_1 _ env5 sk5 =>
    have hstk:=hS4.stk
    rw [Zz] at hstk
    obtain ⟨_,_,he,henv5,hsk5⟩:=hstk
    cases he
    have hS5:zw FB C4 ⟨env5,sk5,H4,blk⟩ a.tmps stk:=⟨hS4.H,hS4.heap,henv5,hsk5,hS4.frame⟩
    have toF : ∀C',zF FB C'→zF F C':=fun C' h=>(zbt hS3F.frame).frame _ (hleB.frame _ h)
    have hmk3:Wa C3' mark C.w.heap.size l:=by rw [hC3];exact mark_put C2 _ (mark_re C1 C2 hmk' (hleA.frame _ hS2.frame))
    have kept : ∀C',zF FB C'→Yv W1.heap.size C1 C':=fun C' h =>
      (Yv.of_re (hleA.frame _ hS2.frame)).trans (Yv.trans (by rw [hC3];exact Yv.putObj C2 _ hl1) (Yv.of_re (hleB.frame _ h)))
    cases e' with
    | goto i=>exact absurd hK4 (hgoto _ _)
    | norm =>
      simp only at hK4
      have hS5':zw FB C4 ⟨(nt,.gh L2)::env5,sk5,H4,blk⟩ a.tmps stk:=⟨hS5.H,hS5.heap,Zj.gh hS5.env nt L2,hS5.stk,hS5.frame⟩
      obtain ⟨s6,C6,hw6,hS6,hev6,hg6⟩:=zRF hS5' hK4 (n:=nt) (L:=L2) (.inl (by show Zd ((nt,.gh L2)::env5) nt=_;rw [Zm,if_pos rfl]))
      obtain ⟨_,cap6,_,_,hit6,_,_⟩:=unf hS6 hg6 hev6
      obtain ⟨hl6,hb6⟩:=(hleB.safe _ _ (qT hl3 hb3)).at hS6.frame
      have hlt6:=(Array.getElem?_eq_some_iff.1 hl6).1
      refine ⟨_,_,run_endRound none hl4,.inl ⟨rfl,C6.at (C6.w.putObj l (.loop (wk fn a ps as c dd .ready none))),cap6,by rw [← hw6];rfl,?_,?_⟩⟩
      · rw [hJ]
        refine ⟨n',s6,hev6,hg6,hit6,Z8 ⟨hS6.H,hS6.heap,hS6.env,hS6.stk,toF _ hS6.frame⟩ (Nat.le_refl _) (wa _ hb6 hs0),World.putObj_heap_same hlt6,hb6,mark_put C6 _ (mark_re C3' C6 hmk3 (hleB.frame _ hS6.frame))⟩
      · exact (kept C6 hS6.frame).trans (Yv.putObj C6 _ hl1)
    | ret =>
      simp only at hK4
      refine ⟨_,_,run_endRound (some .ret) hl4,.inr ⟨rfl,C4.at (C4.w.putObj l (.loop (wk fn a ps as c dd .done (some .ret)))),rfl,?_,(kept C4 hS4.frame).trans (Yv.putObj C4 _ hl1)⟩⟩
      rw [hJx]
      exact ⟨.ret,.ret,_,rfl,hK4,Z8 ⟨hS5.H,hS5.heap,hS5.env,hS5.stk,toF _ hS5.frame⟩ (Nat.le_refl _) (wa _ hb4 hs0),World.putObj_heap_same hlt4,hb4,mark_put C4 _ (mark_re C3' C4 hmk3 (hleB.frame _ hS4.frame))⟩
    | exit i =>
      simp only at hK4
      refine ⟨_,_,run_endRound (some (.exit i)) hl4,.inr ⟨rfl,C4.at (C4.w.putObj l (.loop (wk fn a ps as c dd .done (some (.exit i))))),rfl,?_,(kept C4 hS4.frame).trans (Yv.putObj C4 _ hl1)⟩⟩
      rw [hJx]
      exact ⟨.exit i,.exit i,_,rfl,hK4,Z8 ⟨hS5.H,hS5.heap,hS5.env,hS5.stk,toF _ hS5.frame⟩ (Nat.le_refl _) (wa _ hb4 hs0),World.putObj_heap_same hlt4,hb4,mark_put C4 _ (mark_re C3' C4 hmk3 (hleB.frame _ hS4.frame))⟩
end
def rfG:Code→Operand | .rangeFunc g _ _ _=>g | _ => .tmp 0
def zPz:Code→Array Nat | .rangeFunc _ ps _ _=>ps | _ => #[]
def zQt:Code→Code | .rangeFunc _ _ as _=>as | _ => .skip
def rfC:Code→Code | .rangeFunc _ _ _ c=>c | _ => .skip
def RH [BT] (T:Tab) (E:Env) (nt:Nat) (x:Ann) (c0:Code) (k0:Nat) (kp:Ex→List Nat) (G:(Ex→St→Ans)→St→Ans):Prop :=
  ∀K s res,G K s=some res → ∃n,zA T E zf (zD T E zf 0 64) n nt (.rnd x) c0 (zH k0 kp K) s=some res
theorem zTv [BT] (hm:P.follows .mixedOrders=true) (hT:zJ P T) (hE:zd P E) {nt:Nat} {x:Ann} {L:Code} {k0:Nat} {kp:Ex→List Nat} (keep:List Nat) {G:(Ex→St→Ans)→St→Ans} (hL:L = .rangeFunc (rfG L) (zPz L) (zQt L) (rfC L))
    (hx:za8 P nt (rfC L) x.fst (zr P nt (rfC L) x.fst)) (h:RH T E nt x (.rangeFunc (rfG L) (zPz L) (zQt L) (rfC L)) k0 kp G):zy P nt L (zeS E nt k0 keep (rfG L) G):=by
  have key:zy P nt (.rangeFunc (rfG L) (zPz L) (zQt L) (rfC L)) (zeS E nt k0 keep (rfG L) G):=zdA (hint:=zf) (d:=0) (m:=64) hm hT hE k0 kp keep hx h
  intro r F K s C a stk res h1 h2 h3 h4 h5
  rw [hL]
  exact key h1 h2 h3 h4 h5
#print axioms zTv
end Go.AE
namespace Go.AE
variable {P:Program} {T:Tab}
def yA (n:Nat):List (Nat×List Nat)→List Nat
  | []=>[]
  | (m,k)::r=>cond (Nat.beq n m) k (yA n r)
def zeJ (l:List (Nat×List Nat)):ziK:=fun b=>yA (Nat.mod b 4096) l
structure ZH where
  g:Nat
  pure:Bool
  hints:List (Nat×List Nat)
def J7:Nat:=20000
section
variable [BT] (T:Tab) (E:Env) (h:List (Nat×List Nat)) (nt k0:Nat)
noncomputable def WU:Nat→Code→Ann
  | b,.seq x y => .seq (WU b x) (WU b y)
  | b,.cond _ x y => .cond (WU b x) (WU b y)
  | _,.block id c => .block (WU id c)
  | b,.loop c => .loop (WU b c)
  | b,.rangeFunc g ps asn c => .cut k0 (yA b h) (zeS E nt k0 (yA b h) g fun K s =>
      zA T E (zeJ h) (zD T E (zeJ h) 0 1) J7 nt (.rnd (.block (WU b c))) (.rangeFunc g ps asn c) (zH k0 (fun _=>yA b h) K) s)
  | _,_ => .none
end
def ZH.ok (P:Program) (i:ZH):Bool :=
  match P.funcs[i.g]? with
  | some f=>f.body.isSome&&decide (f.name ≠ "runtime.NumGoroutine")
  | none=>false
theorem zSD [BT] (hm:P.follows .mixedOrders=true) (hT:zJ P T) {E:Env} (hE:zd P E) (h:List (Nat×List Nat)) (nt k0:Nat) :
    ∀(c:Code) (b:Nat),za8 P nt c (WU T E h nt k0 b c) (zr P nt c (WU T E h nt k0 b c))∧zr P nt c (WU T E h nt k0 b c):=by
  intro c
  induction c with
  | seq x y ihx ihy=>intro b;rw [WU];exact ⟨⟨(ihx b).1,(ihy b).1⟩,⟨(ihx b).1,(ihy b).1⟩⟩
  | cond c x y ihx ihy=>intro b;rw [WU];exact ⟨⟨(ihx b).1,(ihy b).1⟩,⟨(ihx b).1,(ihy b).1⟩⟩
  | block id c ih=>intro b;rw [WU];exact ⟨(ih id).1,(ih id).1⟩
  | loop c ih=>intro b;rw [WU];exact ⟨⟨(ih b).1,fun G e=>by cases e⟩,⟨(ih b).1,fun G e=>by cases e⟩⟩
  | rangeFunc g ps asn c iha ihc =>
    intro b
    rw [WU]
    refine ⟨?_,trivial⟩
    exact zdA (hint:=zeJ h) (d:=0) (m:=1) hm hT hE k0 (fun _=>yA b h) (yA b h) (x := .block (WU T E h nt k0 b c)) (ihc b).1 (fun K s res e=>⟨J7,e⟩)
  | _=>intro b;exact ⟨trivial,trivial⟩
def zSf (v:AV):List AV→List Obj→(AV→List Obj→Ans)→Ans:=fun l H K=>match l,H with
  | [],[]=>K v []
  | _,_=>none
end Go.AE
namespace Go.AE
noncomputable def ieq (a b:Int):Bool := @Int.rec (fun _=>Bool) (fun m => @Int.rec (fun _=>Bool) (fun n=>Nat.beq m n) (fun _=>false) b) (fun m => @Int.rec (fun _=>Bool) (fun _=>false) (fun n=>Nat.beq m n) b) a
theorem zMS {a b:Int} (h:ieq a b=true):a=b:=by
  cases a <;> cases b <;> simp only [ieq] at h <;> first | (cases h;done) | rw [Nat.eq_of_beq_eq_true h]
def bEq:List UInt8→List UInt8→Bool
  | [],[]=>true
  | a::r,b::s=>cond (Nat.beq a.toNat b.toNat) (bEq r s) false
  | _,_=>false
theorem zA7 : ∀{a b:List UInt8},bEq a b=true→a=b
  | [],[],_=>rfl
  | a::r,b::s,h=>by
    rw [bEq] at h
    cases hb:Nat.beq a.toNat b.toNat with
    | false=>rw [hb] at h;cases h
    | true =>
      rw [hb,cond_true] at h
      rw [zA7 h,UInt8.toNat_inj.1 (Nat.eq_of_beq_eq_true hb)]
  | [],_::_,h=>by cases h
  | _::_,[],h=>by cases h
def lEq {α:Type} (f:α→α→Bool):List α→List α→Bool
  | [],[]=>true
  | a::r,b::s=>cond (f a b) (lEq f r s) false
  | _,_=>false
theorem zcJ {α:Type} {f:α→α→Bool} (hf : ∀a b,f a b=true→a=b) : ∀{a b:List α},lEq f a b=true→a=b
  | [],[],_=>rfl
  | a::r,b::s,h=>by
    rw [lEq] at h
    cases hb:f a b with
    | false=>rw [hb] at h;cases h
    | true =>
      rw [hb,cond_true] at h
      rw [zcJ hf h,hf _ _ hb]
  | [],_::_,h=>by cases h
  | _::_,[],h=>by cases h
def oEq (a b:Bool):Bool:=match a,b with
  | true,true=>true
  | false,false=>true
  | _,_=>false
theorem zO8 {a b:Bool} (h:oEq a b=true):a=b:=by cases a <;> cases b <;> first | rfl | cases h
noncomputable def tEq:(t:Ty)→t.T→t.T→Bool
  | .int _,a,b=>ieq a b
  | .bool,a,b=>oEq a b
  | .str,a,b=>bEq a b
  | .unit,_,_=>true
  | .st f,a,b=>tEq f a b
  | .pair x y,a,b=>cond (tEq x a.1 b.1) (tEq y a.2 b.2) false
  | .list e,a,b=>lEq (tEq e) a b
theorem zce : ∀{t:Ty} (a b:t.T),tEq t a b=true→a=b
  | .int _,a,b,h=>by rw [tEq] at h;exact zMS h
  | .bool,a,b,h=>zO8 h
  | .str,a,b,h=>zA7 h
  | .unit,_,_,_=>rfl
  | .st f,a,b,h=>zce (t:=f) a b h
  | .pair x y,a,b,h=>by
    rw [tEq] at h
    cases hb:tEq x a.1 b.1 with
    | false=>rw [hb] at h;cases h
    | true =>
      rw [hb,cond_true] at h
      exact Prod.ext (zce _ _ hb) (zce _ _ h)
  | .list e,a,b,h=>zcJ (fun a b=>zce a b) h
mutual
noncomputable def aEq:AV→AV→Bool
  | .int k n,.int k' n'=>(match decEq k k' with | isTrue _=>ieq n n' | isFalse _=>false)
  | .bool a,.bool b=>oEq a b
  | .str a,.str b=>bEq a b
  | .ptr i o,.ptr j p=>cond (Nat.beq i j) (Nat.beq o p) false
  | .own i,.own j=>Nat.beq i j
  | .map i,.map j=>Nat.beq i j
  | .sub i o l e,.sub i' o' l' e'=>cond (Nat.beq i i') (cond (Nat.beq o o') (cond (Nat.beq l l') (Nat.beq e e') false) false) false
  | .nilp,.nilp=>true
  | .nils,.nils=>true
  | .nilm,.nilm=>true
  | .nilf,.nilf=>true
  | .nili,.nili=>true
  | .ro t l,.ro t' l'=>(match yw t t' l' with | some l'=>lEq (tEq t) l l' | none=>false)
  | .fn (.func f) a b,.fn (.func g) c d=>cond (Nat.beq f g) (cond (zfC a c) (zfC b d) false) false
  | .ifc t v,.ifc u w=>cond (Nat.beq t u) (aEq v w) false
  | .agg a,.agg b=>zfC a b
  | .tup a,.tup b=>zfC a b
  | _,_=>false
noncomputable def zfC:List AV→List AV→Bool
  | [],[]=>true
  | a::r,b::s=>cond (aEq a b) (zfC r s) false
  | _,_=>false
end
theorem jq {a b:Bool} (h:cond a b false=true):a=true∧b=true:=by cases a <;> simp_all
mutual
theorem zCZ : ∀(a b:AV),aEq a b=true→a=b:=by
  intro a b h
  unfold aEq at h
  split at h <;> first | (cases h;done) | skip
  · split at h
    · rename_i e _;subst e;rw [zMS h]
    · cases h
  · rw [zO8 h]
  · rw [zA7 h]
  · obtain ⟨h1,h2⟩:=jq h
    rw [Nat.eq_of_beq_eq_true h1,Nat.eq_of_beq_eq_true h2]
  · rw [Nat.eq_of_beq_eq_true h]
  · rw [Nat.eq_of_beq_eq_true h]
  · obtain ⟨h1,h⟩:=jq h
    obtain ⟨h2,h⟩:=jq h
    obtain ⟨h3,h4⟩:=jq h
    rw [Nat.eq_of_beq_eq_true h1,Nat.eq_of_beq_eq_true h2,Nat.eq_of_beq_eq_true h3,Nat.eq_of_beq_eq_true h4]
  · rfl
  · rfl
  · rfl
  · rfl
  · rfl
  · split at h
    · rename_i m hm
      obtain ⟨e,rfl⟩:=yE hm
      subst e
      rw [zcJ (fun a b=>zce a b) h]
    · cases h
  · obtain ⟨h1,h⟩:=jq h
    obtain ⟨h2,h3⟩:=jq h
    rw [Nat.eq_of_beq_eq_true h1,JY _ _ h2,JY _ _ h3]
  · obtain ⟨h1,h⟩:=jq h
    rw [Nat.eq_of_beq_eq_true h1,zCZ _ _ h]
  · rw [JY _ _ h]
  · rw [JY _ _ h]
theorem JY : ∀(a b:List AV),zfC a b=true→a=b:=by
  intro a b h
  unfold zfC at h
  split at h
  · rfl
  · obtain ⟨h1,h2⟩:=jq h
    rw [zCZ _ _ h1,JY _ _ h2]
  · cases h
end
noncomputable def zqJ:Obj→Obj→Bool
  | .dead,.dead=>true
  | .cells a,.cells b=>zfC a b
  | .arr t l,.arr t' l'=>(match yw t t' l' with | some l'=>lEq (tEq t) l l' | none=>false)
  | .mp k v l,.mp k' v' l'=>(match decEq k k' with
    | isTrue _=>(match yw (.pair (.int .i64) v) (.pair (.int .i64) v') l' with | some l'=>lEq (tEq (.pair (.int .i64) v)) l l' | none=>false)
    | isFalse _=>false)
  | _,_=>false
theorem zCY (a b:Obj) (h:zqJ a b=true):a=b:=by
  unfold zqJ at h
  split at h
  · rfl
  · rw [JY _ _ h]
  · split at h
    · rename_i m hm
      obtain ⟨e,rfl⟩:=yE hm
      subst e
      rw [zcJ (fun a b=>zce a b) h]
    · cases h
  · split at h
    · rename_i e _
      subst e
      split at h
      · rename_i m hm
        obtain ⟨e,rfl⟩:=yE hm
        cases e
        have:=zcJ (fun a b=>zce (t := .pair (.int .i64) _) a b) h
        subst this
        rfl
      · cases h
    · cases h
  · cases h
noncomputable def zG7 (a b:Ans):Ans:=match a,b with
  | some r,some r'=>cond (aEq r.1 r'.1) (cond (lEq zqJ r.2 r'.2) (some r) none) none
  | _,_=>none
theorem zQT {a b:Ans} {res:AV×List Obj} (h:zG7 a b=some res):a=some res∧b=some res:=by
  unfold zG7 at h
  split at h
  · rename_i r r'
    obtain ⟨v,H⟩:=r
    obtain ⟨v',H'⟩:=r'
    cases h1:aEq v v' with
    | false=>simp only [h1,cond_false] at h;cases h
    | true =>
      cases h2:lEq zqJ H H' with
      | false=>simp only [h1,h2,cond_true,cond_false] at h;cases h
      | true =>
        simp only [h1,h2,cond_true] at h
        cases h
        rw [zCZ _ _ h1,zcJ zCY h2]
        exact ⟨rfl,rfl⟩
  · cases h
end Go.AE
namespace Go.AE
open Go.RowKit (Below)
variable {P:Program} {T:Tab} {E:Env}
noncomputable def fN (n:Nat) (K:Nat→Ans):Ans := @Nat.rec (fun _=>Ans) (K 0) (fun m _=>K (Nat.succ m)) n
theorem zog (n:Nat) (K:Nat→Ans):fN n K=K n:=by cases n <;> rfl
noncomputable def fI (n:Int) (K:Int→Ans):Ans := @Int.rec (fun _=>Ans) (fun m=>fN m fun m=>K (Int.ofNat m)) (fun m=>fN m fun m=>K (Int.negSucc m)) n
theorem zIs (n:Int) (K:Int→Ans):fI n K=K n:=by cases n <;> simp only [fI,zog]
noncomputable def fB (b:Bool) (K:Bool→Ans):Ans := @Bool.rec (fun _=>Ans) (K false) (K true) b
theorem zSa (b:Bool) (K:Bool→Ans):fB b K=K b:=by cases b <;> rfl
mutual
noncomputable def fV (v:AV) (K:AV→Ans):Ans :=
  match v with
  | .int k n=>fI n fun n=>K (.int k n)
  | .bool b=>fB b fun b=>K (.bool b)
  | .str s=>K (.str s)
  | .ptr i o=>fN i fun i=>fN o fun o=>K (.ptr i o)
  | .tup vs=>fVs vs fun vs=>K (.tup vs)
  | .own i=>fN i fun i=>K (.own i)
  | .agg cs=>fVs cs fun cs=>K (.agg cs)
  | .nilp=>K .nilp
  | .map i=>fN i fun i=>K (.map i)
  | .ro t l=>K (.ro t l)
  | .nils=>K .nils
  | .nilm=>K .nilm
  | .nilf=>K .nilf
  | .nili=>K .nili
  | .ifc t v=>fV v fun v=>K (.ifc t v)
  | .eptr i n o=>fN i fun i=>fN n fun n=>fN o fun o=>K (.eptr i n o)
  | .sub i o l e=>fN i fun i=>fN o fun o=>fN l fun l=>K (.sub i o l e)
  | .fn f a b=>fVs a fun a=>fVs b fun b=>K (.fn f a b)
  | .rptr t x o=>fN o fun o=>K (.rptr t x o)
  | .gh l=>K (.gh l)
  | .unk=>K .unk
noncomputable def fVs (l:List AV) (K:List AV→Ans):Ans :=
  match l with
  | []=>K []
  | v::r=>fV v fun v=>fVs r fun r=>K (v::r)
end
mutual
theorem j0 (v:AV) (K:AV→Ans):fV v K=K v:=by
  cases v <;> simp only [fV,zog,zIs,zSa]
  · rw [Jr,Jr]
  · rw [j0]
  · rw [Jr]
  · rw [Jr]
theorem Jr (l:List AV) (K:List AV→Ans):fVs l K=K l:=by
  cases l <;> simp only [fVs]
  rw [j0,Jr]
end
noncomputable def fL {α:Type} (l:List α):(List α→Ans)→Ans := @List.rec α (fun _=>(List α→Ans)→Ans) (fun K=>K []) (fun x _ ih K=>ih fun r=>K (x::r)) l
theorem zc0 {α:Type} (l:List α) : ∀K:List α→Ans,fL l K=K l:=by
  induction l with
  | nil=>intro K;rfl
  | cons x r ih=>intro K;exact ih _
noncomputable def zd8 (env:zQ) (t:Nat):AV := @List.rec (Nat×AV) (fun _=>AV) .unk (fun p _ ih => @Bool.rec (fun _=>AV) ih p.2 (Nat.beq p.1 t)) env
theorem zag (env:zQ) (t:Nat):zd8 env t=Zd env t:=by
  induction env with
  | nil=>rfl
  | cons p r ih =>
    obtain ⟨d,v⟩:=p
    rw [Zd]
    show @Bool.rec (fun _=>AV) (zd8 r t) v (Nat.beq d t)=_
    cases Nat.beq d t <;> simp [ih]
noncomputable def zsd (H:List Obj):Nat→Obj := @List.rec Obj (fun _=>Nat→Obj) (fun _ => .dead) (fun o _ ih n => @Nat.rec (fun _=>Obj) o (fun m _=>ih m) n) H
theorem zk9 (H:List Obj) : ∀n,zsd H n=zn H n:=by
  induction H with
  | nil=>intro n;rfl
  | cons o r ih=>intro n;cases n with
    | zero=>rfl
    | succ n=>exact ih n
noncomputable def zu9 {α:Type} (l:List α):Nat→Option α := @List.rec α (fun _=>Nat→Option α) (fun _=>none) (fun o _ ih n => @Nat.rec (fun _=>Option α) (some o) (fun m _=>ih m) n) l
theorem ze7 {α:Type} (l:List α) : ∀n,zu9 l n=l[n]? := by
  induction l with
  | nil=>intro n;rfl
  | cons o r ih=>intro n;cases n with
    | zero=>rfl
    | succ n=>exact (ih n).trans (by simp)
noncomputable def zAE {α:Type} (l:List α):Nat→α→(List α→Ans)→Ans := @List.rec α (fun _=>Nat→α→(List α→Ans)→Ans) (fun _ _ K=>K [])
  (fun o r ih n x K => @Nat.rec (fun _=>Ans) (K (x::r)) (fun m _=>ih m x fun r'=>K (o::r')) n) l
theorem zsP {α:Type} (l:List α) : ∀n x (K:List α→Ans),zAE l n x K=K (l.set n x):=by
  induction l with
  | nil=>intro n x K;rfl
  | cons o r ih=>intro n x K;cases n with
    | zero=>rfl
    | succ n=>exact ih n x _
noncomputable def zTZ {α:Type} (l:List α) (x:α):(List α→Ans)→Ans := @List.rec α (fun _=>(List α→Ans)→Ans) (fun K=>K [x]) (fun o _ ih K=>ih fun r=>K (o::r)) l
theorem zSX {α:Type} (l:List α) (x:α) : ∀K:List α→Ans,zTZ l x K=K (l++[x]):=by
  induction l with
  | nil=>intro K;rfl
  | cons o r ih=>intro K;exact ih _
noncomputable def zyQ {α:Type} (l:List α):(Nat→Ans)→Ans := @List.rec α (fun _=>(Nat→Ans)→Ans) (fun K=>K 0) (fun _ _ ih K=>ih fun n=>K (Nat.succ n)) l
theorem zu1 {α:Type} (l:List α) : ∀K:Nat→Ans,zyQ l K=K l.length:=by
  induction l with
  | nil=>intro K;rfl
  | cons o r ih=>intro K;exact ih _
structure CV where
  run:zQ→AV
noncomputable def vOf:Operand→CV
  | .tmp t=>⟨fun env=>zd8 env t⟩
  | .const v=>⟨fun _=>zbK v⟩
  | .global _=>⟨fun _ => .unk⟩
  | .func f=>⟨fun _ => .fn (.func f) [] []⟩
theorem Ze (o:Operand) (env:zQ):(vOf o).run env=opd env o:=by
  cases o <;> simp [vOf,opd,zag]
noncomputable def zvm (s:St) (i:Nat) (o:Obj) (K:St→Ans):Ans :=
  @St.casesOn (fun _=>Ans) s fun env stk H blk=>zAE H i o fun H=>K ⟨env,stk,H,blk⟩
theorem zeu (s:St) (i:Nat) (o:Obj) (K:St→Ans):zvm s i o K=Wf s i o K:=by
  obtain ⟨env,stk,H,blk⟩:=s
  rw [YV]
  show zAE H i o _=_
  rw [zsP,J5]
noncomputable def zs4 (s:St) (o:Obj) (K:Nat→St→Ans):Ans :=
  @St.casesOn (fun _=>Ans) s fun env stk H blk=>zyQ H fun i=>zTZ H o fun H=>K i ⟨env,stk,H,blk⟩
theorem zjM (s:St) (o:Obj) (K:Nat→St→Ans):zs4 s o K=qv s o K:=by
  obtain ⟨env,stk,H,blk⟩:=s
  rw [YS]
  show zyQ H _=_
  rw [zu1,zSX]
noncomputable def zcs (nt:Nat) (dst:Option Nat) (v:AV) (s:St) (K:St→Ans):Ans :=
  match dst with
  | some d=>cond (Nat.blt d nt) (fV v fun v => @St.casesOn (fun _=>Ans) s fun env stk H blk=>K ⟨(d,v)::env,stk,H,blk⟩) none
  | none=>K s
theorem jD (nt:Nat) (dst:Option Nat) (v:AV) (s:St) (K:St→Ans):zcs nt dst v s K=za6 nt dst v s K:=by
  obtain ⟨env,stk,H,blk⟩:=s
  cases dst with
  | none=>rfl
  | some d=>simp only [zcs,za6,j0,yf]
theorem zBx (cs:List AV) (v:AV) : ∀off,yV cs off [v]=za (cs[off]?) fun _=>some (cs.set off v):=by
  have key : ∀(cs:List AV) (off:Nat) (x:AV),cs[off]? = some x→YZ off cs=some (cs.take off)∧YZ 1 (cs.drop off)=some [x]∧cs.take off++[v]++(cs.drop off).drop 1=cs.set off v:=by
    intro cs
    induction cs with
    | nil=>intro off x h;simp at h
    | cons c r ih =>
      intro off x h
      cases off with
      | zero=>simp at h;subst h;exact ⟨rfl,rfl,by simp⟩
      | succ off =>
        obtain ⟨h1,h2,h3⟩:=ih off x (by simpa using h)
        refine ⟨by rw [YZ,h1];rfl,by simpa using h2,?_⟩
        simpa using h3
  have no : ∀(cs:List AV) (off:Nat),cs[off]? = none→YZ off cs=none∨YZ 1 (cs.drop off)=none:=by
    intro cs
    induction cs with
    | nil =>
      intro off _
      cases off with
      | zero=>exact .inr rfl
      | succ _=>exact .inl rfl
    | cons c r ih =>
      intro off h
      cases off with
      | zero=>simp at h
      | succ off =>
        rcases ih off (by simpa using h) with h1 | h1
        · exact .inl (by rw [YZ,h1])
        · exact .inr (by simpa using h1)
  intro off
  cases hx:cs[off]? with
  | some x =>
    obtain ⟨h1,h2,h3⟩:=key cs off x hx
    rw [yV,h1]
    show (match YZ 1 (cs.drop off) with | none=>none | some _=>some (cs.take off++[v]++(cs.drop off).drop 1))=_
    rw [h2,h3]
    rfl
  | none =>
    show _=none
    rw [yV]
    rcases no cs off hx with h1 | h1
    · rw [h1]
    · cases YZ off cs with
      | none=>rfl
      | some a =>
        show (match YZ 1 (cs.drop off) with | none=>none | some _=>some (a++[v]++(cs.drop off).drop 1))=_
        rw [h1]
theorem zDZ (cs:List AV) (off:Nat):WP cs off 1=za (cs[off]?) fun v=>some [v]:=by
  unfold WP
  induction cs generalizing off with
  | nil=>cases off <;> rfl
  | cons c r ih=>cases off with
    | zero=>rfl
    | succ off=>simpa using ih off
structure CL where
  run:St→AV→(AV→Ans)→Ans
noncomputable def zrm (T:Tab) (t:Nat):CL :=
  match Tab.get T t with
  | none=>⟨fun _ _ _=>none⟩
  | some i=>cond (Nat.beq i.size 1 && !i.isAgg)
      ⟨fun s p K=>match p with
        | .ptr n off=>(match zsd s.H n with
          | .cells cs=>za (zu9 cs off) K
          | _=>load T s t (.ptr n off) K)
        | p=>load T s t p K⟩
      ⟨fun s p K=>load T s t p K⟩
theorem znI (t:Nat) (s:St) (p:AV) (K:AV→Ans):(zrm T t).run s p K=load T s t p K:=by
  unfold zrm
  cases hi:Tab.get T t with
  | none=>simp only [load,hi];rfl
  | some i =>
    dsimp only
    cases hc:Nat.beq i.size 1 && !i.isAgg with
    | false=>rfl
    | true =>
      simp only [Bool.and_eq_true,Bool.not_eq_true'] at hc
      have h1:i.size=1:=Nat.eq_of_beq_eq_true hc.1
      simp only [cond_true]
      split
      · rename_i n off
        rw [zk9]
        split
        · rename_i cs hcs
          rw [ze7,load,hi]
          simp only [za,hcs,hc.2,cond_false,h1,zDZ]
          cases cs[off]? <;> rfl
        · rfl
      · rfl
structure CS where
  run:St→AV→AV→(St→Ans)→Ans
noncomputable def zqW (T:Tab) (t:Nat):CS :=
  match Tab.get T t with
  | none=>⟨fun _ _ _ _=>none⟩
  | some i=>⟨fun s p v K=>match p with
      | .ptr n off=>(match zsd s.H n with
        | .cells cs=>match v with
          | .agg vs=>cond (Nat.beq vs.length i.size&&jd vs) (za (yV cs off vs) fun cs'=>fL cs' fun cs'=>zvm s n (.cells cs') K) none
          | v=>cond (Nat.beq 1 i.size&&v.cellOk) (za (zu9 cs off) fun _=>zAE cs off v fun cs'=>zvm s n (.cells cs') K) none
        | _=>store T s t (.ptr n off) v K)
      | .eptr n idx off=>(match zsd s.H n with
        | .arr ty l=>cond (Nat.beq v.cellsOf.length i.size&&jd v.cellsOf) (za (zu9 l idx) fun x=>za (yV (cells ty x) off v.cellsOf) fun cs'=>za (Q2 ty cs') fun x'=>zAE l idx x' fun l'=>zvm s n (.arr ty l') K) none
        | _=>store T s t (.eptr n idx off) v K)
      | p=>store T s t p v K⟩
theorem zv3 (t:Nat) (s:St) (p v:AV) (K:St→Ans):(zqW T t).run s p v K=store T s t p v K:=by
  unfold zqW
  cases hi:Tab.get T t with
  | none=>simp only [store,hi];rfl
  | some i =>
    dsimp only
    split
    · rename_i n off
      rw [zk9]
      split
      · rename_i cs hcs
        split
        · rename_i vs
          simp only [zc0,zeu,store,hi,za,hcs,AV.cellsOf]
        · rename_i hv
          have hco:v.cellsOf=[v]:=by
            cases v <;> first | rfl | exact (hv _ rfl).elim
          simp only [zsP,zeu,ze7,store,hi,za,hcs,hco,zBx,jd,Bool.and_true,List.length_singleton]
          congr 1
          cases cs[off]? <;> rfl
      · rfl
    · rename_i n idx off
      rw [zk9]
      split
      · rename_i ty l hl
        simp only [zsP,zeu,ze7,store,hi,za,hl]
      · rfl
    · rfl
structure CA where
  run:AV→(AV→Ans)→Ans
noncomputable def zbD (T:Tab) (t f:Nat):CA :=
  match Tab.get T t with
  | none=>⟨fun _ _=>none⟩
  | some i=>match i.k with
    | .struct fs=>(match fs[f]? with
      | none=>⟨fun _ _=>none⟩
      | some q=>match Tab.get T q.1 with
        | none=>⟨fun _ _=>none⟩
        | some j=>cond (Nat.beq j.size 0) ⟨fun _ _=>none⟩ ⟨fun p K=>match p with
          | .ptr n o=>K (.ptr n (o+q.2))
          | .eptr n x o=>K (.eptr n x (o+q.2))
          | .rptr ty x o=>K (.rptr ty x (o+q.2))
          | _=>none⟩)
    | _=>⟨fun _ _=>none⟩
theorem zgt (t f:Nat) (p:AV) (K:AV→Ans):(zbD T t f).run p K=fieldAddr T t p f K:=by
  unfold zbD fieldAddr
  cases hi:Tab.get T t with
  | none=>rfl
  | some i =>
    dsimp only [za]
    cases i.k with
    | struct fs =>
      dsimp only
      cases fs[f]? with
      | none=>rfl
      | some q =>
        obtain ⟨ft,off⟩:=q
        dsimp only
        cases Tab.get T ft with
        | none=>rfl
        | some j =>
          dsimp only
          cases Nat.beq j.size 0 <;> rfl
    | _=>rfl
noncomputable def ltB (a b:Int):Bool := @Int.rec (fun _=>Bool) (fun m => @Int.rec (fun _=>Bool) (fun n=>Nat.blt m n) (fun _=>false) b) (fun m => @Int.rec (fun _=>Bool) (fun _=>true) (fun n=>Nat.blt n m) b) a
theorem zCQ (a b:Int):ltB a b=decide (a<b):=by
  cases a <;> cases b <;> simp only [ltB,Int.ofNat_eq_natCast]
  · rename_i m n
    rw [Bool.eq_iff_iff,Nat.blt_eq,decide_eq_true_eq];omega
  · rename_i m n
    symm;rw [decide_eq_false_iff_not];omega
  · rename_i m n
    symm;rw [decide_eq_true_eq];omega
  · rename_i m n
    rw [Bool.eq_iff_iff,Nat.blt_eq,decide_eq_true_eq];omega
noncomputable def eqB (a b:Int):Bool := @Int.rec (fun _=>Bool) (fun m => @Int.rec (fun _=>Bool) (fun n=>Nat.beq m n) (fun _=>false) b) (fun m => @Int.rec (fun _=>Bool) (fun _=>false) (fun n=>Nat.beq m n) b) a
theorem zUK (a b:Int):eqB a b=(a == b):=by
  cases a <;> cases b <;> simp only [eqB,Int.ofNat_eq_natCast]
  · rename_i m n
    rw [Bool.eq_iff_iff,Nat.beq_eq,beq_iff_eq];omega
  · rename_i m n
    symm;rw [beq_eq_false_iff_ne];omega
  · rename_i m n
    symm;rw [beq_eq_false_iff_ne];omega
  · rename_i m n
    rw [Bool.eq_iff_iff,Nat.beq_eq,beq_iff_eq];omega
noncomputable def zI0 (k:IntKind):Nat:=match k with
  | .i64=>9223372036854775807
  | .u8=>255
  | .u32=>4294967295
  | .u64=>18446744073709551615
  | _=>0
theorem zNX (k:IntKind) (m:Nat) (h:Nat.ble m (zI0 k)=true):k.wrap (Int.ofNat m)=Int.ofNat m:=by
  have h:=Nat.le_of_ble_eq_true h
  cases k <;> simp only [zI0] at h <;> simp [IntKind.wrap,IntKind.bits,IntKind.signed] <;> omega
noncomputable def zf5 (k:IntKind) (x:Int) (K:AV→Ans):Ans :=
  @Int.rec (fun _=>Ans) (fun m => @Bool.rec (fun _=>Ans) (fI (k.wrap (Int.ofNat m)) fun n=>K (.int k n)) (fN m fun m=>K (.int k (Int.ofNat m))) (Nat.ble m (zI0 k))) (fun m=>fI (k.wrap (Int.negSucc m)) fun n=>K (.int k n)) x
theorem zyO (k:IntKind) (x:Int) (K:AV→Ans):zf5 k x K=K (.int k (k.wrap x)):=by
  cases x with
  | ofNat m =>
    simp only [zf5]
    cases h:Nat.ble m (zI0 k) with
    | false=>simp only [zIs]
    | true=>simp only [zog];rw [zNX k m h]
  | negSucc m=>simp only [zf5,zIs]
structure CI where
  run:IntKind→Int→Int→(AV→Ans)→Ans
noncomputable def zIY (op:BinOp):CI :=
  match op with
  | .add=>⟨fun k a b K=>zf5 k (Int.add a b) K⟩
  | .sub=>⟨fun k a b K=>zf5 k (Int.sub a b) K⟩
  | .mul=>⟨fun k a b K=>zf5 k (Int.mul a b) K⟩
  | .eql=>⟨fun _ a b K=>fB (eqB a b) fun b=>K (.bool b)⟩
  | .neq=>⟨fun _ a b K=>fB (@Bool.rec (fun _=>Bool) true false (eqB a b)) fun b=>K (.bool b)⟩
  | .lss=>⟨fun _ a b K=>fB (ltB a b) fun b=>K (.bool b)⟩
  | .gtr=>⟨fun _ a b K=>fB (ltB b a) fun b=>K (.bool b)⟩
  | .leq=>⟨fun _ a b K=>fB (@Bool.rec (fun _=>Bool) true false (ltB b a)) fun b=>K (.bool b)⟩
  | .geq=>⟨fun _ a b K=>fB (@Bool.rec (fun _=>Bool) true false (ltB a b)) fun b=>K (.bool b)⟩
  | op=>⟨fun k a b K=>zaS op k a b K⟩
theorem zSN (op:BinOp) (k:IntKind) (a b:Int) (K:AV→Ans):(zIY op).run k a b K=zaS op k a b K:=by
  cases op <;> simp only [zIY,zaS,zyO,zSa,zUK,zCQ] <;> try rfl
  · congr 2
    cases h:(a == b) <;> simp_all [bne]
  · congr 2
    rw [Bool.eq_iff_iff]
    by_cases h:b<a <;> simp [h] <;> omega
  · congr 2
    rw [Bool.eq_iff_iff]
    by_cases h:a<b <;> simp [h] <;> omega
structure CB where
  run:AV→AV→(AV→Ans)→Ans
noncomputable def zH3 (T:Tab) (op:BinOp) (t:Nat) (c:Bool):CB :=
  cond (J2 op) ⟨fun x y K=>zcv T op t c x y K⟩
    ⟨fun x y K=>match x with
      | .int k a=>(match y with
        | .int k' b=>(match decEq k k' with | isTrue _=>(zIY op).run k a b K | isFalse _=>none)
        | y=>zcv T op t c (.int k a) y K)
      | x=>zcv T op t c x y K⟩
theorem zEX (op:BinOp) (t:Nat) (c:Bool) (x y:AV) (K:AV→Ans):(zH3 T op t c).run x y K=zcv T op t c x y K:=by
  unfold zH3
  cases hs:J2 op with
  | true=>rfl
  | false =>
    simp only [cond_false]
    cases x <;> try rfl
    rename_i k a
    cases y <;> try rfl
    rename_i k' b
    show (match decEq k k' with | isTrue _=>(zIY op).run k a b K | isFalse _=>none)=binOp T op t (.int k a) (.int k' b) K
    simp only [binOp,hs,cond_false,zSN]
    cases decEq k k' <;> rfl
noncomputable def zA0 (T:Tab) (s:St) (t:Nat) (x:AV) (lo hi mx:Option AV) (K:AV→Ans):Ans :=
  match x,lo,hi,mx with
  | .str a,some l,none,none=>za (Tab.get T t) fun ti=>match ti.k with
    | .sc=>cond (W7 ti) (asInt l fun n=>cond (inR n (a.length+1)) (fN n.toNat fun n=>K (.str (a.drop n))) none) none
    | _=>slice T s t x lo hi mx K
  | .str a,none,some h,none=>za (Tab.get T t) fun ti=>match ti.k with
    | .sc=>cond (W7 ti) (asInt h fun n=>cond (inR n (a.length+1)) (fN n.toNat fun n=>K (.str (a.take n))) none) none
    | _=>slice T s t x lo hi mx K
  | _,_,_,_=>slice T s t x lo hi mx K
theorem zOS (s:St) (t:Nat) (x:AV) (lo hi mx:Option AV) (K:AV→Ans):zA0 T s t x lo hi mx K=slice T s t x lo hi mx K:=by
  unfold zA0
  split
  · rename_i a l
    unfold slice
    cases Tab.get T t with
    | none=>rfl
    | some ti =>
      dsimp only [za]
      cases ti.k <;> try rfl
      dsimp only
      cases W7 ti <;> try rfl
      simp only [cond_true,qk,zog,zmI]
  · rename_i a h
    unfold slice
    cases Tab.get T t with
    | none=>rfl
    | some ti =>
      dsimp only [za]
      cases ti.k <;> try rfl
      dsimp only
      cases W7 ti <;> try rfl
      simp only [cond_true,qk,zog,zmI]
  · rfl
noncomputable def zkw (i:Nat) (v:AV) (K:AV→Ans):Ans :=
  match v with
  | .int k n=>K (.int k n)
  | .own j => @Bool.rec (fun _=>Ans) (K (.own j)) (K .unk) (Nat.beq i j)
  | .ptr j o => @Bool.rec (fun _=>Ans) (K (.ptr j o)) (K .unk) (Nat.beq i j)
  | .bool b=>K (.bool b)
  | .str s=>K (.str s)
  | .unk=>K .unk
  | .nilp=>K .nilp
  | v=>fV (v.mapR (Zq i)) K
theorem zzM (i:Nat) (v:AV) (K:AV→Ans):zkw i v K=K (v.mapR (Zq i)):=by
  unfold zkw
  split
  · rw [AV.mapR]
  · rename_i j
    rw [AV.mapR,Zq]
    cases Nat.beq i j <;> rfl
  · rename_i j o
    rw [AV.mapR,Zq]
    cases Nat.beq i j <;> rfl
  · rw [AV.mapR]
  · rw [AV.mapR]
  · rw [AV.mapR]
  · rw [AV.mapR]
  · rw [j0]
noncomputable def zfN (i:Nat) (env:zQ):(zQ→Ans)→Ans := @List.rec (Nat×AV) (fun _=>(zQ→Ans)→Ans) (fun K=>K []) (fun p _ ih K => @Prod.rec Nat AV (fun _=>Ans) (fun d v=>zkw i v fun v=>ih fun r=>K ((d,v)::r)) p) env
theorem zCq (i:Nat) (env:zQ) : ∀K:zQ→Ans,zfN i env K=K (Z1 (Zq i) env):=by
  induction env with
  | nil=>intro K;rfl
  | cons p r ih =>
    obtain ⟨d,v⟩:=p
    intro K
    have e:zfN i ((d,v)::r) K=zkw i v (fun v=>zfN i r fun r=>K ((d,v)::r)):=rfl
    rw [e,zzM]
    exact ih _
noncomputable def zyq (i:Nat) (stk:List zQ):(List zQ→Ans)→Ans := @List.rec zQ (fun _=>(List zQ→Ans)→Ans) (fun K=>K []) (fun e _ ih K=>zfN i e fun e=>ih fun r=>K (e::r)) stk
theorem zQ9 (i:Nat) (stk:List zQ) : ∀K:List zQ→Ans,zyq i stk K=K (Yq (Zq i) stk):=by
  induction stk with
  | nil=>intro K;rfl
  | cons e r ih =>
    intro K
    have e':zyq i (e::r) K=zfN i e (fun e=>zyq i r fun r=>K (e::r)):=rfl
    rw [e',zCq]
    exact ih _
noncomputable def zhN (i:Nat) (l:List AV):(List AV→Ans)→Ans := @List.rec AV (fun _=>(List AV→Ans)→Ans) (fun K=>K []) (fun e _ ih K=>zkw i e fun e=>ih fun r=>K (e::r)) l
theorem zNz (i:Nat) (l:List AV) : ∀K:List AV→Ans,zhN i l K=K (AV.mapRs (Zq i) l):=by
  induction l with
  | nil=>intro K;show K []=_;rw [AV.mapRs]
  | cons e r ih =>
    intro K
    have e':zhN i (e::r) K=zkw i e (fun e=>zhN i r fun r=>K (e::r)):=rfl
    rw [e',zzM,AV.mapRs]
    exact ih _
noncomputable def zyo (i:Nat) (o:Obj) (K:Obj→Ans):Ans :=
  match o with
  | .cells cs=>zhN i cs fun cs=>K (.cells cs)
  | .bcells cs=>zhN i cs fun cs=>K (.bcells cs)
  | .arr t l=>K (.arr t l)
  | .mp k v l=>K (.mp k v l)
  | .dead=>K .dead
  | .btold s=>K (.btold s)
theorem zRI (i:Nat) (o:Obj) (K:Obj→Ans):zyo i o K=K (o.mapR (Zq i)):=by
  cases o <;> simp only [zyo,zNz,Obj.mapR]
noncomputable def zyt (i:Nat) (H:List Obj):(List Obj→Ans)→Ans := @List.rec Obj (fun _=>(List Obj→Ans)→Ans) (fun K=>K []) (fun e _ ih K=>zyo i e fun e=>ih fun r=>K (e::r)) H
theorem zPs (i:Nat) (H:List Obj) : ∀K:List Obj→Ans,zyt i H K=K (zS (Zq i) H):=by
  induction H with
  | nil=>intro K;rfl
  | cons e r ih =>
    intro K
    have e':zyt i (e::r) K=zyo i e (fun e=>zyt i r fun r=>K (e::r)):=rfl
    rw [e',zRI]
    exact ih _
noncomputable def zMF (i:Nat) (s:St) (K:St→Ans):Ans :=
  @St.casesOn (fun _=>Ans) s fun env stk H blk=>zfN i env fun env=>zyq i stk fun stk=>zyt i H fun H=>K ⟨env,stk,H,blk⟩
theorem zMa (i:Nat) (s:St) (K:St→Ans):zMF i s K=K (s.mapR (Zq i)):=by
  obtain ⟨env,stk,H,blk⟩:=s
  show zfN i env _=_
  rw [zCq,zQ9,zPs]
  rfl
noncomputable def zRn (T:Tab) (t t2:Nat) (x y:AV) (s:St) (K:KV):Ans :=
  za (Tab.get T t2) fun i2=>cond (zpg i2) (za (JU T t) fun (_,j)=>cond (Nat.beq j.bytes 0) none (za j.ty fun ty =>
    let news:Option (List ty.T):=match y with
      | .str a=>yw ty (.int .u8) (zW a)
      | y=>jM s ty y
    za news fun b =>
      let put (i:Nat) (a:List ty.T) (s:St):Ans:=cond (Nat.ble ((a.length+b.length)*j.bytes) 140737488355328)
        (zMF i s fun s'=>fL (a++b) fun ab=>zvm s' i (.arr ty ab) fun s'=>K (.own i) s') none
      match x with
      | .own i=>match zsd s.H i with
        | .arr t' l=>za (yw ty t' l) fun a=>put i a s
        | _=>none
      | .sub i off len _=>match zsd s.H i with
        | .arr t' l=>cond (Nat.beq off 0&&Nat.ble len l.length) (za (yw ty t' l) fun a=>put i (a.take len) s) none
        | _=>none
      | _=>none)) none
theorem zSQ (t t2:Nat) (x y:AV) (s:St) (K:KV):zRn T t t2 x y s K=append T t t2 x y s K:=by
  simp only [zRn,append,zMa,zc0,zeu,ZS,zk9]
  rfl
noncomputable def zdV (T:Tab) (t len:Nat) (parts:List (Nat×AV)) (s:St) (K:KV):Ans :=
  za (JU T t) fun (_,j)=>cond (Nat.ble (len*j.size) 16777216)
    (za (Y4 (fun i=>some (i*j.size,j.size)) (wZ j.zero len) parts) fun cs =>
      match j.ty with
      | some ty =>
        jA (AV.refsL cs) cs s fun cs s =>
        za (Q7 ty len cs) fun l=>zs4 s (.arr ty l) fun i s=>K (.own i) s
      | none=>fVs cs fun cs=>zs4 s (.cells cs) fun i s=>K (.sub i 0 len j.size) s)
    none
theorem zr4 (t len:Nat) (parts:List (Nat×AV)) (s:St) (K:KV):zdV T t len parts s K=buildSlice T t len parts s K:=by
  simp only [zdV,buildSlice,zjM,Jr]
  rfl
noncomputable def zfv (T:Tab) (t:Nat) (l c:AV) (s:St) (K:KV):Ans :=
  za (JU T t) fun (_,j)=>za j.ty fun ty=>za (Q2 ty j.zero) fun z=>asInt l fun a=>asInt c fun b =>
    cond (decide (0≤a)&&decide (a≤b)&&decide (j.bytes*b≤281474976710656)&&decide (b≤9223372036854775807))
      (zs4 s (.arr ty (List.replicate a.toNat z)) fun i s=>K (.own i) s) none
theorem zwA (t:Nat) (l c:AV) (s:St) (K:KV):zfv T t l c s K=makeSlice T t l c s K:=by
  simp only [zfv,makeSlice,zjM]
noncomputable def zuB (T:Tab) (t:Nat) (x ix y:AV) (s:St) (K:KV):Ans :=
  match x with
  | .map i=>za (zc1 T t) fun (kk,_,ty)=>za (zfs kk ix) fun n=>za (zbf s kk ty (.map i)) fun l=>za (Q2 ty [y]) fun z =>
      fL (zci n z l) fun l=>zvm s i (.mp kk ty l) fun s=>K .unk s
  | _=>none
theorem zJt (t:Nat) (x ix y:AV) (s:St) (K:KV):zuB T t x ix y s K=ziC T t x ix y s K:=by
  simp only [zuB,ziC,zeu,zc0]
  rfl
noncomputable def zb5 (m:Nat) (env:zQ):(zQ→Ans)→Ans := @List.rec (Nat×AV) (fun _=>(zQ→Ans)→Ans) (fun K=>K []) (fun p _ ih K => @Bool.rec (fun _=>Ans) (ih K) (ih fun r=>K (p::r)) (Nat.beq (Nat.land (Nat.shiftRight m p.1) 1) 1)) env
def inM (m t:Nat):Bool:=Nat.beq (Nat.land (Nat.shiftRight m t) 1) 1
theorem zEk (m:Nat) : ∀env:zQ,∃env',(∀t,Zd env' t=cond (inM m t) (Zd env t) .unk) ∧ ∀K:zQ→Ans,zb5 m env K=K env':=by
  intro env
  induction env with
  | nil=>exact ⟨[],fun t=>by cases inM m t <;> rfl,fun K=>rfl⟩
  | cons p r ih =>
    obtain ⟨d,v⟩:=p
    obtain ⟨env',h1,h2⟩:=ih
    have e : ∀K:zQ→Ans,zb5 m ((d,v)::r) K = @Bool.rec (fun _=>Ans) (zb5 m r K) (zb5 m r fun r=>K ((d,v)::r)) (inM m d):=fun K=>rfl
    cases hb:inM m d with
    | true =>
      refine ⟨(d,v)::env',fun t => ?_,fun K=>by rw [e,hb];exact h2 _⟩
      rw [Zm,Zm]
      by_cases hd:d=t
      · subst hd;rw [if_pos rfl,hb,if_pos rfl];rfl
      · rw [if_neg hd,if_neg hd];exact h1 t
    | false =>
      refine ⟨env',fun t => ?_,fun K=>by rw [e,hb];exact h2 _⟩
      rw [h1 t,Zm]
      by_cases hd:d=t
      · subst hd;rw [hb];rfl
      · rw [if_neg hd]
theorem zIj {C:Cx} {tmps:Array Value} {m:Nat} {env:zQ} (h:Zj C env tmps) : ∃env',Zj C env' tmps ∧ ∀K:zQ→Ans,zb5 m env K=K env':=by
  obtain ⟨env',h1,h2⟩:=zEk m env
  refine ⟨env',fun t => ?_,h2⟩
  rw [h1 t]
  cases inM m t with
  | true=>exact h t
  | false=>rw [cond_false,VRel];trivial
noncomputable def We (m:Nat) (s:St) (K:St→Ans):Ans :=
  @St.casesOn (fun _=>Ans) s fun env stk H blk=>zb5 m env fun env=>K ⟨env,stk,H,blk⟩
theorem wA [BT] {F:Fr} {C:Cx} {s:St} {tmps:Array Value} {stk:List (Array Value)} (hS:zw F C s tmps stk) {m:Nat} {K:St→Ans} {res:AV×List Obj} (h:We m s K=some res) :
    ∃s',zw F C s' tmps stk∧K s'=some res:=by
  obtain ⟨env,stk0,H,blk⟩:=s
  obtain ⟨env',h1,h2⟩:=zIj (m:=m) hS.env
  have e:We m ⟨env,stk0,H,blk⟩ K=zb5 m env fun env=>K ⟨env,stk0,H,blk⟩:=rfl
  rw [e,h2] at h
  exact ⟨⟨env',stk0,H,blk⟩,⟨hS.H,hS.heap,h1,hS.stk,hS.frame⟩,h⟩
def zt1 (d:Nat):Nat:=Nat.shiftLeft 1 d
def zWs (m d:Nat):Nat:=Nat.sub m (Nat.land m (zt1 d))
def zTA:Operand→Nat
  | .tmp t=>zt1 t
  | _=>0
def zLv (o:Oper):Nat:=o.op.operands.toList.foldl (fun m x=>Nat.lor m (zTA x)) 0
def zLD (all:Array Oper) (o:Oper):Nat :=
  match o.guard with
  | some jw=>(match zev all jw.1 with
    | some g=>zt1 g
    | none=>0)
  | none=>0
def J9 (all:Array Oper):List Oper→Nat→Nat
  | [],m=>m
  | o::r,m=>Nat.lor (Nat.lor (match o.dst with
    | some d=>zWs (J9 all r m) d
    | none=>J9 all r m) (zLv o)) (zLD all o)
def zvj (all:Array Oper):List Oper→Nat
  | []=>0
  | o::r=>Nat.lor (Nat.lor (Nat.lor (zLv o) (zLD all o)) (match o.dst with | some d=>zt1 d | none=>0)) (zvj all r)
def exM (i:Nat):List (Nat×Nat)→Nat
  | []=>0
  | (j,m)::r=>cond (Nat.beq i j) m (exM i r)
def wi (nt res:Nat):List (Nat×Nat)→Code→Nat→Nat
  | _,.region _ ops draw,m=>cond draw (Nat.lor m (zvj ops ops.toList)) (J9 ops ops.toList m)
  | ex,.seq a b,m=>wi nt res ex a (wi nt res ex b m)
  | ex,.cond c a b,m=>Nat.lor (zTA c) (Nat.lor (wi nt res ex a m) (wi nt res ex b m))
  | ex,.block id c,m=>wi nt res ((id,m)::ex) c m
  | ex,.loop c,_=>wi nt res ex c 0
  | ex,.exit id,_=>exM id ex
  | _,.ret,_=>res
  | _,.rangeFunc _ _ _ _,_=>Nat.sub (Nat.shiftLeft 1 (Nat.succ nt)) 1
  | _,_,m=>m
def zcb:List ResultVar→Nat
  | []=>0
  | .tmp t::r=>Nat.lor (zt1 t) (zcb r)
  | .cell a _::r=>Nat.lor (zt1 a) (zcb r)
def jL:Nat→Ann→Code→(Ex→St→Ans)→St→Ans:=fun _ _ _ _ _=>none
theorem qB [BT]:qj P jL:=by
  intro r F nt x c K s C a stk res h _ _ _ _ _
  cases h
structure CF where
  nt:Nat
  res:List ResultVar
  run:(Ex→St→Ans)→St→Ans
structure Lo where
  env:Env
  ca:Nat→Option CF
structure CO where
  run:St→KV→Ans
noncomputable def zao [BT] (T:Tab) (E:Env) (o:Oper):CO:=⟨fun s K=>opE T E jL o s K⟩
noncomputable def zff (T:Tab) (s:St):List ResultVar→(List AV→Ans)→Ans
  | [],K=>K []
  | .tmp t::r,K=>fV (zd8 s.env t) fun v=>zff T s r fun vs=>K (v::vs)
  | .cell a t::r,K=>(zrm T t).run s (zd8 s.env a) fun v=>zff T s r fun vs=>K (v::vs)
theorem zkD (s:St) : ∀(l:List ResultVar) (acc:List AV) (K:List AV→Ans),Zn T s l acc K=zff T s l fun vs=>K (acc++vs)
  | [],acc,K=>by rw [Zn,zff,List.append_nil]
  | .tmp t::r,acc,K=>by
    rw [Zn,zff,j0,zag,zkD s r]
    simp only [List.append_assoc,List.cons_append,List.nil_append]
  | .cell a t::r,acc,K=>by
    rw [Zn,zff,znI,zag]
    congr 1
    funext v
    rw [zkD s r]
    simp only [List.append_assoc,List.cons_append,List.nil_append]
noncomputable def zrO (T:Tab) (res:List ResultVar) (blk:Nat) (K:KV) (e:Ex) (s':St):Ans :=
  match e with
  | .norm | .ret => @St.casesOn (fun _=>Ans) s' fun _ stk H _=>match stk with
    | env::stk=>zff T s' res fun vs=>fV (yP vs) fun v=>K v ⟨env,stk,H,blk⟩
    | []=>none
  | _=>none
noncomputable def jg (T:Tab) (m:Nat) (cf:CF) (args:List AV) (s:St) (K:KV):Ans :=
  fVs args fun args=>fL (ZD 0 args) fun env=>We m s fun s => @St.casesOn (fun _=>Ans) s fun env0 stk H blk=>cf.run (zrO T cf.res blk K) ⟨env,env0::stk,H,0⟩
noncomputable def zbO (T:Tab) (t:Nat):Bool:=(zfl T t .nils).isSome
theorem zme {t:Nat} (h:zbO T t=false) (v:AV) (s:St) (K:KV):yb T t v s K=K v s:=by
  unfold yb
  unfold zbO at h
  have:zfl T t v=none:=by
    cases v <;> try rfl
    simpa using h
  rw [this]
noncomputable def zOh (T:Tab) (src dst:Nat):Option IntKind :=
  match Tab.get T src with
  | none=>none
  | some _=>match Tab.get T dst with
    | none=>none
    | some di=>zaU di
noncomputable def zKN [BT] (T:Tab) (lo:Lo) (m:Nat) (o:Oper) (c:Call):CO :=
  match c.callee with
  | .value f=>(match f with
    | .func g=>(match lo.ca g with
      | some cf=>⟨fun s K=>jg T m cf (c.args.toList.map fun x=>(vOf x).run s.env) s K⟩
      | none=>zao T lo.env o)
    | f=>⟨fun s K=>match (vOf f).run s.env with
      | .fn (.func g) first cap=>(match lo.ca g with
        | some cf=>jg T m cf (first++(c.args.toList.map fun x=>(vOf x).run s.env)++cap) s K
        | none=>opE T lo.env jL o s K)
      | _=>none⟩)
  | .invoke _ _=>⟨fun s K=>match wu T s c with
    | some ga=>(match lo.ca ga.1 with
      | some cf=>jg T m cf ga.2 s K
      | none=>opE T lo.env jL o s K)
    | none=>none⟩
  | _=>zao T lo.env o
noncomputable def opC [BT] (T:Tab) (lo:Lo) (m:Nat) (o:Oper):CO :=
  match o.op with
  | .move x=>⟨fun s K=>K ((vOf x).run s.env) s⟩
  | .assign x=>(match x with
    | .const v=>(match zfl T o.type (zbK v) with
      | none=>⟨fun s K=>K (zbK v) s⟩
      | some ty=>⟨fun s K=>zs4 s (.arr ty []) fun i s'=>K (.own i) s'⟩)
    | x=>⟨fun s K=>K ((vOf x).run s.env) s⟩)
  | .load t a=>⟨fun s K=>(zrm T t).run s ((vOf a).run s.env) fun v=>K v s⟩
  | .store t a x=>cond (zbO T t) (zao T lo.env o) ⟨fun s K=>(zqW T t).run s ((vOf a).run s.env) ((vOf x).run s.env) fun s=>K .unk s⟩
  | .fieldAddr t x f=>⟨fun s K=>(zbD T t f).run ((vOf x).run s.env) fun v=>K v s⟩
  | .nilCheck x=>⟨fun s K=>match (vOf x).run s.env with
    | .ptr i off=>K (.ptr i off) s
    | .eptr i n off=>K (.eptr i n off) s
    | .rptr t y off=>K (.rptr t y off) s
    | _=>none⟩
  | .binOp op t x y _=>⟨fun s K=>(zH3 T op t (isConst x || isConst y)).run ((vOf x).run s.env) ((vOf y).run s.env) fun v=>K v s⟩
  | .extract t i=>⟨fun s K=>match (vOf t).run s.env with
    | .tup vs=>za (zu9 vs i) fun v=>K v s
    | _=>none⟩
  | .pick c a b=>⟨fun s K=>match (vOf c).run s.env with
    | .bool p => @Bool.rec (fun _=>Ans) (K ((vOf b).run s.env) s) (K ((vOf a).run s.env) s) p
    | _=>none⟩
  | .convert src dst x=>(match zOh T src dst with
    | some k=>⟨fun s K=>match (vOf x).run s.env with
      | .int _ n=>zf5 k n fun v=>K v s
      | _=>opE T lo.env jL o s K⟩
    | none=>zao T lo.env o)
  | .field t x f=>⟨fun s K=>field T t ((vOf x).run s.env) f fun v=>K v s⟩
  | .indexAddr t x i=>⟨fun s K=>indexAddr T s t ((vOf x).run s.env) ((vOf i).run s.env) fun v=>K v s⟩
  | .index t x i=>⟨fun s K=>index T t ((vOf x).run s.env) ((vOf i).run s.env) fun v=>K v s⟩
  | .unOp op _ x=>⟨fun s K=>unOp op ((vOf x).run s.env) fun v=>K v s⟩
  | .slice t x lo hi mx=>⟨fun s K=>zA0 T s t ((vOf x).run s.env) (lo.map fun x=>(vOf x).run s.env) (hi.map fun x=>(vOf x).run s.env) (mx.map fun x=>(vOf x).run s.env) fun v=>K v s⟩
  | .typeAssert x _ t ok=>⟨fun s K=>zmO T t ok ((vOf x).run s.env) fun v=>K v s⟩
  | .makeFunc f a b=>⟨fun s K=>K (.fn f (a.toList.map fun x=>(vOf x).run s.env) (b.toList.map fun x=>(vOf x).run s.env)) s⟩
  | .alloc t=>⟨fun s K=>zeroCells T t s fun z s'=>zs4 s' (zrg T t z) fun i s'=>K (.ptr i 0) s'⟩
  | .buildSlice t len parts=>⟨fun s K=>zdV T t len (parts.toList.map fun q=>(q.1,(vOf q.2).run s.env)) s K⟩
  | .makeSlice t l c=>⟨fun s K=>zfv T t ((vOf l).run s.env) ((vOf c).run s.env) s K⟩
  | .lookup t x i ok=>⟨fun s K=>zcu T t ((vOf x).run s.env) ((vOf i).run s.env) ok s fun r=>K r s⟩
  | .mapUpdate t x i y=>⟨fun s K=>zuB T t ((vOf x).run s.env) ((vOf i).run s.env) ((vOf y).run s.env) s K⟩
  | .call c=>(match c.callee with
    | .builtin b=>(match b with
      | .append=>(match c.args.toList with
        | [x,y]=>(match c.argTypes.toList with
          | [t,t2]=>⟨fun s K=>yb T t ((vOf x).run s.env) s fun r s'=>zRn T t t2 r ((vOf y).run s.env) s' K⟩
          | _=>zao T lo.env o)
        | _=>zao T lo.env o)
      | _=>zao T lo.env o)
    | _=>zKN T lo m o c)
  | _=>zao T lo.env o
def zkp [BT] (P:Program) (o:Oper) (R:St→KV→Ans):Prop :=
  ∀⦃F:Fr⦄ ⦃C:Cx⦄ ⦃s:St⦄ ⦃a:Act⦄ ⦃stk:List (Array Value)⦄ ⦃K:KV⦄ ⦃res:AV×List Obj⦄,R s K=some res→zw F C s a.tmps stk →
    Zy P o a C.w fun u w' => ∃r s' C',K r s'=some res∧C'.w=w'∧zw F C' s' a.tmps stk∧VRel C' r u
theorem zf7 [BT] (hT:zJ P T) (hE:zd P E) {o:Oper} {R:St→KV→Ans} (h : ∀s K,R s K=opE T E jL o s K):zkp P o R:=by
  intro F C s a stk K res hR hS
  rw [h] at hR
  exact Z9 (fun u w' ⟨r,s',C',h1,h2,h3,h4,_⟩=>⟨r,s',C',h1,h2,h3,h4⟩) (zaW hT hE qB hS hR)
structure Zu [BT] (P:Program) (lo:Lo):Prop where
  env:zd P lo.env
  ca : ∀g cf,lo.ca g=some cf → ∃fn c,P.funcs[g]? = some fn∧fn.body=some c∧fn.name ≠ "runtime.NumGoroutine" ∧ cf.nt=fn.ntmps∧cf.res=fn.results.toList∧zy P fn.ntmps c cf.run
theorem zlX [BT] (hT:zJ P T) {lo:Lo} (hL:Zu P lo) {g:Nat} {cf:CF} (hcf:lo.ca g=some cf) {F:Fr} {C:Cx} {s:St} {a:Act} {stk:List (Array Value)} (hS:zw F C s a.tmps stk)
    {args:List AV} {us:Array Value} (hargs:VRels C args us.toList) {m:Nat} {K:KV} {res:AV×List Obj} (h:jg T m cf args s K=some res) :
    (∃w,(Go.callFunc g us).run P C.w = .ok (.enter g us) w∧w=C.w) ∧
    Calls P g us C.w fun
      | .returned v,w' => ∃r s' C',K r s'=some res∧C'.w=w'∧zw F C' s' a.tmps stk∧VRel C' r v
      | _,_=>False:=by
  obtain ⟨fn,c,hf,hb,hn,hnt,hres,hG⟩:=hL.ca g cf hcf
  unfold jg at h
  rw [Jr,zc0] at h
  obtain ⟨s1,hS,h⟩:=wA hS h
  obtain ⟨env0,stk0,H0,blk0⟩:=s1
  dsimp only at h
  rw [hres] at h
  refine ⟨⟨C.w,?_,rfl⟩,?_⟩
  · have hne:(fn.name == "runtime.NumGoroutine")=false:=by simpa using hn
    simp [Go.callFunc,hf,hb,hn]
  · obtain ⟨F1,hF1⟩ : ∃F1:Fr,F1={ F.re C with base:=C.w.heap.size }:=⟨_,rfl⟩
    have hF1C:zF F1 C:=by rw [hF1];exact ⟨rfl,rfl,rfl,Nat.le_refl _,fun _ _ _=>rfl,fun _ h=>h,fun _ h => .inl h,fun i b hl hb => .inl ⟨i,hl,hb⟩⟩
    have hback : ∀C',zF F1 C'→zF F C':=fun C' h=>(zbt hS.frame).frame C' (by rw [hF1] at h;exact ⟨h.os,h.tape,h.output,h.size,h.keep,h.r0,h.rN,h.own⟩)
    have hb1:F1.base=C.w.heap.size:=by rw [hF1]
    have hw1:F.w0.heap.size≤C.w.heap.size:=hS.frame.size
    have hS':zw F1 C { env:=ZD 0 args,stk:=env0::stk0,H:=H0,blk:=0 } (us++Array.replicate (fn.ntmps - us.size) undef) (a.tmps::stk) :=
      ⟨hS.H,hS.heap,jk hargs _,by rw [Zz];exact ⟨_,_,rfl,hS.env,hS.stk⟩,hF1C⟩
    refine (callsIn_wide (n:=0)).1 (callsIn_of_wp_marks hf hb trivial (wpIn_mono (hG (r:=none) (a:={ tmps:=us++Array.replicate (fn.ntmps - us.size) undef,defers:=[] }) h (y6.none _) hS' (by simp;omega) ⟨by rw [hF1];exact Nat.le_refl _,trivial⟩) ?_))
    rintro e a' w' ⟨F2,e',s',C',hle,rfl,hK,rfl,hS'',hsz,hd⟩
    have fin : ∀{stk' env'},s'.stk=env'::stk'→(Zn T s' fn.results.toList [] fun vs=>ZZ (yP vs) fun v=>K v ⟨env',stk',s'.H,blk0⟩)=some res →
        ∀W,Priv F2.base C' W → ∃v,(results fn a'.tmps).run P W = .ok v W ∧ ∃r s'' C'',K r s''=some res∧C''.w=W∧zw F C'' s'' a.tmps stk∧VRel C'' r v:=by
      intro stk' env' hst hr W hW
      have hSF:zw F C' s' a'.tmps (a.tmps::stk):=⟨hS''.H,hS''.heap,hS''.env,hS''.stk,hback _ (hle.frame _ hS''.frame)⟩
      have hSW:zw F (C'.at W) s' a'.tmps (a.tmps::stk):=Z8 hSF (by rw [hle.base,hb1];exact hw1) hW
      obtain ⟨rs,v,h1,h2,h3⟩:=YD hT hSW hr
      rw [yf] at h1
      have hstk:=hSW.stk
      rw [hst,Zz] at hstk
      obtain ⟨t',ts',he,henv,hstk⟩:=hstk
      cases he
      exact ⟨v,h2,_,_,C'.at W,h1,rfl,⟨hSW.H,hSW.heap,henv,hstk,hSW.frame⟩,h3⟩
    have same : ∀{stk' env'},s'.stk=env'::stk'→(zff T s' fn.results.toList fun vs=>fV (yP vs) fun v=>K v ⟨env',stk',s'.H,blk0⟩)=(Zn T s' fn.results.toList [] fun vs=>ZZ (yP vs) fun v=>K v ⟨env',stk',s'.H,blk0⟩):=by
      intro stk' env' _
      rw [zkD]
      simp only [j0,yf,List.nil_append]
    obtain ⟨env1,stk1,H1,blk1⟩:=s'
    cases e' with
    | norm =>
      simp only [zrO] at hK
      split at hK
      · rename_i env' stk'
        exact yl _ F2 C' hd.2 hS''.frame (fun W hW=>fin rfl ((same rfl).symm.trans hK) W hW)
      · cases hK
    | ret =>
      simp only [zrO] at hK
      split at hK
      · rename_i env' stk'
        exact yl _ F2 C' hd.2 hS''.frame (fun W hW=>fin rfl ((same rfl).symm.trans hK) W hW)
      · cases hK
    | exit i=>cases hK
    | goto l=>cases hK
theorem zeC (l:List Operand) (env:zQ):(l.map fun x=>(vOf x).run env)=l.map (opd env):=by
  congr 1
  funext x
  exact Ze x env
theorem zDD [BT] (hT:zJ P T) {lo:Lo} (hL:Zu P lo) (m:Nat) {o:Oper} {c:Call} (ho:o.op = .call c):zkp P o (zKN T lo m o c).run:=by
  have slow:zkp P o (zao T lo.env o).run:=zf7 hT hL.env fun _ _=>rfl
  have quick : ∀{g:Nat} {cf:CF} {args:List AV},lo.ca g=some cf → ∀{F:Fr} {C:Cx} {s:St} {a:Act} {stk:List (Array Value)} {K:KV} {res:AV×List Obj},zw F C s a.tmps stk→wu T s c=some (g,args)→jg T m cf args s K=some res →
      Zy P o a C.w fun u w' => ∃r s' C',K r s'=some res∧C'.w=w'∧zw F C' s' a.tmps stk∧VRel C' r u:=by
    intro g cf args hcf F C s a stk K res hS hfn hR
    obtain ⟨us,hus,hex⟩:=jG hT hS.env hfn
    obtain ⟨⟨w,hr,rfl⟩,hcall⟩:=zlX hT hL hcf hS hus hR
    unfold Zy
    rw [hex o ho,hr]
    refine hcall.mono ?_
    intro e w' hw'
    cases e with
    | returned v =>
      obtain ⟨r,s',C',g1,g2,g3,g4⟩:=hw'
      exact ⟨v,rfl,r,s',C',g1,g2,g3,g4⟩
    | panicked ch=>exact hw'.elim
    | outgrown=>exact hw'.elim
  unfold zKN
  split
  · rename_i f hcal
    split
    · rename_i g
      split
      · rename_i cf hcf
        intro F C s a stk K res hR hS
        refine quick hcf hS ?_ hR
        unfold wu
        rw [hcal]
        simp only [opd,zeC,List.nil_append,List.append_nil]
      · exact slow
    · rename_i hne
      intro F C s a stk K res hR hS
      dsimp only at hR
      rw [Ze] at hR
      split at hR
      · rename_i g first cap hf
        split at hR
        · rename_i cf hcf
          refine quick hcf hS ?_ hR
          unfold wu
          rw [hcal]
          simp only [hf,zeC]
        · exact Z9 (fun u w' ⟨r,s',C',h1,h2,h3,h4,_⟩=>⟨r,s',C',h1,h2,h3,h4⟩) (zaW hT hL.env qB hS hR)
      · cases hR
  · intro F C s a stk K res hR hS
    dsimp only at hR
    split at hR
    · rename_i ga hga
      obtain ⟨g,args⟩:=ga
      dsimp only at hR
      split at hR
      · rename_i cf hcf
        exact quick hcf hS hga hR
      · exact Z9 (fun u w' ⟨r,s',C',h1,h2,h3,h4,_⟩=>⟨r,s',C',h1,h2,h3,h4⟩) (zaW hT hL.env qB hS hR)
    · cases hR
  · exact slow
theorem zvT [BT] (hT:zJ P T) {lo:Lo} (hL:Zu P lo) (m:Nat) (o:Oper):zkp P o (opC T lo m o).run:=by
  have slow:zkp P o (zao T lo.env o).run:=zf7 hT hL.env fun _ _=>rfl
  have same : ∀{R:St→KV→Ans},(∀s K,R s K=opE T lo.env jL o s K)→zkp P o R:=fun h=>zf7 hT hL.env h
  unfold opC
  split
  · rename_i x ho
    refine same fun s K => ?_
    simp only [opE,ho,z8,Ze]
  · rename_i x ho
    split
    · rename_i v
      split
      · rename_i hn
        refine same fun s K => ?_
        simp only [opE,ho,Yn,opd]
        unfold yb
        rw [hn]
      · rename_i ty hn
        refine same fun s K => ?_
        simp only [opE,ho,Yn,opd]
        unfold yb
        rw [hn]
        exact zjM _ _ _
    · rename_i hne
      refine same fun s K => ?_
      cases x with
      | const v=>exact (hne v rfl).elim
      | _=>simp only [opE,ho,z8,Ze]
  · rename_i t x ho
    refine same fun s K => ?_
    simp only [opE,ho,z8,Ze,znI]
  · rename_i t x y ho
    cases hn:zbO T t with
    | true=>exact slow
    | false =>
      refine same fun s K => ?_
      simp only [opE,ho,z8,Yn,Ze,zv3,cond_false,zme hn]
  · rename_i t x f ho
    refine same fun s K => ?_
    simp only [opE,ho,z8,Ze,zgt]
  · rename_i x ho
    refine same fun s K => ?_
    simp only [opE,ho,z8,Ze]
    cases opd s.env x <;> rfl
  · rename_i op t x y t2 ho
    refine same fun s K => ?_
    simp only [opE,ho,z8,Ze,zEX]
  · rename_i t i ho
    refine same fun s K => ?_
    simp only [opE,ho,z8,Ze,extract,ze7]
    cases opd s.env t <;> rfl
  · rename_i c x y ho
    refine same fun s K => ?_
    simp only [opE,ho,z8,Ze]
    cases opd s.env c <;> try rfl
    rename_i b
    cases b <;> rfl
  · rename_i src dst x ho
    split
    · rename_i k hk
      refine same fun s K => ?_
      dsimp only
      rw [Ze]
      split
      · rename_i q n hx
        simp only [opE,ho,z8,hx,zyO,convert]
        unfold zOh at hk
        cases h1:Tab.get T src with
        | none=>rw [h1] at hk;cases hk
        | some si =>
          rw [h1] at hk
          dsimp only at hk
          cases h2:Tab.get T dst with
          | none=>rw [h2] at hk;cases hk
          | some di =>
            rw [h2] at hk
            dsimp only at hk
            simp only [za,hk]
      · rfl
    · exact slow
  · rename_i t x f ho
    refine same fun s K => ?_
    simp only [opE,ho,z8,Ze]
  · rename_i t x i ho
    refine same fun s K => ?_
    simp only [opE,ho,z8,Ze]
  · rename_i t x i ho
    refine same fun s K => ?_
    simp only [opE,ho,z8,Ze]
  · rename_i op t x ho
    refine same fun s K => ?_
    simp only [opE,ho,z8,Ze]
  · rename_i t x lo hi mx ho
    refine same fun s K => ?_
    simp only [opE,ho,z8,Ze,zOS]
  · rename_i x xt t ok ho
    refine same fun s K => ?_
    simp only [opE,ho,z8,Ze]
  · rename_i f a b ho
    refine same fun s K => ?_
    simp only [opE,ho,z8,zeC]
  · rename_i t ho
    refine same fun s K => ?_
    simp only [opE,ho,z8,Yn,zjM]
  · rename_i t len parts ho
    refine same fun s K => ?_
    simp only [opE,ho,z8,Yn,zr4,Ze]
  · rename_i t l c ho
    refine same fun s K => ?_
    simp only [opE,ho,z8,Yn,zwA,Ze]
  · rename_i t x i ok ho
    refine same fun s K => ?_
    simp only [opE,ho,z8,Yn,Ze]
  · rename_i t x i y ho
    refine same fun s K => ?_
    simp only [opE,ho,z8,Yn,zJt,Ze]
  · rename_i c ho
    split
    · rename_i b hb
      split
      · split
        · rename_i x y hxy
          split
          · rename_i t t2 htt
            refine same fun s K => ?_
            simp only [opE,ho,hb,hxy,htt,z8,Yn,zSQ,Ze]
          · exact slow
        · exact slow
      · exact slow
    · exact zDD hT hL m ho
  · exact slow
structure CW where
  run:St→(St→Ans)→(St→Ans)→Ans
noncomputable def zp7 (all:Array Oper) (nt:Nat) (o:Oper):CW :=
  match o.guard with
  | none=>⟨fun s run _=>run s⟩
  | some jw=>match zev all jw.1 with
    | none=>⟨fun _ _ _=>none⟩
    | some g=>cond (Nat.blt g nt)
      (cond jw.2
        ⟨fun s run skip=>match zd8 s.env g with
          | .bool b => @St.casesOn (fun _=>Ans) s fun env stk H blk => @Bool.rec (fun _=>Ans) (skip ⟨(g,.bool false)::env,stk,H,blk⟩) (run ⟨(g,.bool true)::env,stk,H,blk⟩) b
          | .tup _=>skip s
          | _=>none⟩
        ⟨fun s run skip=>match zd8 s.env g with
          | .bool b => @St.casesOn (fun _=>Ans) s fun env stk H blk => @Bool.rec (fun _=>Ans) (run ⟨(g,.bool false)::env,stk,H,blk⟩) (skip ⟨(g,.bool true)::env,stk,H,blk⟩) b
          | .tup _=>skip s
          | _=>none⟩)
      ⟨fun _ _ _=>none⟩
theorem znr (all:Array Oper) (nt:Nat) (o:Oper) (s:St) (run skip:St→Ans):(zp7 all nt o).run s run skip=qL all nt o s run skip:=by
  unfold zp7 qL
  cases o.guard with
  | none=>rfl
  | some jw =>
    obtain ⟨j,want⟩:=jw
    dsimp only
    cases zev all j with
    | none=>rfl
    | some g =>
      obtain ⟨env,stk,H,blk⟩:=s
      dsimp only [za]
      cases hb:Nat.blt g nt with
      | false =>
        simp only [cond_false]
        cases Zd env g <;> rfl
      | true =>
        cases want with
        | true =>
          simp only [cond_true,zag]
          cases Zd env g <;> try rfl
          rename_i b
          cases b <;> rfl
        | false =>
          simp only [cond_true,cond_false,zag]
          cases Zd env g <;> try rfl
          rename_i b
          cases b <;> rfl
structure CR where
  run:(St→Ans)→St→Ans
noncomputable def zfY [BT] (T:Tab) (lo:Lo) (out:Nat) (all:Array Oper) (nt:Nat):List Oper→CR
  | []=>⟨fun K s=>K s⟩
  | o::r=>match o.guard with
    | none=>⟨fun K s=>(opC T lo (J9 all r out) o).run s fun v s'=>zcs nt o.dst v s' ((zfY T lo out all nt r).run K)⟩
    | some _=>⟨fun K s=>(zp7 all nt o).run s (fun s=>(opC T lo (J9 all r out) o).run s fun v s'=>zcs nt o.dst v s' ((zfY T lo out all nt r).run K)) (fun s=>zcs nt o.dst (.tup []) s ((zfY T lo out all nt r).run K))⟩
theorem zSz [BT] (lo:Lo) (out:Nat) (all:Array Oper) (nt:Nat) (o:Oper) (r:List Oper) (K:St→Ans) (s:St) :
    (zfY T lo out all nt (o::r)).run K s=qL all nt o s (fun s=>(opC T lo (J9 all r out) o).run s fun v s'=>za6 nt o.dst v s' ((zfY T lo out all nt r).run K)) (fun s=>za6 nt o.dst (.tup []) s ((zfY T lo out all nt r).run K)):=by
  rw [zfY]
  split
  · rename_i h
    simp only [qL,h,jD]
  · simp only [jD,znr]
structure CQ where
  run:St→(AV→Ans)→Ans
noncomputable def zRs [BT] (T:Tab) (E:Env) (o:Oper):CQ :=
  match o.op with
  | .move x=>⟨fun s K=>K ((vOf x).run s.env)⟩
  | .assign x=>⟨fun s K=>K ((vOf x).run s.env)⟩
  | .load t a=>⟨fun s K=>(zrm T t).run s ((vOf a).run s.env) K⟩
  | .fieldAddr t x f=>⟨fun s K=>(zbD T t f).run ((vOf x).run s.env) K⟩
  | .nilCheck x=>⟨fun s K=>match (vOf x).run s.env with
    | .ptr i off=>K (.ptr i off)
    | .eptr i n off=>K (.eptr i n off)
    | .rptr t y off=>K (.rptr t y off)
    | _=>none⟩
  | .binOp op t x y _=>⟨fun s K=>(zH3 T op t (isConst x || isConst y)).run ((vOf x).run s.env) ((vOf y).run s.env) K⟩
  | .extract t i=>⟨fun s K=>match (vOf t).run s.env with
    | .tup vs=>za (zu9 vs i) K
    | _=>none⟩
  | .pick c a b=>⟨fun s K=>match (vOf c).run s.env with
    | .bool p => @Bool.rec (fun _=>Ans) (K ((vOf b).run s.env)) (K ((vOf a).run s.env)) p
    | _=>none⟩
  | _=>⟨fun s K=>opQ T E o s K⟩
theorem zSK [BT] (o:Oper) (s:St) (K:AV→Ans):(zRs T E o).run s K=opQ T E o s K:=by
  unfold zRs
  split
  · rename_i x ho;simp only [opQ,ho,z8,Ze]
  · rename_i x ho;simp only [opQ,ho,z8,Ze]
  · rename_i t x ho;simp only [opQ,ho,z8,Ze,znI]
  · rename_i t x f ho;simp only [opQ,ho,z8,Ze,zgt]
  · rename_i x ho
    simp only [opQ,ho,z8,Ze]
    cases opd s.env x <;> rfl
  · rename_i op t x y t2 ho;simp only [opQ,ho,z8,Ze,zEX]
  · rename_i t i ho
    simp only [opQ,ho,z8,Ze,extract,ze7]
    cases opd s.env t <;> rfl
  · rename_i c x y ho
    simp only [opQ,ho,z8,Ze]
    cases opd s.env c <;> try rfl
    rename_i b
    cases b <;> rfl
  · rfl
structure zWd where
  run:St→List (Nat×Option (List Nat))→List (Nat×Option (List Nat))
noncomputable def zQB [BT] (T:Tab) (j:Nat) (o:Oper):zWd :=
  match o.op with
  | .load _ x=>⟨fun s acc=>(j,some ((vOf x).run s.env).refs)::acc⟩
  | .call _=>⟨fun s acc=>zeU j (yr T s o) acc⟩
  | _=>⟨fun _ acc=>acc⟩
theorem zTq [BT] (j:Nat) (o:Oper) (s:St) (acc:List (Nat×Option (List Nat))):(zQB T j o).run s acc=zeU j (yr T s o) acc:=by
  unfold zQB
  split
  · rename_i t x ho
    simp only [yr,ho,zeU,Ze]
  · rfl
  · rename_i h1 h2
    have:yr T s o=none:=by
      unfold yr
      split
      · rename_i t x ho;exact (h1 t x ho).elim
      · rename_i c ho;exact (h2 c ho).elim
      · rfl
    rw [this];rfl
structure COL where
  run:List (Nat×Option (List Nat))→St→(Option (List Nat)→KV)→Ans
noncomputable def zoq [BT] (T:Tab) (E:Env) (o:Oper):COL:=⟨fun _ s K=>opL T E jL o s K⟩
noncomputable def zR7 [BT] (T:Tab) (lo:Lo) (m:Nat) (ms:List Nat) (i:Nat) (o:Oper) (c:Call):COL :=
  match c.callee with
  | .value f=>(match f with
    | .func g=>(match lo.ca g with
      | some cf=>⟨fun acc s K=>cond (zbe ms i none acc) (jg T m cf (c.args.toList.map fun x=>(vOf x).run s.env) s (K none)) (opL T lo.env jL o s K)⟩
      | none=>zoq T lo.env o)
    | f=>⟨fun acc s K=>match (vOf f).run s.env with
      | .fn (.func g) first cap=>(match lo.ca g with
        | some cf=>cond (zbe ms i none acc) (jg T m cf (first++(c.args.toList.map fun x=>(vOf x).run s.env)++cap) s (K none)) (opL T lo.env jL o s K)
        | none=>opL T lo.env jL o s K)
      | _=>none⟩)
  | _=>zoq T lo.env o
noncomputable def zQh [BT] (T:Tab) (lo:Lo) (m:Nat) (ms:List Nat) (i:Nat) (o:Oper):COL :=
  match o.op with
  | .store t a x=>cond (zbO T t) (zoq T lo.env o) ⟨fun _ s K=>(zqW T t).run s ((vOf a).run s.env) ((vOf x).run s.env) fun s'=>K (Zk s o) .unk s'⟩
  | .call c=>zR7 T lo m ms i o c
  | _=>zoq T lo.env o
def zNu [BT] (P:Program) (o:Oper) (R:List (Nat×Option (List Nat))→St→(Option (List Nat)→KV)→Ans):Prop :=
  ∀⦃acc:List (Nat×Option (List Nat))⦄ ⦃F:Fr⦄ ⦃C:Cx⦄ ⦃s:St⦄ ⦃a:Act⦄ ⦃stk:List (Array Value)⦄ ⦃K:Option (List Nat)→KV⦄ ⦃res:AV×List Obj⦄,R acc s K=some res→zw F C s a.tmps stk →
    Zy P o a C.w fun u w' => ∃foot r s' C',K foot r s'=some res∧C'.w=w'∧zw F C' s' a.tmps stk∧VRel C' r u∧Zb C C' foot
theorem zKx [BT] (hT:zJ P T) {lo:Lo} (hL:Zu P lo) (m:Nat) (ms:List Nat) (i:Nat) (o:Oper):zNu P o (zQh T lo m ms i o).run:=by
  have slow:zNu P o (zoq T lo.env o).run:=fun acc F C s a stk K res h hS=>jo hT hL.env qB hS h
  unfold zQh
  split
  · rename_i t x y ho
    cases hn:zbO T t with
    | true=>exact slow
    | false =>
      intro acc F C s a stk K res h hS
      refine jo hT hL.env qB hS (o:=o) ?_
      rw [← h]
      simp only [opL,ho,opE,z8,Yn,Ze,zv3,cond_false,zme hn]
  · rename_i c ho
    have quick : ∀{g:Nat} {cf:CF} {args:List AV},lo.ca g=some cf → ∀{F:Fr} {C:Cx} {s:St} {a:Act} {stk:List (Array Value)} {K:Option (List Nat)→KV} {res:AV×List Obj},zw F C s a.tmps stk→wu T s c=some (g,args)→jg T m cf args s (K none)=some res →
        Zy P o a C.w fun u w' => ∃foot r s' C',K foot r s'=some res∧C'.w=w'∧zw F C' s' a.tmps stk∧VRel C' r u∧Zb C C' foot:=by
      intro g cf args hcf F C s a stk K res hS hfn hR
      obtain ⟨us,hus,hex⟩:=jG hT hS.env hfn
      obtain ⟨⟨w,hr,rfl⟩,hcall⟩:=zlX hT hL hcf hS hus hR
      unfold Zy
      rw [hex o ho,hr]
      refine hcall.mono ?_
      intro e w' hw'
      cases e with
      | returned v =>
        obtain ⟨r,s',C',g1,g2,g3,g4⟩:=hw'
        exact ⟨v,rfl,none,r,s',C',g1,g2,g3,g4,trivial⟩
      | panicked ch=>exact hw'.elim
      | outgrown=>exact hw'.elim
    unfold zR7
    split
    · rename_i f hcal
      split
      · rename_i g
        split
        · rename_i cf hcf
          intro acc F C s a stk K res hR hS
          dsimp only at hR
          cases hacc:zbe ms i none acc with
          | true =>
            rw [hacc,cond_true] at hR
            refine quick hcf hS ?_ hR
            unfold wu
            rw [hcal]
            simp only [opd,zeC,List.nil_append,List.append_nil]
          | false =>
            rw [hacc,cond_false] at hR
            exact jo hT hL.env qB hS hR
        · exact slow
      · intro acc F C s a stk K res hR hS
        dsimp only at hR
        rw [Ze] at hR
        split at hR
        · rename_i g first cap hf
          split at hR
          · rename_i cf hcf
            cases hacc:zbe ms i none acc with
            | true =>
              rw [hacc,cond_true] at hR
              refine quick hcf hS ?_ hR
              unfold wu
              rw [hcal]
              simp only [hf,zeC]
            | false =>
              rw [hacc,cond_false] at hR
              exact jo hT hL.env qB hS hR
          · exact jo hT hL.env qB hS hR
        · cases hR
    · exact slow
  · exact slow
structure CY where
  run:(St→Ans)→List (Nat×Option (List Nat))→St→Ans
noncomputable def zJ5 (g:Nat→CY):List Nat→CY
  | []=>⟨fun _ _ _=>none⟩
  | i::r=>match r with
    | []=>g i
    | _::_=>⟨fun K acc s=>zG7 ((g i).run K acc s) ((zJ5 g r).run K acc s)⟩
theorem zFM {g:Nat→CY} {K:St→Ans} {acc:List (Nat×Option (List Nat))} {s:St} {res:AV×List Obj} : ∀{l:List Nat},(zJ5 g l).run K acc s=some res → ∀i ∈ l,(g i).run K acc s=some res
  | [],_,i,hi=>by cases hi
  | [j],h,i,hi=>by
    obtain rfl:=List.mem_singleton.1 hi
    exact h
  | j::k::r,h,i,hi=>by
    rw [zJ5] at h
    obtain ⟨h1,h2⟩:=zQT h
    rcases List.mem_cons.1 hi with rfl | hi
    · exact h1
    · exact zFM h2 i hi
noncomputable def yC [BT] (T:Tab) (lo:Lo) (m:Nat) (all:Array Oper) (q:Nat→Bool) (ms:List Nat) (nt:Nat):Nat→Array Bool→CY
  | 0,listed=>match Region.ready .any all listed with
    | []=>⟨fun K _ s=>K s⟩
    | _::_=>⟨fun _ _ _=>none⟩
  | f+1,listed=>match Region.ready .any all listed with
    | []=>⟨fun K _ s=>K s⟩
    | i::r=>match zhv q (i::r) with
      | some j=>cond (Region.free .any all listed j) (match all[j]? with
        | some o=>⟨fun K acc s=>(zp7 all nt o).run s
            (fun s=>(zRs T lo.env o).run s fun v=>zcs nt o.dst v s ((yC T lo m all q ms nt f (listed.setIfInBounds j true)).run K ((zQB T j o).run s acc)))
            (fun s=>zcs nt o.dst (.tup []) s ((yC T lo m all q ms nt f (listed.setIfInBounds j true)).run K acc))⟩
        | none=>⟨fun _ _ _=>none⟩) ⟨fun _ _ _=>none⟩
      | none=>zJ5 (fun i=>match all[i]? with
          | some o=>⟨fun K acc s=>(zp7 all nt o).run s
              (fun s=>(zQh T lo m ms i o).run acc s fun foot v s'=>cond (zbe ms i foot acc) (zcs nt o.dst v s' ((yC T lo m all q ms nt f (listed.setIfInBounds i true)).run K (zbI foot acc))) none)
              (fun s=>zcs nt o.dst (.tup []) s ((yC T lo m all q ms nt f (listed.setIfInBounds i true)).run K acc))⟩
          | none=>⟨fun _ _ _=>none⟩) (i::r)
theorem jn [BT] (hT:zJ P T) {lo:Lo} (hL:Zu P lo) (m:Nat) {F:Fr} {stk:List (Array Value)} {all:Array Oper} {nt:Nat} {K:St→Ans} {res:AV×List Obj} {Q:Act→World→Prop} {ds:List Deferred}
    {q:Nat→Bool} (hsel:Region.noSelect all=true)
    (hQ : ∀s C a,K s=some res→zw F C s a.tmps stk→nt≤a.tmps.size→a.defers=ds→Q a C.w) :
    ∀(f:Nat) (listed:Array Bool) (acc:List (Nat×Option (List Nat))) (es:List Ent) {s:St} {C:Cx} {a:Act},jt .any all listed→ZX C acc es →
      (yC T lo m all q (Yw all all.size) nt f listed).run K acc s=some res→zw F C s a.tmps stk→nt≤a.tmps.size→a.defers=ds →
      Yp P .any all (zea (Yw all all.size)) Q es f listed a C.w
  | 0,listed,acc,es,s,C,a,hcl,hes,h,hS,hsz,hd=>by
    rw [yC] at h
    split at h
    · rename_i hr
      intro w' hq
      exact ⟨hr,hQ s (C.at w') a h (Yt hS hq) hsz hd⟩
    · cases h
  | f+1,listed,acc,es,s,C,a,hcl,hes,h,hS,hsz,hd=>by
    rw [yC] at h
    split at h
    · rename_i hr
      intro w' hq
      refine ⟨fun _=>hQ s (C.at w') a h (Yt hS hq) hsz hd,fun i hi => ?_⟩
      rw [hr] at hi
      cases hi
    · rename_i i0 r0 hr
      split at h
      · rename_i j hj
        cases hfree:Region.free .any all listed j with
        | false=>rw [hfree] at h;cases h
        | true =>
        rw [hfree,cond_true] at h
        have hjr:j ∈ Region.ready .any all listed:=by rw [hr];exact zfm hj
        obtain ⟨_,o,ho,_⟩:=mem_ready.1 hjr
        rw [ho] at h
        dsimp only at h
        rw [znr] at h
        obtain ⟨s',hS',h⟩:=YE hS hsz h
        rcases h with ⟨hw,h⟩ | ⟨hw,h⟩
        · rw [zSK] at h
          simp only [jD,zTq] at h
          obtain ⟨r',v,hK,hv,hsees⟩:=zB9 hT hL.env hS' h
          obtain ⟨s3,h3,hS3,hsz3,hd3⟩:=ZP hS' hsz hv hK
          cases hrd:yr T s' o with
          | none =>
            have:=jn hT hL m hsel hQ f _ acc es (hcl.set hjr) hes (by rw [hrd] at h3;exact h3) hS3 hsz3 (hd3.trans hd)
            refine wL (zbN all) (B:=fun _=>False) (w0:=C.w) ho (Region.noSelect_spec hsel) f listed a C.w hcl (Region.free_spec ho hfree) hjr (.inl ⟨hw,fun W _=>hsees W (fun l hl=>by rw [hrd] at hl;cases hl)⟩) (fun b hb=>hb.elim) ?_
            exact more_ents this
          | some rd =>
          let B:Nat→Prop:=fun b=>C.R b ∨ ∃i ∈ rd,zt C.H i∧C.ρ i=some b
          have hB:QD B C.w C.w:=by
            rintro b (hb | ⟨i,_,hl,hb⟩)
            · exact ⟨hS.heap.rlt b hb,rfl⟩
            · exact ⟨hS.heap.blk_lt hl hb,rfl⟩
          refine wL (zbN all) (B:=B) (w0:=C.w) ho (Region.noSelect_spec hsel) f listed a C.w hcl (Region.free_spec ho hfree) hjr (.inl ⟨hw,fun W hW=>hsees W (fun l hl b hb=>by
            rw [hrd] at hl
            cases hl
            exact (hW b hb).2)⟩) hB ?_
          refine jn hT hL m hsel hQ f _ _ _ (hcl.set hjr) ?_ (by rw [hrd] at h3;exact h3) hS3 hsz3 (hd3.trans hd)
          unfold zeU
          rw [ZX]
          refine ⟨_,es,rfl,rfl,⟨fun l hl => ?_⟩,hes⟩
          cases hl
          refine ⟨hB,?_⟩
          rintro b (hb | ⟨k,hk,hlk,hbk⟩) i hl hbi
          · exact absurd hb (hS.heap.ro i b hl hbi)
          · rw [hS.heap.inj i k b hl hlk hbi hbk];exact hk
        · rw [jD] at h
          obtain ⟨s3,h3,hS3,hsz3,hd3⟩:=ZP (v := .tup []) (u:=undef) hS' hsz (by rw [VRel];exact ⟨#[],rfl,by rw [VRels]⟩) h
          have:=jn hT hL m hsel hQ f _ acc es (hcl.set hjr) hes h3 hS3 hsz3 (hd3.trans hd)
          refine wL (zbN all) (B:=fun _=>False) (w0:=C.w) ho (Region.noSelect_spec hsel) f listed a C.w hcl (Region.free_spec ho hfree) hjr (.inr ⟨hw,rfl⟩) (fun b hb=>hb.elim) ?_
          exact more_ents this
      · intro w' hq
        refine ⟨fun h0=>(by rw [hr] at h0;cases h0),fun i hi => ?_⟩
        replace h:=zFM h i (by rw [← hr];exact hi)
        obtain ⟨_,o,ho,_⟩:=mem_ready.1 hi
        have hSw:=Yt hS hq
        have hesw:=hes.later hq
        generalize hC:C.at w'=C2 at hSw hesw
        have hw:w'=C2.w:=by rw [← hC];rfl
        clear hC hS hes hq
        subst hw
        rename_i C0 _
        clear C0
        obtain ⟨C,hC⟩ : ∃C,C=C2:=⟨_,rfl⟩
        subst hC
        rw [ho] at h
        dsimp only at h
        rw [znr] at h
        obtain ⟨s',hS',h⟩:=YE hSw hsz h
        unfold clOp
        simp only [ho]
        rcases h with ⟨hw,h⟩ | ⟨hw,h⟩
        · rw [if_pos hw]
          refine Z9 ?_ (zKx hT hL m (Yw all all.size) i o h hS')
          rintro u w'' ⟨foot,r',s'',C',hK,rfl,hS'',hv,hf⟩
          replace hK:=zC hK;obtain ⟨hacc,hK⟩:=hK
          rw [jD] at hK
          obtain ⟨s3,h3,hS3,hsz3,hd3⟩:=ZP hS'' hsz hv hK
          obtain ⟨g1,g2⟩:=ZX.foot hf hesw hacc
          exact ⟨g2,jn hT hL m hsel hQ f _ _ _ (hcl.set hi) g1 h3 hS3 hsz3 (hd3.trans hd)⟩
        · rw [if_neg (by rw [hw];decide)]
          rw [jD] at h
          obtain ⟨s3,h3,hS3,hsz3,hd3⟩:=ZP (v := .tup []) (u:=undef) hS' hsz (by rw [VRel];exact ⟨#[],rfl,by rw [VRels]⟩) h
          exact ⟨fun e _ _ hke=>hke,jn hT hL m hsel hQ f _ acc es (hcl.set hi) hesw h3 hS3 hsz3 (hd3.trans hd)⟩
where
  more_ents {f:Nat} {listed:Array Bool} {a:Act} {w:World} {es:List Ent} {an:Nat→Nat→Bool} {k:Nat} {w0:World} {all:Array Oper} {Q:Act→World→Prop} (h:Yp P .any all an Q es f listed a w) :
      Yp P .any all an Q (⟨k,fun _=>False,w0⟩::es) f listed a w:=by
    induction f generalizing listed a w with
    | zero=>exact h
    | succ f ih =>
      intro w' hq
      refine ⟨(h w' hq).1,fun i hi=>zaN (fun a' w'' hk=>⟨fun e he => ?_,ih hk.2⟩) ((h w' hq).2 i hi)⟩
      rcases List.mem_cons.1 he with rfl | he
      · exact fun _ _ b hb=>hb.elim
      · exact hk.1 e he
theorem zbl [BT] (hT:zJ P T) {lo:Lo} (hL:Zu P lo) (out:Nat) {F:Fr} {stk:List (Array Value)} {all:Array Oper} {nt:Nat} {K:St→Ans} {res:AV×List Obj} {Q:Exit→Act→World→Prop} {ds:List Deferred} {rn:Option Nat}
    (hQ : ∀s C a,K s=some res→zw F C s a.tmps stk→nt≤a.tmps.size→a.defers=ds→Q .normal a C.w) :
    ∀(l:List Oper) (n:Nat),all.toList.drop n=l → ∀{s:St} {C:Cx} {a:Act},(zfY T lo out all nt l).run K s=some res→zw F C s a.tmps stk→nt≤a.tmps.size→a.defers=ds →
      wpOpsIn (WF rn) 0 P all Q (List.range' n l.length) a C.w
  | [],n,hl,s,C,a,h,hS,hsz,hd=>hQ s C a h hS hsz hd
  | o::r,n,hl,s,C,a,h,hS,hsz,hd=>by
    rw [zSz] at h
    have hlr:all.toList.drop (n+1)=r:=by rw [← List.tail_drop,hl];rfl
    have ho:all[n]? = some o:=by
      have:(all.toList.drop n)[0]? = some o:=by rw [hl];rfl
      simpa using this
    rw [List.length_cons,List.range'_succ,wpOpsIn,ho]
    dsimp only
    obtain ⟨s',hS',h⟩:=YE hS hsz h
    rcases h with ⟨hw,h⟩ | ⟨hw,h⟩
    · rw [if_pos hw]
      refine ja (Z9 ?_ (zvT hT hL _ o h hS'))
      rintro u w' ⟨r',s'',C',hK,rfl,hS'',hv⟩
      obtain ⟨s3,h3,hS3,hsz3,hd3⟩:=ZP hS'' hsz hv hK
      exact zbl hT hL out hQ r (n+1) hlr h3 hS3 hsz3 (hd3.trans hd)
    · rw [if_neg (by rw [hw];decide)]
      refine ⟨fun f _=>zbq rn f,?_⟩
      obtain ⟨s3,h3,hS3,hsz3,hd3⟩:=ZP (v := .tup []) (u:=undef) hS' hsz (by rw [VRel];exact ⟨#[],rfl,by rw [VRels]⟩) h
      exact zbl hT hL out hQ r (n+1) hlr h3 hS3 hsz3 (hd3.trans hd)
noncomputable def zKf (env:zQ) (keep:List Nat):(zQ→Ans)→Ans := @List.rec Nat (fun _=>(zQ→Ans)→Ans) (fun K=>K []) (fun d _ ih K=>fV (zd8 env d) fun v=>ih fun r=>K ((d,v)::r)) keep
theorem zQ2 (env:zQ) (keep:List Nat) : ∀K:zQ→Ans,zKf env keep K=K (Yy env keep):=by
  induction keep with
  | nil=>intro K;rfl
  | cons d r ih =>
    intro K
    show fV (zd8 env d) _=_
    rw [j0,zag]
    exact ih _
noncomputable def zqg (keep:List Nat) (s:St) (K:St→Ans):Ans :=
  @St.casesOn (fun _=>Ans) s fun env stk H blk=>zKf env keep fun env=>fL (JN (yJ env++y8 stk) H.length H) fun H=>K ⟨env,stk,H,blk⟩
theorem zmW (keep:List Nat) (s:St) (K:St→Ans):zqg keep s K=K (s.head keep):=by
  obtain ⟨env,stk,H,blk⟩:=s
  show zKf env keep _=_
  rw [zQ2,zc0]
  rfl
noncomputable def zrc (keep:List Nat) (run:(Ex→St→Ans)→St→Ans) (K:Ex→St→Ans):Nat→St→Ans :=
  @Nat.rec (fun _=>St→Ans) (fun _=>none) (fun _ ih s=>zqg keep s fun s=>run (fun e s'=>match e with
    | .norm=>ih s'
    | e=>K e s') s)
structure CC where
  run:(Ex→St→Ans)→St→Ans
noncomputable def zAg (G:St→Ans) (K:Ex→St→Ans) (e:Ex) (s:St):Ans :=
  match e with
  | .norm=>G s
  | e=>K e s
noncomputable def zm9 (id:Nat) (K:Ex→St→Ans) (e:Ex) (s:St):Ans :=
  match e with
  | .exit i => @Bool.rec (fun _=>Ans) (K (.exit i) s) (K .norm s) (Nat.beq i id)
  | e=>K e s
noncomputable def ZW [BT] (T:Tab) (lo:Lo) (h:List (Nat×List Nat)) (nt rs:Nat):List (Nat×Nat)→Nat→Nat→Code→CC
  | _,_,_,.skip=>⟨fun K s=>K .norm s⟩
  | _,out,_,.region _ ops draw=>cond draw
      (cond (Region.noSelect ops)
        ⟨fun K s=>(yC T lo (Nat.lor out (zvj ops ops.toList)) ops (zEA T lo.env ops) (Yw ops ops.size) nt ops.size (Array.replicate ops.size false)).run (fun s=>K .norm s) [] s⟩ ⟨fun _ _=>none⟩)
      ⟨fun K s=>(zfY T lo out ops nt ops.toList).run (fun s=>K .norm s) s⟩
  | ex,out,b,.seq x y=>⟨fun K s=>(ZW T lo h nt rs ex (wi nt rs ex y out) b x).run (zAg (fun s=>We (wi nt rs ex y out) s fun s=>(ZW T lo h nt rs ex out b y).run K s) K) s⟩
  | ex,out,b,.cond c x y=>⟨fun K s=>match (vOf c).run s.env with
      | .bool p => @Bool.rec (fun _=>Ans) ((ZW T lo h nt rs ex out b y).run K s) ((ZW T lo h nt rs ex out b x).run K s) p
      | _=>none⟩
  | ex,out,_,.block id c=>⟨fun K s=>(ZW T lo h nt rs ((id,out)::ex) out id c).run (zm9 id K) s⟩
  | ex,_,b,.loop c=>⟨fun K s=>zrc (yA b h) (ZW T lo h nt rs ex (wi nt rs ex c 0) b c).run K J7 s⟩
  | _,_,_,.exit id=>⟨fun K s=>K (.exit id) s⟩
  | _,_,_,.ret=>⟨fun K s=>K .ret s⟩
  | _,_,_,.label _=>⟨fun K s=>K .norm s⟩
  | _,_,b,.rangeFunc g ps asn c=>⟨fun K s=>zqg (yA b h) s fun s=>zyQ s.H fun k0=>zeS lo.env nt k0 (yA b h) g (fun K s =>
      zA T lo.env (zeJ h) (zD T lo.env (zeJ h) 0 1) J7 nt (.rnd (.block (WU T lo.env h nt k0 b c))) (.rangeFunc g ps asn c) (zH k0 (fun _=>yA b h) K) s) K s⟩
  | _,_,_,_=>⟨fun _ _=>none⟩
theorem zmj [BT] {nt:Nat} {c:Code} {G:(Ex→St→Ans)→St→Ans} (hG:zy P nt c G) (keep:List Nat) {r:Option Nat} {stk:List (Array Value)} {res:AV×List Obj} {K:Ex→St→Ans} :
    ∀(n:Nat) {F:Fr} {s:St} {C:Cx} {a:Act},zrc keep G K n s=some res→y6 r F→zw F C s a.tmps stk→nt≤a.tmps.size→Ym F a.defers→wE r P c (yx F K stk nt res) a C.w
  | 0,F,s,C,a,h,hro,hS,hsz,hd=>by cases h
  | n+1,F,s,C,a,h,hro,hS,hsz,hd=>by
    replace h:zqg keep s (fun s=>G (fun e s'=>match e with
      | .norm=>zrc keep G K n s'
      | e=>K e s') s)=some res:=h
    rw [zmW] at h
    obtain ⟨C',hw,hS'⟩:=YU hS keep
    rw [← hw]
    refine zcR (wpIn_mono (hG h hro hS' hsz hd) ?_)
    rintro e a' w' ⟨F',e',s',C'',hle,rfl,hK,rfl,hS'',hsz',hd'⟩
    cases e' with
    | norm=>exact wE.mono (zmj hG keep n hK (hro.le hle) hS'' hsz' hd') (fun _ _ _ h=>yx.of_le hle h)
    | exit i=>exact ⟨F',.exit i,s',C'',hle,rfl,hK,rfl,hS'',hsz',hd'⟩
    | ret=>exact ⟨F',.ret,s',C'',hle,rfl,hK,rfl,hS'',hsz',hd'⟩
    | goto l=>exact ⟨F',.goto l,s',C'',hle,rfl,hK,rfl,hS'',hsz',hd'⟩
theorem zlU [BT] (hm:P.follows .mixedOrders=true) (hT:zJ P T) {lo:Lo} (hL:Zu P lo) (h:List (Nat×List Nat)) (nt rs:Nat) : ∀(c:Code) (ex:List (Nat×Nat)) (out b:Nat),zy P nt c (ZW T lo h nt rs ex out b c).run:=by
  intro c
  induction c with
  | skip =>
    intro ex out b r F K s C a stk res hG hro hS hsz hd
    exact wpIn_skip ⟨F,.norm,s,C,FLe.refl F,rfl,hG,rfl,hS,hsz,hd⟩
  | region id ops draw =>
    intro ex out b r F K s C a stk res hG hro hS hsz hd
    rw [ZW] at hG
    cases draw with
    | false =>
      refine wpIn_region ?_
      have:=zbl hT hL _ (Q:=yx F K stk nt res) (all:=ops) (ds:=a.defers) (rn:=r) (fun s C a' hK hS hsz hd'=>⟨F,.norm,s,C,FLe.refl F,rfl,hK,rfl,hS,hsz,by rw [hd'];exact hd⟩) ops.toList 0 (by simp) hG hS hsz rfl
      rw [List.range_eq_range']
      simpa using this
    | true =>
      simp only [cond_true] at hG
      have hW:Below C.w.heap.size C.w { C.w with drawn:=C.w.drawn+1 }:=⟨rfl,rfl,rfl,Nat.le_refl _,fun _ _=>rfl⟩
      have hS1:=Yt hS hW
      cases hsel:Region.noSelect ops with
      | false=>rw [hsel] at hG;cases hG
      | true =>
      rw [hsel] at hG
      refine wpIn_region_any hm ?_
      refine j5 (ents:=[]) (an:=zea (Yw ops ops.size)) (Q:=fun a' w'=>yx F K stk nt res .normal a' w') (fun a' w' h=>h) _ _ _ _ ?_
      refine jn hT hL _ hsel (ds:=a.defers) (fun s C a' hK hS hsz hd' => ?_) ops.size _ [] [] ?_ (by rw [ZX]) hG hS1 hsz rfl
      · exact ⟨F,.norm,s,C,FLe.refl F,rfl,hK,rfl,hS,hsz,by rw [hd'];exact hd⟩
      intro j oj _ hl
      rw [getD_replicate_false] at hl
      cases hl
  | seq p q ihx ihy =>
    intro ex out b r F K s C a stk res hG hro hS hsz hd
    rw [ZW] at hG
    refine wpIn_seq (wpIn_mono (ihx _ _ _ hG hro hS hsz hd) ?_)
    rintro e a' w' ⟨F',e',s',C',hle,rfl,hK,rfl,hS',hsz',hd'⟩
    cases e' with
    | norm =>
      obtain ⟨s2,hS2,hK⟩:=wA hS' (show We _ s' _=some res from hK)
      exact wpIn_mono (ihy _ _ _ hK (hro.le hle) hS2 hsz' hd') fun _ _ _ h=>h.of_le hle
    | exit i=>exact ⟨F',.exit i,s',C',hle,rfl,hK,rfl,hS',hsz',hd'⟩
    | ret=>exact ⟨F',.ret,s',C',hle,rfl,hK,rfl,hS',hsz',hd'⟩
    | goto l=>exact ⟨F',.goto l,s',C',hle,rfl,hK,rfl,hS',hsz',hd'⟩
  | cond c p q ihx ihy =>
    intro ex out b r F K s C a stk res hG hro hS hsz hd
    rw [ZW] at hG
    dsimp only at hG
    rw [Ze] at hG
    split at hG
    · rename_i p hp
      have hv:=zN (C:=C) hS.env c
      rw [hp,VRel] at hv
      refine wpIn_cond hv ?_
      cases p with
      | true=>exact ihx _ _ _ hG hro hS hsz hd
      | false=>exact ihy _ _ _ hG hro hS hsz hd
    · cases hG
  | block id c ih =>
    intro ex out b r F K s C a stk res hG hro hS hsz hd
    rw [ZW] at hG
    refine wpIn_block (wpIn_mono (ih _ _ id hG hro hS hsz hd) ?_)
    rintro e a' w' ⟨F',e',s',C',hle,rfl,hK,rfl,hS',hsz',hd'⟩
    cases e' with
    | norm=>exact ⟨F',.norm,s',C',hle,rfl,hK,rfl,hS',hsz',hd'⟩
    | exit i =>
      simp only [zm9] at hK
      show if i=id then _ else _
      by_cases hi:i=id
      · subst hi
        rw [if_pos rfl]
        rw [Nat.beq_refl] at hK
        exact ⟨F',.norm,s',C',hle,rfl,hK,rfl,hS',hsz',hd'⟩
      · rw [if_neg hi]
        rw [zeE hi] at hK
        exact ⟨F',.exit i,s',C',hle,rfl,hK,rfl,hS',hsz',hd'⟩
    | ret=>exact ⟨F',.ret,s',C',hle,rfl,hK,rfl,hS',hsz',hd'⟩
    | goto l=>exact ⟨F',.goto l,s',C',hle,rfl,hK,rfl,hS',hsz',hd'⟩
  | loop c ih =>
    intro ex out b r F K s C a stk res hG hro hS hsz hd
    rw [ZW] at hG
    exact qm (zmj (G:=(ZW T lo h nt rs ex (wi nt rs ex c 0) b c).run) (ih _ _ b) (yA b h) J7 hG hro hS hsz hd)
  | exit id =>
    intro ex out b r F K s C a stk res hG hro hS hsz hd
    exact wpIn_exit ⟨F,.exit id,s,C,FLe.refl F,rfl,hG,rfl,hS,hsz,hd⟩
  | ret =>
    intro ex out b r F K s C a stk res hG hro hS hsz hd
    exact wpIn_ret ⟨F,.ret,s,C,FLe.refl F,rfl,hG,rfl,hS,hsz,hd⟩
  | label l =>
    intro ex out b r F K s C a stk res hG hro hS hsz hd
    exact wpIn_label ⟨F,.norm,s,C,FLe.refl F,rfl,hG,rfl,hS,hsz,hd⟩
  | rangeFunc g ps asn c iha ihc =>
    intro ex out b r F K s C a stk res hG hro hS hsz hd
    rw [ZW] at hG
    dsimp only at hG
    rw [zmW,zu1] at hG
    obtain ⟨C',hw,hS'⟩:=YU hS (yA b h)
    rw [← hw]
    exact zdA (hint:=zeJ h) (d:=0) (m:=1) hm hT hL.env (s.head (yA b h)).H.length (fun _=>yA b h) (yA b h) (x := .block (WU T lo.env h nt (s.head (yA b h)).H.length b c)) (zSD hm hT hL.env h nt _ c b).1 (fun K s res e=>⟨J7,e⟩) hG hro hS' hsz hd
  | _=>intro ex out b r F K s C a stk res hG hro hS hsz hd;cases hG
noncomputable def zWe [BT] (T:Tab) (lo:Lo) (i:ZH) (f:Func):CF:=⟨f.ntmps,f.results.toList,(ZW T lo i.hints f.ntmps (zcb f.results.toList) [] (zcb f.results.toList) 0 (f.body.getD .skip)).run⟩
noncomputable def YB [BT] (T:Tab) (lo:Lo) (i:ZH) (f:Func) (l:List AV) (H:List Obj) (K:AV→List Obj→Ans):Ans :=
  (ZW T lo i.hints f.ntmps (zcb f.results.toList) [] (zcb f.results.toList) 0 (f.body.getD .skip)).run (zy9 T H f.results.toList K) { env:=ZD 0 l,stk:=[Z4 0 H],H:=H,blk:=0 }
noncomputable def zpM [BT] (T:Tab) (lo:Lo) (i:ZH) (f:Func) (l:List AV) (K:AV→Ans):Ans :=
  match YB T lo i f l [] (fun v _=>some (v,[])) with
  | some (r,H)=>cond (zal H&&r.closed1) (fV r K) none
  | none=>none
theorem zPV [BT] (hT:zJ P T) {g:Nat} {fn:Func} {c:Code} (hf:P.funcs[g]? = some fn) (hb:fn.body=some c) {G:(Ex→St→Ans)→St→Ans} (hG:zy P fn.ntmps c G) {F:Fr} {C:Cx} (hh:zY C) (hF:zF F C) {args:List AV} {us:Array Value} (hargs:VRels C args us.toList)
    {K:AV→List Obj→Ans} {res:AV×List Obj} (h:G (zy9 T C.H fn.results.toList K) { env:=ZD 0 args,stk:=[Z4 0 C.H],H:=C.H,blk:=0 }=some res) :
    Calls P g us C.w fun
      | .returned v,w' => ∃r C',K r C'.H=some res∧C'.w=w'∧zY C'∧zF F C'∧VRel C' r v∧(∀j b,(zn C.H j).isBlk=true→C.ρ j=some b→C'.ρ j=some b∧zt C'.H j)
      | _,_=>False:=by
  obtain ⟨F1,hF1⟩ : ∃F1:Fr,F1={ F.re C with base:=C.w.heap.size }:=⟨_,rfl⟩
  have hF1C:zF F1 C:=by rw [hF1];exact ⟨rfl,rfl,rfl,Nat.le_refl _,fun _ _ _=>rfl,fun _ h=>h,fun _ h => .inl h,fun i b hl hb => .inl ⟨i,hl,hb⟩⟩
  have hback : ∀C',zF F1 C'→zF F C':=fun C' h=>(zbt hF).frame C' (by rw [hF1] at h;exact ⟨h.os,h.tape,h.output,h.size,h.keep,h.r0,h.rN,h.own⟩)
  have hb1:F1.base=C.w.heap.size:=by rw [hF1]
  have hw1:F.w0.heap.size≤C.w.heap.size:=hF.size
  have hS:zw F1 C { env:=ZD 0 args,stk:=[Z4 0 C.H],H:=C.H,blk:=0 } (us++Array.replicate (fn.ntmps - us.size) undef) [Yu C] :=
    ⟨rfl,hh,jk hargs _,by rw [Zz];exact ⟨_,[],rfl,zi7 hh,by rw [Zz]⟩,hF1C⟩
  refine (callsIn_wide (n:=0)).1 (callsIn_of_wp_marks hf hb trivial (wpIn_mono (hG (r:=none) (a:={ tmps:=us++Array.replicate (fn.ntmps - us.size) undef,defers:=[] }) h (y6.none _) hS (by simp;omega) ⟨by rw [hF1];exact Nat.le_refl _,trivial⟩) ?_))
  rintro e a' w' ⟨F2,e',s',C0,hle,rfl,hK,rfl,hS0,hsz,hd⟩
  have fin:(match s'.stk with
      | [env]=>cond (Z3 env 0 C.H) (Zn T s' fn.results.toList [] fun vs=>zfp C.H.length (yP vs) s'.H K) none
      | _=>none)=some res → ∀W,Priv F2.base C0 W →
      ∃v,(results fn a'.tmps).run P W = .ok v W ∧ ∃r C'',K r C''.H=some res∧C''.w=W∧zY C''∧zF F C''∧VRel C'' r v∧(∀j b,(zn C.H j).isBlk=true→C.ρ j=some b→C''.ρ j=some b∧zt C''.H j):=by
    intro hr W hW
    obtain ⟨C',hC'⟩ : ∃C',C'=C0.at W:=⟨_,rfl⟩
    have hS':zw F C' s' a'.tmps [Yu C]:=by
      rw [hC']
      exact Z8 (F:=F) ⟨hS0.H,hS0.heap,hS0.env,hS0.stk,hback _ (hle.frame _ hS0.frame)⟩ (by rw [hle.base,hb1];exact hw1) hW
    have hCw:C'.w=W:=by rw [hC'];rfl
    rw [← hCw]
    split at hr
    · rename_i env hst
      replace hr:=zC hr;obtain ⟨hro,hr⟩:=hr
      obtain ⟨rs,v,h1,h2,h3⟩:=YD hT hS' hr
      rw [← hS'.H] at h1
      obtain ⟨r',C'',hw'',hh'',hF'',hv'',hK'',hkeep⟩:=zdx hS'.heap hS'.frame h3 h1
      refine ⟨v,h2,r',C'',hK'',hw'',hh'',hF'',hv'',?_⟩
      intro j b hg hbj
      have hl:zt C.H j:=wX hg
      have hlt:=Z2 hl
      have hst':=hS'.stk
      rw [hst,Zz] at hst'
      obtain ⟨v',vs',he,henv,_⟩:=hst'
      cases he
      have hv:=henv j
      have hroot:=JK C.H 0 hro j hg
      rw [Nat.zero_add] at hroot
      rw [hroot,JQ hlt hbj] at hv
      obtain ⟨hb',hlv⟩:=zdZ hv
      exact hkeep j hlt b hb' hlv
    · cases hr
  cases e' with
  | norm=>exact yl _ F2 C0 hd.2 hS0.frame (fun W hW=>fin hK W hW)
  | ret=>exact yl _ F2 C0 hd.2 hS0.frame (fun W hW=>fin hK W hW)
  | exit i=>cases hK
  | goto l=>cases hK
theorem zk2 [BT] (hm:P.follows .mixedOrders=true) (hT:zJ P T) {lo:Lo} (hL:Zu P lo) {i:ZH} {f:Func} (hf:P.funcs[i.g]? = some f) (hb:f.body.isSome=true) (hn:f.name ≠ "runtime.NumGoroutine") :
    zP P i.g (YB T lo i f) :=
  ⟨⟨f,hf,hb,hn⟩,fun C args us K res Fr hh hF hargs h=>zPV hT hf (zI hb) (zlU hm hT hL i.hints f.ntmps _ _ _ _ 0) hh hF hargs h⟩
theorem zmU [BT] (hm:P.follows .mixedOrders=true) (hT:zJ P T) {lo:Lo} (hL:Zu P lo) {i:ZH} {f:Func} (hf:P.funcs[i.g]? = some f) (hb:f.body.isSome=true) (hn:f.name ≠ "runtime.NumGoroutine") :
    zV P i.g (zpM T lo i f):=by
  refine ⟨⟨f,hf,hb,hn⟩,fun C args us K res hh hH hargs hFp => ?_⟩
  unfold zpM at hFp
  cases hr:YB T lo i f args [] (fun v _=>some (v,[])) with
  | none=>rw [hr] at hFp;cases hFp
  | some p =>
    obtain ⟨r,H⟩:=p
    rw [hr] at hFp
    dsimp only at hFp
    replace hFp:=zC hFp
    simp only [Bool.and_eq_true] at hFp
    rw [j0] at hFp
    obtain ⟨⟨hnil,hcl⟩,hK⟩:=hFp
    refine ⟨r,yS r,hK,fun C'=>(y3 hcl).2 rfl,fun W hW => ?_⟩
    obtain ⟨hh',hat⟩:=zGj hh hH hW
    have hargs':VRels (C.at W) args us.toList:=hat hargs
    let F:Fr:=⟨W,fun _=>False,C.R,0⟩
    have hF:zF F (C.at W):=⟨rfl,rfl,rfl,Nat.le_refl _,fun _ _ _=>rfl,fun _ h=>h,fun _ h => .inl h,fun i b hl=>by
      exact absurd (by show zn C.H i = .dead;rw [hH];rfl) hl⟩
    have hn':YB T lo i f args (C.at W).H (fun v _=>some (v,[]))=some (r,H):=by
      show YB T lo i f args C.H _=_
      rw [hH];exact hr
    refine ((zk2 hm hT hL hf hb hn).2 (C.at W) args us _ _ F hh' hF hargs' hn').mono ?_
    intro e w' hw'
    cases e with
    | returned v =>
      obtain ⟨r',C',hK',rfl,_,hF',hv,_⟩:=hw'
      cases hK'
      refine ⟨by rw [(y3 hcl).1 hv],⟨hF'.os,hF'.tape,hF'.output,hF'.size,fun k hk=>hF'.keep k hk fun h=>h⟩⟩
    | panicked ch=>exact hw'.elim
    | outgrown=>exact hw'.elim
noncomputable def zKM [BT] (P:Program) (T:Tab) (lo:Lo) (i:ZH):zkf :=
  match P.funcs[i.g]? with
  | some f=>cond i.pure (.pure (zpM T lo i f)) (.func (YB T lo i f))
  | none => .func fun _ _ _=>none
noncomputable def zPm [BT] (P:Program) (T:Tab) (lo:Lo):List ZH→Env→Env
  | [],b=>b
  | i::r,b=>(i.g,zKM P T lo i)::zPm P T lo r b
noncomputable def caQ [BT] (P:Program) (T:Tab) (lo:Lo):List ZH→Nat→Option CF
  | [],_=>none
  | i::r,g=>cond (Nat.beq i.g g) (match P.funcs[i.g]? with
    | some f=>some (zWe T lo i f)
    | none=>none) (caQ P T lo r g)
theorem zQO [BT] (hm:P.follows .mixedOrders=true) (hT:zJ P T) {lo:Lo} (hL:Zu P lo) {i:ZH} (hi:i.ok P=true):zex P i.g (zKM P T lo i):=by
  unfold ZH.ok at hi
  unfold zKM
  cases hf:P.funcs[i.g]? with
  | none=>rw [hf] at hi;cases hi
  | some f =>
    rw [hf] at hi
    simp only [Bool.and_eq_true,decide_eq_true_eq] at hi
    dsimp only
    cases i.pure with
    | true=>exact zmU hm hT hL hf hi.1 hi.2
    | false=>exact zk2 hm hT hL hf hi.1 hi.2
theorem zFr [BT] (hm:P.follows .mixedOrders=true) (hT:zJ P T) {lo:Lo} (hL:Zu P lo) {base:Env} (hB:zd P base) : ∀{L:List ZH},L.all (ZH.ok P)=true→zd P (zPm P T lo L base)
  | [],_=>hB
  | i::r,h=>by
    rw [List.all_cons,Bool.and_eq_true] at h
    exact zd.cons (zQO hm hT hL h.1) (zFr hm hT hL hB h.2)
theorem zOu [BT] (hm:P.follows .mixedOrders=true) (hT:zJ P T) {lo:Lo} (hL:Zu P lo) : ∀{L:List ZH},L.all (ZH.ok P)=true → ∀g cf,caQ P T lo L g=some cf →
    ∃fn c,P.funcs[g]? = some fn∧fn.body=some c∧fn.name ≠ "runtime.NumGoroutine" ∧ cf.nt=fn.ntmps∧cf.res=fn.results.toList∧zy P fn.ntmps c cf.run
  | [],_,g,cf,e=>by cases e
  | i::r,h,g,cf,e=>by
    rw [List.all_cons,Bool.and_eq_true] at h
    rw [caQ] at e
    cases hb:Nat.beq i.g g with
    | false=>rw [hb] at e;exact zOu hm hT hL h.2 g cf e
    | true =>
      obtain rfl:=Nat.eq_of_beq_eq_true hb
      rw [hb,cond_true] at e
      have hi:=h.1
      unfold ZH.ok at hi
      cases hf:P.funcs[i.g]? with
      | none=>rw [hf] at e;cases e
      | some f =>
        rw [hf] at e hi
        cases e
        simp only [Bool.and_eq_true,decide_eq_true_eq] at hi
        exact ⟨f,_,rfl,zI hi.1,hi.2,rfl,rfl,zlU hm hT hL i.hints f.ntmps _ _ _ _ 0⟩
theorem zTI [BT] (hm:P.follows .mixedOrders=true) (hT:zJ P T) {lo:Lo} (hL:Zu P lo) {i:ZH} {f:Func} (hf:P.funcs[i.g]? = some f) (hb:f.body.isSome=true) (hn:f.name ≠ "runtime.NumGoroutine") {v:AV}
    (hr : ∀K,YB T lo i f [] [] K=K v []):zP P i.g (zSf v):=by
  have hC:=zk2 hm hT hL hf hb hn
  refine ⟨hC.1,fun C args us K res Fr hh hF hargs hFf=>hC.2 C args us K res Fr hh hF hargs ?_⟩
  generalize C.H=H0 at hFf ⊢
  unfold zSf at hFf
  split at hFf
  · exact (hr K).trans hFf
  · cases hFf
theorem zSR [BT] (hm:P.follows .mixedOrders=true) (hT:zJ P T) {lo:Lo} (hL:Zu P lo) {i:ZH} {f:Func} (hf:P.funcs[i.g]? = some f) (hb:f.body.isSome=true) (hn:f.name ≠ "runtime.NumGoroutine") {v:AV} (hv:v.closed1=true)
    {F:List AV→(AV→Ans)→Ans} (hF : ∀l K res,F l K=some res→l=[]∧K v=some res) (hr : ∀K,YB T lo i f [] [] K=K v []):zV P i.g F:=by
  have hC:=zmU hm hT hL hf hb hn
  refine ⟨hC.1,fun C args us K res hh hH hargs hFf=>hC.2 C args us K res hh hH hargs ?_⟩
  obtain ⟨rfl,hK⟩:=hF _ _ _ hFf
  unfold zpM
  rw [hr]
  simp only [zal,hv,Bool.and_self,cond_true,j0]
  exact hK
#print axioms zTI
#print axioms zSR
end Go.AE
namespace Go.AE
open Go.RowKit (Below)
variable {P:Program} {T:Tab}
def zAU (P:Program) (fn:Func) (tmps:Array Value) (R:Value→World→Prop):List Deferred→World→Prop
  | [],w => ∃v,(results fn tmps).run P w = .ok v w∧R v w
  | d::ds,w => ∃r w',d.target = .collected r∧(Instr.takeDeferred r).run P w = .ok [] w'∧zAU P fn tmps R ds w'
theorem zgf {F:Fence} {n:Nat} {fn:Func} {tmps:Array Value} {R:Value→World→Prop} : ∀(ds:List Deferred) (w:World) (fr:Frame)
    (cs:List Frame),fr.mode = .returning→fr.defers=ds→fr.tmps=tmps→P.funcs[fr.fn]? = some fn→F.fn fr.fn→F.room (cs.length+1+n)→zAU P fn tmps R ds w →
    ∃v w' fr',R v w'∧StepsIn (Machine.fenced P F) P (lone fr cs w) (lone fr' cs w')∧fr'.fn=fr.fn∧fr'.kind=fr.kind∧fr'.going P w' (.returned v)
  | [],w,fr,cs,hm,hd,ht,hf,hb,hr,h=>by
    obtain ⟨v,h1,h2⟩:=h
    exact ⟨v,w,fr,h2,StepsIn.refl _,rfl,rfl,hm,hd,fn,hf,ht ▸ h1⟩
  | d::ds,w,fr,cs,hm,hd,ht,hf,hb,hr,h=>by
    obtain ⟨r,w',htar,htake,hrest⟩:=h
    have hrun:fr.mode ≠ .run:=by rw [hm];simp
    have h1:=step_collected (cs:=cs) hrun hd htar htake
    have i1:(lone fr cs w).fenced P F:=fenced_out hb hr hrun hd (fun g hg=>by rw [htar] at hg;simp [Target.leads] at hg)
    obtain ⟨v,w'',fr',hR,hs,hfn,hk,hg⟩:=zgf ds w' { fr with defers:=[]++ds } cs hm rfl ht hf hb hr hrest
    exact ⟨v,w'',fr',hR,.head i1 h1 hs,hfn,hk,hg⟩
def zVu (P:Program) (fn:Func) (R:Value→World→Prop):Exit→Act→World→Prop
  | .normal,a,w | .ret,a,w=>zAU P fn a.tmps R a.defers w
  | _,_,_=>False
theorem zlS {F:Fence} {n:Nat} {f:FuncId} {fn:Func} {c:Code} {args:Array Value} {u:FrameMode} {w:World} {R:Value→World→Prop}
    (hf:P.funcs[f]? = some fn) (hb:fn.body=some c) (hF:F.fn f)
    (h:c.wpIn F n P (zVu P fn R) { tmps:=args++Array.replicate (fn.ntmps - args.size) undef,defers:=[] } w) (hro:F.round=none:=by rfl) :
    CallsDIn F n P f args u w fun e u' w'=>u'=u ∧ ∃v,e = .returned v∧R v w':=by
  refine ⟨hF,fun c₀ cs hu hr => ?_⟩
  let b:Frame:={ (default:Frame) with fn:=f,kind := .deferred,roundOf:=none }
  have henter:Frame.enter P f args .deferred =
      b.atR { tmps:=args++Array.replicate (fn.ntmps - args.size) undef,defers:=[] } [.code c]:=by
    simp [Frame.enter,Frame.atR,hf,hb,b]
  have hc:({ c₀ with mode:=u }:Frame)=c₀:=by subst hu;rfl
  obtain ⟨e,a',w',hq,harr⟩:=h b [] (c₀::cs) hro.symm hF hr
  rw [← henter] at harr
  cases e with
  | normal =>
    obtain ⟨v,w'',fr',hR,hs,hfn,hk,hg⟩:=zgf (F:=F) (n:=n) a'.defers w' { b.atR a' [] with mode := .returning } (c₀::cs) rfl rfl rfl hf hF hr hq
    exact ⟨.returned v,u,w'',fr',⟨rfl,v,rfl,hR⟩,(by rw [hc];exact StepsIn.trans (StepsIn.trans harr (.one (fenced_calm (fr:=b.atR a' []) hF hr rfl) (stepR_end rfl))) hs),hk,hfn,hg⟩
  | ret =>
    obtain ⟨todo,hs₀⟩:=harr.1 rfl
    obtain ⟨v,w'',fr',hR,hs,hfn,hk,hg⟩:=zgf (F:=F) (n:=n) a'.defers w' { b.atR a' todo with mode := .returning } (c₀::cs) rfl rfl rfl hf hF hr hq
    exact ⟨.returned v,u,w'',fr',⟨rfl,v,rfl,hR⟩,(by rw [hc];exact StepsIn.trans hs₀ hs),hk,hfn,hg⟩
  | panic chain=>exact hq.elim
  | exit id=>exact hq.elim
  | goto l=>exact hq.elim
  | outgrown=>exact hq.elim
theorem zwd {F:Fence} {n:Nat} {f:FuncId} {args:Array Value} {u:FrameMode} {w:World} {R R':Ending→FrameMode→World→Prop}
    (h:CallsDIn F n P f args u w R) (hr : ∀e u' w',R e u' w'→R' e u' w'):CallsDIn F n P f args u w R':=by
  refine ⟨h.1,fun c cs hu hroom => ?_⟩
  obtain ⟨e,u',w',fr,hR,rest⟩:=h.2 c cs hu hroom
  exact ⟨e,u',w',fr,hr _ _ _ hR,rest⟩
theorem zrJ {fn:Func} {tmps:Array Value} {R:Value→World→Prop} : ∀(ds:List Deferred) (F:Fr) (C:Cx),yk F ds→zF F C →
    (∀W,Priv F.base C W → ∃v,(results fn tmps).run P W = .ok v W∧R v W)→zAU P fn tmps R ds C.w:=by
  suffices key : ∀(ds:List Deferred) (F:Fr) (C:Cx) (W:World),yk F ds→zF F C→Priv F.base C W→(∀d ∈ ds,∀D,d.target = .collected D→W.heap[D]? = C.w.heap[D]?) →
      (∀W,Priv F.base C W → ∃v,(results fn tmps).run P W = .ok v W∧R v W)→zAU P fn tmps R ds W from
    fun ds F C hm hF hR=>key ds F C C.w hm hF (Priv.refl _ _) (fun _ _ _ _=>rfl) hR
  intro ds
  induction ds with
  | nil=>intro F C W _ _ hW _ hR;exact hR W hW
  | cons d ds ih =>
    intro F C W hm hF hW hk hR
    obtain ⟨⟨D,⟨ht,hb,hs⟩,hne⟩,hm⟩:=hm
    obtain ⟨h1,h2⟩:=hs.at hF
    have hD:W.heap[D]? = some (.deferred (some [])):=(hk d (List.mem_cons_self ..) D ht).trans h1
    refine ⟨D,W.putObj D (.deferred none),ht,run_takeDeferred hD,?_⟩
    have hW':Priv F.base (C.at W) (W.putObj D (.deferred none)):=wa (C:=C.at W) _ h2 hb
    refine ih F C _ hm hF (hW.trans hW') (fun e he D' hD' => ?_) hR
    refine (World.putObj_heap_other ?_).trans (hk e (List.mem_cons_of_mem _ he) D' hD')
    intro e'
    subst e'
    exact hne e he hD'
theorem zum [BT] (hT:zJ P T) {lo:Lo} (hL:Zu P lo) {g:Nat} {cf:CF} (hcf:lo.ca g=some cf) {F:Fr} {C:Cx} {s:St} {a:Act} {stk:List (Array Value)} (hS:zw F C s a.tmps stk)
    {args:List AV} {us:Array Value} (hargs:VRels C args us.toList) {m:Nat} {K:KV} {res:AV×List Obj} (h:jg T m cf args s K=some res) {u:FrameMode} :
    (∀W,(Go.callFunc g us).run P W = .ok (.enter g us) W) ∧
    CallsDIn (WF none) 0 P g us u C.w fun e u' w'=>u'=u ∧ ∃v,e = .returned v ∧ ∃r s' C',K r s'=some res∧C'.w=w'∧zw F C' s' a.tmps stk∧VRel C' r v:=by
  obtain ⟨fn,c,hf,hb,hn,hnt,hres,hG⟩:=hL.ca g cf hcf
  unfold jg at h
  rw [Jr,zc0] at h
  obtain ⟨s1,hS,h⟩:=wA hS h
  obtain ⟨env0,stk0,H0,blk0⟩:=s1
  dsimp only at h
  rw [hres] at h
  refine ⟨fun W => ?_,?_⟩
  · have hne:(fn.name == "runtime.NumGoroutine")=false:=by simpa using hn
    simp [Go.callFunc,hf,hb,hn]
  · obtain ⟨F1,hF1⟩ : ∃F1:Fr,F1={ F.re C with base:=C.w.heap.size }:=⟨_,rfl⟩
    have hF1C:zF F1 C:=by rw [hF1];exact ⟨rfl,rfl,rfl,Nat.le_refl _,fun _ _ _=>rfl,fun _ h=>h,fun _ h => .inl h,fun i b hl hb => .inl ⟨i,hl,hb⟩⟩
    have hback : ∀C',zF F1 C'→zF F C':=fun C' h=>(zbt hS.frame).frame C' (by rw [hF1] at h;exact ⟨h.os,h.tape,h.output,h.size,h.keep,h.r0,h.rN,h.own⟩)
    have hb1:F1.base=C.w.heap.size:=by rw [hF1]
    have hw1:F.w0.heap.size≤C.w.heap.size:=hS.frame.size
    have hS':zw F1 C { env:=ZD 0 args,stk:=env0::stk0,H:=H0,blk:=0 } (us++Array.replicate (fn.ntmps - us.size) undef) (a.tmps::stk) :=
      ⟨hS.H,hS.heap,jk hargs _,by rw [Zz];exact ⟨_,_,rfl,hS.env,hS.stk⟩,hF1C⟩
    refine zlS hf hb trivial (wpIn_mono (hG (r:=none) (a:={ tmps:=us++Array.replicate (fn.ntmps - us.size) undef,defers:=[] }) h (y6.none _) hS' (by simp;omega) ⟨by rw [hF1];exact Nat.le_refl _,trivial⟩) ?_)
    rintro e a' w' ⟨F2,e',s',C',hle,rfl,hK,rfl,hS'',hsz,hd⟩
    have fin : ∀{stk' env'},s'.stk=env'::stk'→(Zn T s' fn.results.toList [] fun vs=>ZZ (yP vs) fun v=>K v ⟨env',stk',s'.H,blk0⟩)=some res →
        ∀W,Priv F2.base C' W → ∃v,(results fn a'.tmps).run P W = .ok v W ∧ ∃r s'' C'',K r s''=some res∧C''.w=W∧zw F C'' s'' a.tmps stk∧VRel C'' r v:=by
      intro stk' env' hst hr W hW
      have hSF:zw F C' s' a'.tmps (a.tmps::stk):=⟨hS''.H,hS''.heap,hS''.env,hS''.stk,hback _ (hle.frame _ hS''.frame)⟩
      have hSW:zw F (C'.at W) s' a'.tmps (a.tmps::stk):=Z8 hSF (by rw [hle.base,hb1];exact hw1) hW
      obtain ⟨rs,v,h1,h2,h3⟩:=YD hT hSW hr
      rw [yf] at h1
      have hstk:=hSW.stk
      rw [hst,Zz] at hstk
      obtain ⟨t',ts',he,henv,hstk⟩:=hstk
      cases he
      exact ⟨v,h2,_,_,C'.at W,h1,rfl,⟨hSW.H,hSW.heap,henv,hstk,hSW.frame⟩,h3⟩
    have same : ∀{stk' env'},s'.stk=env'::stk'→(zff T s' fn.results.toList fun vs=>fV (yP vs) fun v=>K v ⟨env',stk',s'.H,blk0⟩)=(Zn T s' fn.results.toList [] fun vs=>ZZ (yP vs) fun v=>K v ⟨env',stk',s'.H,blk0⟩):=by
      intro stk' env' _
      rw [zkD]
      simp only [j0,yf,List.nil_append]
    obtain ⟨env1,stk1,H1,blk1⟩:=s'
    cases e' with
    | norm =>
      simp only [zrO] at hK
      split at hK
      · rename_i env' stk'
        exact zrJ _ F2 C' hd.2 hS''.frame (fun W hW=>fin rfl ((same rfl).symm.trans hK) W hW)
      · cases hK
    | ret =>
      simp only [zrO] at hK
      split at hK
      · rename_i env' stk'
        exact zrJ _ F2 C' hd.2 hS''.frame (fun W hW=>fin rfl ((same rfl).symm.trans hK) W hW)
      · cases hK
    | exit i=>cases hK
    | goto l=>cases hK
def wC [BT] (F:Fr) (K:Ex→St→Ans) (stk:List (Array Value)) (nt:Nat) (res:AV×List Obj) (ds:List Deferred) (e:Exit) (a:Act) (w:World):Prop :=
  ∃e' s' C',e'.toExit=e∧K e' s'=some res∧C'.w=w∧zw F C' s' a.tmps stk∧nt≤a.tmps.size∧a.defers=ds
def Jz:Code→Bool
  | .seq a b=>Jz a&&Jz b
  | .cond _ a b=>Jz a&&Jz b
  | .block _ c=>Jz c
  | .loop c=>Jz c
  | .rangeFunc .. => false
  | _=>true
def zIX [BT] (P:Program) (nt:Nat) (c:Code) (G:(Ex→St→Ans)→St→Ans):Prop :=
  ∀{F:Fr} {K:Ex→St→Ans} {s:St} {C:Cx} {a:Act} {stk:List (Array Value)} {res:AV×List Obj} {ds:List Deferred},
    G K s=some res→zw F C s a.tmps stk→nt≤a.tmps.size→a.defers=ds→c.wpIn (WF none) 0 P (wC F K stk nt res ds) a C.w
theorem zl2 [BT] {nt:Nat} {c:Code} {G:(Ex→St→Ans)→St→Ans} (hG:zIX P nt c G) (keep:List Nat) {stk:List (Array Value)} {res:AV×List Obj} {K:Ex→St→Ans} {F:Fr} {ds:List Deferred} :
    ∀(n:Nat) {s:St} {C:Cx} {a:Act},zrc keep G K n s=some res→zw F C s a.tmps stk→nt≤a.tmps.size→a.defers=ds→wE none P c (wC F K stk nt res ds) a C.w
  | 0,s,C,a,h,hS,hsz,hd=>by cases h
  | n+1,s,C,a,h,hS,hsz,hd=>by
    replace h:zqg keep s (fun s=>G (fun e s'=>match e with
      | .norm=>zrc keep G K n s'
      | e=>K e s') s)=some res:=h
    rw [zmW] at h
    obtain ⟨C',hw,hS'⟩:=YU hS keep
    rw [← hw]
    refine zcR (wpIn_mono (hG h hS' hsz hd) ?_)
    rintro e a' w' ⟨e',s',C'',rfl,hK,rfl,hS'',hsz',hd'⟩
    cases e' with
    | norm=>exact zl2 hG keep n hK hS'' hsz' hd'
    | exit i=>exact ⟨.exit i,s',C'',rfl,hK,rfl,hS'',hsz',hd'⟩
    | ret=>exact ⟨.ret,s',C'',rfl,hK,rfl,hS'',hsz',hd'⟩
    | goto l=>exact ⟨.goto l,s',C'',rfl,hK,rfl,hS'',hsz',hd'⟩
theorem zwJ [BT] (hm:P.follows .mixedOrders=true) (hT:zJ P T) {lo:Lo} (hL:Zu P lo) (h:List (Nat×List Nat)) (nt rs:Nat) (id:Nat) (ops:Array Oper) (draw:Bool) (ex:List (Nat×Nat)) (out b:Nat):zIX P nt (.region id ops draw) (ZW T lo h nt rs ex out b (.region id ops draw)).run:=by
  intro F K s C a stk res ds hG hS hsz hd
  rw [ZW] at hG
  cases draw with
  | false =>
    refine wpIn_region ?_
    have:=zbl hT hL _ (Q:=wC F K stk nt res ds) (all:=ops) (ds:=ds) (rn:=none) (fun s C a' hK hS hsz hd'=>⟨.norm,s,C,rfl,hK,rfl,hS,hsz,hd'⟩) ops.toList 0 (by simp) hG hS hsz hd
    rw [List.range_eq_range']
    simpa using this
  | true =>
    simp only [cond_true] at hG
    have hW:Below C.w.heap.size C.w { C.w with drawn:=C.w.drawn+1 }:=⟨rfl,rfl,rfl,Nat.le_refl _,fun _ _=>rfl⟩
    have hS1:=Yt hS hW
    cases hsel:Region.noSelect ops with
    | false=>rw [hsel] at hG;cases hG
    | true =>
    rw [hsel] at hG
    refine wpIn_region_any hm ?_
    refine j5 (ents:=[]) (an:=zea (Yw ops ops.size)) (Q:=fun a' w'=>wC F K stk nt res ds .normal a' w') (fun a' w' h=>h) _ _ _ _ ?_
    refine jn hT hL _ hsel (ds:=ds) (fun s C a' hK hS hsz hd' => ?_) ops.size _ [] [] ?_ (by rw [ZX]) hG hS1 hsz hd
    · exact ⟨.norm,s,C,rfl,hK,rfl,hS,hsz,hd'⟩
    intro j oj _ hl
    rw [getD_replicate_false] at hl
    cases hl
theorem zmh [BT] (hm:P.follows .mixedOrders=true) (hT:zJ P T) {lo:Lo} (hL:Zu P lo) (h:List (Nat×List Nat)) (nt rs:Nat) : ∀(c:Code),Jz c=true → ∀(ex:List (Nat×Nat)) (out b:Nat),zIX P nt c (ZW T lo h nt rs ex out b c).run:=by
  intro c
  induction c with
  | skip =>
    intro _ ex out b F K s C a stk res ds hG hS hsz hd
    exact wpIn_skip ⟨.norm,s,C,rfl,hG,rfl,hS,hsz,hd⟩
  | region id ops draw =>
    intro _ ex out b
    exact zwJ hm hT hL h nt rs id ops draw ex out b
  | seq p q ihx ihy =>
    intro hn ex out b F K s C a stk res ds hG hS hsz hd
    simp only [Jz,Bool.and_eq_true] at hn
    rw [ZW] at hG
    refine wpIn_seq (wpIn_mono (ihx hn.1 _ _ _ hG hS hsz hd) ?_)
    rintro e a' w' ⟨e',s',C',rfl,hK,rfl,hS',hsz',hd'⟩
    cases e' with
    | norm =>
      obtain ⟨s2,hS2,hK⟩:=wA hS' (show We _ s' _=some res from hK)
      exact ihy hn.2 _ _ _ hK hS2 hsz' hd'
    | exit i=>exact ⟨.exit i,s',C',rfl,hK,rfl,hS',hsz',hd'⟩
    | ret=>exact ⟨.ret,s',C',rfl,hK,rfl,hS',hsz',hd'⟩
    | goto l=>exact ⟨.goto l,s',C',rfl,hK,rfl,hS',hsz',hd'⟩
  | cond c p q ihx ihy =>
    intro hn ex out b F K s C a stk res ds hG hS hsz hd
    simp only [Jz,Bool.and_eq_true] at hn
    rw [ZW] at hG
    dsimp only at hG
    rw [Ze] at hG
    split at hG
    · rename_i p hp
      have hv:=zN (C:=C) hS.env c
      rw [hp,VRel] at hv
      refine wpIn_cond hv ?_
      cases p with
      | true=>exact ihx hn.1 _ _ _ hG hS hsz hd
      | false=>exact ihy hn.2 _ _ _ hG hS hsz hd
    · cases hG
  | block id c ih =>
    intro hn ex out b F K s C a stk res ds hG hS hsz hd
    rw [ZW] at hG
    refine wpIn_block (wpIn_mono (ih hn _ _ id hG hS hsz hd) ?_)
    rintro e a' w' ⟨e',s',C',rfl,hK,rfl,hS',hsz',hd'⟩
    cases e' with
    | norm=>exact ⟨.norm,s',C',rfl,hK,rfl,hS',hsz',hd'⟩
    | exit i =>
      simp only [zm9] at hK
      show if i=id then _ else _
      by_cases hi:i=id
      · subst hi
        rw [if_pos rfl]
        rw [Nat.beq_refl] at hK
        exact ⟨.norm,s',C',rfl,hK,rfl,hS',hsz',hd'⟩
      · rw [if_neg hi]
        rw [zeE hi] at hK
        exact ⟨.exit i,s',C',rfl,hK,rfl,hS',hsz',hd'⟩
    | ret=>exact ⟨.ret,s',C',rfl,hK,rfl,hS',hsz',hd'⟩
    | goto l=>exact ⟨.goto l,s',C',rfl,hK,rfl,hS',hsz',hd'⟩
  | loop c ih =>
    intro hn ex out b F K s C a stk res ds hG hS hsz hd
    rw [ZW] at hG
    exact qm (zl2 (G:=(ZW T lo h nt rs ex (wi nt rs ex c 0) b c).run) (ih hn _ _ b) (yA b h) J7 hG hS hsz hd)
  | exit id =>
    intro _ ex out b F K s C a stk res ds hG hS hsz hd
    exact wpIn_exit ⟨.exit id,s,C,rfl,hG,rfl,hS,hsz,hd⟩
  | ret =>
    intro _ ex out b F K s C a stk res ds hG hS hsz hd
    exact wpIn_ret ⟨.ret,s,C,rfl,hG,rfl,hS,hsz,hd⟩
  | label l =>
    intro _ ex out b F K s C a stk res ds hG hS hsz hd
    exact wpIn_label ⟨.norm,s,C,rfl,hG,rfl,hS,hsz,hd⟩
  | rangeFunc g ps asn c iha ihc =>
    intro hn
    cases hn
  | _=>intro _ ex out b F K s C a stk res ds hG hS hsz hd;cases hG
def zHa (P:Program) (d:Deferred) (g:Nat) (us:Array Value):Prop:=(∃fv cap,d.target = .fn fv cap) ∧ ∀W,(invoke d.target d.args).run P W=(Go.callFunc g us).run P W
theorem zDi [BT] {C:Cx} {s:St} {a:Act} (he:Zj C s.env a.tmps) {c:Call} {f:Operand} (hc:c.callee = .value f) {g:Nat} {args:List AV} (h:wu T s c=some (g,args)) :
    ∃us d,VRels C args us.toList∧zHa P d g us ∧ ∀(o:Oper),o.op = .defer c → ∀W,(execOp a.eval o).run P W = .ok (.defer d) W:=by
  unfold wu at h
  rw [hc] at h
  dsimp only at h
  split at h
  · rename_i g' first cap hf
    cases h
    have hv:=zN (C:=C) he f
    rw [hf,VRel] at hv
    obtain ⟨a',b',hv,h1,h2⟩:=hv
    refine ⟨a'++c.args.map a.eval++b',{ target := .fn (.func g) b',args:=a'++c.args.map a.eval },?_,⟨⟨_,_,rfl⟩,fun W=>rfl⟩,fun o ho W => ?_⟩
    · rw [Array.toList_append,Array.toList_append,Array.toList_map]
      exact (h1.append (W9 he _)).append h2
    · have hv':a.eval f = .func (.func g) a' b':=hv
      simp only [execOp,ho,resolve,hc,Deferred.ofValue,hv',Sem.run_bind,Sem.run_pure,Result.andThen_ok]
  · cases h
structure CRD where
  run:(Nat→Nat→St→Ans)→St→Ans
noncomputable def zHd (args:List AV) (s:St) (K:Nat→St→Ans):Ans :=
  fVs args fun args=>zyQ args fun n=>fL (ZD 0 args) fun env => @St.casesOn (fun _=>Ans) s fun env0 stk H blk=>K n ⟨env0,env::stk,H,blk⟩
theorem zQK (args:List AV) (env0:zQ) (stk:List zQ) (H:List Obj) (blk:Nat) (K:Nat→St→Ans):zHd args ⟨env0,stk,H,blk⟩ K=K args.length ⟨env0,ZD 0 args::stk,H,blk⟩:=by
  unfold zHd
  rw [Jr,zu1,zc0]
noncomputable def zNB [BT] (T:Tab) (nt:Nat) (o:Oper):CRD :=
  match o.op with
  | .defer c=>match c.callee,o.guard with
    | .value _,none=>⟨fun K s=>za (wu T s c) fun ga=>zHd ga.2 s fun n s=>zcs nt o.dst (.tup []) s (K ga.1 n)⟩
    | _,_=>⟨fun _ _=>none⟩
  | _=>⟨fun _ _=>none⟩
noncomputable def zAR [BT] (T:Tab) (lo:Lo) (out:Nat) (all:Array Oper) (nt:Nat):List Oper→CRD
  | []=>⟨fun _ _=>none⟩
  | o::r=>cond (zal r) (zNB T nt o) (cond o.guard.isNone ⟨fun K s=>(opC T lo (J9 all r out) o).run s fun v s'=>zcs nt o.dst v s' ((zAR T lo out all nt r).run K)⟩ ⟨fun _ _=>none⟩)
def zSk [BT] (P:Program) (F:Fr) (K0:Ex→St→Ans) (K1:Nat→Nat→Ex→St→Ans) (stk:List (Array Value)) (nt:Nat) (res:AV×List Obj) (e:Exit) (a:Act) (w:World):Prop :=
  wC F K0 stk nt res [] e a w ∨ ∃g us d,zHa P d g us∧wC F (K1 g us.size) (us::stk) nt res [d] e a w
theorem zqM [BT] (hT:zJ P T) {lo:Lo} (hL:Zu P lo) (out:Nat) {F:Fr} {stk:List (Array Value)} {all:Array Oper} {nt:Nat} {K:Nat→Nat→St→Ans} {res:AV×List Obj} {Q:Exit→Act→World→Prop}
    (hQ : ∀g us d s C a,K g us.size s=some res→zHa P d g us→zw F C s a.tmps (us::stk)→nt≤a.tmps.size→a.defers=[d]→Q .normal a C.w) :
    ∀(l:List Oper) (n:Nat),all.toList.drop n=l → ∀{s:St} {C:Cx} {a:Act},(zAR T lo out all nt l).run K s=some res→zw F C s a.tmps stk→nt≤a.tmps.size→a.defers=[] →
      wpOpsIn (WF none) 0 P all Q (List.range' n l.length) a C.w
  | [],n,hl,s,C,a,h,hS,hsz,hd=>by cases h
  | [o],n,hl,s,C,a,h,hS,hsz,hd=>by
    have ho:all[n]? = some o:=by
      have:(all.toList.drop n)[0]? = some o:=by rw [hl];rfl
      simpa using this
    rw [zAR,show zal ([]:List Oper)=true from rfl,cond_true] at h
    unfold zNB at h
    split at h
    · rename_i c hop
      split at h
      · rename_i f hcal hgd
        dsimp only at h
        replace h:=zo h;obtain ⟨⟨g,args⟩,hg,h⟩:=h
        obtain ⟨us,d,hus,hdo,hex⟩:=zDi (P:=P) hS.env hcal hg
        obtain ⟨env0,stk0,H,blk⟩:=s
        dsimp only at h
        rw [zQK,jD] at h
        have hlen:args.length=us.size:=by
          have:=hus.length
          simpa using this.symm
        rw [hlen] at h
        have hS':zw F C ⟨env0,ZD 0 args::stk0,H,blk⟩ ({ a with defers:=d::a.defers }:Act).tmps (us::stk) :=
          ⟨hS.H,hS.heap,hS.env,by rw [Zz];exact ⟨_,_,rfl,by simpa using jk hus 0,hS.stk⟩,hS.frame⟩
        obtain ⟨s3,h3,hS3,hsz3,hd3⟩:=ZP (a:={ a with defers:=d::a.defers }) (v := .tup []) (u:=undef) hS' hsz (by rw [VRel];exact ⟨#[],rfl,by rw [VRels]⟩) h
        rw [List.length_cons,List.length_nil,List.range'_succ,wpOpsIn,ho]
        dsimp only
        have hw:Region.wanted o (yielded all a.tmps)=true:=by simp [Region.wanted,hgd]
        rw [if_pos hw]
        refine ⟨fun f _=>zbq none f,?_⟩
        have hsem:(o.semAt (WF none).round a.eval).run P C.w = .ok (.defer d) C.w:=by
          show (Oper.semAt none a.eval o).run P C.w=_
          rw [show Oper.semAt none a.eval o=execOp a.eval o from rfl]
          exact hex o hop C.w
        rw [hsem,Oper.uponIn_defer]
        exact hQ g us d s3 C _ h3 hdo hS3 hsz3 (by rw [hd3,hd])
      · cases h
    · cases h
  | o::o2::r,n,hl,s,C,a,h,hS,hsz,hd=>by
    rw [zAR,show zal (o2::r)=false from rfl,cond_false] at h
    have hlr:all.toList.drop (n+1)=o2::r:=by rw [← List.tail_drop,hl];rfl
    have ho:all[n]? = some o:=by
      have:(all.toList.drop n)[0]? = some o:=by rw [hl];rfl
      simpa using this
    rw [List.length_cons,List.range'_succ,wpOpsIn,ho]
    dsimp only
    cases hgd:o.guard with
    | none =>
      rw [hgd,Option.isNone_none,cond_true] at h
      have hw:Region.wanted o (yielded all a.tmps)=true:=by simp [Region.wanted,hgd]
      rw [if_pos hw]
      dsimp only at h
      refine ja (Z9 ?_ (zvT hT hL _ o h hS))
      rintro u w' ⟨r',s'',C',hK,rfl,hS'',hv⟩
      rw [jD] at hK
      obtain ⟨s3,h3,hS3,hsz3,hd3⟩:=ZP hS'' hsz hv hK
      exact zqM hT hL out hQ (o2::r) (n+1) hlr h3 hS3 hsz3 (hd3.trans hd)
    | some g=>rw [hgd] at h;cases h
structure CD where
  run:(Ex→St→Ans)→(Nat→Nat→Ex→St→Ans)→St→Ans
def hasDefer:Code→Bool
  | .region _ ops _=>ops.toList.any fun o=>match o.op with | .defer _=>true | _=>false
  | .seq a b=>hasDefer a || hasDefer b
  | .block _ c=>hasDefer c
  | _=>false
noncomputable def ziZ [BT] (T:Tab) (lo:Lo) (h:List (Nat×List Nat)) (nt rs:Nat):List (Nat×Nat)→Nat→Nat→Code→CD
  | _,out,_,.region _ ops draw=>cond draw ⟨fun _ _ _=>none⟩ ⟨fun _ K1 s=>(zAR T lo out ops nt ops.toList).run (fun g n s=>K1 g n .norm s) s⟩
  | ex,out,b,.seq x y =>
    cond (hasDefer x)
      (cond (Jz y) ⟨fun K0 K1 s=>(ziZ T lo h nt rs ex (wi nt rs ex y out) b x).run (zAg (fun s=>We (wi nt rs ex y out) s fun s=>(ZW T lo h nt rs ex out b y).run K0 s) K0)
        (fun g n=>zAg (fun s=>We (wi nt rs ex y out) s fun s=>(ZW T lo h nt rs ex out b y).run (K1 g n) s) (K1 g n)) s⟩ ⟨fun _ _ _=>none⟩)
      (cond (Jz x) ⟨fun K0 K1 s=>(ZW T lo h nt rs ex (wi nt rs ex y out) b x).run (zAg (fun s=>We (wi nt rs ex y out) s fun s=>(ziZ T lo h nt rs ex out b y).run K0 K1 s) K0) s⟩ ⟨fun _ _ _=>none⟩)
  | ex,out,_,.block id c=>⟨fun K0 K1 s=>(ziZ T lo h nt rs ((id,out)::ex) out id c).run (zm9 id K0) (fun g n=>zm9 id (K1 g n)) s⟩
  | _,_,_,_=>⟨fun _ _ _=>none⟩
theorem zUS [BT] {F:Fr} {K:Ex→St→Ans} {stk:List (Array Value)} {nt:Nat} {res:AV×List Obj} {ds:List Deferred} {id:Nat} {e:Exit} {a:Act} {w:World} (h:wC F (zm9 id K) stk nt res ds e a w) :
    (match e with
     | .exit i=>if i=id then wC F K stk nt res ds .normal a w else wC F K stk nt res ds (.exit i) a w
     | e=>wC F K stk nt res ds e a w):=by
  obtain ⟨e',s',C',rfl,hK,rfl,hS',hsz',hd'⟩:=h
  cases e' with
  | norm=>exact ⟨.norm,s',C',rfl,hK,rfl,hS',hsz',hd'⟩
  | exit i =>
    simp only [zm9] at hK
    show if i=id then _ else _
    by_cases hi:i=id
    · subst hi
      rw [if_pos rfl]
      rw [Nat.beq_refl] at hK
      exact ⟨.norm,s',C',rfl,hK,rfl,hS',hsz',hd'⟩
    · rw [if_neg hi]
      rw [zeE hi] at hK
      exact ⟨.exit i,s',C',rfl,hK,rfl,hS',hsz',hd'⟩
  | ret=>exact ⟨.ret,s',C',rfl,hK,rfl,hS',hsz',hd'⟩
  | goto l=>exact ⟨.goto l,s',C',rfl,hK,rfl,hS',hsz',hd'⟩
theorem zU1 [BT] (hm:P.follows .mixedOrders=true) (hT:zJ P T) {lo:Lo} (hL:Zu P lo) {h:List (Nat×List Nat)} {nt rs:Nat} {y:Code} (hn:Jz y=true) {ex:List (Nat×Nat)} {out b m:Nat} {F:Fr} {K:Ex→St→Ans} {stk:List (Array Value)} {res:AV×List Obj} {ds:List Deferred} {e:Exit} {a:Act} {w:World}
    (hp:wC F (zAg (fun s=>We m s fun s=>(ZW T lo h nt rs ex out b y).run K s) K) stk nt res ds e a w) :
    (match e with
     | .normal=>y.wpIn (WF none) 0 P (wC F K stk nt res ds) a w
     | e=>wC F K stk nt res ds e a w):=by
  obtain ⟨e',s',C',rfl,hK,rfl,hS',hsz',hd'⟩:=hp
  cases e' with
  | norm =>
    obtain ⟨s2,hS2,hK⟩:=wA hS' (show We _ s' _=some res from hK)
    exact zmh hm hT hL h nt rs y hn _ _ _ hK hS2 hsz' hd'
  | exit i=>exact ⟨.exit i,s',C',rfl,hK,rfl,hS',hsz',hd'⟩
  | ret=>exact ⟨.ret,s',C',rfl,hK,rfl,hS',hsz',hd'⟩
  | goto l=>exact ⟨.goto l,s',C',rfl,hK,rfl,hS',hsz',hd'⟩
theorem zJZ [BT] (hm:P.follows .mixedOrders=true) (hT:zJ P T) {lo:Lo} (hL:Zu P lo) (h:List (Nat×List Nat)) (nt rs:Nat) : ∀(c:Code) (ex:List (Nat×Nat)) (out b:Nat) {F:Fr} {K0:Ex→St→Ans} {K1:Nat→Nat→Ex→St→Ans} {s:St} {C:Cx} {a:Act} {stk:List (Array Value)} {res:AV×List Obj},
    (ziZ T lo h nt rs ex out b c).run K0 K1 s=some res→zw F C s a.tmps stk→nt≤a.tmps.size→a.defers=[]→c.wpIn (WF none) 0 P (zSk P F K0 K1 stk nt res) a C.w:=by
  intro c
  induction c with
  | region id ops draw =>
    intro ex out b F K0 K1 s C a stk res hG hS hsz hd
    rw [ziZ] at hG
    cases draw with
    | true=>cases hG
    | false =>
      simp only [cond_false] at hG
      refine wpIn_region ?_
      have:=zqM hT hL _ (Q:=zSk P F K0 K1 stk nt res) (all:=ops) (fun g us d s C a hK hdo hS hsz hd => .inr ⟨g,us,d,hdo,.norm,s,C,rfl,hK,rfl,hS,hsz,hd⟩) ops.toList 0 (by simp) hG hS hsz hd
      rw [List.range_eq_range']
      simpa using this
  | seq x y ihx ihy =>
    intro ex out b F K0 K1 s C a stk res hG hS hsz hd
    rw [ziZ] at hG
    cases hx:hasDefer x with
    | true =>
      rw [hx,cond_true] at hG
      cases hn:Jz y with
      | false=>rw [hn] at hG;cases hG
      | true =>
        rw [hn,cond_true] at hG
        refine wpIn_seq (wpIn_mono (ihx _ _ _ hG hS hsz hd) ?_)
        intro e a' w' hp
        rcases hp with hp | ⟨g,us,d,hdo,hp⟩
        · have:=zU1 hm hT hL hn hp
          cases e with
          | normal=>exact wpIn_mono this fun _ _ _ h => .inl h
          | _=>exact .inl this
        · have:=zU1 hm hT hL hn hp
          cases e with
          | normal=>exact wpIn_mono this fun _ _ _ h => .inr ⟨g,us,d,hdo,h⟩
          | _=>exact .inr ⟨g,us,d,hdo,this⟩
    | false =>
      rw [hx,cond_false] at hG
      cases hn:Jz x with
      | false=>rw [hn] at hG;cases hG
      | true =>
        rw [hn,cond_true] at hG
        refine wpIn_seq (wpIn_mono (zmh hm hT hL h nt rs x hn _ _ _ hG hS hsz hd) ?_)
        rintro e a' w' ⟨e',s',C',rfl,hK,rfl,hS',hsz',hd'⟩
        cases e' with
        | norm =>
          obtain ⟨s2,hS2,hK⟩:=wA hS' (show We _ s' _=some res from hK)
          exact ihy _ _ _ hK hS2 hsz' hd'
        | exit i=>exact .inl ⟨.exit i,s',C',rfl,hK,rfl,hS',hsz',hd'⟩
        | ret=>exact .inl ⟨.ret,s',C',rfl,hK,rfl,hS',hsz',hd'⟩
        | goto l=>exact .inl ⟨.goto l,s',C',rfl,hK,rfl,hS',hsz',hd'⟩
  | block id c ih =>
    intro ex out b F K0 K1 s C a stk res hG hS hsz hd
    rw [ziZ] at hG
    refine wpIn_block (wpIn_mono (ih _ _ id hG hS hsz hd) ?_)
    intro e a' w' hp
    rcases hp with hp | ⟨g,us,d,hdo,hp⟩
    · have:=zUS hp
      cases e with
      | exit i =>
        show if i=id then _ else _
        dsimp only at this
        by_cases hi:i=id
        · rw [if_pos hi] at this ⊢;exact .inl this
        · rw [if_neg hi] at this ⊢;exact .inl this
      | _=>exact .inl this
    · have:=zUS hp
      cases e with
      | exit i =>
        show if i=id then _ else _
        dsimp only at this
        by_cases hi:i=id
        · rw [if_pos hi] at this ⊢;exact .inr ⟨g,us,d,hdo,this⟩
        · rw [if_neg hi] at this ⊢;exact .inr ⟨g,us,d,hdo,this⟩
      | _=>exact .inr ⟨g,us,d,hdo,this⟩
  | _=>intro ex out b F K0 K1 s C a stk res hG hS hsz hd;cases hG
noncomputable def zkh (env:zQ):Nat→Nat→List AV
  | 0,_=>[]
  | n+1,i=>zd8 env i::zkh env n (i+1)
theorem zvP {C:Cx} {env:zQ} {us:Array Value} (he:Zj C env us) : ∀(n i:Nat),i+n=us.size→VRels C (zkh env n i) (us.toList.drop i)
  | 0,i,h=>by
    rw [zkh,List.drop_eq_nil_of_le (by simp;omega),VRels]
  | n+1,i,h=>by
    have hi:i<us.toList.length:=by simp;omega
    rw [zkh,List.drop_eq_getElem_cons hi,VRels]
    refine ⟨_,_,rfl,?_,zvP he n (i+1) (by omega)⟩
    rw [zag]
    have:=he i
    have e:us.getD i undef=us.toList[i]:=by
      rw [Array.getD_eq_getD_getElem?,Array.getElem?_eq_getElem (by simpa using hi)];simp
    rw [e] at this
    exact this
noncomputable def zIG (T:Tab) (lo:Lo) (H0:List Obj) (res:List ResultVar) (K:AV→List Obj→Ans) (g n:Nat) (e:Ex) (s:St):Ans :=
  match e with
  | .norm | .ret => @St.casesOn (fun _=>Ans) s fun env stk H blk=>match stk with
    | envd::stk=>(match lo.ca g with
      | some cf=>jg T (zcb res) cf (zkh envd n 0) ⟨env,stk,H,blk⟩ fun _ s=>zy9 T H0 res K .norm s
      | none=>none)
    | []=>none
  | _=>none
noncomputable def zdR [BT] (T:Tab) (lo:Lo) (i:ZH) (f:Func) (l:List AV) (H:List Obj) (K:AV→List Obj→Ans):Ans :=
  (ziZ T lo i.hints f.ntmps (zcb f.results.toList) [] (zcb f.results.toList) 0 (f.body.getD .skip)).run (zy9 T H f.results.toList K) (zIG T lo H f.results.toList K) { env:=ZD 0 l,stk:=[Z4 0 H],H:=H,blk:=0 }
theorem zFQ [BT] (hm:P.follows .mixedOrders=true) (hT:zJ P T) {lo:Lo} (hL:Zu P lo) {i:ZH} {fn:Func} (hf:P.funcs[i.g]? = some fn) (hb:fn.body.isSome=true) (hn:fn.name ≠ "runtime.NumGoroutine") :
    zP P i.g (zdR T lo i fn):=by
  refine ⟨⟨fn,hf,hb,hn⟩,fun C args us K res F hh hF hargs h => ?_⟩
  have hb':=zI hb
  unfold zdR at h
  generalize hcd:fn.body.getD .skip=c at h hb'
  obtain ⟨F1,hF1⟩ : ∃F1:Fr,F1={ F.re C with base:=C.w.heap.size }:=⟨_,rfl⟩
  have hF1C:zF F1 C:=by rw [hF1];exact ⟨rfl,rfl,rfl,Nat.le_refl _,fun _ _ _=>rfl,fun _ h=>h,fun _ h => .inl h,fun i b hl hb => .inl ⟨i,hl,hb⟩⟩
  have hback : ∀C',zF F1 C'→zF F C':=fun C' h=>(zbt hF).frame C' (by rw [hF1] at h;exact ⟨h.os,h.tape,h.output,h.size,h.keep,h.r0,h.rN,h.own⟩)
  have hS:zw F1 C { env:=ZD 0 args,stk:=[Z4 0 C.H],H:=C.H,blk:=0 } (us++Array.replicate (fn.ntmps - us.size) undef) [Yu C] :=
    ⟨rfl,hh,jk hargs _,by rw [Zz];exact ⟨_,[],rfl,zi7 hh,by rw [Zz]⟩,hF1C⟩
  have fin : ∀{s':St} {C':Cx} {tmps:Array Value},zw F1 C' s' tmps [Yu C]→(match s'.stk with
      | [env]=>cond (Z3 env 0 C.H) (Zn T s' fn.results.toList [] fun vs=>zfp C.H.length (yP vs) s'.H K) none
      | _=>none)=some res →
      ∃v,(results fn tmps).run P C'.w = .ok v C'.w ∧ ∃r C'',K r C''.H=some res∧C''.w=C'.w∧zY C''∧zF F C''∧VRel C'' r v∧(∀j b,(zn C.H j).isBlk=true→C.ρ j=some b→C''.ρ j=some b∧zt C''.H j):=by
    intro s' C' tmps hS0 hr
    have hS':zw F C' s' tmps [Yu C]:=⟨hS0.H,hS0.heap,hS0.env,hS0.stk,hback _ hS0.frame⟩
    split at hr
    · rename_i env hst
      replace hr:=zC hr;obtain ⟨hro,hr⟩:=hr
      obtain ⟨rs,v,h1,h2,h3⟩:=YD hT hS' hr
      rw [← hS'.H] at h1
      obtain ⟨r',C'',hw'',hh'',hF'',hv'',hK'',hkeep⟩:=zdx hS'.heap hS'.frame h3 h1
      refine ⟨v,h2,r',C'',hK'',hw'',hh'',hF'',hv'',?_⟩
      intro j b hg hbj
      have hl:zt C.H j:=wX hg
      have hlt:=Z2 hl
      have hst':=hS'.stk
      rw [hst,Zz] at hst'
      obtain ⟨v',vs',he,henv,_⟩:=hst'
      cases he
      have hv:=henv j
      have hroot:=JK C.H 0 hro j hg
      rw [Nat.zero_add] at hroot
      rw [hroot,JQ hlt hbj] at hv
      obtain ⟨hb',hlv⟩:=zdZ hv
      exact hkeep j hlt b hb' hlv
    · cases hr
  obtain ⟨R,hR⟩ : ∃R:Ending→World→Prop,R=fun e w'=>match e with
      | .returned v => ∃r C',K r C'.H=some res∧C'.w=w'∧zY C'∧zF F C'∧VRel C' r v∧(∀j b,(zn C.H j).isBlk=true→C.ρ j=some b→C'.ρ j=some b∧zt C'.H j)
      | _=>False:=⟨_,rfl⟩
  have hgoal:Calls P i.g us C.w R→Calls P i.g us C.w fun
      | .returned v,w' => ∃r C',K r C'.H=some res∧C'.w=w'∧zY C'∧zF F C'∧VRel C' r v∧(∀j b,(zn C.H j).isBlk=true→C.ρ j=some b→C'.ρ j=some b∧zt C'.H j)
      | _,_=>False:=by
    intro h
    refine h.mono ?_
    intro e w' he
    rw [hR] at he
    cases e <;> exact he
  refine hgoal ?_
  refine (callsIn_wide (n:=0)).1 (callsIn_of_wp_marks hf hb' trivial (wpIn_mono (zJZ hm hT hL i.hints fn.ntmps (zcb fn.results.toList) c [] (zcb fn.results.toList) 0 (a:={ tmps:=us++Array.replicate (fn.ntmps - us.size) undef,defers:=[] }) h hS (by simp;omega) rfl) ?_))
  intro e a' w' hp
  rcases hp with ⟨e',s',C',rfl,hK,rfl,hS',hsz',hd'⟩ | ⟨g,us',d,⟨⟨fv,cap,htar⟩,hinv⟩,e',s',C',rfl,hK,rfl,hS',hsz',hd'⟩
  · have go:(match s'.stk with
      | [env]=>cond (Z3 env 0 C.H) (Zn T s' fn.results.toList [] fun vs=>zfp C.H.length (yP vs) s'.H K) none
      | _=>none)=some res→LeavesInM (WF none) 0 P fn a'.tmps R a'.defers .returning C'.w:=by
      intro hK
      rw [hd']
      obtain ⟨v,h1,h2⟩:=fin hS' hK
      exact ⟨v,h1,by rw [hR];exact h2⟩
    cases e' with
    | norm=>exact go hK
    | ret=>exact go hK
    | exit i=>cases hK
    | goto l=>cases hK
  · have go : ∀{K':Ex→St→Ans},K'=zIG T lo C.H fn.results.toList K g us'.size→K' .norm s'=some res→LeavesInM (WF none) 0 P fn a'.tmps R a'.defers .returning C'.w:=by
      intro K' eK hK
      rw [eK] at hK
      rw [hd']
      obtain ⟨env,stk,H,blk⟩:=s'
      simp only [zIG] at hK
      split at hK
      · rename_i envd stk2 _h0
        split at hK
        · rename_i cf hcf
          have hst:=hS'.stk
          rw [Zz] at hst
          obtain ⟨v',vs',he,henv,hst⟩:=hst
          cases he
          have hS2:zw F1 C' ⟨env,stk2,H,blk⟩ a'.tmps [Yu C]:=⟨hS'.H,hS'.heap,hS'.env,hst,hS'.frame⟩
          have hargs':VRels C' (zkh envd us'.size 0) us'.toList:=by
            have:=zvP henv us'.size 0 (by omega)
            simpa using this
          obtain ⟨hcall,hD⟩:=zum hT hL hcf hS2 hargs' hK (u := .returning)
          refine ⟨by simp,.inr ⟨fun h=>zm0 _ _ h,fv,cap,g,us',htar,(hinv _).trans (hcall _),fun f _=>zbq none f,zwd hD ?_⟩⟩
          rintro e u' w' ⟨rfl,v,rfl,r,s'',C'',hK2,rfl,hS3,_⟩
          obtain ⟨v2,h1,h2⟩:=fin hS3 hK2
          exact ⟨v2,h1,by rw [hR];exact h2⟩
        · cases hK
      · cases hK
    cases e' with
    | norm=>exact go rfl hK
    | ret=>exact go rfl (show zIG T lo C.H fn.results.toList K g us'.size .norm s'=some res from hK)
    | exit i=>cases hK
    | goto l=>cases hK
noncomputable def zCG [BT] (P:Program) (T:Tab) (lo:Lo):List ZH→Env→Env
  | [],b=>b
  | i::r,b=>match P.funcs[i.g]? with
    | some f=>(i.g,.func (zdR T lo i f))::zCG P T lo r b
    | none=>zCG P T lo r b
noncomputable def loD [BT] (P:Program) (T:Tab) (base:Env) (L D:List ZH):Nat→Lo
  | 0=>⟨base,fun _=>none⟩
  | d+1=>⟨zCG P T (loD P T base L D d) D (zPm P T (loD P T base L D d) L base),caQ P T (loD P T base L D d) L⟩
theorem zFF [BT] (hm:P.follows .mixedOrders=true) (hT:zJ P T) {lo:Lo} (hL:Zu P lo) {base:Env} (hB:zd P base) : ∀{L:List ZH},L.all (ZH.ok P)=true→zd P (zCG P T lo L base)
  | [],_=>hB
  | i::r,h=>by
    rw [List.all_cons,Bool.and_eq_true] at h
    have hi:=h.1
    unfold ZH.ok at hi
    rw [zCG]
    cases hf:P.funcs[i.g]? with
    | none=>rw [hf] at hi;cases hi
    | some f =>
      rw [hf] at hi
      simp only [Bool.and_eq_true,decide_eq_true_eq] at hi
      dsimp only
      exact zd.cons (zFQ hm hT hL hf hi.1 hi.2) (zFF hm hT hL hB h.2)
theorem Z5 [BT] (hm:P.follows .mixedOrders=true) (hT:zJ P T) {base:Env} (hB:zd P base) {L D:List ZH} (hL:L.all (ZH.ok P)=true) (hD:D.all (ZH.ok P)=true) : ∀d,Zu P (loD P T base L D d)
  | 0=>⟨hB,fun g cf e=>by cases e⟩
  | d+1=>⟨zFF hm hT (Z5 hm hT hB hL hD d) (zFr hm hT (Z5 hm hT hB hL hD d) hB hL) hD,zOu hm hT (Z5 hm hT hB hL hD d) hL⟩
#print axioms Z5
end Go.AE
namespace Go.AE
variable {P:Program}
def orF (F G:List AV→List Obj→(AV→List Obj→Ans)→Ans):List AV→List Obj→(AV→List Obj→Ans)→Ans:=fun l H K=>match F l H K with
  | some r=>some r
  | none=>G l H K
theorem zM [BT] {g:Nat} {F G:List AV→List Obj→(AV→List Obj→Ans)→Ans} (hF:zP P g F) (hG:zP P g G):zP P g (orF F G):=by
  refine ⟨hF.1,?_⟩
  intro C args us K res Fr h1 h2 hv h3
  unfold orF at h3
  split at h3
  · rename_i r hr
    cases h3
    exact hF.2 C args us K res Fr h1 h2 hv hr
  · exact hG.2 C args us K res Fr h1 h2 hv h3
end Go.AE
namespace Go.AE
variable {P:Program} {T:Tab}
noncomputable def yy (l0:List AV) (H0:List Obj) (v:AV) (H1:List Obj):List AV→List Obj→(AV→List Obj→Ans)→Ans:=fun l H K=>cond (zfC l l0) (cond (lEq zqJ H H0) (K v H1) none) none
theorem zPw {l0 l:List AV} {H0 H:List Obj} {v:AV} {H1:List Obj} {K:AV→List Obj→Ans} {res:AV×List Obj} (h:yy l0 H0 v H1 l H K=some res):l=l0∧H=H0∧K v H1=some res:=by
  unfold yy at h
  obtain ⟨h1,h⟩:=zC h
  obtain ⟨h2,h⟩:=zC h
  exact ⟨JY _ _ h1,zcJ zCY h2,h⟩
theorem zP.told [BT] {g:Nat} {F:List AV→List Obj→(AV→List Obj→Ans)→Ans} (hC:zP P g F) {l0:List AV} {H0 H1:List Obj} {v:AV} (hr:F l0 H0 (fun v H=>some (v,H))=some (v,H1)):zP P g (yy l0 H0 v H1):=by
  refine ⟨hC.1,fun C args us K res Fr hh hF' hargs hFf => ?_⟩
  obtain ⟨rfl,hH,hK⟩:=zPw hFf
  refine (hC.2 C args us (fun v H=>some (v,H)) (v,H1) Fr hh hF' hargs (by rw [hH];exact hr)).mono ?_
  intro e w' hw
  cases e with
  | returned u =>
    obtain ⟨r,C',h1,h2⟩:=hw
    cases h1
    exact ⟨_,C',hK,h2⟩
  | panicked ch=>exact hw.elim
  | outgrown=>exact hw.elim
theorem ww [BT] (hm:P.follows .mixedOrders=true) (hT:zJ P T) {lo:Lo} (hL:Zu P lo) {i:ZH} {f:Func} (hf:P.funcs[i.g]? = some f) (hb:f.body.isSome=true) (hn:f.name ≠ "runtime.NumGoroutine") {l0:List AV} {H0 H1:List Obj} {v:AV}
    (hr:YB T lo i f l0 H0 (fun v H=>some (v,H))=some (v,H1)):zP P i.g (yy l0 H0 v H1):=(zk2 hm hT hL hf hb hn).told hr
theorem zac [BT] (hm:P.follows .mixedOrders=true) (hT:zJ P T) {lo:Lo} (hL:Zu P lo) {i:ZH} {f:Func} (hf:P.funcs[i.g]? = some f) (hb:f.body.isSome=true) (hn:f.name ≠ "runtime.NumGoroutine") {l0:List AV} {H0 H1:List Obj} {v:AV}
    (hr:zdR T lo i f l0 H0 (fun v H=>some (v,H))=some (v,H1)):zP P i.g (yy l0 H0 v H1):=(zFQ hm hT hL hf hb hn).told hr
theorem zTs [BT] (hm:P.follows .mixedOrders=true) (hT:zJ P T) {lo:Lo} (hL:Zu P lo) {i:ZH} {f:Func} (hf:P.funcs[i.g]? = some f) (hb:f.body.isSome=true) (hn:f.name ≠ "runtime.NumGoroutine") {v:AV} (hv:v.closed1=true)
    {F:List AV→(AV→Ans)→Ans} (hF : ∀l K res,F l K=some res→l=[]∧K v=some res) (hr:YB T lo i f [] [] (fun v _=>some (v,[]))=some (v,[])):zV P i.g F:=by
  have hC:=zmU hm hT hL hf hb hn
  refine ⟨hC.1,fun C args us K res hh hH hargs hFf=>hC.2 C args us K res hh hH hargs ?_⟩
  obtain ⟨rfl,hK⟩:=hF _ _ _ hFf
  unfold zpM
  rw [hr]
  simp only [zal,hv,Bool.and_self,cond_true,j0]
  exact hK
end Go.AE
