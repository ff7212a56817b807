/- The abstract evaluator AE, proved: part 3. -/
import Derived.Test.YthfoooplgceaoaaGreatDoorAe2
import Derived.OpenShut
import Derived.WalkKit
import Derived.ProofKit
import Derived.ShutString
import Derived.ChangeOld
import Derived.SizedLaws
import Derived.Carry
set_option linter.unusedVariables false
set_option linter.unusedSimpArgs false
namespace Go.AE
open Go.RowKit (Below)
variable {P:Program} {T:Tab} {E:Env} {hint:zlF}
theorem q3 {r:Option Nat} {c:Code} {Q:Exit→Act→World→Prop} {a:Act} {w:World} (h:wW r P c Q a w):(Code.loop c).wpIn (WF r) 0 P Q a w:=by
  intro b k cs hro _ _
  obtain ⟨e,a',w',hq,harr⟩:=h b k cs hro
  exact ⟨e,a',w',hq,.of_steps (.one (fenced_calm (fr:=b.atR a (.code (.loop c)::k)) (zdf r _) (zzC r (cs.length+1+0)) rfl) stepR_loop) harr⟩
theorem zdT {r:Option Nat} {c:Code} {Q:Exit→Act→World→Prop} {a:Act} {w:World} (h:c.wpIn (WF r) 0 P (Exit.then (wW r P c Q) Q) a w):wW r P c Q a w:=by
  intro b k cs hro
  obtain ⟨e,a₁,w₁,hq,harr⟩:=h b (.inLoop c::k) cs hro (zdf r _) (zzC r _)
  cases e with
  | normal =>
    obtain ⟨e₂,a₂,w₂,hq₂,harr₂⟩:=hq b k cs hro
    exact ⟨e₂,a₂,w₂,hq₂,.of_steps (StepsIn.trans harr (.one (fenced_calm (fr:=b.atR a₁ (.inLoop c::k)) (zdf r _) (zzC r (cs.length+1+0)) rfl) stepR_inLoop)) harr₂⟩
  | exit id=>exact ⟨_,a₁,w₁,hq,.pass (x := .inLoop c) rfl (fun _ _ => .inl (by simp)) harr⟩
  | goto l=>exact ⟨_,a₁,w₁,hq,.pass (x := .inLoop c) rfl (fun _ _ => .inl (by simp)) harr⟩
  | ret=>exact ⟨_,a₁,w₁,hq,.pass (x := .inLoop c) rfl (fun _ _ => .inl (by simp)) harr⟩
  | panic ch=>exact ⟨_,a₁,w₁,hq,.pass (x := .inLoop c) rfl (fun _ _ => .inl (by simp)) harr⟩
  | outgrown=>exact ⟨_,a₁,w₁,hq,.pass (x := .inLoop c) rfl (fun _ _ => .inl (by simp)) harr⟩
def zHx [BT] (P:Program) (X:Nat→Ann→Code→(Ex→St→Ans)→St→Ans):Prop :=
  ∀{r:Option Nat} {F:Fr} {nt:Nat} {x:Ann} {c:Code} {K:Ex→St→Ans} {s:St} {C:Cx} {a:Act} {stk:List (Array Value)} {res:AV×List Obj},
    X nt x (.loop c) K s=some res→zq P nt (.loop c) x→Yf r F→zB F C s a.tmps stk→nt≤a.tmps.size→Yw F a.defers→wW r P c (yG F K stk nt res) a C.w
theorem zB.blk [BT] {F:Fr} {C:Cx} {env:zT} {sk:List zT} {H:List Obj} {x y:Nat} {tmps:Array Value} {stk:List (Array Value)} (h:zB F C ⟨env,sk,H,x⟩ tmps stk):zB F C ⟨env,sk,H,y⟩ tmps stk :=
  ⟨h.H,h.heap,h.env,h.stk,h.frame⟩
theorem wW.mono {r:Option Nat} {c:Code} {Q Q':Exit→Act→World→Prop} {a:Act} {w:World} (h:wW r P c Q a w) (hq : ∀e a w,Q e a w→Q' e a w):wW r P c Q' a w :=
  fun b k cs hro=>let ⟨e,a',w',q,h⟩:=h b k cs hro;⟨e,a',w',hq _ _ _ q,h⟩
theorem wd [BT] {r:Option Nat} {nt:Nat} {F:Fr} {stk:List (Array Value)} {res:AV×List Obj} {c:Code} {f:Ann→(Ex→St→Ans)→St→Ans}
    (hf : ∀{x:Ann} {K:Ex→St→Ans} {s:St} {C:Cx} {a:Act},f x K s=some res→zq P nt c x→Yf r F→zB F C s a.tmps stk→nt≤a.tmps.size→Yw F a.defers→c.wpIn (WF r) 0 P (yG F K stk nt res) a C.w)
    {x:Ann} {K:Ex→St→Ans} {s:St} {C:Cx} {a:Act} (h:zbS f x K s=some res) (hx:zcK P nt c x (zq P nt c x)) (hro:Yf r F) (hS:zB F C s a.tmps stk) (hsz:nt≤a.tmps.size) (hd:Yw F a.defers) :
    c.wpIn (WF r) 0 P (yG F K stk nt res) a C.w:=by
  unfold zbS at h
  unfold zcK at hx
  split at h
  · rename_i k0 keep G
    rw [ZV] at h
    obtain ⟨C',hw,hS'⟩:=Y6 hS keep
    obtain ⟨s'',C'',hw',hS'',h⟩:=wA hS' h
    rw [← hw,← hw']
    exact hx h hro hS'' hsz hd
  · rename_i hne
    refine hf h ?_ hro hS hsz hd
    split at hx
    · exact absurd rfl (hne _ _ _)
    · exact hx
section
variable [BT] (hm:P.follows .mixedOrders=true) (hT:zN P T) (hE:zf P E) {inl:Nat→Ann→Code→(Ex→St→Ans)→St→Ans} (hI:qJ P inl)
  {nt:Nat} {rec:Nat→Ann→Code→(Ex→St→Ans)→St→Ans} (hR:zHx P rec) {r:Option Nat} {stk:List (Array Value)} {res:AV×List Obj}
include hm hT hE hI hR
theorem j9 : ∀(c:Code) {F:Fr} {x:Ann} {K:Ex→St→Ans} {s:St} {C:Cx} {a:Act},yh T E hint inl nt rec c x K s=some res→zq P nt c x→Yf r F→zB F C s a.tmps stk→nt≤a.tmps.size→Yw F a.defers →
    c.wpIn (WF r) 0 P (yG F K stk nt res) a C.w:=by
  intro c
  induction c with
  | skip =>
    intro F x K s C a h hx hro hS hsz hd
    rw [yh] at h
    exact wpIn_skip ⟨F,.norm,s,C,FLe.refl F,rfl,h,rfl,hS,hsz,hd⟩
  | region id ops draw =>
    intro F x K s C a h hx hro hS hsz hd
    rw [yh] at h
    cases draw with
    | false =>
      simp only [cond_false] at h
      refine wpIn_region ?_
      have:=zhX hT hE hI (Q:=yG F K stk nt res) (all:=ops) (ds:=a.defers) (rn:=r) (fun s C a' hK hS hsz hd'=>⟨F,.norm,s,C,FLe.refl F,rfl,hK,rfl,hS,hsz,by rw [hd'];exact hd⟩) ops.toList 0 (by simp) h hS hsz rfl
      rw [List.range_eq_range']
      simpa using this
    | true =>
      simp only [cond_true] at h
      have hW:Below C.w.heap.size C.w { C.w with drawn:=C.w.drawn+1 }:=⟨rfl,rfl,rfl,Nat.le_refl _,fun _ _=>rfl⟩
      have hS1:=YE hS hW
      replace h:=zI h;obtain ⟨hsel,h⟩:=h
      refine wpIn_region_any hm ?_
      refine JL (ents:=[]) (an:=zfH (YK ops ops.size)) (Q:=fun a' w'=>yG F K stk nt res .normal a' w') (fun a' w' h=>h) _ _ _ _ ?_
      refine jG hT hE hI hsel (ds:=a.defers) (fun s C a' hK hS hsz hd' => ?_) ops.size _ [] [] ?_ (by rw [Z2]) h hS1 hsz rfl
      · obtain ⟨s',C',hw,hS',hK⟩:=zOP hS hK
        rw [← hw]
        exact ⟨F,.norm,s',C',FLe.refl F,rfl,hK,rfl,hS',hsz,by rw [hd'];exact hd⟩
      intro j oj _ hl
      rw [getD_replicate_false] at hl
      cases hl
  | seq p q ihx ihy =>
    intro F x K s C a h hx hro hS hsz hd
    rw [yh] at h
    refine wpIn_seq (wpIn_mono (wd (fun h hx hro hS hsz hd=>ihx h hx hro hS hsz hd) h hx.1 hro hS hsz hd) ?_)
    rintro e a' w' ⟨F',e',s',C',hle,rfl,hK,rfl,hS',hsz',hd'⟩
    cases e' with
    | norm=>exact wpIn_mono (wd (fun h hx hro hS hsz hd=>ihy h hx hro hS hsz hd) hK hx.2 (hro.le hle) hS' hsz' hd') fun _ _ _ h=>h.of_le hle
    | exit i=>exact ⟨F',.exit i,s',C',hle,rfl,hK,rfl,hS',hsz',hd'⟩
    | ret=>exact ⟨F',.ret,s',C',hle,rfl,hK,rfl,hS',hsz',hd'⟩
    | goto l=>exact ⟨F',.goto l,s',C',hle,rfl,hK,rfl,hS',hsz',hd'⟩
  | cond c p q ihx ihy =>
    intro F x K s C a h hx hro hS hsz hd
    rw [yh] at h
    split at h
    · rename_i p hp
      have hv:=zR (C:=C) hS.env c
      rw [hp,VRel] at hv
      refine wpIn_cond hv ?_
      cases p with
      | true=>exact wd (fun h hx hro hS hsz hd=>ihx h hx hro hS hsz hd) h hx.1 hro hS hsz hd
      | false=>exact wd (fun h hx hro hS hsz hd=>ihy h hx hro hS hsz hd) h hx.2 hro hS hsz hd
    · cases h
  | block id c ih =>
    intro F x K s C a h hx hro hS hsz hd
    obtain ⟨env,sk,H,blk⟩:=s
    rw [yh] at h
    refine wpIn_block (wpIn_mono (wd (fun h hx hro hS hsz hd=>ih h hx hro hS hsz hd) h hx hro hS.blk hsz hd) ?_)
    rintro e a' w' ⟨F',e',s',C',hle,rfl,hK,rfl,hS',hsz',hd'⟩
    cases e' with
    | norm=>exact ⟨F',.norm,s',C',hle,rfl,hK,rfl,hS',hsz',hd'⟩
    | exit i =>
      simp only at hK
      show if i=id then _ else _
      by_cases hi:i=id
      · subst hi
        rw [if_pos rfl]
        rw [Nat.beq_refl,cond_true] at hK
        exact ⟨F',.norm,s',C',hle,rfl,hK,rfl,hS',hsz',hd'⟩
      · rw [if_neg hi]
        rw [zhi hi,cond_false] at hK
        exact ⟨F',.exit i,s',C',hle,rfl,hK,rfl,hS',hsz',hd'⟩
    | ret=>exact ⟨F',.ret,s',C',hle,rfl,hK,rfl,hS',hsz',hd'⟩
    | goto l=>exact ⟨F',.goto l,s',C',hle,rfl,hK,rfl,hS',hsz',hd'⟩
  | loop c ih =>
    intro F x K s C a h hx hro hS hsz hd
    rw [yh] at h
    obtain ⟨s',C',hw,hS',h⟩:=zfL hS h
    rw [← hw]
    split at h
    · rename_i G hG
      exact q3 (hx.2 G hG h hro hS' hsz hd)
    · exact q3 (hR h hx hro hS' hsz hd)
  | exit id =>
    intro F x K s C a h hx hro hS hsz hd
    rw [yh] at h
    exact wpIn_exit ⟨F,.exit id,s,C,FLe.refl F,rfl,h,rfl,hS,hsz,hd⟩
  | ret =>
    intro F x K s C a h hx hro hS hsz hd
    rw [yh] at h
    exact wpIn_ret ⟨F,.ret,s,C,FLe.refl F,rfl,h,rfl,hS,hsz,hd⟩
  | label l =>
    intro F x K s C a h hx hro hS hsz hd
    rw [yh] at h
    exact wpIn_label ⟨F,.norm,s,C,FLe.refl F,rfl,h,rfl,hS,hsz,hd⟩
  | _=>intro F x K s C a h hx hro hS hsz hd;simp [yh] at h
end
section
variable [BT] (hm:P.follows .mixedOrders=true) (hT:zN P T) (hE:zf P E)
include hm hT hE
theorem j2 {inl:Nat→Ann→Code→(Ex→St→Ans)→St→Ans} (hI:qJ P inl) : ∀n:Nat,qJ P (zx T E hint inl n)∧zHx P (zx T E hint inl n)
  | 0=>by
    constructor
    · intro r F nt x c K s C a stk res h _ _ _ _ _
      rw [zx] at h
      cases h
    · intro r F nt x c K s C a stk res h _ _ _ _ _
      rw [zx] at h
      cases h
  | n+1=>by
    obtain ⟨ih1,ih2⟩:=j2 hI n
    have hL:zHx P (zx T E hint inl (n+1)):=by
      intro r F nt x c K s C a stk res h hx hro hS hsz hd
      rw [zx] at h
      unfold z0X at h
      refine zdT (wpIn_mono (wd (fun h hx hro hS hsz hd=>j9 hm hT hE hI ih2 c h hx hro hS hsz hd) h hx.1 hro hS hsz hd) ?_)
      rintro e a' w' ⟨F',e',s',C',hle,rfl,hK,rfl,hS',hsz',hd'⟩
      cases e' with
      | norm =>
        obtain ⟨env,sk,H,blk⟩:=s'
        simp only at hK
        rw [yh] at hK
        obtain ⟨s'',C'',hw,hS'',hK⟩:=zfL (s:=⟨env,sk,H,s.blk⟩) hS'.blk hK
        refine wW.mono ?_ (fun _ _ _ h=>yG.of_le hle h)
        show wW r P c (yG F' K stk nt res) a' C'.w
        rw [← hw]
        split at hK
        · rename_i G hG
          exact hx.2 G hG hK (hro.le hle) hS'' hsz' hd'
        · exact ih2 hK hx (hro.le hle) hS'' hsz' hd'
      | exit i=>exact ⟨F',.exit i,s',C',hle,rfl,hK,rfl,hS',hsz',hd'⟩
      | ret=>exact ⟨F',.ret,s',C',hle,rfl,hK,rfl,hS',hsz',hd'⟩
      | goto l=>exact ⟨F',.goto l,s',C',hle,rfl,hK,rfl,hS',hsz',hd'⟩
    refine ⟨?_,hL⟩
    intro r F nt x c K s C a stk res h hx hro hS hsz hd
    cases c with
    | loop b=>exact q3 (hL h hx hro hS hsz hd)
    | rangeFunc g ps as b =>
      cases x with
      | rnd y=>exact hx.elim
      | _=>rw [zx] at h <;> first | exact j9 hm hT hE hI ih2 _ h hx hro hS hsz hd | (intro y e;cases e)
    | _=>rw [zx] at h <;> first | exact j9 hm hT hE hI ih2 _ h hx hro hS hsz hd | (intro b hb;cases hb;done) | (intro _ _ _ b hb;cases hb;done)
theorem qk : ∀(d n:Nat),qJ P (zy T E hint d n)
  | 0,n=>by
    intro h hx hro hS hsz hd
    rw [zy] at h
    refine (j2 (hint:=hint) hm hT hE (inl:=fun _ _ _ _ _=>none) ?_ n).1 h hx hro hS hsz hd
    intro r F nt x c K s C a stk res h _ _ _ _ _
    cases h
  | d+1,n=>by
    intro h hx hro hS hsz hd
    rw [zy] at h
    exact (j2 (hint:=hint) hm hT hE (qk d n) n).1 h hx hro hS hsz hd
end
def zcE (o:Obj) (t:Nat):AV :=
  match o with
  | .mp _ _ _ => .map t
  | _ => .ptr t 0
def zdq (o:Obj) (b:Nat):Value :=
  match o with
  | .mp _ _ _ => .map (some b)
  | _ => .pointer (some ⟨b,0,none⟩)
theorem zs9 : ∀(l:List Obj) (n t:Nat),Zm (yd n l) t = .unk∨(Zm (yd n l) t=zcE (zp l (t - n)) t∧n≤t∧(zp l (t - n)).isBlk=true)
  | [],n,t => .inl rfl
  | o::r,n,t=>by
    have ih:=zs9 r (n+1) t
    have step:(Zm (yd (n+1) r) t=zcE (zp r (t - (n+1))) t∧n+1≤t∧(zp r (t - (n+1))).isBlk=true)→Zm (yd (n+1) r) t=zcE (zp (o::r) (t - n)) t∧n≤t∧(zp (o::r) (t - n)).isBlk=true:=by
      rintro ⟨h0,h1,h2⟩
      rw [show t - n=(t - (n+1))+1 by omega,zp]
      exact ⟨h0,by omega,h2⟩
    cases o with
    | cells cs =>
      rw [yd,Zu]
      split
      · rename_i e
        subst e
        exact .inr ⟨by rw [Nat.sub_self,zp];rfl,Nat.le_refl _,by rw [Nat.sub_self,zp];rfl⟩
      · rcases ih with h | h
        · exact .inl h
        · exact .inr (step h)
    | bcells cs =>
      rw [yd,Zu]
      split
      · rename_i e
        subst e
        exact .inr ⟨by rw [Nat.sub_self,zp];rfl,Nat.le_refl _,by rw [Nat.sub_self,zp];rfl⟩
      · rcases ih with h | h
        · exact .inl h
        · exact .inr (step h)
    | btold cs =>
      rw [yd,Zu]
      split
      · rename_i e
        subst e
        exact .inr ⟨by rw [Nat.sub_self,zp];rfl,Nat.le_refl _,by rw [Nat.sub_self,zp];rfl⟩
      · rcases ih with h | h
        · exact .inl h
        · exact .inr (step h)
    | mp kk tt ll =>
      rw [yd,Zu]
      split
      · rename_i e
        subst e
        exact .inr ⟨by rw [Nat.sub_self,zp];rfl,Nat.le_refl _,by rw [Nat.sub_self,zp];rfl⟩
      · rcases ih with h | h
        · exact .inl h
        · exact .inr (step h)
    | _ =>
      rw [yd]
      · rcases ih with h | h
        · exact .inl h
        · exact .inr (step h)
      all_goals simp
theorem z17 {n:Nat} {a:AV} (h:zkN n a=true):a = .ptr n 0:=by
  unfold zkN at h
  split at h
  · rw [Bool.and_eq_true] at h
    rw [Nat.eq_of_beq_eq_true h.1,Nat.eq_of_beq_eq_true h.2]
  · cases h
theorem zU5 {n:Nat} {a:AV} (h:zxG n a=true):a = .map n:=by
  unfold zxG at h
  split at h
  · rw [Nat.eq_of_beq_eq_true h]
  · cases h
theorem zbj {env:zT} : ∀(l:List Obj) (n:Nat),yb env n l=true → ∀j,(zp l j).isBlk=true→Zm env (n+j)=zcE (zp l j) (n+j)
  | [],n,_,j,hj=>by rw [zp] at hj;cases hj
  | o::r,n,h,j,hj=>by
    cases j with
    | zero =>
      rw [zp] at hj ⊢
      cases o <;> first | (cases hj;done) | skip
      case mp kk tt ll =>
        rw [yb,Bool.and_eq_true] at h
        exact zU5 h.1
      all_goals
        rw [yb,Bool.and_eq_true] at h
        exact z17 h.1
    | succ j =>
      rw [zp] at hj ⊢
      have hr:yb env (n+1) r=true:=by
        cases o with
        | cells cs=>rw [yb,Bool.and_eq_true] at h;exact h.2
        | bcells cs=>rw [yb,Bool.and_eq_true] at h;exact h.2
        | btold cs=>rw [yb,Bool.and_eq_true] at h;exact h.2
        | mp kk tt ll=>rw [yb,Bool.and_eq_true] at h;exact h.2
        | _ =>
          rw [yb] at h
          · exact h
          all_goals simp
      have:=zbj r (n+1) hr j hj
      rwa [show n+1+j=n+(j+1) by omega] at this
def YB (C:Cx):Array Value:=((List.range C.H.length).map fun i=>match C.ρ i with | some b=>zdq (zp C.H i) b | none=>undef).toArray
theorem zaN {C:Cx} {i b:Nat} (hi:i<C.H.length) (hb:C.ρ i=some b):(YB C).getD i undef=zdq (zp C.H i) b:=by
  simp [YB,hi,hb]
theorem Wn {H:List Obj} {i:Nat} (h:(zp H i).isBlk=true):zA H i:=by
  unfold zA
  intro e
  rw [e] at h
  cases h
theorem Zam [BT] {C:Cx} (hh:zY C) {i:Nat} (h:(zp C.H i).isBlk=true) : ∃b,C.ρ i=some b:=by
  cases hg:zp C.H i <;> rw [hg] at h <;> first | (cases h;done) | skip
  case cells cs =>
    obtain ⟨b,_,_,_,hb,_⟩:=qH hh hg
    exact ⟨b,hb⟩
  case bcells cs =>
    obtain ⟨b,_,_,hb,_⟩:=zda hh hg
    exact ⟨b,hb⟩
  case btold cs =>
    obtain ⟨b,_,_,hb,_⟩:=zDc hh hg
    exact ⟨b,hb⟩
  case mp kk tt ll =>
    have:=hh.obj i
    rw [hg] at this
    obtain ⟨b,_,_,hb,_⟩:=this
    exact ⟨b,hb⟩
theorem zVD {C:Cx} {o:Obj} {t b:Nat} (hb:C.ρ t=some b) (hl:zA C.H t):VRel C (zcE o t) (zdq o b):=by
  cases o <;> (simp only [zcE,zdq];rw [VRel];exact ⟨b,hb,rfl,hl⟩)
theorem zfR {C:Cx} {o:Obj} {t b:Nat} (h:VRel C (zcE o t) (zdq o b)):C.ρ t=some b∧zA C.H t:=by
  cases o <;>
    (simp only [zcE,zdq] at h
     rw [VRel] at h
     obtain ⟨b',hb',e,hl⟩:=h
     have:b=b':=by simpa using e
     subst this
     exact ⟨hb',hl⟩)
theorem zj3 [BT] {C:Cx} (hh:zY C):Zq C (yd 0 C.H) (YB C):=by
  intro t
  rcases zs9 C.H 0 t with h | ⟨h,_,hg⟩
  · rw [h,VRel];trivial
  · rw [Nat.sub_zero] at hg h
    obtain ⟨b,hb⟩:=Zam hh hg
    have hl:=Wn hg
    rw [h,zaN (Z7 hl) hb]
    exact zVD hb hl
section
variable [BT] (hm:P.follows .mixedOrders=true) (hT:zN P T) (hE:zf P E)
include hm hT hE
theorem zmd {F:Fr} {C:Cx} (hh:zY C) (hF:zK F C) {g:Nat} {fn:Func} {c:Code} (hf:P.funcs[g]? = some fn) (hb:fn.body=some c) {args:List AV} {us:Array Value} (hargs:VRels C args us.toList)
    {d n:Nat} {x:Ann} (hx:zq P fn.ntmps c x) {K:AV→List Obj→Ans} {res:AV×List Obj} (h:fnE T E hint d n g fn.ntmps fn.results.toList x c args C.H K=some res) :
    Calls P g us C.w fun
      | .returned v,w' => ∃r C',K r C'.H=some res∧C'.w=w'∧zY C'∧zK F C'∧VRel C' r v∧(∀j b,(zp C.H j).isBlk=true→C.ρ j=some b→C'.ρ j=some b∧zA C'.H j)
      | _,_=>False:=by
  unfold fnE at h
  obtain ⟨F1,hF1⟩ : ∃F1:Fr,F1={ F.re C with base:=C.w.heap.size }:=⟨_,rfl⟩
  have hF1C:zK F1 C:=by rw [hF1];exact ⟨rfl,rfl,rfl,Nat.le_refl _,fun _ _ _=>rfl,fun _ h=>h,fun _ h => .inl h,fun i b hl hb => .inl ⟨i,hl,hb⟩⟩
  have hback : ∀C',zK F1 C'→zK F C':=fun C' h=>(zcP hF).frame C' (by rw [hF1] at h;exact ⟨h.os,h.tape,h.output,h.size,h.keep,h.r0,h.rN,h.own⟩)
  have hb1:F1.base=C.w.heap.size:=by rw [hF1]
  have hw1:F.w0.heap.size≤C.w.heap.size:=hF.size
  have hS:zB F1 C { env:=ZL 0 args,stk:=[yd 0 C.H],H:=C.H,blk:=Nat.mul g 4096 } (us++Array.replicate (fn.ntmps - us.size) undef) [YB C] :=
    ⟨rfl,hh,Jq hargs _,by rw [ZG];exact ⟨_,[],rfl,zj3 hh,by rw [ZG]⟩,hF1C⟩
  refine (callsIn_wide (n:=0)).1 (callsIn_of_wp_marks hf hb trivial (wpIn_mono (qk (hint:=hint) hm hT hE d n (r:=none) (a:={ tmps:=us++Array.replicate (fn.ntmps - us.size) undef,defers:=[] }) h hx (Yf.none _) hS (by simp;omega) ⟨by rw [hF1];exact Nat.le_refl _,trivial⟩) ?_))
  rintro e a' w' ⟨F2,e',s',C0,hle,rfl,hK,rfl,hS0,hsz,hd⟩
  have fin:(match s'.stk with
      | [env]=>cond (yb env 0 C.H) (Zv T s' fn.results.toList [] fun vs=>ziN C.H.length (y2 vs) s'.H K) none
      | _=>none)=some res → ∀W,Priv F2.base C0 W →
      ∃v,(results fn a'.tmps).run P W = .ok v W ∧ ∃r C'',K r C''.H=some res∧C''.w=W∧zY C''∧zK F C''∧VRel C'' r v∧(∀j b,(zp C.H j).isBlk=true→C.ρ j=some b→C''.ρ j=some b∧zA C''.H j):=by
    intro hr W hW
    obtain ⟨C',hC'⟩ : ∃C',C'=C0.at W:=⟨_,rfl⟩
    have hS':zB F C' s' a'.tmps [YB C]:=by
      rw [hC']
      exact yi (F:=F) ⟨hS0.H,hS0.heap,hS0.env,hS0.stk,hback _ (hle.frame _ hS0.frame)⟩ (by rw [hle.base,hb1];exact hw1) hW
    have hCw:C'.w=W:=by rw [hC'];rfl
    rw [← hCw]
    split at hr
    · rename_i env hst
      replace hr:=zI hr;obtain ⟨hro,hr⟩:=hr
      obtain ⟨rs,v,h1,h2,h3⟩:=YP hT hS' hr
      rw [← hS'.H] at h1
      obtain ⟨r',C'',hw'',hh'',hF'',hv'',hK'',hkeep⟩:=zfS hS'.heap hS'.frame h3 h1
      refine ⟨v,h2,r',C'',hK'',hw'',hh'',hF'',hv'',?_⟩
      intro j b hg hbj
      have hl:zA C.H j:=Wn hg
      have hlt:=Z7 hl
      have hst':=hS'.stk
      rw [hst,ZG] at hst'
      obtain ⟨v',vs',he,henv,_⟩:=hst'
      cases he
      have hv:=henv j
      have hroot:=zbj C.H 0 hro j hg
      rw [Nat.zero_add] at hroot
      rw [hroot,zaN hlt hbj] at hv
      obtain ⟨hb',hlv⟩:=zfR hv
      exact hkeep j hlt b hb' hlv
    · cases hr
  cases e' with
  | norm=>exact yA _ F2 C0 hd.2 hS0.frame (fun W hW=>fin hK W hW)
  | ret=>exact yA _ F2 C0 hd.2 hS0.frame (fun W hW=>fin hK W hW)
  | exit i=>cases hK
  | goto l=>cases hK
theorem z3L {g:Nat} {fn:Func} {c:Code} (hf:P.funcs[g]? = some fn) (hb:fn.body=some c) (hn:fn.name ≠ "runtime.NumGoroutine") {Ff:List AV→List Obj→(AV→List Obj→Ans)→Ans} {d:Nat} {x:Ann} (hx:zq P fn.ntmps c x)
    (h : ∀args H K res,Ff args H K=some res → ∃n,fnE T E hint d n g fn.ntmps fn.results.toList x c args H K=some res):zO P g Ff:=by
  refine ⟨⟨fn,hf,by rw [hb];rfl,hn⟩,fun C args us K res Fr hh hF hargs hFf => ?_⟩
  obtain ⟨n,hn⟩:=h args C.H K res hFf
  exact zmd (hint:=hint) hm hT hE hh hF hf hb hargs hx hn
end
def AV.scal:AV→Bool
  | .bool _=>true
  | .int _ _=>true
  | .str _=>true
  | .nilp=>true
  | .nils=>true
  | .nilm=>true
  | .nilf=>true
  | .nili=>true
  | _=>false
mutual
def AV.closed1:AV→Bool
  | .tup vs=>AV.closedL vs
  | .agg vs=>AV.closedL vs
  | .ifc _ v=>v.closed1
  | v=>v.scal
def AV.closedL:List AV→Bool
  | []=>true
  | v::r=>v.closed1&&AV.closedL r
end
mutual
def y6:AV→Value
  | .tup vs => .tuple (zdY vs).toArray
  | .agg vs => .agg (zdY vs).toArray
  | .ifc t v => .iface t (y6 v)
  | v=>zbW v
def zdY:List AV→List Value
  | []=>[]
  | v::r=>y6 v::zdY r
end
theorem Jz {C:Cx} {a:AV} {v:Value} (hc:a.scal=true):VRel C a v↔v=zbW a:=by
  cases a <;> first | (cases hc;done) | (rw [VRel];rfl)
mutual
theorem Yd {C:Cx} : ∀{a:AV} {v:Value},a.closed1=true→(VRel C a v↔v=y6 a)
  | .tup vs,v,hc=>by
    rw [AV.closed1] at hc
    rw [VRel,y6]
    constructor
    · rintro ⟨us,rfl,h⟩
      congr 1
      rw [← ZP us,(jD hc).1 h]
    · intro e
      exact ⟨_,e,(jD hc).2 rfl⟩
  | .agg vs,v,hc=>by
    rw [AV.closed1] at hc
    rw [VRel,y6]
    constructor
    · rintro ⟨us,rfl,h⟩
      congr 1
      rw [← ZP us,(jD hc).1 h]
    · intro e
      exact ⟨_,e,(jD hc).2 rfl⟩
  | .ifc t x,v,hc=>by
    rw [AV.closed1] at hc
    rw [VRel,y6]
    constructor
    · rintro ⟨y,rfl,h⟩
      rw [(Yd hc).1 h]
    · intro e
      exact ⟨_,e,(Yd hc).2 rfl⟩
  | .bool _,v,_=>by rw [y6];exact Jz rfl;all_goals simp
  | .int _ _,v,_=>by rw [y6];exact Jz rfl;all_goals simp
  | .str _,v,_=>by rw [y6];exact Jz rfl;all_goals simp
  | .nilp,v,_=>by rw [y6];exact Jz rfl;all_goals simp
  | .nils,v,_=>by rw [y6];exact Jz rfl;all_goals simp
  | .nilm,v,_=>by rw [y6];exact Jz rfl;all_goals simp
  | .nilf,v,_=>by rw [y6];exact Jz rfl;all_goals simp
  | .nili,v,_=>by rw [y6];exact Jz rfl;all_goals simp
  | .unk,v,hc=>by simp [AV.closed1,AV.scal] at hc
  | .gh _,v,hc=>by simp [AV.closed1,AV.scal] at hc
  | .ptr _ _,v,hc=>by simp [AV.closed1,AV.scal] at hc
  | .eptr _ _ _,v,hc=>by simp [AV.closed1,AV.scal] at hc
  | .rptr _ _ _,v,hc=>by simp [AV.closed1,AV.scal] at hc
  | .own _,v,hc=>by simp [AV.closed1,AV.scal] at hc
  | .sub _ _ _ _,v,hc=>by simp [AV.closed1,AV.scal] at hc
  | .ro _ _,v,hc=>by simp [AV.closed1,AV.scal] at hc
  | .map _,v,hc=>by simp [AV.closed1,AV.scal] at hc
  | .fn _ _ _,v,hc=>by simp [AV.closed1,AV.scal] at hc
theorem jD {C:Cx} : ∀{l:List AV} {vs:List Value},AV.closedL l=true→(VRels C l vs↔vs=zdY l)
  | [],vs,_=>by rw [VRels,zdY]
  | a::r,vs,hc=>by
    rw [AV.closedL,Bool.and_eq_true] at hc
    rw [VRels,zdY]
    constructor
    · rintro ⟨v,vs',rfl,h1,h2⟩
      rw [(Yd hc.1).1 h1,(jD hc.2).1 h2]
    · intro e
      exact ⟨y6 a,zdY r,e,(Yd hc.1).2 rfl,(jD hc.2).2 rfl⟩
end
section
variable [BT] (hm:P.follows .mixedOrders=true) (hT:zN P T) (hE:zf P E)
include hm hT hE
end
def zF:List Nat→Code→Code
  | [],c=>c
  | 0::r,.seq a _=>zF r a
  | _::r,.seq _ b=>zF r b
  | 0::r,.cond _ a _=>zF r a
  | _::r,.cond _ _ b=>zF r b
  | _::r,.block _ c=>zF r c
  | _::r,.loop c=>zF r c
  | _::r,.rangeFunc _ _ _ c=>zF r c
  | _::_,c=>c
section
variable [BT] (hm:P.follows .mixedOrders=true) (hT:zN P T) (hE:zf P E)
include hm hT hE
end
section
variable [BT] (hm:P.follows .mixedOrders=true) (hT:zN P T) (hE:zf P E)
include hm hT hE
end
end Go.AE
namespace Go.AE
variable {P:Program} {T:Tab}
def zCK (T:Tab) (g:Ty→Nat→Bool) (y:Ty) (t:Nat):Bool :=
  match Tab.get T t with
  | some i=>cond i.isAgg (g (.st y) t) (g y t)
  | none=>false
def zeW:Ty→Bool
  | .unit=>true
  | _=>false
def zhM (T:Tab) (g:Ty→Nat→Bool):Ty→List (Nat×Nat)→Nat→Bool
  | y,[],_=>zeW y
  | y,[(t,off)],o=>Nat.beq off o&&zCK T g y t
  | .pair a b,(t,off)::r,o=>Nat.beq off o&&zCK T g a t&&zhM T g b r (o+a.size)
  | _,_::_::_,_=>false
def ziF (T:Tab) (g:Ty→Nat→Bool) (t:Nat):Ty→Nat→Bool
  | y,0=>zeW y
  | y,1=>zCK T g y t
  | .pair a b,n+2=>zCK T g a t&&ziF T g t b (n+1)
  | _,_+2=>false
def fit (T:Tab):Nat→Ty→Nat→Bool
  | 0,_,_=>false
  | n+1,y,t=>match Tab.get T t with
    | none=>false
    | some i=>Nat.beq i.size y.size&&(match y,i.k with
      | .int k,.sc=>match zb3 i with
        | some k'=>match decEq k' k with | isTrue _=>true | isFalse _=>false
        | none=>false
      | .bool,.sc=>match i.zero with
        | [.bool _]=>true
        | _=>false
      | .str,.sc=>qy i
      | .list e,.slice e'=>fit T n e e'&&Nat.ble 1 e.size
      | .st f,.struct fs=>zhM T (fit T n) f fs 0
      | .st f,.array m e=>ziF T (fit T n) e f m
      | _,_=>false)
def Ty.wf:(t:Ty)→t.T→Prop
  | .int k,n=>k.min≤n∧n≤k.max
  | .bool,_=>True
  | .str,s=>s.length≤maxLen
  | .unit,_=>True
  | .st f,x=>f.wf x
  | .pair a b,x=>a.wf x.1∧b.wf x.2
  | .list e,l=>l.length≤maxLen ∧ ∀x ∈ l,e.wf x
theorem zHB [BT] {n:Nat} {y:Ty} {t:Nat} (hT:zN P T) (h:fit T n y t=true):P.cellsOf t=y.size:=by
  cases n with
  | zero=>cases h
  | succ n =>
    rw [fit] at h
    split at h
    · cases h
    · rename_i i hi
      obtain ⟨d,info,z,hok⟩:=hT t i hi
      simp only [Bool.and_eq_true] at h
      have:=Nat.eq_of_beq_eq_true h.1
      simp [Program.cellsOf,hok.inf,hok.size,this]
section
variable {H:Type} {enc:TypeId×Value→H} {w:World} {base:Nat} {spare:Nat→Bool} {held:Bool}
abbrev Whole (w:World):Nat→Prop:=fun b=>b<w.heap.size
def zG9 (P:Program) (enc:TypeId×Value→H) (w:World) (base:Nat) (spare:Nat→Bool) (held:Bool) (g:Ty→Nat→Bool):Prop :=
  ∀(y:Ty) (t:Nat) (m:Nat) (cs:List Value) (x:DataW H×List MemPlace),g y t=true→DataW.trod enc P w base spare held m t cs=some x → ∃v:y.T,zJ (Whole w) w y v cs∧y.wf v
theorem zfk [BT] {g:Ty→Nat→Bool} (hT:zN P T) (hg:zG9 P enc w base spare held g) (hs : ∀y t,g y t=true→P.cellsOf t=y.size) {y:Ty} {t m:Nat} {cs:List Value} {x:DataW H×List MemPlace}
    (h:zCK T g y t=true) (hx:DataW.trod enc P w base spare held m t cs=some x):P.cellsOf t=y.size ∧ ∃v:y.T,zJ (Whole w) w y v cs∧y.wf v:=by
  unfold zCK at h
  split at h
  · rename_i i hi
    cases ha:i.isAgg with
    | true =>
      rw [ha,cond_true] at h
      obtain ⟨v,hv,hw⟩:=hg (.st y) t m cs x h hx
      exact ⟨(hs (.st y) t h).trans rfl,v,hv,hw⟩
    | false =>
      rw [ha,cond_false] at h
      obtain ⟨v,hv,hw⟩:=hg y t m cs x h hx
      exact ⟨hs _ _ h,v,hv,hw⟩
  · cases h
theorem zDp {y:Ty} (h:zeW y=true):y = .unit:=by
  cases y <;> first | rfl | cases h
theorem zwC [BT] {g:Ty→Nat→Bool} (hT:zN P T) (hg:zG9 P enc w base spare held g) (hs : ∀y t,g y t=true→P.cellsOf t=y.size) {cs:List Value} {m:Nat} :
    ∀(fs:List (Nat×Nat)) (y:Ty) (o:Nat),zhM T g y fs o=true→cs.length=o+y.size →
      (∀f ∈ fs,∃x,DataW.trod enc P w base spare held m f.1 ((cs.drop f.2).take (P.cellsOf f.1))=some x) → ∃v:y.T,zJ (Whole w) w y v (cs.drop o)∧y.wf v
  | [],y,o,h,hl,_=>by
    have hu:zeW y=true:=by rw [zhM] at h;exact h
    obtain rfl:=zDp hu
    refine ⟨(),?_,trivial⟩
    rw [zJ]
    simp only [Ty.size] at hl
    rw [List.drop_eq_nil_iff]
    omega
  | [(t,off)],y,o,h,hl,hf=>by
    rw [zhM] at h
    simp only [Bool.and_eq_true] at h
    obtain rfl:=Nat.eq_of_beq_eq_true h.1
    obtain ⟨x,hx⟩:=hf (t,off) (by simp)
    obtain ⟨h1,v,hv,hw⟩:=zfk hT hg hs h.2 hx
    refine ⟨v,?_,hw⟩
    dsimp only at hv
    rw [h1,List.take_of_length_le (by simp;omega)] at hv
    exact hv
  | (t,off)::q::r,y,o,h,hl,hf=>by
    cases y with
    | pair a b =>
      rw [zhM] at h
      · simp only [Bool.and_eq_true] at h
        obtain ⟨⟨ho,ha⟩,hb⟩:=h
        obtain rfl:=Nat.eq_of_beq_eq_true ho
        obtain ⟨x,hx⟩:=hf (t,off) (by simp)
        obtain ⟨h1,v,hv,hw⟩:=zfk hT hg hs ha hx
        obtain ⟨v',hv',hw'⟩:=zwC hT hg hs (q::r) b (off+a.size) hb (by rw [hl,Ty.size];omega) (fun f hm=>hf f (List.mem_cons_of_mem _ hm))
        refine ⟨(v,v'),?_,hw,hw'⟩
        rw [zJ]
        dsimp only at hv
        rw [h1] at hv
        refine ⟨_,_,?_,hv,hv'⟩
        rw [← List.drop_drop,List.take_append_drop]
      · simp
    | _=>simp [zhM] at h
theorem zt0 [BT] {g:Ty→Nat→Bool} (hT:zN P T) (hg:zG9 P enc w base spare held g) (hs : ∀y t,g y t=true→P.cellsOf t=y.size) {t m:Nat} :
    ∀(n:Nat) (y:Ty) (cs:List Value),ziF T g t y n=true→cs.length=y.size →
      (∀i,i<n → ∃x,DataW.trod enc P w base spare held m t ((cs.drop (i*P.cellsOf t)).take (P.cellsOf t))=some x) → ∃v:y.T,zJ (Whole w) w y v cs∧y.wf v
  | 0,y,cs,h,hl,_=>by
    have hu:zeW y=true:=by rw [ziF] at h;exact h
    obtain rfl:=zDp hu
    refine ⟨(),?_,trivial⟩
    rw [zJ]
    simp only [Ty.size] at hl
    exact List.length_eq_zero_iff.1 hl
  | 1,y,cs,h,hl,hf=>by
    rw [ziF] at h
    obtain ⟨x,hx⟩:=hf 0 (by omega)
    obtain ⟨h1,v,hv,hw⟩:=zfk hT hg hs h hx
    refine ⟨v,?_,hw⟩
    rw [h1,Nat.zero_mul,List.drop_zero,List.take_of_length_le (by omega)] at hv
    exact hv
  | n+2,y,cs,h,hl,hf=>by
    cases y with
    | pair a b =>
      rw [ziF] at h
      simp only [Bool.and_eq_true] at h
      obtain ⟨ha,hb⟩:=h
      obtain ⟨x,hx⟩:=hf 0 (by omega)
      obtain ⟨h1,v,hv,hw⟩:=zfk hT hg hs ha hx
      rw [Nat.zero_mul,List.drop_zero] at hv
      obtain ⟨v',hv',hw'⟩:=zt0 hT hg hs (n+1) b (cs.drop (P.cellsOf t)) hb (by rw [List.length_drop,hl,Ty.size,h1];omega) (fun i hi=>by
        obtain ⟨x,hx⟩:=hf (i+1) (by omega)
        refine ⟨x,?_⟩
        rw [List.drop_drop,show P.cellsOf t+i*P.cellsOf t=(i+1)*P.cellsOf t by rw [Nat.add_mul];omega]
        exact hx)
      refine ⟨(v,v'),?_,hw,hw'⟩
      rw [zJ]
      exact ⟨_,_,(List.take_append_drop _ _).symm,hv,hv'⟩
    | _=>simp [ziF] at h
theorem zKS {a:Addr} {n:Nat} (h:a.spot=none):a.add n=⟨a.block,a.off+n,none⟩:=by
  unfold Addr.add
  split
  · rename_i e;subst e;cases a;simp_all
  · rfl
theorem z13 {a:Addr} {u:Value} (h:w.cell? a=some u):a.spot=none:=by
  unfold World.cell? at h
  split at h
  · split at h
    · cases h
    · rename_i hs;simpa using hs
  · cases h
theorem z9m {a:Addr} {u:Value} (h:w.cell? a=some u):a.block<w.heap.size:=by
  unfold World.cell? at h
  split at h
  · rename_i e;exact (Array.getElem?_eq_some_iff.1 e).1
  · cases h
theorem zqX {α:Type} {p:Nat→α→Prop} : ∀(n:Nat),(∀i,i<n → ∃a,p i a) → ∃l:List α,l.length=n ∧ ∀i a,l[i]? = some a→p i a
  | 0,_=>⟨[],rfl,by simp⟩
  | n+1,h=>by
    obtain ⟨l,hl,hp⟩:=zqX n fun i hi=>h i (by omega)
    obtain ⟨a,ha⟩:=h n (by omega)
    refine ⟨l++[a],by simp [hl],fun i x hi => ?_⟩
    rcases Nat.lt_trichotomy i n with hlt | rfl | hgt
    · rw [List.getElem?_append_left (by omega)] at hi
      exact hp i x hi
    · rw [List.getElem?_append_right (by omega),hl] at hi
      simp at hi
      subst hi
      exact ha
    · rw [List.getElem?_eq_none (by simp;omega)] at hi
      cases hi
theorem zMi [BT] (hT:zN P T) : ∀n:Nat,zG9 P enc w base spare held (fit T n)
  | 0=>fun y t m cs x h=>by cases h
  | n+1=>fun y t m cs x h hx=>by
    have ih:=zMi hT n
    have hs : ∀y t,fit T n y t=true→P.cellsOf t=y.size:=fun y t h=>zHB hT h
    have hsz:=zHB hT h
    rw [fit] at h
    split at h
    · cases h
    · rename_i i hi
      obtain ⟨d,info,z,hok⟩:=hT t i hi
      simp only [Bool.and_eq_true] at h
      obtain ⟨hszb,h⟩:=h
      have hk:=hok.kind
      split at h
      · rename_i k hkk
        split at h
        · rename_i k' hk'
          split at h
          · rename_i e _
            subst e
            have hd:=qd hok hk'
            obtain ⟨v,rfl,_,hw⟩:=DataW.trod_int (by rw [hok.under,hd]) hx
            refine ⟨v,by rw [zJ],?_⟩
            rw [Ty.wf]
            simpa [Lit.wf] using hw
          · cases h
        · cases h
      · rename_i hkk
        split at h
        · rename_i b hz
          rw [hkk] at hk
          simp only [Z3,hz] at hk
          have hd:d = .bool:=by cases d <;> simp_all [yu]
          obtain ⟨v,rfl,_⟩:=DataW.trod_bool (by rw [hok.under,hd]) hx
          exact ⟨v,by rw [zJ],trivial⟩
        · cases h
      · rename_i hkk
        have hd:=Y1 hok hkk h
        obtain ⟨v,rfl,_,hl⟩:=DataW.trod_string (by rw [hok.under,hd]) hx
        refine ⟨v.data.toList,by rw [zJ],?_⟩
        rw [Ty.wf]
        rw [Array.length_toList]
        exact hl
      · rename_i e e' hkk
        rw [hkk] at hk
        obtain ⟨rfl,_⟩:=hk
        simp only [Bool.and_eq_true] at h
        have h1:=Nat.le_of_ble_eq_true h.2
        have hse:=hs _ _ h.1
        rcases DataW.trod_slice hok.under hx with ⟨rfl,_⟩ | ⟨a,len,cap,elems,rest,m',_,rfl,_,hb,hl,hm,hlen,hel,_,_⟩
        · exact ⟨[],by rw [zJ];exact ⟨none,0,rfl,Nat.le_refl _,.inl rfl⟩,by rw [Ty.wf];simp⟩
        · have key : ∀i,i<len → ∃v:e.T,(∃us,us.length=e.size∧zJ (Whole w) w e v us ∧ ∀j u,us[j]? = some u→w.cell? ((a.add (i*e.size)).add j)=some u)∧e.wf v:=by
            intro i hi
            have:=hel i hi
            rw [List.getElem?_eq_getElem (by omega)] at this
            obtain ⟨cs',hc,hy⟩:=Option.bind_eq_some_iff.1 this
            obtain ⟨v,hv,hw⟩:=ih e e' m' cs' _ h.1 hy
            obtain ⟨_,hcl,hcells⟩:=World.cells?_some hc
            rw [hse] at hcl hcells
            refine ⟨v,⟨cs',hcl,hv,fun j u hj => ?_⟩,hw⟩
            have hjl:=(List.getElem?_eq_some_iff.1 hj).1
            rw [hcells j (by omega)]
            exact hj
          obtain ⟨l,hll,hlp⟩:=zqX len key
          refine ⟨l,?_,by rw [Ty.wf];exact ⟨by omega,fun x hx=>by
            obtain ⟨i,hi,rfl⟩:=List.mem_iff_getElem.1 hx
            exact (hlp i _ (List.getElem?_eq_getElem hi)).2⟩⟩
          rw [zJ]
          refine ⟨some a,cap,by rw [hll],by omega,?_⟩
          by_cases h0:l=[]
          · exact .inl h0
          · right
            have hpos:0<l.length:=List.length_pos_iff.2 h0
            obtain ⟨⟨us,hul,_,hu⟩,_⟩:=hlp 0 _ (List.getElem?_eq_getElem hpos)
            have hc0:w.cell? a=some (us[0]'(by omega)):=by
              have:=hu 0 _ (List.getElem?_eq_getElem (by omega))
              simpa [Addr.add] using this
            have hsp:=z13 hc0
            refine ⟨a.block,a.off,?_,z9m hc0,fun i x hi => ?_⟩
            · cases a;simp_all
            · obtain ⟨⟨us,_,hd,hu⟩,_⟩:=hlp i x hi
              refine ⟨us,hd,fun j u hj => ?_⟩
              have:=hu j u hj
              rw [zKS hsp,zKS rfl] at this
              rw [← Nat.add_assoc]
              exact this
      · rename_i f fs hkk
        rw [hkk] at hk
        obtain ⟨fields,rfl,hfs,_⟩:=hk
        obtain ⟨xs,m',_,_,hl,hxl,hxf⟩:=DataW.trod_struct hok.under hx
        obtain ⟨v,hv,hw⟩:=zwC (cs:=cs) (m:=m') hT ih hs fs f 0 h (by rw [hl,hsz];simp [Ty.size]) (fun q hq=>by
          rw [← hfs] at hq
          obtain ⟨fl,hfl,rfl⟩:=List.mem_map.1 hq
          obtain ⟨j,hj,rfl⟩:=List.mem_iff_getElem.1 hfl
          have hj':j<fields.size:=by simpa using hj
          have:=hxf j fields[j] (by simp [hj'])
          rw [List.getElem?_eq_getElem (by omega)] at this
          exact ⟨_,by simpa using this⟩)
        exact ⟨v,by rw [zJ];simpa using hv,hw⟩
      · rename_i f q e hkk
        rw [hkk] at hk
        simp only [Z3] at hk
        subst hk
        obtain ⟨xs,m',_,_,hl,hxl,hxf⟩:=DataW.trod_array hok.under hx
        obtain ⟨v,hv,hw⟩:=zt0 (m:=m') hT ih hs q f cs h (by rw [hl,hsz];simp [Ty.size]) (fun i hi=>by
          have:=hxf i hi
          rw [List.getElem?_eq_getElem (by omega)] at this
          exact ⟨_,this⟩)
        exact ⟨v,by rw [zJ];exact hv,hw⟩
      · cases h
end
end Go.AE
namespace Go.AE
open Go.RowKit (Below)
open Go.ChangeShapes Go.WideShapes Go.RowKit
variable {P:Program} {T:Tab} {E:Env} {hint:zlF}
def zCa:List Ty→Type
  | []=>Unit
  | y::r=>y.T×zCa r
def zkY:(l:List Ty)→zCa l→List AV
  | [],_=>[]
  | y::r,x=>AE.enc y x.1::zkY r x.2
def zG3:(l:List Ty)→zCa l→Prop
  | [],_=>True
  | y::r,x=>y.wf x.1∧zG3 r x.2
def Ty.argOk:Ty→Bool
  | .unit=>false
  | .pair _ _=>false
  | _=>true
def zWu (T:Tab):List Ty→List Nat→Bool
  | [],[]=>true
  | y::r,t::ts=>y.argOk&&fit T 100 y t&&zWu T r ts
  | _,_=>false
section
variable {H:Type} {enc:TypeId×Value→H} {W:World}
theorem z9u [BT] {ρ:Nat→Option Nat} {Hs:List Obj} (hT:zN P T) {y:Ty} {t:Nat} {v:Value} {d:DataW H} {p:List MemPlace} {r:Reach} {b0 base:Nat} {spare:Nat→Bool} {held:Bool} {n:Nat}
    (hu:y.argOk=true) (h:fit T n y t=true)
    (hval:Value.okWide P W r b0 t v) (hd:DataW.Trod enc P W base spare held t v d p) : ∃x:y.T,VRel ⟨Whole W,ρ,Hs,W⟩ (AE.enc y x) v∧y.wf x:=by
  obtain ⟨m,hm⟩:=hd
  obtain ⟨x,hx,hw⟩:=zMi hT n y t m _ _ h hm
  refine ⟨x,?_,hw⟩
  cases n with
  | zero=>cases h
  | succ n =>
    rw [fit] at h
    split at h
    · cases h
    · rename_i i hi
      obtain ⟨dd,info,z,hok⟩:=hT t i hi
      simp only [Bool.and_eq_true] at h
      obtain ⟨hszb,h⟩:=h
      have hk:=hok.kind
      split at h
      · rename_i k hkk
        split at h
        · rename_i k' hk'
          split at h
          · rename_i e _
            subst e
            obtain ⟨q,rfl⟩:=okWide_int (hok.under.trans (by rw [qd hok hk'])) hval
            rw [zJ] at hx
            simp [Value.cells] at hx
            obtain ⟨_,rfl⟩:=hx
            rw [AE.enc,VRel]
          · cases h
        · cases h
      · rename_i hkk
        split at h
        · rename_i b hz
          rw [hkk] at hk
          simp only [Z3,hz] at hk
          have hd:dd = .bool:=by cases dd <;> simp_all [yu]
          obtain ⟨q,rfl⟩:=okWide_bool (hok.under.trans (by rw [hd])) hval
          rw [zJ] at hx
          simp [Value.cells] at hx
          subst hx
          rw [AE.enc,VRel]
        · cases h
      · rename_i hkk
        obtain ⟨q,rfl⟩:=okWide_string (hok.under.trans (by rw [Y1 hok hkk h])) hval
        rw [zJ] at hx
        simp [Value.cells] at hx
        subst hx
        rw [AE.enc,VRel]
      · rename_i e e' hkk
        rw [hkk] at hk
        obtain ⟨rfl,_⟩:=hk
        obtain ⟨a,len,cap,rfl⟩:=okWide_slice hok.under hval
        rw [AE.enc,VRel]
        exact hx
      · rename_i f fs hkk
        rw [hkk] at hk
        obtain ⟨fields,rfl,_⟩:=hk
        obtain ⟨cs,rfl,_⟩:=okWide_struct hok.under hval
        rw [AE.enc,VRel]
        rw [zJ] at hx
        exact ⟨cs,rfl,hx.cells⟩
      · rename_i f q e hkk
        rw [hkk] at hk
        simp only [Z3] at hk
        subst hk
        have : ∃cs,v = .agg cs:=by
          unfold Value.okWide at hval
          rw [hok.under] at hval
          obtain ⟨cs,rfl,_⟩:=hval
          exact ⟨cs,rfl⟩
        obtain ⟨cs,rfl⟩:=this
        rw [AE.enc,VRel]
        rw [zJ] at hx
        exact ⟨cs,rfl,hx.cells⟩
      · cases h
theorem zKs [BT] {ρ:Nat→Option Nat} {Hs:List Obj} (hT:zN P T) {r:Reach} {b0 base:Nat} {spare:Nat→Bool} {held:Bool} : ∀{ys:List Ty} {ts:List TypeId} {vs:List Value} {ds:List (DataW H)} {p:List MemPlace},
    zWu T ys ts=true→(∀(j:Nat) t v,ts[j]? = some t→vs[j]? = some v→Value.okWide P W r b0 t v)→DataW.TrodAll enc P W base spare held ts vs ds p →
    ∃x:zCa ys,VRels ⟨Whole W,ρ,Hs,W⟩ (zkY ys x) vs∧zG3 ys x
  | [],[],vs,ds,p,_,_,h=>by
    obtain ⟨rfl,_,_⟩:=trodAll_nil h
    exact ⟨(),(by show VRels _ [] [] ;rw [VRels]),trivial⟩
  | y::ys,t::ts,vs,ds,p,hf,hval,h=>by
    obtain ⟨v,vs',d,ds',p,q,rfl,rfl,rfl,h1,h2⟩:=trodAll_cons h
    rw [zWu] at hf
    simp only [Bool.and_eq_true] at hf
    obtain ⟨x,hx,hw⟩:=z9u (ρ:=ρ) (Hs:=Hs) hT hf.1.1 hf.1.2 (hval 0 t v rfl rfl) h1
    obtain ⟨x',hx',hw'⟩:=zKs (ρ:=ρ) (Hs:=Hs) hT hf.2 (fun j t v ht hv=>hval (j+1) t v (by simpa using ht) (by simpa using hv)) h2
    exact ⟨(x,x'),(by show VRels _ (AE.enc y x::zkY ys x') _;rw [VRels];exact ⟨v,vs',rfl,hx,hx'⟩),hw,hw'⟩
  | [],_::_,_,_,_,hf,_,_=>by cases hf
  | _::_,[],_,_,_,hf,_,_=>by cases hf
theorem zln (hl:laidOutB P=true) {W':World} (hb:Below W.heap.size W W') : ∀{ts:List TypeId} {vs:List Value} {ds:List (DataW H)} {p:List MemPlace},
    ts.all (fun t=>P.readableRec t&&decide (t<P.types.size))=true→DataW.TrodAll enc P W 0 (fun _=>true) true ts vs ds p →
    DataW.TrodAll enc P W' 0 (fun b=>decide (b<W.heap.size)) true ts vs ds p
  | [],vs,ds,p,_,h=>by
    obtain ⟨rfl,rfl,rfl⟩:=trodAll_nil h
    rfl
  | t::ts,vs,ds,p,hr,h=>by
    obtain ⟨v,vs',d,ds',p,q,rfl,rfl,rfl,h1,h2⟩:=trodAll_cons h
    simp only [List.all_cons,Bool.and_eq_true,decide_eq_true_eq] at hr
    have hlt : ∀x ∈ p,x.block<W.heap.size:=by
      obtain ⟨m,hm⟩:=h1
      exact DataW.trod_lt m _ _ _ hm
    exact ⟨p,q,Below.trod hl hr.1.1 hr.1.2 h1 hb hlt,zln hl hb (by simpa using hr.2) h2,rfl⟩
end
theorem TrodAll.length {H:Type} {enc:TypeId×Value→H} {W:World} {base:Nat} {spare:Nat→Bool} {held:Bool} : ∀{ts:List TypeId} {vs:List Value} {ds:List (DataW H)} {p:List MemPlace},DataW.TrodAll enc P W base spare held ts vs ds p→ds.length=ts.length
  | [],vs,ds,p,h=>by obtain ⟨rfl,rfl,rfl⟩:=trodAll_nil h;rfl
  | t::ts,vs,ds,p,h=>by
    obtain ⟨v,vs',d,ds',p,q,rfl,rfl,rfl,h1,h2⟩:=trodAll_cons h
    simp [TrodAll.length h2]
def Cx.start (W:World):Cx:=⟨Whole W,fun _=>none,[],W⟩
theorem zVX [BT] (W:World):zY (Cx.start W):=⟨fun _=>trivial,fun _ _ _ h=>absurd rfl h,fun _ _ h=>absurd rfl h,fun _ h=>h⟩
def Fr.start (W:World):Fr:=⟨W,fun _=>False,Whole W,0⟩
theorem zOG (W:World):zK (Fr.start W) (Cx.start W) :=
  ⟨rfl,rfl,rfl,Nat.le_refl _,fun _ _ _=>rfl,fun _ h=>h,fun _ h => .inl h,fun _ _ h=>absurd rfl h⟩
theorem zNd {W:World} {C:Cx} (h:zK (Fr.start W) C):Below W.heap.size W C.w :=
  ⟨h.os,h.tape,h.output,h.size,fun k hk=>h.keep k hk fun h=>h⟩
theorem zLh [BT] (hm:P.follows .mixedOrders=true) (hT:zN P T) (hE:zf P E) (laid:laidOutB P=true) {g:Nat} {fn:Func} {c:Code} (hf:P.funcs[g]? = some fn) (hb:fn.body=some c)
    (hread:fn.params.toList.all (fun t=>P.readableRec t&&decide (t<P.types.size))=true) {tb:TypeId} (hres:fn.resultTypes = #[tb]) (htb:P.underlying tb=some .bool)
    {ys:List Ty} (hfit:zWu T ys fn.params.toList=true) {d:Nat} {ann:Ann} (hann:zq P fn.ntmps c ann)
    (hev : ∀x:zCa ys,zG3 ys x → ∃n H',fnE T E hint d n g fn.ntmps fn.results.toList ann c (zkY ys x) [] (fun v H=>some (v,H))=some (.bool true,H'))
    {s:ChangeSpec} (hvars:s.vars=[]) {H:Type} (hfn : ∀ds:List (DataW H),ds.length=fn.params.size→s.fn H ds={ results:=[.lit (.bool true)],args:=ds })
    {enc:TypeId×Value→H} {W:World} {base:Nat} {args:Array Value} {ds gs:List (DataW H)} {before:List MemPlace}
    (hval : ∀(j:Nat) t v,fn.params[j]? = some t→args[j]? = some v→Value.okWide P W .any base t v)
    (hW:DataW.Whole enc P fn.params.toList s.vars false W args.toList ds gs before) :
    Calls P g args W fun e W' => ∃v,e = .returned v∧s.post enc P fn false true false false W args v W':=by
  have hW':=hW
  obtain ⟨p,q,hA,hV,rfl,hfz,hnd⟩:=hW
  rw [hvars] at hV
  obtain ⟨rfl,rfl⟩:=trodVars_none hV
  obtain ⟨x,hx,hw⟩:=zKs (ρ:=fun _=>none) (Hs:=[]) hT hfit (fun j t v ht hv=>hval j t v (by simpa using ht) (by simpa using hv)) hA
  obtain ⟨n,H',hn⟩:=hev x hw
  refine (zmd (hint:=hint) hm hT hE (C:=Cx.start W) (zVX W) (zOG W) hf hb hx hann hn).mono ?_
  rintro e W' hw'
  cases e with
  | returned v =>
    obtain ⟨r,C',hK,rfl,_,hF,hv,_⟩:=hw'
    cases hK
    rw [VRel] at hv
    subst hv
    have bel:=zNd hF
    have hlen:(ds++[]).length=fn.params.size:=by rw [List.append_nil,TrodAll.length hA,Array.length_toList]
    refine ⟨_,rfl,ds,[],p++[],[],p,[],hW',?_,?_,?_,bel.frame _,fun h=>by cases h⟩
    · rw [hfn _ hlen,hres]
      exact trodAll_mk1 (shut_bool htb _)
    · rw [hfn _ hlen,List.append_nil]
      exact zln laid bel hread hA
    · rw [hvars]
      have:(s.fn H (ds++[])).vars=[]:=by rw [hfn _ hlen]
      rw [this]
      rfl
  | panicked ch=>exact hw'.elim
  | outgrown=>exact hw'.elim
end Go.AE
namespace Go.AE
variable {P:Program} {T:Tab}
def z5q:AV→Value→Bool
  | .bool a,.bool b=>match a,b with
    | true,true=>true
    | false,false=>true
    | _,_=>false
  | .int k n,.int k' m=>match decEq k k' with
    | isTrue _=>match decEq n m with
      | isTrue _=>true
      | isFalse _=>false
    | isFalse _=>false
  | .str [],.string b=>match b.data.toList with
    | []=>true
    | _=>false
  | .nilp,.pointer none=>true
  | .nils,.slice none 0 0=>true
  | .nilm,.map none=>true
  | .nilf,.nilFunc=>true
  | .nili,.nilIface=>true
  | _,_=>false
def zG0:List AV→List Value→Bool
  | [],[]=>true
  | a::r,v::s=>z5q a v&&zG0 r s
  | _,_=>false
theorem z8c {a:AV} {v:Value} (h:z5q a v=true):v=zbW a∧a.isZero=true:=by
  unfold z5q at h
  split at h
  · rename_i x y
    cases x <;> cases y <;> first | exact ⟨rfl,rfl⟩ | cases h
  · split at h
    · rename_i e _
      split at h
      · rename_i e' _
        subst e;subst e'
        exact ⟨rfl,rfl⟩
      · cases h
    · cases h
  · rename_i b
    split at h
    · rename_i e
      refine ⟨?_,rfl⟩
      show Value.string b = .string ⟨[].toArray⟩
      congr 1
      apply ByteArray.ext
      rw [← e]
    · cases h
  all_goals first | exact ⟨rfl,rfl⟩ | cases h
theorem zLC : ∀{l:List AV} {vs:List Value},zG0 l vs=true→vs=l.map zbW∧l.all AV.isZero=true
  | [],[],_=>⟨rfl,rfl⟩
  | a::r,v::s,h=>by
    rw [zG0,Bool.and_eq_true] at h
    obtain ⟨h1,h2⟩:=h
    obtain ⟨rfl,hz⟩:=z8c h1
    obtain ⟨rfl,hr⟩:=zLC h2
    exact ⟨rfl,by simp [hz,hr]⟩
  | [],_::_,h=>by cases h
  | _::_,[],h=>by cases h
def zno:List (Nat×Nat)→List Field→Bool
  | [],[]=>true
  | (t,o)::r,f::s=>Nat.beq f.type t&&Nat.beq f.offset o&&(f.name != "_")&&zno r s
  | _,_=>false
theorem zwc : ∀{fs:List (Nat×Nat)} {l:List Field},zno fs l=true→l.map (fun f=>(f.type,f.offset))=fs∧l.all (fun f=>f.name != "_")=true
  | [],[],_=>⟨rfl,rfl⟩
  | (t,o)::r,f::s,h=>by
    rw [zno] at h
    simp only [Bool.and_eq_true] at h
    obtain ⟨⟨⟨h1,h2⟩,h3⟩,h4⟩:=h
    obtain ⟨e,hr⟩:=zwc h4
    have h1:=Nat.eq_of_beq_eq_true h1
    have h2:=Nat.eq_of_beq_eq_true h2
    exact ⟨by simp [e,h1,h2],by rw [List.all_cons,h3,hr];rfl⟩
  | [],_::_,h=>by cases h
  | _::_,[],h=>by cases h
def zWy (zero:List AV):TK→TypeDesc→Bool
  | .sc,d=>yu zero d
  | .ptr e,.pointer e'=>Nat.beq e e'&&(match zero with | [.nilp]=>true | _=>false)
  | .slice e,.slice e'=>Nat.beq e e'&&(match zero with | [.nils]=>true | _=>false)
  | .array n e,.array n' e'=>Nat.beq n n'&&Nat.beq e e'
  | .map k e,.map k' e'=>Nat.beq k k'&&Nat.beq e e'&&(match zero with | [.nilm]=>true | _=>false)
  | .struct fs,.struct fields=>zno fs fields.toList
  | _,_=>false
theorem z4h {zero:List AV} {k:TK} {d:TypeDesc} (h:zWy zero k d=true):Z3 zero k d:=by
  unfold zWy at h
  split at h
  · exact h
  · simp only [Bool.and_eq_true] at h
    obtain ⟨h1,h2⟩:=h
    rw [Z3,Nat.eq_of_beq_eq_true h1]
    split at h2
    · exact ⟨rfl,rfl⟩
    · cases h2
  · simp only [Bool.and_eq_true] at h
    obtain ⟨h1,h2⟩:=h
    rw [Z3,Nat.eq_of_beq_eq_true h1]
    split at h2
    · exact ⟨rfl,rfl⟩
    · cases h2
  · simp only [Bool.and_eq_true] at h
    rw [Z3,Nat.eq_of_beq_eq_true h.1,Nat.eq_of_beq_eq_true h.2]
  · simp only [Bool.and_eq_true] at h
    obtain ⟨⟨h1,h2⟩,h3⟩:=h
    rw [Z3,Nat.eq_of_beq_eq_true h1,Nat.eq_of_beq_eq_true h2]
    split at h3
    · exact ⟨rfl,rfl⟩
    · cases h3
  · rename_i fs fields
    obtain ⟨h1,h2⟩:=zwc h
    exact ⟨fields,rfl,h1,h2⟩
  · cases h
def zZd:Bool→Bool→Bool
  | true,true=>true
  | false,false=>true
  | _,_=>false
theorem z0h {a b:Bool} (h:zZd a b=true):a=b:=by cases a <;> cases b <;> first | rfl | cases h
def tyB (i:TI):Bool :=
  match i.ty with
  | none=>true
  | some y=>Nat.beq y.size i.size&&zZd y.isSt i.isAgg && !zeW y
def zV6 [BT] (t:Nat) (i:TI):Bool :=
  match i.ty with
  | some (.int .u8)=>Nat.beq t BT.byte
  | _=>true
theorem z4e [BT] {t:Nat} {i:TI} (h:zV6 t i=true) (e:i.ty=some (.int .u8)):t=BT.byte:=by
  unfold zV6 at h
  rw [e] at h
  exact Nat.eq_of_beq_eq_true h
def zJv [BT] (P:Program) (t:Nat) (i:TI):Bool :=
  match P.underlying t,P.info? t with
  | some d,some info=>(match info.zero with
    | some z=>Nat.beq info.size i.size&&Nat.beq info.bytes i.bytes&&zG0 i.zero z.cells.toList&&Nat.beq i.zero.length i.size&&zWy i.zero i.k d &&
        cond i.isAgg ((!zJV i.zero || !P.stoodInHeld t && !P.eqGuardType P.depth t) && !zuz z) (Nat.beq i.size 1&&zuz z)&&tyB i&&zV6 t i&&(BT.meths.all fun q => !Nat.beq q.1 t || methB P t q.2.1 q.2.2)
    | none=>false)
  | _,_=>false
theorem zDn {t:Nat} {name:String} {g:Nat} : ∀{l:List (Nat×String×Nat)},zlK l t name=some g→(l.all fun q => !Nat.beq q.1 t || methB P t q.2.1 q.2.2)=true→methB P t name g=true
  | [],h,_=>by cases h
  | (t',n,g')::r,h,ha=>by
    rw [List.all_cons,Bool.and_eq_true] at ha
    rw [zlK] at h
    cases hb:Nat.beq t' t&&n == name with
    | true =>
      rw [hb,cond_true] at h
      cases h
      simp only [Bool.and_eq_true,beq_iff_eq] at hb
      have h1:=ha.1
      simp only [hb.1,Bool.not_true,Bool.false_or] at h1
      rw [← hb.2];exact h1
    | false =>
      rw [hb,cond_false] at h
      exact zDn h ha.2
theorem z22 [BT] {t:Nat} {i:TI} (h:zJv P t i=true) : ∃d info z,y7 P t i d info z:=by
  unfold zJv at h
  split at h
  · rename_i d info hd hinfo
    split at h
    · rename_i z hz
      simp only [Bool.and_eq_true] at h
      obtain ⟨⟨⟨⟨⟨⟨⟨⟨h1,h2⟩,h3⟩,h4⟩,h5⟩,h6⟩,h7⟩,h8⟩,h9⟩:=h
      obtain ⟨hv,hall⟩:=zLC h3
      refine ⟨d,info,z,hd,hinfo,Nat.eq_of_beq_eq_true h1,Nat.eq_of_beq_eq_true h2,hz,hv,hall,Nat.eq_of_beq_eq_true h4,z4h h5,?_,z4e h8,?_,?_,?_,?_,?_⟩
      · intro ha
        rw [ha,cond_false,Bool.and_eq_true] at h6
        exact Nat.eq_of_beq_eq_true h6.1
      · intro y hy
        unfold tyB at h7
        rw [hy] at h7
        simp only [Bool.and_eq_true,Bool.not_eq_true'] at h7
        refine ⟨Nat.eq_of_beq_eq_true h7.1.1,z0h h7.1.2,?_⟩
        intro e
        rw [e] at h7
        exact absurd h7.2 (by simp [zeW])
      · intro ha hno
        rw [ha,cond_true,Bool.and_eq_true,hno] at h6
        simpa using h6.1
      · intro ha
        rw [ha,cond_false,Bool.and_eq_true] at h6
        exact h6.2
      · intro ha
        rw [ha,cond_true,Bool.and_eq_true] at h6
        simpa using h6.2
      · exact fun name g hg=>zDn hg h9
    · cases h
  · cases h
def z7d [BT] (P:Program):Tab→Bool
  | []=>true
  | (t,i)::r=>zJv P t i&&z7d P r
theorem zhh [BT] : ∀{T:Tab},z7d P T=true→zN P T
  | [],_=>fun t i h=>by cases h
  | (t,i)::r,h=>fun t' i' h'=>by
    rw [z7d,Bool.and_eq_true] at h
    rw [Tab.get] at h'
    cases hb:Nat.beq t t' with
    | true =>
      rw [hb,cond_true] at h'
      cases h'
      rw [← Nat.eq_of_beq_eq_true hb]
      exact z22 h.1
    | false =>
      rw [hb,cond_false] at h'
      exact zhh h.2 t' i' h'
theorem zf.nil [BT]:zf P []:=fun g sp h=>by cases h
theorem zf.cons [BT] {g:Nat} {sp:znZ} {E:Env} (h:zgz P g sp) (hE:zf P E):zf P ((g,sp)::E):=fun g' sp' h'=>by
  rw [Env.get] at h'
  cases hb:Nat.beq g g' with
  | true =>
    rw [hb,cond_true] at h'
    cases h'
    rw [← Nat.eq_of_beq_eq_true hb]
    exact h
  | false =>
    rw [hb,cond_false] at h'
    exact hE g' sp' h'
end Go.AE
namespace Go.AE
variable {P:Program} {T:Tab} {E:Env} {hint:zlF}
def zxe {X Y:Type} (step:X→(X→Ans)→(Y→Ans)→Ans):Nat→X→(Y→Ans)→Ans
  | 0,_,_=>none
  | n+1,x,k=>step x (fun x'=>zxe step n x' k) k
theorem ZD {α:Type} {o:Option α} {k:α→Ans} {r:AV×List Obj} (h:za o k=some r) : ∃a,o=some a∧k a=some r:=by
  cases o with
  | none=>cases h
  | some a=>exact ⟨a,rfl,h⟩
theorem zC4 {X Y:Type} {step:X→(X→Ans)→(Y→Ans)→Ans} {f:Nat→X→Ans} {k:Y→Ans} (h0 : ∀x,f 0 x=none)
    (h : ∀n x,f (n+1) x=step x (fun x'=>f n x') k) : ∀n x,f n x=zxe step n x k
  | 0,x=>h0 x
  | n+1,x=>by
    rw [h,zxe]
    congr 1
    funext x'
    exact zC4 h0 h n x'
theorem zC {f:Func} (hb:f.body.isSome=true):f.body=some (f.body.getD .skip):=by
  cases h:f.body with
  | none=>rw [h] at hb;cases hb
  | some c=>rfl
def inl (f:Func):znZ := .inline f.ntmps f.results.toList .none (f.body.getD .skip)
section
variable [BT] (hm:P.follows .mixedOrders=true) (hT:zN P T) (hE:zf P E)
include hm hT hE
theorem z8j {g n:Nat} {fn:Func} {c:Code} (hf:P.funcs[g]? = some fn) (hb:fn.body=some c) (hn:fn.name ≠ "runtime.NumGoroutine") {d:Nat} {x:Ann} (hx:zq P fn.ntmps c x)
    {A:Type} {dec:List AV→Option A} {argsOf:A→List AV} (hdec : ∀l a,dec l=some a→l=argsOf a) {f v:A→(AV→Ans)→Ans}
    (hfn : ∀a,fnE T E hint d n g fn.ntmps fn.results.toList x c (argsOf a) [] (fun v _=>some (v,[]))=f a (fun v=>some (v,[])))
    (hv : ∀a K res,v a K=some res → ∃r,r.closed1=true∧K r=some res∧f a (fun v=>some (v,[]))=some (r,[])) :
    zM P g (fun l K=>za (dec l) fun a=>v a K):=by
  refine ⟨⟨fn,hf,by rw [hb];rfl,hn⟩,fun C args us K res hh hH hargs hFp => ?_⟩
  obtain ⟨a,ha,hFp⟩:=ZD hFp
  have hargsEq:=hdec _ _ ha
  obtain ⟨r,hr,hK,hfa⟩:=hv a K res hFp
  subst hargsEq
  refine ⟨r,y6 r,hK,fun C'=>(Yd hr).2 rfl,fun W hW => ?_⟩
  obtain ⟨hh',hat⟩:=zSn hh hH hW
  have hargs':VRels (C.at W) (argsOf a) us.toList:=hat hargs
  let F:Fr:=⟨W,fun _=>False,C.R,0⟩
  have hF:zK F (C.at W):=⟨rfl,rfl,rfl,Nat.le_refl _,fun _ _ _=>rfl,fun _ h=>h,fun _ h => .inl h,fun i b hl=>by
    exact absurd (by show zp C.H i = .dead;rw [hH];rfl) hl⟩
  have hn':fnE T E hint d n g fn.ntmps fn.results.toList x c (argsOf a) (C.at W).H (fun v _=>some (v,[]))=some (r,[]):=by
    show fnE T E hint d n g fn.ntmps fn.results.toList x c (argsOf a) C.H _=_
    rw [hH,hfn a];exact hfa
  refine (zmd (hint:=hint) hm hT hE hh' hF hf hb hargs' hx hn').mono ?_
  intro e w' hw'
  cases e with
  | returned v =>
    obtain ⟨r',C',hK',rfl,_,hF',hv,_⟩:=hw'
    cases hK'
    refine ⟨by rw [(Yd hr).1 hv],⟨hF'.os,hF'.tape,hF'.output,hF'.size,fun k hk=>hF'.keep k hk fun h=>h⟩⟩
  | panicked ch=>exact hw'.elim
  | outgrown=>exact hw'.elim
theorem z8S {g n:Nat} {fn:Func} {c:Code} (hf:P.funcs[g]? = some fn) (hb:fn.body=some c) (hn:fn.name ≠ "runtime.NumGoroutine") {d:Nat} {x:Ann} (hx:zq P fn.ntmps c x)
    {A:Type} {dec:List AV→List Obj→Option A} {argsOf:A→List AV×List Obj} (hdec : ∀l H a,dec l H=some a→(l,H)=argsOf a) {f v:A→(AV→List Obj→Ans)→Ans}
    (hfn : ∀a K,fnE T E hint d n g fn.ntmps fn.results.toList x c (argsOf a).1 (argsOf a).2 K=f a K)
    (hv : ∀a K res,v a K=some res→f a K=some res) :
    zO P g (fun l H K=>za (dec l H) fun a=>v a K):=by
  refine z3L (hint:=hint) (d:=d) hm hT hE hf hb hn hx ?_
  intro args H K res h
  obtain ⟨a,ha,h⟩:=ZD h
  have e:=hdec _ _ _ ha
  refine ⟨n,?_⟩
  have e1:args=(argsOf a).1:=by rw [← e]
  have e2:H=(argsOf a).2:=by rw [← e]
  rw [e1,e2,hfn]
  exact hv a K res h
end
theorem zZ8 [BT] {g:Nat} {A:Type} {d1:List AV→List Obj→Option A} {v1:A→(AV→List Obj→Ans)→Ans} {F2:List AV→List Obj→(AV→List Obj→Ans)→Ans}
    (h1:zO P g (fun l H K=>za (d1 l H) fun a=>v1 a K)) (h2:zO P g F2) :
    zO P g (fun l H K=>match d1 l H with | some a=>v1 a K | none=>F2 l H K):=by
  refine ⟨h1.1,fun C args us K res Fr hh hF hv h => ?_⟩
  dsimp only at h
  split at h
  · rename_i a ha
    exact h1.2 C args us K res Fr hh hF hv (by dsimp only;rw [ha];exact h)
  · exact h2.2 C args us K res Fr hh hF hv h
end Go.AE
namespace Go.AE
theorem YS {x:Int} (h : -9223372036854775808≤x) (h':x≤9223372036854775807):IntKind.wrap .i64 x=x:=by
  simp [IntKind.wrap,IntKind.bits,IntKind.signed]
  omega
theorem z86 {α:Type} (l:List α) (j:Nat):nth l (j:Int)=l[j]? := by
  unfold nth
  rw [if_pos (by omega),Int.toNat_natCast]
end Go.AE
namespace Go.AE
open Go.RowKit (Below)
variable {P:Program} {T:Tab} {E:Env} {hint:zlF}
theorem zl {α β:Type} (f:α→Option β):za none f=none:=rfl
theorem zc {α β:Type} (a:α) (f:α→Option β):za (some a) f=f a:=rfl
theorem zj {α β:Type} (c:Bool) (a b:Option α) (f:α→Option β):za (cond c a b) f=cond c (za a f) (za b f):=by cases c <;> rfl
theorem zh {α β γ:Type} (o:Option α) (g:α→Option β) (f:β→Option γ):za (za o g) f=za o fun a=>za (g a) f:=by cases o <;> rfl
theorem zi {α β γ δ:Type} (g:α→Option γ) (h:β→Option γ) (y:α ⊕ β) (f:γ→Option δ):za (Sum.elim g h y) f=Sum.elim (fun a=>za (g a) f) (fun b=>za (h b) f) y:=by cases y <;> rfl
theorem zg {α γ:Type} (y:Empty) (f:α→Option γ):za (Empty.elim y:Option α) f=Empty.elim y:=by cases y
def unP {α β γ:Type} (f:α→β→γ) (x:α×β):γ:=f x.1 x.2
theorem zm {α β γ δ:Type} (f:α→β→Option γ) (y:α×β) (k:γ→Option δ):za (unP f y) k=unP (fun a b=>za (f a b) k) y:=rfl
def zP {V Y:Type} (f:V→Option (V ⊕ Y)):Nat→V→Option Y
  | 0,_=>none
  | n+1,v=>za (f v) (Sum.elim (fun v'=>zP f n v') some)
def zZ:Nat:=18446744073709551616
theorem zqz {V Y:Type} {step:V→(V→Ans)→(Y→Ans)→Ans} {f:V→Option (V ⊕ Y)} (h : ∀v next exit,step v next exit=za (f v) (Sum.elim next exit)) :
    ∀(n:Nat) (v:V) (y:Y),zP f n v=some y → ∀k,zxe step n v k=k y
  | 0,v,y,he,_=>by cases he
  | n+1,v,y,he,k=>by
    rw [zxe,h]
    rw [zP] at he
    cases hf:f v with
    | none=>rw [hf] at he;cases he
    | some x =>
      rw [hf] at he
      cases x with
      | inl v'=>exact zqz h n v' y he k
      | inr z=>cases he;rfl
theorem zi2 {V Y:Type} {f:V→Option (V ⊕ Y)} : ∀(n m:Nat) (v:V) (y:Y),n≤m→zP f n v=some y→zP f m v=some y
  | 0,_,_,_,_,he=>by cases he
  | n+1,0,_,_,hle,_=>by omega
  | n+1,m+1,v,y,hle,he=>by
    rw [zP] at he ⊢
    cases hf:f v with
    | none=>rw [hf] at he;cases he
    | some x =>
      rw [hf] at he
      cases x with
      | inl v'=>exact zi2 n m v' y (by omega) he
      | inr z=>exact he
def pk {α:Type} {p:α→Prop} (o:Option {x:α // p x}):Option α:=match o with
  | some y=>some y.1
  | none=>none
theorem zt {α:Type} {p:α→Prop} {o:Option {x:α // p x}} {x:α} (h:pk o=some x):p x:=by
  cases o with
  | none=>cases h
  | some y=>cases h;exact y.2
def Zr {I V Y:Type} (dec:St→Option (I×V)) (f:I→V→Option (V ⊕ Y)) (out:I→(Ex→St→Ans)→Y→Ans):(Ex→St→Ans)→St→Ans :=
  fun K s=>za (dec s) fun x=>za (zP (f x.1) zZ x.2) fun y=>out x.1 K y
def zH {I Y:Type} (dec:St→Option I) (f:I→Option Y) (out:I→(Ex→St→Ans)→Y→Ans):(Ex→St→Ans)→St→Ans :=
  fun K s=>za (dec s) fun x=>za (f x) fun y=>out x K y
def zrP {α:Type} (dec:St→Option α) (G1 G2:(Ex→St→Ans)→St→Ans):(Ex→St→Ans)→St→Ans :=
  fun K s=>match dec s with
    | some _=>G1 K s
    | none=>G2 K s
theorem zcd [BT] {nt:Nat} {c:Code} {α:Type} {dec:St→Option α} {G1 G2:(Ex→St→Ans)→St→Ans} (h1:zw P nt c G1) (h2:zw P nt c G2):zw P nt c (zrP dec G1 G2):=by
  intro r F K s C a stk res h hro hS hsz hd
  unfold zrP at h
  split at h
  · exact h1 h hro hS hsz hd
  · exact h2 h hro hS hsz hd
def Zat:List (Nat×List Nat)→Nat→List Nat
  | [],_=>[]
  | (n,l)::r,i=>cond (Nat.beq n i) l (Zat r i)
def exk (n r:List Nat) (xs:List (Nat×List Nat)):Ex→List Nat
  | .norm=>n
  | .ret=>r
  | .exit i=>Zat xs i
  | .goto _=>[]
def zD (k0:Nat) (kp:Ex→List Nat) (K:Ex→St→Ans):Ex→St→Ans :=
  fun e s=>match e with
    | .norm=>yl (s.head (kp .norm)) fun s=>Yb k0 s fun s=>K .norm s
    | .ret=>yl (s.head (kp .ret)) fun s=>Yb k0 s fun s=>K .ret s
    | .exit i=>yl (s.head (kp (.exit i))) fun s=>Yb k0 s fun s=>K (.exit i) s
    | .goto _=>none
def zd:zlF:=fun _=>[]
theorem zqC [BT] {F:Fr} {k0:Nat} {kp:Ex→List Nat} {K:Ex→St→Ans} {stk:List (Array Value)} {nt:Nat} {res:AV×List Obj} {e:Exit} {a:Act} {w:World}
    (h:yG F (zD k0 kp K) stk nt res e a w):yG F K stk nt res e a w:=by
  obtain ⟨F',e',s',C',hle,he,hK,hw,hS',hsz',hd'⟩:=h
  have key : ∀e'',yl (s'.head (kp e'')) (fun s=>Yb k0 s fun s=>K e'' s)=some res→e''.toExit=e→yG F K stk nt res e a w:=by
    intro e'' h he
    rw [ZV] at h
    obtain ⟨C1,hw1,hS1⟩:=Y6 hS' (kp e'')
    obtain ⟨s2,C2,hw2,hS2,h⟩:=wA hS1 h
    exact ⟨F',e'',s2,C2,hle,he,h,hw2.trans (hw1.trans hw),hS2,hsz',hd'⟩
  cases e' with
  | norm=>exact key _ hK he
  | ret=>exact key _ hK he
  | exit i=>exact key _ hK he
  | goto l=>cases hK
section
variable [BT] (hm:P.follows .mixedOrders=true) (hT:zN P T) (hE:zf P E)
include hm hT hE
theorem zRH {nt d:Nat} (k0:Nat) (kp:Ex→List Nat) {c:Code} {x:Ann} (hx:zq P nt c x) {G:(Ex→St→Ans)→St→Ans}
    (h : ∀K s res,G K s=some res → ∃m n,zx T E hint (zy T E hint d m) n nt x c (zD k0 kp K) s=some res):zw P nt c G:=by
  intro r F K s C a stk res hG hro hS hsz hd
  obtain ⟨m,n,hn⟩:=h K s res hG
  exact wpIn_mono ((j2 (hint:=hint) hm hT hE (qk (hint:=hint) hm hT hE d m) n).1 hn hx hro hS hsz hd) fun e a w hp=>zqC hp
theorem zE {nt d m n:Nat} (k0:Nat) (kp:Ex→List Nat) {c:Code} {x:Ann} (hx:zq P nt c x) {I Y:Type} {S:I→St} {dec:St→Option I} {f:I→Option Y} {p:I→(Y→Ans)→Ans} {out:I→(Ex→St→Ans)→Y→Ans}
    (hdec : ∀s i,dec s=some i→s=S i) (hnode : ∀i K,zx T E hint (zy T E hint d m) n nt x c (zD k0 kp K) (S i)=p i (out i K)) (hnat : ∀i k,p i k=za (f i) k) :
    zw P nt c (zH dec f out):=by
  refine zRH (hint:=hint) (d:=d) hm hT hE k0 kp hx ?_
  intro K s res h
  obtain ⟨i,hi,h⟩:=ZD h
  refine ⟨m,n,?_⟩
  rw [hdec s i hi,hnode,hnat]
  exact h
theorem Zj {nt d m:Nat} (k0:Nat) (kp:Ex→List Nat) {c:Code} {x:Ann} (hx:zq P nt (.loop c) x)
    {I V Y:Type} {S:I→V→St} {dec:St→Option (I×V)} {step:I→V→(V→Ans)→(Y→Ans)→Ans} {f:I→V→Option (V ⊕ Y)} {out:I→(Ex→St→Ans)→Y→Ans}
    (hdec : ∀s x,dec s=some x→s=S x.1 x.2)
    (hstep : ∀n i v K,zx T E hint (zy T E hint d m) (n+1) nt x (.loop c) (zD k0 kp K) (S i v) =
      step i v (fun v'=>zx T E hint (zy T E hint d m) n nt x (.loop c) (zD k0 kp K) (S i v')) (fun z=>out i K z))
    (hnat : ∀i v next exit,step i v next exit=za (f i v) (Sum.elim next exit)):zw P nt (.loop c) (Zr dec f out):=by
  refine zRH (hint:=hint) (d:=d) hm hT hE k0 kp hx ?_
  intro K s res h
  unfold Zr at h
  obtain ⟨⟨i,v⟩,hd,h⟩:=ZD h
  obtain ⟨z,hr,h⟩:=ZD h
  refine ⟨m,zZ,?_⟩
  rw [hdec s _ hd,zC4 (step:=step i) (f:=fun n v=>zx T E hint (zy T E hint d m) n nt x (.loop c) (zD k0 kp K) (S i v)) (k:=fun z=>out i K z)
    (fun v=>by rw [zx]) (fun n v=>hstep n i v K) zZ v,zqz (f:=f i) (fun v next exit=>hnat i v next exit) zZ v z hr]
  exact h
theorem ZK {g n:Nat} {fn:Func} {c:Code} (hf:P.funcs[g]? = some fn) (hb:fn.body=some c) (hn:fn.name ≠ "runtime.NumGoroutine") {d:Nat} {x:Ann} (hx:zq P fn.ntmps c x)
    {A Y:Type} {dec:List AV→List Obj→Option A} {argsOf:A→List AV×List Obj} (hdec : ∀l H a,dec l H=some a→(l,H)=argsOf a) {p:A→(Y→Ans)→Ans} {f:A→Option Y} {out:A→(AV→List Obj→Ans)→Y→Ans}
    (hfn : ∀a K,fnE T E hint d n g fn.ntmps fn.results.toList x c (argsOf a).1 (argsOf a).2 K=p a (out a K)) (hnat : ∀a k,p a k=za (f a) k) :
    zO P g (fun l H K=>za (dec l H) fun a=>za (f a) fun y=>out a K y) :=
  z8S (hint:=hint) hm hT hE hf hb hn hx hdec (f:=fun a K=>p a (out a K)) (v:=fun a K=>za (f a) fun y=>out a K y) hfn
    (fun a K res h=>by rw [hnat];exact h)
theorem zL {g n:Nat} {fn:Func} {c:Code} (hf:P.funcs[g]? = some fn) (hb:fn.body=some c) (hn:fn.name ≠ "runtime.NumGoroutine") {d:Nat} {x:Ann} (hx:zq P fn.ntmps c x)
    {A Y:Type} {dec:List AV→Option A} {argsOf:A→List AV} (hdec : ∀l a,dec l=some a→l=argsOf a) {p:A→(Y→Ans)→Ans} {f:A→Option Y} {rend:A→Y→AV}
    (hfn : ∀a,fnE T E hint d n g fn.ntmps fn.results.toList x c (argsOf a) [] (fun v _=>some (v,[]))=p a (fun y=>some (rend a y,[]))) (hnat : ∀a k,p a k=za (f a) k) (hcl : ∀a y,(rend a y).closed1=true) :
    zM P g (fun l K=>za (dec l) fun a=>za (f a) fun y=>K (rend a y)) :=
  z8j (hint:=hint) hm hT hE hf hb hn hx hdec (f:=fun a K=>za (f a) fun y=>K (rend a y)) (v:=fun a K=>za (f a) fun y=>K (rend a y))
    (fun a=>by rw [hfn,hnat])
    (fun a K res h=>by
      obtain ⟨y,hy,h⟩:=ZD h
      refine ⟨rend a y,hcl a y,h,?_⟩
      dsimp only
      rw [hy]
      rfl)
end
theorem Zp [BT] {nt:Nat} {c:Code} {x:Ann} {k0:Nat} {keep:List Nat} (h:zcK P nt c x (zq P nt c x)):zq P nt (.loop c) (.at k0 keep (.loop x)):=⟨h,fun G e=>by cases e⟩
def ZaL {A:Type} (d:List AV→List Obj→Option A) (v:A→(AV→List Obj→Ans)→Ans) (F:List AV→List Obj→(AV→List Obj→Ans)→Ans):List AV→List Obj→(AV→List Obj→Ans)→Ans :=
  fun l H K=>match d l H with
    | some a=>v a K
    | none=>F l H K
theorem zZ9 [BT] {g:Nat} {A:Type} {d:List AV→List Obj→Option A} {v:A→(AV→List Obj→Ans)→Ans} {F:List AV→List Obj→(AV→List Obj→Ans)→Ans}
    (h1:zO P g (fun l H K=>za (d l H) fun a=>v a K)) (h2:zO P g F):zO P g (ZaL d v F):=zZ8 h1 h2
def z4H {A:Type} (d:List AV→Option A) (v:A→(AV→Ans)→Ans) (F:List AV→(AV→Ans)→Ans):List AV→(AV→Ans)→Ans :=
  fun l K=>match d l with
    | some a=>v a K
    | none=>F l K
theorem z1p [BT] {g:Nat} {A:Type} {d:List AV→Option A} {v:A→(AV→Ans)→Ans} {F:List AV→(AV→Ans)→Ans}
    (h1:zM P g (fun l K=>za (d l) fun a=>v a K)) (h2:zM P g F):zM P g (z4H d v F):=by
  refine ⟨h1.1,fun C args us K res hh hH hv h => ?_⟩
  unfold z4H at h
  split at h
  · rename_i a ha
    exact h1.2 C args us K res hh hH hv (by dsimp only;rw [ha];exact h)
  · exact h2.2 C args us K res hh hH hv h
end Go.AE
namespace Go.AE
theorem YY {V Y:Type} {f:V→Option (V ⊕ Y)} (Inv:Nat→V→Prop) (N:Nat) (Q:Y→Prop)
    (h : ∀j v,Inv j v→(∃v',f v=some (.inl v')∧j<N∧Inv (j+1) v') ∨ ∃y,f v=some (.inr y)∧Q y) {v:V} (h0:Inv 0 v) (hN:N≤18446744073709551000) :
    ∃y,zP f zZ v=some y∧Q y:=by
  have key : ∀d j v,j+d=N→Inv j v → ∃y,zP f (d+1) v=some y∧Q y:=by
    intro d
    induction d with
    | zero =>
      intro j v hj hi
      rcases h j v hi with ⟨v',_,hlt,_⟩ | ⟨y,hf,hq⟩
      · omega
      · exact ⟨y,by rw [zP,hf];rfl,hq⟩
    | succ d ih =>
      intro j v hj hi
      rcases h j v hi with ⟨v',hf,hlt,hi'⟩ | ⟨y,hf,hq⟩
      · obtain ⟨y,hy,hq⟩:=ih (j+1) v' (by omega) hi'
        exact ⟨y,by rw [zP,hf];exact hy,hq⟩
      · exact ⟨y,by rw [zP,hf];rfl,hq⟩
  obtain ⟨y,hy,hq⟩:=key N 0 v (by omega) h0
  exact ⟨y,zi2 _ _ v y (by unfold zZ;omega) hy,hq⟩
theorem y0 {α σ Y V:Type} {f:V→Option (V ⊕ Y)} (l:List α) (enc:Nat→σ→V) (Inv:Nat→σ→Prop) (Q:Y→Prop)
    (hs : ∀j x s,l[j]? = some x→j<l.length→Inv j s→(∃s',f (enc j s)=some (.inl (enc (j+1) s'))∧Inv (j+1) s') ∨ ∃y,f (enc j s)=some (.inr y)∧Q y)
    (he : ∀s,Inv l.length s → ∃y,f (enc l.length s)=some (.inr y)∧Q y) {s0:σ} (h0:Inv 0 s0) (hl:l.length≤18446744073709551000) :
    ∃y,zP f zZ (enc 0 s0)=some y∧Q y:=by
  refine YY (fun j v=>j≤l.length ∧ ∃s,v=enc j s∧Inv j s) l.length Q ?_ ⟨Nat.zero_le _,s0,rfl,h0⟩ hl
  rintro j v ⟨hj,s,rfl,hi⟩
  by_cases hlt:j<l.length
  · rcases hs j l[j] s (List.getElem?_eq_getElem hlt) hlt hi with ⟨s',h1,h2⟩ | h
    · exact .inl ⟨_,h1,hlt,hlt,s',rfl,h2⟩
    · exact .inr h
  · obtain rfl:j=l.length:=by omega
    exact .inr (he s hi)
theorem Zd {n:Nat} (h:n<9223372036854775807):IntKind.wrap .i64 ((n:Int)+1)=((n+1:Nat):Int):=by rw [YS (by omega) (by omega)];rfl
theorem Zf {a b:Nat} (h:a≤b):Nat.ble a b=true:=Nat.ble_eq_true_of_le h
theorem zo {p:Prop} [Decidable p] (h:p):decide p=true:=decide_eq_true h
theorem zn {p:Prop} [Decidable p] (h : ¬p):decide p=false:=decide_eq_false h
theorem yL {i:Int} {n:Nat} (h:0≤i∧i<(n:Int)):inR i n=true:=by simp [inR,h]
theorem Z6 {α:Type} {l:List α} {j:Nat} {x:α} (h:l[j]? = some x):nth l (j:Int)=some x:=by rw [z86,h]
theorem JX (a b:Int):(a == b)=decide (a=b):=rfl
theorem Z1 (a b:Int):(a != b) = !decide (a=b):=rfl
end Go.AE
namespace Go.AE
open Go.RowKit (Below)
variable {P:Program} {T:Tab} {E:Env} {hint:zlF}
theorem zK2 (env:zT) (n:Nat) : ∀l:List Nat,Zm (YH env l) n = .unk∨Zm (YH env l) n=Zm env n
  | [] => .inl rfl
  | d::r=>by
    rw [YH,Zu]
    split
    · rename_i e;subst e;exact .inr rfl
    · exact zK2 env n r
def wM (n:Nat) (L:List Int) (s:St):Prop:=Zm s.env n = .gh L∨Zm s.env n = .unk
theorem wM.map {n:Nat} {L:List Int} {env:zT} (g:AV→AV) (h:Zm env n = .gh L∨Zm env n = .unk):Zm (Z8 g env) n = .gh L∨Zm (Z8 g env) n = .unk:=by
  rw [zjp]
  rcases h with h | h <;> rw [h]
  · exact .inl rfl
  · exact .inr rfl
theorem z1N {s s':St} (h:j4 s s') {n:Nat} {L:List Int}:wM n L s→wM n L s':=by
  induction h with
  | refl=>exact fun hg=>hg
  | sel _ _ ih=>exact fun hg=>ih (wM.map _ hg)
  | loose _ _ ih=>exact fun hg=>ih (wM.map _ hg)
theorem zkF (k0:Nat) (s:St) (n:Nat) (L:List Int) (h:wM n L s):(∃s',wM n L s' ∧ ∀K,Yb k0 s K=K s') ∨ ∀K,Yb k0 s K=none:=by
  rcases zDm k0 s with ⟨s',hp,e⟩ | e
  · exact .inl ⟨s',z1N hp h,e⟩
  · exact .inr e
theorem zpP (s:St) (n:Nat) (L:List Int) (keep:List Nat) (h:wM n L s):wM n L (s.head keep):=by
  show Zm (YH s.env keep) n=_∨Zm (YH s.env keep) n=_
  rcases zK2 s.env n keep with e | e
  · exact .inr e
  · rw [e];exact h
theorem z4P (keep:List Nat) (x:Ann) (s:St) (n:Nat) (L:List Int) (h:wM n L s):(∃s',wM n L s' ∧ ∀K,zbV keep x s K=K s') ∨ ∀K,zbV keep x s K=none:=by
  unfold zbV
  cases x.at? with
  | some p =>
    obtain ⟨k0,keep'⟩:=p
    simp only [ZV]
    exact zkF k0 _ n L (zpP s n L keep' h)
  | none =>
    simp only [ZV]
    cases x.pack? with
    | some k0=>exact zkF k0 _ n L (zpP s n L keep h)
    | none=>exact .inl ⟨_,zpP s n L keep h,fun K=>rfl⟩
open Classical in
theorem z6q [BT] {F:Fr} {C:Cx} {s:St} {tmps:Array Value} {stk:List (Array Value)} (hS:zB F C s tmps stk) {keep:List Nat} {x:Ann} {K:St→Ans} {res:AV×List Obj} (h:zbV keep x s K=some res) {n:Nat} {L:List Int} (hg:wM n L s) :
    ∃s' C',C'.w=C.w∧zB F C' s' tmps stk∧K s'=some res∧wM n L s':=by
  rcases z4P keep x s n L hg with ⟨s0,h0,e⟩ | e
  · have h2:zbV keep x s (fun s'=>if wM n L s' then K s' else none)=some res:=by
      rw [e]
      rw [e] at h
      rw [if_pos h0]
      exact h
    obtain ⟨s',C',h3,h4,h5⟩:=zfL hS h2
    split at h5
    · rename_i hg';exact ⟨s',C',h3,h4,h5,hg'⟩
    · cases h5
  · rw [e] at h;cases h
open Classical in
theorem zYf [BT] {F:Fr} {C:Cx} {s:St} {tmps:Array Value} {stk:List (Array Value)} (hS:zB F C s tmps stk) {k0:Nat} {K:St→Ans} {res:AV×List Obj} (h:Yb k0 s K=some res) {n:Nat} {L:List Int} (hg:wM n L s) :
    ∃s' C',C'.w=C.w∧zB F C' s' tmps stk∧K s'=some res∧wM n L s':=by
  rcases zkF k0 s n L hg with ⟨s0,h0,e⟩ | e
  · have h2:Yb k0 s (fun s'=>if wM n L s' then K s' else none)=some res:=by
      rw [e]
      rw [e] at h
      rw [if_pos h0]
      exact h
    obtain ⟨s',C',h3,h4,h5⟩:=wA hS h2
    split at h5
    · rename_i hg';exact ⟨s',C',h3,h4,h5,hg'⟩
    · cases h5
  · rw [e] at h;cases h
theorem zit (n t:Nat) : ∀env:zT,Zm (zaq n env) t=if t=n then .unk else Zm env t
  | []=>by rw [zaq,zbs];split <;> rfl
  | (d,v)::r=>by
    rw [zaq]
    cases hb:Nat.beq d n with
    | true =>
      have hd:=Nat.eq_of_beq_eq_true hb
      rw [cond_true,zit n t r,Zu]
      by_cases e:t=n
      · rw [if_pos e,if_pos e]
      · rw [if_neg e,if_neg e,if_neg (by omega)]
    | false =>
      rw [cond_false,Zu,Zu,zit n t r]
      by_cases e:d=t
      · have:t≠n:=by intro h;rw [← e] at h;rw [h,Nat.beq_refl] at hb;cases hb
        rw [if_pos e,if_neg this,if_pos e]
      · rw [if_neg e,if_neg e]
theorem Zq.drop {C:Cx} {env:zT} {tmps:Array Value} (h:Zq C env tmps) (n:Nat):Zq C (zaq n env) tmps:=by
  intro t
  rw [zit]
  split
  · rw [VRel];trivial
  · exact h t
theorem Zq.gh {C:Cx} {env:zT} {tmps:Array Value} (h:Zq C env tmps) (n:Nat) (L:List Int):Zq C ((n,.gh L)::env) tmps:=by
  intro t
  rw [Zu]
  split
  · rw [VRel];trivial
  · exact h t
theorem zqT {C:Cx} {nt:Nat} : ∀{ps:List Nat} {xs:List AV} {env:zT} {K:zT→Ans} {res:AV×List Obj} {vs:List Value} {tmps:Array Value},zfa nt ps xs env K=some res→VRels C xs vs→Zq C env tmps→nt≤tmps.size →
    ∃env',K env'=some res∧ps.length=vs.length∧Zq C env' ((ps.zip vs).foldl (fun t (p:Nat×Value)=>t.setIfInBounds p.1 p.2) tmps)∧nt≤((ps.zip vs).foldl (fun t (p:Nat×Value)=>t.setIfInBounds p.1 p.2) tmps).size
  | [],[],env,K,res,vs,tmps,h,hv,he,hn=>by
    rw [zfa] at h
    rw [VRels] at hv
    subst hv
    exact ⟨env,h,rfl,he,hn⟩
  | p::r,x::xs,env,K,res,vs,tmps,h,hv,he,hn=>by
    rw [zfa] at h
    replace h:=zI h;obtain ⟨hp,h⟩:=h
    rw [yn] at h
    rw [VRels] at hv
    obtain ⟨v,vs',rfl,h1,h2⟩:=hv
    have hp:p<nt:=Nat.lt_of_lt_of_le (Nat.lt_succ_self p) (Nat.le_of_ble_eq_true hp)
    obtain ⟨env',g1,g2,g3,g4⟩:=zqT (tmps:=tmps.setIfInBounds p v) h h2 (Zq.put he h1 (by omega)) (by simpa using hn)
    exact ⟨env',g1,by simp [g2],g3,g4⟩
  | [],_::_,_,_,_,_,_,h,_,_,_=>by simp [zfa] at h
  | _::_,[],_,_,_,_,_,h,_,_,_=>by simp [zfa] at h
theorem zqy {C:Cx} {s:St} {g:Operand} {it:(List AV→List Obj→(List Int→Ans)→Ans)×(List AV→List Obj→List Int→Ans→(List AV→List Int→Ans)→Ans)×List AV} {a:Act} (h:zgX E s g=some it) (he:Zq C s.env a.tmps) :
    ∃gf us,Env.get E (gf+100000)=some (.iter it.1 it.2.1)∧a.eval g = .func (.func gf) #[] us∧VRels C it.2.2 us.toList:=by
  unfold zgX at h
  have hv:=zR (C:=C) he g
  split at h
  · rename_i gf cap hf
    rw [hf,VRel] at hv
    obtain ⟨a',b',e,h1,h2⟩:=hv
    rw [VRels] at h1
    have h1:a' = #[]:=by
      cases a'
      simpa using h1
    subst h1
    split at h
    · rename_i st nx hg
      cases h
      exact ⟨gf,b',hg,e,h2⟩
    · cases h
  · cases h
def wm (fn:Nat) (a:Act) (ps:Array Nat) (as c:Code) (dd:Nat) (st:LoopState) (pe:Option Code):Go.Loop :=
  { state:=st,pending:=pe,fn,tmps:=a.tmps,params:=ps,assign:=as,body:=c,defers:=dd }
def Wx (C:Cx) (mark:List Deferred) (lo l:Nat):Prop:=mark=[] ∨ ∃D,mark=[{ target := .collected D,args := #[] }]∧lo≤D∧D≠l∧C.w.heap[D]? = some (.deferred (some []))∧C.Beside D
theorem Beside.new [BT] {C:Cx} (hh:zY C) {b:Nat} (h:C.w.heap.size≤b):C.Beside b :=
  ⟨fun hb=>by have:=hh.rlt b hb;omega,fun i hl hb=>by have:=hh.blk_lt hl hb;omega⟩
theorem zYj [BT] {r:Option Nat} {F:Fr} {C:Cx} (hh:zY C) (hro:Yf r F) (hF:zK F C) (fn:Nat) (a:Act) (ps:Array Nat) (as c:Code) :
    ∃l mark W1 dd,(Instr.enterLoop fn a.tmps ps as c r).run P C.w = .ok (l,mark) W1∧W1.heap[l]? = some (.loop (wm fn a ps as c dd .ready none))∧C.w.heap.size≤l∧Below C.w.heap.size C.w W1∧l<W1.heap.size ∧
      ∀C':Cx,zY C'→C'.w.heap.size=C.w.heap.size→Wx (C'.at W1) mark C.w.heap.size l:=by
  cases r with
  | none =>
    refine ⟨C.w.heap.size+1,_,_,C.w.heap.size,run_enterLoop_outer _ _ _ _ _,?_,by omega,?_,by simp,fun C' hh' hs' => .inr ⟨C.w.heap.size,rfl,Nat.le_refl _,by omega,?_,?_⟩⟩
    · have:=World.alloc_heap_new (C.w.alloc (.deferred (some []))) (.loop (wm fn a ps as c C.w.heap.size .ready none))
      rwa [World.size_alloc] at this
    · exact ((Below.refl _ C.w).alloc (Nat.le_refl _) _).alloc (by simp) _
    · exact (Below.heap_alloc _ _ _ (by simp)).trans (World.alloc_heap_new C.w _)
    · exact Beside.new hh' (Nat.le_of_eq hs')
  | some l0 =>
    obtain ⟨r0,h0⟩:=hro l0 rfl
    refine ⟨C.w.heap.size,_,_,r0.defers,run_enterLoop_inner (h0.at hF).1 _ _ _ _ _,?_,Nat.le_refl _,?_,by simp,fun _ _ _ => .inl rfl⟩
    · exact World.alloc_heap_new C.w _
    · exact (Below.refl _ C.w).alloc (Nat.le_refl _) _
def ZaM:Ex→Option Code
  | .ret=>some .ret
  | .exit i=>some (.exit i)
  | _=>none
theorem below_priv [BT] {C:Cx} (hh:zY C) {W:World} (h:Below C.w.heap.size C.w W) (n0:Nat):Priv n0 C W :=
  ⟨h.os,h.tape,h.output,h.size,fun b hb _=>h.block b hb,fun b hb=>h.block b (hh.rlt b hb),fun i b hl hb=>h.block b (hh.blk_lt hl hb)⟩
section
variable [BT] (hm:P.follows .mixedOrders=true) (hT:zN P T) (hE:zf P E)
include hm hT hE
theorem zfJ {nt d m:Nat} (k0:Nat) (kp:Ex→List Nat) (keep:List Nat) {g:Operand} {ps:Array Nat} {as c:Code} {x:Ann} (hx:zcK P nt c x.fst (zq P nt c x.fst)) {G:(Ex→St→Ans)→St→Ans}
    (h : ∀K s res,G K s=some res → ∃n,zx T E hint (zy T E hint d m) n nt (.rnd x) (.rangeFunc g ps as c) (zD k0 kp K) s=some res) :
    zw P nt (.rangeFunc g ps as c) (zhs E nt k0 keep g G):=by
  intro r F K0 s C a stk res hG hro hS hsz hd
  unfold zhs at hG
  obtain ⟨it,hit,hG⟩:=zr hG
  obtain ⟨start,next,cap⟩:=it
  dsimp only at hG
  obtain ⟨gf,us,hget,hev,hcap⟩:=zqy (a:=a) hit hS.env
  dsimp only at hget hcap
  obtain ⟨start0,nx,hIt,hst0,hnx⟩:zgz P (gf+100000) (.iter start next):=hE _ _ hget
  rw [Nat.add_sub_cancel] at hIt
  rw [hst0] at hG
  obtain ⟨L,hL,hG⟩:=zr hG
  obtain ⟨env,sk,H,blk⟩:=s
  dsimp only at hG
  rw [ZV] at hG
  have hS1:zB F C ⟨(nt,.gh L)::env,sk,H,blk⟩ a.tmps stk:=⟨hS.H,hS.heap,Zq.gh hS.env nt L,hS.stk,hS.frame⟩
  obtain ⟨C2,hw2,hS2⟩:=Y6 hS1 keep
  have hg2:wM nt L (St.head ⟨(nt,.gh L)::env,sk,H,blk⟩ keep):=zpP _ nt L keep (.inl (by show Zm ((nt,.gh L)::env) nt=_;rw [Zu,if_pos rfl]))
  obtain ⟨s3,C3,hw3,hS3,hG,hg3⟩:=zYf hS2 hG hg2
  obtain ⟨n3,hn3⟩:=h K0 s3 res hG
  obtain ⟨K,hK⟩ : ∃K,K=zD k0 kp K0:=⟨_,rfl⟩
  rw [← hK] at hn3
  refine wpIn_mono ?_ (fun e a w hp=>zqC (k0:=k0) (kp:=kp) hp)
  rw [← hK]
  have hgoto : ∀l s',K (.goto l) s'≠some res:=fun l s' h'=>by rw [hK] at h';cases h'
  clear hG h
  -- a round's evaluation,unfolded
  have unf : ∀{F':Fr} {C':Cx} {n:Nat} {s':St} {L':List Int} {stk':List (Array Value)},zB F' C' s' a.tmps stk'→wM nt L' s'→zx T E hint (zy T E hint d m) n nt (.rnd x) (.rangeFunc g ps as c) K s'=some res →
      ∃n' cap',n=n'+1∧Zm s'.env nt = .gh L'∧zgX E s' g=some (start,next,cap')∧VRels C' cap' us.toList ∧ ∃o,nx cap' C'.H L'=some o∧(o=none→K .norm s'=some res) ∧
        ∀xs L2,o=some (xs,L2)→(match s' with
       | ⟨env,stk,H,blk⟩=>zfa nt ps.toList xs (zaq nt env) fun env' =>
          yh T E hint (zy T E hint d m) nt (zx T E hint (zy T E hint d m) n') as .none (fun e s1=>match e with
            | .norm=>zbS (fun x K s=>yh T E hint (zy T E hint d m) nt (zx T E hint (zy T E hint d m) n') c x K s) x.fst
                (z4K blk fun e s=>match e with
                  | .norm=>match s with
                    | ⟨env,stk,H,blk⟩=>zbV (hint blk) x ⟨(nt,.gh L2)::env,stk,H,blk⟩ fun s=>zx T E hint (zy T E hint d m) n' nt (.rnd x) (.rangeFunc g ps as c) K s
                  | e=>K e s) s1
            | _=>none) ⟨env',zaq nt env::stk,H,blk⟩)=some res:=by
    intro F' C' n s' L' stk' hS' hg hev'
    cases n with
    | zero=>rw [zx] at hev';cases hev'
    | succ n =>
      rw [zx] at hev'
      unfold z3J at hev'
      rcases hg with hg | hg
      · rw [hg] at hev'
        simp only at hev'
        obtain ⟨it,hit,hev'⟩:=zr hev'
        obtain ⟨gf',us',hget',hev2,hcap'⟩:=zqy (a:=a) hit hS'.env
        rw [hev] at hev2
        cases hev2
        rw [hget] at hget'
        obtain ⟨st',nx',cap'⟩:=it
        dsimp only at hget' hev' hcap'
        cases hget'
        rw [hnx] at hev'
        obtain ⟨o,ho,hev'⟩:=zr hev'
        refine ⟨n,cap',rfl,hg,hit,hcap',o,by rw [hS'.H];exact ho,fun e=>by subst e;exact hev',fun xs L2 e=>by subst e;exact hev'⟩
      · rw [hg] at hev'
        cases hev'
  refine wpIn_rangeFunc ?_
  intro fn _
  obtain ⟨l,mark,W1,dd,hent,hrec,hl0,hbel,hl1,hmark⟩:=zYj hS.heap hro hS.frame fn a ps as c
  refine ⟨l,mark,W1,{ target := .fn (.func gf) us,args := #[.func (.yield l) #[] #[]] },W1,gf,#[.func (.yield l) #[] #[]]++us,W1,hent,?_,fun _ _=>trivial,?_,zq7 r 0,?_⟩
  · simp only [resolve,hev]
    simp [go_sem]
  · have:=fun w=>hIt.1.run (#[.func (.yield l) #[] #[]]++us) w
    simp [invoke,go_sem] at this ⊢
    exact this W1
  have hw31:C3.w=C.w:=hw3.trans hw2
  have hs0:F.w0.heap.size≤l:=Nat.le_trans hS.frame.size hl0
  have hS31:zB F (C3.at W1) s3 a.tmps stk:=YE hS3 (by rw [hw31];exact hbel)
  -- what holds between rounds
  obtain ⟨J,hJ⟩ : ∃J:List Int→Cx→List AV→Prop,J=fun L' C' cap' => ∃n s',zx T E hint (zy T E hint d m) n nt (.rnd x) (.rangeFunc g ps as c) K s'=some res∧wM nt L' s'∧zgX E s' g=some (start,next,cap')∧zB F C' s' a.tmps stk ∧
      C'.w.heap[l]? = some (.loop (wm fn a ps as c dd .ready none))∧C'.Beside l∧Wx C' mark C.w.heap.size l:=⟨_,rfl⟩
  obtain ⟨Jx,hJx⟩ : ∃Jx:Cx→Prop,Jx=fun C' => ∃e code s',ZaM e=some code∧K e s'=some res∧zB F C' s' a.tmps stk ∧
      C'.w.heap[l]? = some (.loop (wm fn a ps as c dd .done (some code)))∧C'.Beside l∧Wx C' mark C.w.heap.size l:=⟨_,rfl⟩
  have hD1 : ∀D,mark=[{ target := .collected D,args := #[] }]→D<W1.heap.size:=by
    intro D hD
    rcases hmark C hS.heap rfl with e | ⟨D',e,_,_,h1,_⟩
    · rw [e] at hD;cases hD
    · rw [e] at hD
      cases hD
      exact (Array.getElem?_eq_some_iff.1 h1).1
  have mark_priv : ∀(C':Cx) (W:World),Wx C' mark C.w.heap.size l→Priv W1.heap.size C' W→Wx (C'.at W) mark C.w.heap.size l:=by
    intro C' W h hp
    rcases h with e | ⟨D,e,h1,h2,h3,h4⟩
    · exact .inl e
    · exact .inr ⟨D,e,h1,h2,(hp.low D (Array.getElem?_eq_some_iff.1 h3).1 (hD1 D e)).trans h3,h4⟩
  have mark_put : ∀(C':Cx) (o:Go.Obj),Wx C' mark C.w.heap.size l→Wx (C'.at (C'.w.putObj l o)) mark C.w.heap.size l:=by
    intro C' o h
    rcases h with e | ⟨D,e,h1,h2,h3,h4⟩
    · exact .inl e
    · exact .inr ⟨D,e,h1,h2,(World.putObj_heap_other h2).trans h3,h4⟩
  have mark_re : ∀(C' C'':Cx),Wx C' mark C.w.heap.size l→zK (F.re C') C''→Wx C'' mark C.w.heap.size l:=by
    intro C' C'' h hf
    rcases h with e | ⟨D,e,h1,h2,h3,h4⟩
    · exact .inl e
    · have:=(Qd (F:=F) h3 h4).at hf
      exact .inr ⟨D,e,h1,h2,this.1,this.2⟩
  obtain ⟨_,cap3,_,_,hit3,_,_⟩:=unf hS31 hg3 hn3
  have J0:J L (C3.at W1) cap3:=by
    rw [hJ]
    exact ⟨n3,s3,hn3,hg3,hit3,hS31,hrec,Beside.new hS3.heap (by rw [hw31];exact hl0),hmark C3 hS3.heap (by rw [hw31])⟩
  have hrun:=hIt.2 (.func (.yield l) #[] #[]) (C.at W1) cap us L J Jx (zRg hS.heap hbel) (VRels.mono (zvX hS.heap hbel) (zWf hS.heap hbel) hcap) (by show start0 cap C.H=some L;rw [hS.H];exact hL) ⟨C3.at W1,cap3,rfl,J0⟩ ?_ ?_ ?_ ?_
  · -- behind the iterator
    refine CallsIn.mono (F:=WF r) hrun ?_
    -- a way out
    have fin : ∀(C':Cx) (s':St) (o:Go.Obj) (e:Ex),zB F C' s' a.tmps stk→C'.Beside l→Wx C' mark C.w.heap.size l→K e s'=some res →
        yG F K stk nt res e.toExit { a with defers:=mark++a.defers } (C'.w.putObj l o):=by
      intro C' s' o e hS' hb hmk hK'
      obtain ⟨C6,hC6⟩ : ∃C6,C6=C'.at (C'.w.putObj l o):=⟨_,rfl⟩
      have hp:Priv F.w0.heap.size C' (C'.w.putObj l o):=Y8 o hb hs0
      have hS6:zB F C6 s' a.tmps stk:=by rw [hC6];exact yi hS' (Nat.le_refl _) hp
      have hmk6:Wx C6 mark C.w.heap.size l:=by rw [hC6];exact mark_put C' o hmk
      have hw6:C'.w.putObj l o=C6.w:=by rw [hC6];rfl
      rw [hw6]
      have hle:=zcP hS6.frame
      have hdre:=hd.le hle
      refine ⟨F.re C6,e,s',C6,hle,rfl,hK',rfl,⟨hS6.H,hS6.heap,hS6.env,hS6.stk,zS1 F C6⟩,hsz,hdre.1,?_⟩
      rcases hmk6 with e' | ⟨D,e',h1,h2,h3,h4⟩
      · rw [e'];exact hdre.2
      · rw [e']
        refine ⟨⟨D,⟨rfl,Nat.le_trans hd.1 (Nat.le_trans hS.frame.size h1),Qd h3 h4⟩,?_⟩,hdre.2⟩
        exact hd.2.fresh (Nat.le_trans hS.frame.size h1)
    rintro e W' ⟨rfl,hcase⟩
    rcases hcase with ⟨L',C',cap',rfl,hj,hnone⟩ | ⟨C',rfl,hj⟩
    · rw [hJ] at hj
      obtain ⟨n,s',hev',hg',hit',hS',hl',hbl',hmk'⟩:=hj
      obtain ⟨n',cap2,rfl,_,hit2,_,o,ho,hn,_⟩:=unf hS' hg' hev'
      rw [hit'] at hit2
      cases hit2
      rw [hnone] at ho
      cases ho
      exact ⟨none,_,run_endLoop hl' (by simp [wm]),fin C' s' _ .norm hS' hbl' hmk' (hn rfl)⟩
    · rw [hJx] at hj
      obtain ⟨e,code,s',hcode,hK',hS',hl',hbl',hmk'⟩:=hj
      refine ⟨some code,_,run_endLoop hl' (by simp [wm]),?_⟩
      cases e with
      | norm=>cases hcode
      | goto l=>cases hcode
      | ret =>
        cases hcode
        exact wpIn_ret (fin C' s' _ .ret hS' hbl' hmk' hK')
      | exit i =>
        cases hcode
        exact wpIn_exit (fin C' s' _ (.exit i) hS' hbl' hmk' hK')
  · intro L' C1 cap1 hj
    rw [hJ] at hj
    obtain ⟨n,s',hev',hg',hit',hS',hl',hbl',hmk'⟩:=hj
    obtain ⟨n',cap2,rfl,_,hit2,hcap2,o,ho,_,_⟩:=unf hS' hg' hev'
    rw [hit'] at hit2
    cases hit2
    exact ⟨hS'.heap,hcap2,o,ho⟩
  · intro L' C1 cap1 W hj hp
    rw [hJ] at hj ⊢
    obtain ⟨n,s',hev',hg',hit',hS',hl',hbl',hmk'⟩:=hj
    exact ⟨n,s',hev',hg',hit',yi hS' (Nat.le_trans hs0 (Nat.le_of_lt hl1)) hp,(hp.low l (Array.getElem?_eq_some_iff.1 hl').1 hl1).trans hl',hbl',mark_priv C1 W hmk' hp⟩
  · intro C1 W hj hp
    rw [hJx] at hj ⊢
    obtain ⟨e,code,s',hcode,hK',hS',hl',hbl',hmk'⟩:=hj
    exact ⟨e,code,s',hcode,hK',yi hS' (Nat.le_trans hs0 (Nat.le_of_lt hl1)) hp,(hp.low l (Array.getElem?_eq_some_iff.1 hl').1 hl1).trans hl',hbl',mark_priv C1 W hmk' hp⟩
  · -- one round
    intro L1 C1 cap1 xs L2 hj hnxv vs hvs
    rw [hJ] at hj
    obtain ⟨n,s',hev',hg',hit',hS',hl',hbl',hmk'⟩:=hj
    obtain ⟨n',cap2,rfl,_,hit2,hcap2,o,ho,_,hgo⟩:=unf hS' hg' hev'
    rw [hit'] at hit2
    cases hit2
    rw [hnxv] at ho
    cases ho
    replace hgo:=hgo xs L2 rfl
    obtain ⟨env,sk,H,blk⟩:=s'
    simp only at hgo
    obtain ⟨env',hgo,hlen,henv',hszr⟩:=zqT hgo hvs (Zq.drop hS'.env nt) hsz
    have hy:=run_yield (P:=P) (args:=vs) hl' (by simpa [wm] using hlen.symm)
    have htm:((wm fn a ps as c dd .ready none).params.zip vs).foldl (fun tmps (t,a)=>tmps.setIfInBounds t a) (wm fn a ps as c dd .ready none).tmps=(ps.toList.zip vs.toList).foldl (fun t (p:Nat×Value)=>t.setIfInBounds p.1 p.2) a.tmps:=by
      rw [← Array.foldl_toList,Array.toList_zip]
      rfl
    rw [htm] at hy
    refine ⟨.yield l,#[],_,rfl,by simpa [invoke] using hy,roundIn_of_wpIn trivial ?_⟩
    generalize (ps.toList.zip vs.toList).foldl (fun t (p:Nat×Value)=>t.setIfInBounds p.1 p.2) a.tmps=tmpsR at henv' hszr
    have hSA:zB (F.re C1) C1 ⟨env',zaq nt env::sk,H,blk⟩ tmpsR (a.tmps::stk):=⟨hS'.H,hS'.heap,henv',by rw [ZG];exact ⟨_,_,rfl,Zq.drop hS'.env nt,hS'.stk⟩,zS1 F C1⟩
    have hbase:F.base≤C1.w.heap.size:=Nat.le_trans hd.1 hS'.frame.size
    obtain ⟨_,ih2⟩:=j2 (hint:=hint) hm hT hE (qk (hint:=hint) hm hT hE d m) n'
    refine wpIn_mono (j9 hm hT hE (qk (hint:=hint) hm hT hE d m) ih2 as (r:=some l) (a:={ tmps:=tmpsR,defers:=[] }) hgo (zb P nt as) (fun l' e=>by cases e;exact ⟨_,Qd hl' hbl'⟩) hSA hszr ⟨hbase,trivial⟩) ?_
    rintro e1 a1 w1 ⟨FA,e',s1,C2,hleA,rfl,hK1,rfl,hS2,hsz2,hmk2⟩
    cases e' with
    | exit i=>cases hK1
    | ret=>cases hK1
    | goto i=>cases hK1
    | norm =>
    simp only at hK1
    obtain ⟨hl2,hb2⟩:=(hleA.safe _ _ (Qd hl' hbl')).at hS2.frame
    have hlt2:=(Array.getElem?_eq_some_iff.1 hl2).1
    refine ⟨_,run_beginRound hl2 rfl,?_⟩
    obtain ⟨C3',hC3⟩ : ∃C3',C3'=C2.at (C2.w.putObj l (.loop { wm fn a ps as c dd .ready none with state := .busy })):=⟨_,rfl⟩
    have hw3':C2.w.putObj l (.loop { wm fn a ps as c dd .ready none with state := .busy })=C3'.w:=by rw [hC3];rfl
    rw [hw3']
    have hp2:Priv F.w0.heap.size C2 (C2.w.putObj l (.loop { wm fn a ps as c dd .ready none with state := .busy })):=Y8 _ hb2 hs0
    have hF2:zK F C2:=(zcP hS'.frame).frame _ (hleA.frame _ hS2.frame)
    have hS2F:zB F C2 s1 a1.tmps (a.tmps::stk):=⟨hS2.H,hS2.heap,hS2.env,hS2.stk,hF2⟩
    have hS3F:zB F C3' s1 a1.tmps (a.tmps::stk):=by rw [hC3];exact yi hS2F (Nat.le_refl _) hp2
    have hS3B:zB (F.re C3') C3' s1 a1.tmps (a.tmps::stk):=⟨hS3F.H,hS3F.heap,hS3F.env,hS3F.stk,zS1 F C3'⟩
    have hl3:C3'.w.heap[l]? = some (.loop (wm fn a ps as c dd .busy none)):=by rw [← hw3'];exact World.putObj_heap_same hlt2
    have hb3:C3'.Beside l:=by rw [hC3];exact hb2
    have hmB:Yw (F.re C3') a1.defers:=by
      refine ⟨by show F.base≤C3'.w.heap.size;rw [← hw3',World.putObj_size];exact Nat.le_trans hbase (hleA.frame _ hS2.frame).size,yD.to (F:=FA) (F':=F.re C3') (show F.base=FA.base from hleA.base.symm) (fun D hD => ?_) hmk2.2⟩
      obtain ⟨g1,g2⟩:=hD.at hS2.frame
      have hne:D≠l:=by intro e;subst e;rw [hl2] at g1;cases g1
      refine Qd ?_ ?_
      · rw [← hw3'];exact (World.putObj_heap_other hne).trans g1
      · rw [hC3];exact g2
    refine wpIn_mono (wd (r:=some l) (fun h hx hro hS hsz hd=>j9 hm hT hE (qk (hint:=hint) hm hT hE d m) ih2 c h hx hro hS hsz hd) hK1 hx (fun l' e=>by cases e;exact ⟨_,Qd hl3 hb3⟩) hS3B hsz2 hmB) ?_
    rintro e3 a3 w3 ⟨FB,e',s4,C4,hleB,rfl,hK4,rfl,hS4,hsz4,hmk4⟩
    obtain ⟨hl4,hb4⟩:=(hleB.safe _ _ (Qd hl3 hb3)).at hS4.frame
    have hlt4:=(Array.getElem?_eq_some_iff.1 hl4).1
    obtain ⟨env4,sk4,H4,blk4⟩:=s4
    unfold z4K at hK4
    simp only at hK4
    split at hK4
    case h_2=>cases hK4
    case h_1 _ env5 sk5 =>
    have hstk:=hS4.stk
    rw [ZG] at hstk
    obtain ⟨_,_,he,henv5,hsk5⟩:=hstk
    cases he
    have hS5:zB FB C4 ⟨env5,sk5,H4,blk⟩ a.tmps stk:=⟨hS4.H,hS4.heap,henv5,hsk5,hS4.frame⟩
    have toF : ∀C',zK FB C'→zK F C':=fun C' h=>(zcP hS3F.frame).frame _ (hleB.frame _ h)
    have hmk3:Wx C3' mark C.w.heap.size l:=by rw [hC3];exact mark_put C2 _ (mark_re C1 C2 hmk' (hleA.frame _ hS2.frame))
    have kept : ∀C',zK FB C'→YJ W1.heap.size C1 C':=fun C' h =>
      (YJ.of_re (hleA.frame _ hS2.frame)).trans (YJ.trans (by rw [hC3];exact YJ.putObj C2 _ hl1) (YJ.of_re (hleB.frame _ h)))
    cases e' with
    | goto i=>exact absurd hK4 (hgoto _ _)
    | norm =>
      simp only at hK4
      have hS5':zB FB C4 ⟨(nt,.gh L2)::env5,sk5,H4,blk⟩ a.tmps stk:=⟨hS5.H,hS5.heap,Zq.gh hS5.env nt L2,hS5.stk,hS5.frame⟩
      obtain ⟨s6,C6,hw6,hS6,hev6,hg6⟩:=z6q hS5' hK4 (n:=nt) (L:=L2) (.inl (by show Zm ((nt,.gh L2)::env5) nt=_;rw [Zu,if_pos rfl]))
      obtain ⟨_,cap6,_,_,hit6,_,_⟩:=unf hS6 hg6 hev6
      obtain ⟨hl6,hb6⟩:=(hleB.safe _ _ (Qd hl3 hb3)).at hS6.frame
      have hlt6:=(Array.getElem?_eq_some_iff.1 hl6).1
      refine ⟨_,_,run_endRound none hl4,.inl ⟨rfl,C6.at (C6.w.putObj l (.loop (wm fn a ps as c dd .ready none))),cap6,by rw [← hw6];rfl,?_,?_⟩⟩
      · rw [hJ]
        refine ⟨n',s6,hev6,hg6,hit6,yi ⟨hS6.H,hS6.heap,hS6.env,hS6.stk,toF _ hS6.frame⟩ (Nat.le_refl _) (Y8 _ hb6 hs0),World.putObj_heap_same hlt6,hb6,mark_put C6 _ (mark_re C3' C6 hmk3 (hleB.frame _ hS6.frame))⟩
      · exact (kept C6 hS6.frame).trans (YJ.putObj C6 _ hl1)
    | ret =>
      simp only at hK4
      refine ⟨_,_,run_endRound (some .ret) hl4,.inr ⟨rfl,C4.at (C4.w.putObj l (.loop (wm fn a ps as c dd .done (some .ret)))),rfl,?_,(kept C4 hS4.frame).trans (YJ.putObj C4 _ hl1)⟩⟩
      rw [hJx]
      exact ⟨.ret,.ret,_,rfl,hK4,yi ⟨hS5.H,hS5.heap,hS5.env,hS5.stk,toF _ hS5.frame⟩ (Nat.le_refl _) (Y8 _ hb4 hs0),World.putObj_heap_same hlt4,hb4,mark_put C4 _ (mark_re C3' C4 hmk3 (hleB.frame _ hS4.frame))⟩
    | exit i =>
      simp only at hK4
      refine ⟨_,_,run_endRound (some (.exit i)) hl4,.inr ⟨rfl,C4.at (C4.w.putObj l (.loop (wm fn a ps as c dd .done (some (.exit i))))),rfl,?_,(kept C4 hS4.frame).trans (YJ.putObj C4 _ hl1)⟩⟩
      rw [hJx]
      exact ⟨.exit i,.exit i,_,rfl,hK4,yi ⟨hS5.H,hS5.heap,hS5.env,hS5.stk,toF _ hS5.frame⟩ (Nat.le_refl _) (Y8 _ hb4 hs0),World.putObj_heap_same hlt4,hb4,mark_put C4 _ (mark_re C3' C4 hmk3 (hleB.frame _ hS4.frame))⟩
end
def rfG:Code→Operand | .rangeFunc g _ _ _=>g | _ => .tmp 0
def z6K:Code→Array Nat | .rangeFunc _ ps _ _=>ps | _ => #[]
def z61:Code→Code | .rangeFunc _ _ as _=>as | _ => .skip
def rfC:Code→Code | .rangeFunc _ _ _ c=>c | _ => .skip
def RH [BT] (T:Tab) (E:Env) (nt:Nat) (x:Ann) (c0:Code) (k0:Nat) (kp:Ex→List Nat) (G:(Ex→St→Ans)→St→Ans):Prop :=
  ∀K s res,G K s=some res → ∃n,zx T E zd (zy T E zd 0 64) n nt (.rnd x) c0 (zD k0 kp K) s=some res
theorem z85 [BT] (hm:P.follows .mixedOrders=true) (hT:zN P T) (hE:zf P E) {nt:Nat} {x:Ann} {L:Code} {k0:Nat} {kp:Ex→List Nat} (keep:List Nat) {G:(Ex→St→Ans)→St→Ans} (hL:L = .rangeFunc (rfG L) (z6K L) (z61 L) (rfC L))
    (hx:zcK P nt (rfC L) x.fst (zq P nt (rfC L) x.fst)) (h:RH T E nt x (.rangeFunc (rfG L) (z6K L) (z61 L) (rfC L)) k0 kp G):zw P nt L (zhs E nt k0 keep (rfG L) G):=by
  have key:zw P nt (.rangeFunc (rfG L) (z6K L) (z61 L) (rfC L)) (zhs E nt k0 keep (rfG L) G):=zfJ (hint:=zd) (d:=0) (m:=64) hm hT hE k0 kp keep hx h
  intro r F K s C a stk res h1 h2 h3 h4 h5
  rw [hL]
  exact key h1 h2 h3 h4 h5
#print axioms z85
end Go.AE
namespace Go.AE
variable {P:Program} {T:Tab}
def yJ (n:Nat):List (Nat×List Nat)→List Nat
  | []=>[]
  | (m,k)::r=>cond (Nat.beq n m) k (yJ n r)
def zgx (l:List (Nat×List Nat)):zlF:=fun b=>yJ (Nat.mod b 4096) l
structure ZN where
  g:Nat
  pure:Bool
  hints:List (Nat×List Nat)
def zbp:Nat:=20000
section
variable [BT] (T:Tab) (E:Env) (h:List (Nat×List Nat)) (nt k0:Nat)
noncomputable def qw:Nat→Code→Ann
  | b,.seq x y => .seq (qw b x) (qw b y)
  | b,.cond _ x y => .cond (qw b x) (qw b y)
  | _,.block id c => .block (qw id c)
  | b,.loop c => .loop (qw b c)
  | b,.rangeFunc g ps asn c => .cut k0 (yJ b h) (zhs E nt k0 (yJ b h) g fun K s =>
      zx T E (zgx h) (zy T E (zgx h) 0 1) zbp nt (.rnd (.block (qw b c))) (.rangeFunc g ps asn c) (zD k0 (fun _=>yJ b h) K) s)
  | _,_ => .none
end
def ZN.ok (P:Program) (i:ZN):Bool :=
  match P.funcs[i.g]? with
  | some f=>f.body.isSome&&decide (f.name ≠ "runtime.NumGoroutine")
  | none=>false
theorem z8d [BT] (hm:P.follows .mixedOrders=true) (hT:zN P T) {E:Env} (hE:zf P E) (h:List (Nat×List Nat)) (nt k0:Nat) :
    ∀(c:Code) (b:Nat),zcK P nt c (qw T E h nt k0 b c) (zq P nt c (qw T E h nt k0 b c))∧zq P nt c (qw T E h nt k0 b c):=by
  intro c
  induction c with
  | seq x y ihx ihy=>intro b;rw [qw];exact ⟨⟨(ihx b).1,(ihy b).1⟩,⟨(ihx b).1,(ihy b).1⟩⟩
  | cond c x y ihx ihy=>intro b;rw [qw];exact ⟨⟨(ihx b).1,(ihy b).1⟩,⟨(ihx b).1,(ihy b).1⟩⟩
  | block id c ih=>intro b;rw [qw];exact ⟨(ih id).1,(ih id).1⟩
  | loop c ih=>intro b;rw [qw];exact ⟨⟨(ih b).1,fun G e=>by cases e⟩,⟨(ih b).1,fun G e=>by cases e⟩⟩
  | rangeFunc g ps asn c iha ihc =>
    intro b
    rw [qw]
    refine ⟨?_,trivial⟩
    exact zfJ (hint:=zgx h) (d:=0) (m:=1) hm hT hE k0 (fun _=>yJ b h) (yJ b h) (x := .block (qw T E h nt k0 b c)) (ihc b).1 (fun K s res e=>⟨zbp,e⟩)
  | _=>intro b;exact ⟨trivial,trivial⟩
def z7P (v:AV):List AV→List Obj→(AV→List Obj→Ans)→Ans:=fun l H K=>match l,H with
  | [],[]=>K v []
  | _,_=>none
end Go.AE
namespace Go.AE
noncomputable def ieq (a b:Int):Bool := @Int.rec (fun _=>Bool) (fun m => @Int.rec (fun _=>Bool) (fun n=>Nat.beq m n) (fun _=>false) b) (fun m => @Int.rec (fun _=>Bool) (fun _=>false) (fun n=>Nat.beq m n) b) a
theorem zYL {a b:Int} (h:ieq a b=true):a=b:=by
  cases a <;> cases b <;> simp only [ieq] at h <;> first | (cases h;done) | rw [Nat.eq_of_beq_eq_true h]
def bEq:List UInt8→List UInt8→Bool
  | [],[]=>true
  | a::r,b::s=>cond (Nat.beq a.toNat b.toNat) (bEq r s) false
  | _,_=>false
theorem zKt : ∀{a b:List UInt8},bEq a b=true→a=b
  | [],[],_=>rfl
  | a::r,b::s,h=>by
    rw [bEq] at h
    cases hb:Nat.beq a.toNat b.toNat with
    | false=>rw [hb] at h;cases h
    | true =>
      rw [hb,cond_true] at h
      rw [zKt h,UInt8.toNat_inj.1 (Nat.eq_of_beq_eq_true hb)]
  | [],_::_,h=>by cases h
  | _::_,[],h=>by cases h
def lEq {α:Type} (f:α→α→Bool):List α→List α→Bool
  | [],[]=>true
  | a::r,b::s=>cond (f a b) (lEq f r s) false
  | _,_=>false
theorem zd7 {α:Type} {f:α→α→Bool} (hf : ∀a b,f a b=true→a=b) : ∀{a b:List α},lEq f a b=true→a=b
  | [],[],_=>rfl
  | a::r,b::s,h=>by
    rw [lEq] at h
    cases hb:f a b with
    | false=>rw [hb] at h;cases h
    | true =>
      rw [hb,cond_true] at h
      rw [zd7 hf h,hf _ _ hb]
  | [],_::_,h=>by cases h
  | _::_,[],h=>by cases h
def oEq (a b:Bool):Bool:=match a,b with
  | true,true=>true
  | false,false=>true
  | _,_=>false
theorem z03 {a b:Bool} (h:oEq a b=true):a=b:=by cases a <;> cases b <;> first | rfl | cases h
noncomputable def tEq:(t:Ty)→t.T→t.T→Bool
  | .int _,a,b=>ieq a b
  | .bool,a,b=>oEq a b
  | .str,a,b=>bEq a b
  | .unit,_,_=>true
  | .st f,a,b=>tEq f a b
  | .pair x y,a,b=>cond (tEq x a.1 b.1) (tEq y a.2 b.2) false
  | .list e,a,b=>lEq (tEq e) a b
theorem zdS : ∀{t:Ty} (a b:t.T),tEq t a b=true→a=b
  | .int _,a,b,h=>by rw [tEq] at h;exact zYL h
  | .bool,a,b,h=>z03 h
  | .str,a,b,h=>zKt h
  | .unit,_,_,_=>rfl
  | .st f,a,b,h=>zdS (t:=f) a b h
  | .pair x y,a,b,h=>by
    rw [tEq] at h
    cases hb:tEq x a.1 b.1 with
    | false=>rw [hb] at h;cases h
    | true =>
      rw [hb,cond_true] at h
      exact Prod.ext (zdS _ _ hb) (zdS _ _ h)
  | .list e,a,b,h=>zd7 (fun a b=>zdS a b) h
mutual
noncomputable def aEq:AV→AV→Bool
  | .int k n,.int k' n'=>(match decEq k k' with | isTrue _=>ieq n n' | isFalse _=>false)
  | .bool a,.bool b=>oEq a b
  | .str a,.str b=>bEq a b
  | .ptr i o,.ptr j p=>cond (Nat.beq i j) (Nat.beq o p) false
  | .own i,.own j=>Nat.beq i j
  | .map i,.map j=>Nat.beq i j
  | .sub i o l e,.sub i' o' l' e'=>cond (Nat.beq i i') (cond (Nat.beq o o') (cond (Nat.beq l l') (Nat.beq e e') false) false) false
  | .nilp,.nilp=>true
  | .nils,.nils=>true
  | .nilm,.nilm=>true
  | .nilf,.nilf=>true
  | .nili,.nili=>true
  | .ro t l,.ro t' l'=>(match yH t t' l' with | some l'=>lEq (tEq t) l l' | none=>false)
  | .fn (.func f) a b,.fn (.func g) c d=>cond (Nat.beq f g) (cond (zim a c) (zim b d) false) false
  | .ifc t v,.ifc u w=>cond (Nat.beq t u) (aEq v w) false
  | .agg a,.agg b=>zim a b
  | .tup a,.tup b=>zim a b
  | _,_=>false
noncomputable def zim:List AV→List AV→Bool
  | [],[]=>true
  | a::r,b::s=>cond (aEq a b) (zim r s) false
  | _,_=>false
end
theorem Jw {a b:Bool} (h:cond a b false=true):a=true∧b=true:=by cases a <;> simp_all
mutual
theorem zH2 : ∀(a b:AV),aEq a b=true→a=b:=by
  intro a b h
  unfold aEq at h
  split at h <;> first | (cases h;done) | skip
  · split at h
    · rename_i e _;subst e;rw [zYL h]
    · cases h
  · rw [z03 h]
  · rw [zKt h]
  · obtain ⟨h1,h2⟩:=Jw h
    rw [Nat.eq_of_beq_eq_true h1,Nat.eq_of_beq_eq_true h2]
  · rw [Nat.eq_of_beq_eq_true h]
  · rw [Nat.eq_of_beq_eq_true h]
  · obtain ⟨h1,h⟩:=Jw h
    obtain ⟨h2,h⟩:=Jw h
    obtain ⟨h3,h4⟩:=Jw h
    rw [Nat.eq_of_beq_eq_true h1,Nat.eq_of_beq_eq_true h2,Nat.eq_of_beq_eq_true h3,Nat.eq_of_beq_eq_true h4]
  · rfl
  · rfl
  · rfl
  · rfl
  · rfl
  · split at h
    · rename_i m hm
      obtain ⟨e,rfl⟩:=yM hm
      subst e
      rw [zd7 (fun a b=>zdS a b) h]
    · cases h
  · obtain ⟨h1,h⟩:=Jw h
    obtain ⟨h2,h3⟩:=Jw h
    rw [Nat.eq_of_beq_eq_true h1,zby _ _ h2,zby _ _ h3]
  · obtain ⟨h1,h⟩:=Jw h
    rw [Nat.eq_of_beq_eq_true h1,zH2 _ _ h]
  · rw [zby _ _ h]
  · rw [zby _ _ h]
theorem zby : ∀(a b:List AV),zim a b=true→a=b:=by
  intro a b h
  unfold zim at h
  split at h
  · rfl
  · obtain ⟨h1,h2⟩:=Jw h
    rw [zH2 _ _ h1,zby _ _ h2]
  · cases h
end
noncomputable def zu8:Obj→Obj→Bool
  | .dead,.dead=>true
  | .cells a,.cells b=>zim a b
  | .arr t l,.arr t' l'=>(match yH t t' l' with | some l'=>lEq (tEq t) l l' | none=>false)
  | .mp k v l,.mp k' v' l'=>(match decEq k k' with
    | isTrue _=>(match yH (.pair (.int .i64) v) (.pair (.int .i64) v') l' with | some l'=>lEq (tEq (.pair (.int .i64) v)) l l' | none=>false)
    | isFalse _=>false)
  | _,_=>false
theorem zHQ (a b:Obj) (h:zu8 a b=true):a=b:=by
  unfold zu8 at h
  split at h
  · rfl
  · rw [zby _ _ h]
  · split at h
    · rename_i m hm
      obtain ⟨e,rfl⟩:=yM hm
      subst e
      rw [zd7 (fun a b=>zdS a b) h]
    · cases h
  · split at h
    · rename_i e _
      subst e
      split at h
      · rename_i m hm
        obtain ⟨e,rfl⟩:=yM hm
        cases e
        have:=zd7 (fun a b=>zdS (t := .pair (.int .i64) _) a b) h
        subst this
        rfl
      · cases h
    · cases h
  · cases h
noncomputable def zW5 (a b:Ans):Ans:=match a,b with
  | some r,some r'=>cond (aEq r.1 r'.1) (cond (lEq zu8 r.2 r'.2) (some r) none) none
  | _,_=>none
theorem z48 {a b:Ans} {res:AV×List Obj} (h:zW5 a b=some res):a=some res∧b=some res:=by
  unfold zW5 at h
  split at h
  · rename_i r r'
    obtain ⟨v,H⟩:=r
    obtain ⟨v',H'⟩:=r'
    cases h1:aEq v v' with
    | false=>simp only [h1,cond_false] at h;cases h
    | true =>
      cases h2:lEq zu8 H H' with
      | false=>simp only [h1,h2,cond_true,cond_false] at h;cases h
      | true =>
        simp only [h1,h2,cond_true] at h
        cases h
        rw [zH2 _ _ h1,zd7 zHQ h2]
        exact ⟨rfl,rfl⟩
  · cases h
end Go.AE
namespace Go.AE
open Go.RowKit (Below)
variable {P:Program} {T:Tab} {E:Env}
noncomputable def fN (n:Nat) (K:Nat→Ans):Ans := @Nat.rec (fun _=>Ans) (K 0) (fun m _=>K (Nat.succ m)) n
theorem zsk (n:Nat) (K:Nat→Ans):fN n K=K n:=by cases n <;> rfl
noncomputable def fI (n:Int) (K:Int→Ans):Ans := @Int.rec (fun _=>Ans) (fun m=>fN m fun m=>K (Int.ofNat m)) (fun m=>fN m fun m=>K (Int.negSucc m)) n
theorem zVw (n:Int) (K:Int→Ans):fI n K=K n:=by cases n <;> simp only [fI,zsk]
noncomputable def fB (b:Bool) (K:Bool→Ans):Ans := @Bool.rec (fun _=>Ans) (K false) (K true) b
theorem z74 (b:Bool) (K:Bool→Ans):fB b K=K b:=by cases b <;> rfl
mutual
noncomputable def fV (v:AV) (K:AV→Ans):Ans :=
  match v with
  | .int k n=>fI n fun n=>K (.int k n)
  | .bool b=>fB b fun b=>K (.bool b)
  | .str s=>K (.str s)
  | .ptr i o=>fN i fun i=>fN o fun o=>K (.ptr i o)
  | .tup vs=>fVs vs fun vs=>K (.tup vs)
  | .own i=>fN i fun i=>K (.own i)
  | .agg cs=>fVs cs fun cs=>K (.agg cs)
  | .nilp=>K .nilp
  | .map i=>fN i fun i=>K (.map i)
  | .ro t l=>K (.ro t l)
  | .nils=>K .nils
  | .nilm=>K .nilm
  | .nilf=>K .nilf
  | .nili=>K .nili
  | .ifc t v=>fV v fun v=>K (.ifc t v)
  | .eptr i n o=>fN i fun i=>fN n fun n=>fN o fun o=>K (.eptr i n o)
  | .sub i o l e=>fN i fun i=>fN o fun o=>fN l fun l=>K (.sub i o l e)
  | .fn f a b=>fVs a fun a=>fVs b fun b=>K (.fn f a b)
  | .rptr t x o=>fN o fun o=>K (.rptr t x o)
  | .gh l=>K (.gh l)
  | .unk=>K .unk
noncomputable def fVs (l:List AV) (K:List AV→Ans):Ans :=
  match l with
  | []=>K []
  | v::r=>fV v fun v=>fVs r fun r=>K (v::r)
end
mutual
theorem zaR (v:AV) (K:AV→Ans):fV v K=K v:=by
  cases v <;> simp only [fV,zsk,zVw,z74]
  · rw [J5,J5]
  · rw [zaR]
  · rw [J5]
  · rw [J5]
theorem J5 (l:List AV) (K:List AV→Ans):fVs l K=K l:=by
  cases l <;> simp only [fVs]
  rw [zaR,J5]
end
noncomputable def fL {α:Type} (l:List α):(List α→Ans)→Ans := @List.rec α (fun _=>(List α→Ans)→Ans) (fun K=>K []) (fun x _ ih K=>ih fun r=>K (x::r)) l
theorem ze8 {α:Type} (l:List α) : ∀K:List α→Ans,fL l K=K l:=by
  induction l with
  | nil=>intro K;rfl
  | cons x r ih=>intro K;exact ih _
noncomputable def zfV (env:zT) (t:Nat):AV := @List.rec (Nat×AV) (fun _=>AV) .unk (fun p _ ih => @Bool.rec (fun _=>AV) ih p.2 (Nat.beq p.1 t)) env
theorem zbM (env:zT) (t:Nat):zfV env t=Zm env t:=by
  induction env with
  | nil=>rfl
  | cons p r ih =>
    obtain ⟨d,v⟩:=p
    rw [Zm]
    show @Bool.rec (fun _=>AV) (zfV r t) v (Nat.beq d t)=_
    cases Nat.beq d t <;> simp [ih]
noncomputable def zxl (H:List Obj):Nat→Obj := @List.rec Obj (fun _=>Nat→Obj) (fun _ => .dead) (fun o _ ih n => @Nat.rec (fun _=>Obj) o (fun m _=>ih m) n) H
theorem znD (H:List Obj) : ∀n,zxl H n=zp H n:=by
  induction H with
  | nil=>intro n;rfl
  | cons o r ih=>intro n;cases n with
    | zero=>rfl
    | succ n=>exact ih n
noncomputable def zAW {α:Type} (l:List α):Nat→Option α := @List.rec α (fun _=>Nat→Option α) (fun _=>none) (fun o _ ih n => @Nat.rec (fun _=>Option α) (some o) (fun m _=>ih m) n) l
theorem zgn {α:Type} (l:List α) : ∀n,zAW l n=l[n]? := by
  induction l with
  | nil=>intro n;rfl
  | cons o r ih=>intro n;cases n with
    | zero=>rfl
    | succ n=>exact (ih n).trans (by simp)
noncomputable def zL8 {α:Type} (l:List α):Nat→α→(List α→Ans)→Ans := @List.rec α (fun _=>Nat→α→(List α→Ans)→Ans) (fun _ _ K=>K [])
  (fun o r ih n x K => @Nat.rec (fun _=>Ans) (K (x::r)) (fun m _=>ih m x fun r'=>K (o::r')) n) l
theorem zCf {α:Type} (l:List α) : ∀n x (K:List α→Ans),zL8 l n x K=K (l.set n x):=by
  induction l with
  | nil=>intro n x K;rfl
  | cons o r ih=>intro n x K;cases n with
    | zero=>rfl
    | succ n=>exact ih n x _
noncomputable def ZaX {α:Type} (l:List α) (x:α):(List α→Ans)→Ans := @List.rec α (fun _=>(List α→Ans)→Ans) (fun K=>K [x]) (fun o _ ih K=>ih fun r=>K (o::r)) l
theorem z8B {α:Type} (l:List α) (x:α) : ∀K:List α→Ans,ZaX l x K=K (l++[x]):=by
  induction l with
  | nil=>intro K;rfl
  | cons o r ih=>intro K;exact ih _
noncomputable def zKh {α:Type} (l:List α):(Nat→Ans)→Ans := @List.rec α (fun _=>(Nat→Ans)→Ans) (fun K=>K 0) (fun _ _ ih K=>ih fun n=>K (Nat.succ n)) l
theorem zCJ {α:Type} (l:List α) : ∀K:Nat→Ans,zKh l K=K l.length:=by
  induction l with
  | nil=>intro K;rfl
  | cons o r ih=>intro K;exact ih _
structure CV where
  run:zT→AV
noncomputable def vOf:Operand→CV
  | .tmp t=>⟨fun env=>zfV env t⟩
  | .const v=>⟨fun _=>zdp v⟩
  | .global _=>⟨fun _ => .unk⟩
  | .func f=>⟨fun _ => .fn (.func f) [] []⟩
theorem Zn (o:Operand) (env:zT):(vOf o).run env=opd env o:=by
  cases o <;> simp [vOf,opd,zbM]
noncomputable def zAp (s:St) (i:Nat) (o:Obj) (K:St→Ans):Ans :=
  @St.casesOn (fun _=>Ans) s fun env stk H blk=>zL8 H i o fun H=>K ⟨env,stk,H,blk⟩
theorem zgi (s:St) (i:Nat) (o:Obj) (K:St→Ans):zAp s i o K=Wy s i o K:=by
  obtain ⟨env,stk,H,blk⟩:=s
  rw [YV]
  show zL8 H i o _=_
  rw [zCf,zbE]
noncomputable def zCg (s:St) (o:Obj) (K:Nat→St→Ans):Ans :=
  @St.casesOn (fun _=>Ans) s fun env stk H blk=>zKh H fun i=>ZaX H o fun H=>K i ⟨env,stk,H,blk⟩
theorem zqa (s:St) (o:Obj) (K:Nat→St→Ans):zCg s o K=qP s o K:=by
  obtain ⟨env,stk,H,blk⟩:=s
  rw [Y5]
  show zKh H _=_
  rw [zCJ,z8B]
noncomputable def zdD (nt:Nat) (dst:Option Nat) (v:AV) (s:St) (K:St→Ans):Ans :=
  match dst with
  | some d=>cond (Nat.blt d nt) (fV v fun v => @St.casesOn (fun _=>Ans) s fun env stk H blk=>K ⟨(d,v)::env,stk,H,blk⟩) none
  | none=>K s
theorem JA (nt:Nat) (dst:Option Nat) (v:AV) (s:St) (K:St→Ans):zdD nt dst v s K=zcG nt dst v s K:=by
  obtain ⟨env,stk,H,blk⟩:=s
  cases dst with
  | none=>rfl
  | some d=>simp only [zdD,zcG,zaR,yn]
theorem zHT (cs:List AV) (v:AV) : ∀off,y9 cs off [v]=za (cs[off]?) fun _=>some (cs.set off v):=by
  have key : ∀(cs:List AV) (off:Nat) (x:AV),cs[off]? = some x→YU off cs=some (cs.take off)∧YU 1 (cs.drop off)=some [x]∧cs.take off++[v]++(cs.drop off).drop 1=cs.set off v:=by
    intro cs
    induction cs with
    | nil=>intro off x h;simp at h
    | cons c r ih =>
      intro off x h
      cases off with
      | zero=>simp at h;subst h;exact ⟨rfl,rfl,by simp⟩
      | succ off =>
        obtain ⟨h1,h2,h3⟩:=ih off x (by simpa using h)
        refine ⟨by rw [YU,h1];rfl,by simpa using h2,?_⟩
        simpa using h3
  have no : ∀(cs:List AV) (off:Nat),cs[off]? = none→YU off cs=none∨YU 1 (cs.drop off)=none:=by
    intro cs
    induction cs with
    | nil =>
      intro off _
      cases off with
      | zero=>exact .inr rfl
      | succ _=>exact .inl rfl
    | cons c r ih =>
      intro off h
      cases off with
      | zero=>simp at h
      | succ off =>
        rcases ih off (by simpa using h) with h1 | h1
        · exact .inl (by rw [YU,h1])
        · exact .inr (by simpa using h1)
  intro off
  cases hx:cs[off]? with
  | some x =>
    obtain ⟨h1,h2,h3⟩:=key cs off x hx
    rw [y9,h1]
    show (match YU 1 (cs.drop off) with | none=>none | some _=>some (cs.take off++[v]++(cs.drop off).drop 1))=_
    rw [h2,h3]
    rfl
  | none =>
    show _=none
    rw [y9]
    rcases no cs off hx with h1 | h1
    · rw [h1]
    · cases YU off cs with
      | none=>rfl
      | some a =>
        show (match YU 1 (cs.drop off) with | none=>none | some _=>some (a++[v]++(cs.drop off).drop 1))=_
        rw [h1]
theorem zNq (cs:List AV) (off:Nat):qa cs off 1=za (cs[off]?) fun v=>some [v]:=by
  unfold qa
  induction cs generalizing off with
  | nil=>cases off <;> rfl
  | cons c r ih=>cases off with
    | zero=>rfl
    | succ off=>simpa using ih off
structure CL where
  run:St→AV→(AV→Ans)→Ans
noncomputable def zvy (T:Tab) (t:Nat):CL :=
  match Tab.get T t with
  | none=>⟨fun _ _ _=>none⟩
  | some i=>cond (Nat.beq i.size 1 && !i.isAgg)
      ⟨fun s p K=>match p with
        | .ptr n off=>(match zxl s.H n with
          | .cells cs=>za (zAW cs off) K
          | _=>load T s t (.ptr n off) K)
        | p=>load T s t p K⟩
      ⟨fun s p K=>load T s t p K⟩
theorem zrH (t:Nat) (s:St) (p:AV) (K:AV→Ans):(zvy T t).run s p K=load T s t p K:=by
  unfold zvy
  cases hi:Tab.get T t with
  | none=>simp only [load,hi];rfl
  | some i =>
    dsimp only
    cases hc:Nat.beq i.size 1 && !i.isAgg with
    | false=>rfl
    | true =>
      simp only [Bool.and_eq_true,Bool.not_eq_true'] at hc
      have h1:i.size=1:=Nat.eq_of_beq_eq_true hc.1
      simp only [cond_true]
      split
      · rename_i n off
        rw [znD]
        split
        · rename_i cs hcs
          rw [zgn,load,hi]
          simp only [za,hcs,hc.2,cond_false,h1,zNq]
          cases cs[off]? <;> rfl
        · rfl
      · rfl
structure CS where
  run:St→AV→AV→(St→Ans)→Ans
noncomputable def zvF (T:Tab) (t:Nat):CS :=
  match Tab.get T t with
  | none=>⟨fun _ _ _ _=>none⟩
  | some i=>⟨fun s p v K=>match p with
      | .ptr n off=>(match zxl s.H n with
        | .cells cs=>match v with
          | .agg vs=>cond (Nat.beq vs.length i.size&&Jn vs) (za (y9 cs off vs) fun cs'=>fL cs' fun cs'=>zAp s n (.cells cs') K) none
          | v=>cond (Nat.beq 1 i.size&&v.cellOk) (za (zAW cs off) fun _=>zL8 cs off v fun cs'=>zAp s n (.cells cs') K) none
        | _=>store T s t (.ptr n off) v K)
      | .eptr n idx off=>(match zxl s.H n with
        | .arr ty l=>cond (Nat.beq v.cellsOf.length i.size&&Jn v.cellsOf) (za (zAW l idx) fun x=>za (y9 (cells ty x) off v.cellsOf) fun cs'=>za (j6 ty cs') fun x'=>zL8 l idx x' fun l'=>zAp s n (.arr ty l') K) none
        | _=>store T s t (.eptr n idx off) v K)
      | p=>store T s t p v K⟩
theorem zDj (t:Nat) (s:St) (p v:AV) (K:St→Ans):(zvF T t).run s p v K=store T s t p v K:=by
  unfold zvF
  cases hi:Tab.get T t with
  | none=>simp only [store,hi];rfl
  | some i =>
    dsimp only
    split
    · rename_i n off
      rw [znD]
      split
      · rename_i cs hcs
        split
        · rename_i vs
          simp only [ze8,zgi,store,hi,za,hcs,AV.cellsOf]
        · rename_i hv
          have hco:v.cellsOf=[v]:=by
            cases v <;> first | rfl | exact (hv _ rfl).elim
          simp only [zCf,zgi,zgn,store,hi,za,hcs,hco,zHT,Jn,Bool.and_true,List.length_singleton]
          congr 1
          cases cs[off]? <;> rfl
      · rfl
    · rename_i n idx off
      rw [znD]
      split
      · rename_i ty l hl
        simp only [zCf,zgi,zgn,store,hi,za,hl]
      · rfl
    · rfl
structure CA where
  run:AV→(AV→Ans)→Ans
noncomputable def zcR (T:Tab) (t f:Nat):CA :=
  match Tab.get T t with
  | none=>⟨fun _ _=>none⟩
  | some i=>match i.k with
    | .struct fs=>(match fs[f]? with
      | none=>⟨fun _ _=>none⟩
      | some q=>match Tab.get T q.1 with
        | none=>⟨fun _ _=>none⟩
        | some j=>cond (Nat.beq j.size 0) ⟨fun _ _=>none⟩ ⟨fun p K=>match p with
          | .ptr n o=>K (.ptr n (o+q.2))
          | .eptr n x o=>K (.eptr n x (o+q.2))
          | .rptr ty x o=>K (.rptr ty x (o+q.2))
          | _=>none⟩)
    | _=>⟨fun _ _=>none⟩
theorem zjc (t f:Nat) (p:AV) (K:AV→Ans):(zcR T t f).run p K=fieldAddr T t p f K:=by
  unfold zcR fieldAddr
  cases hi:Tab.get T t with
  | none=>rfl
  | some i =>
    dsimp only [za]
    cases i.k with
    | struct fs =>
      dsimp only
      cases fs[f]? with
      | none=>rfl
      | some q =>
        obtain ⟨ft,off⟩:=q
        dsimp only
        cases Tab.get T ft with
        | none=>rfl
        | some j =>
          dsimp only
          cases Nat.beq j.size 0 <;> rfl
    | _=>rfl
noncomputable def ltB (a b:Int):Bool := @Int.rec (fun _=>Bool) (fun m => @Int.rec (fun _=>Bool) (fun n=>Nat.blt m n) (fun _=>false) b) (fun m => @Int.rec (fun _=>Bool) (fun _=>true) (fun n=>Nat.blt n m) b) a
theorem zIr (a b:Int):ltB a b=decide (a<b):=by
  cases a <;> cases b <;> simp only [ltB,Int.ofNat_eq_natCast]
  · rename_i m n
    rw [Bool.eq_iff_iff,Nat.blt_eq,decide_eq_true_eq];omega
  · rename_i m n
    symm;rw [decide_eq_false_iff_not];omega
  · rename_i m n
    symm;rw [decide_eq_true_eq];omega
  · rename_i m n
    rw [Bool.eq_iff_iff,Nat.blt_eq,decide_eq_true_eq];omega
noncomputable def eqB (a b:Int):Bool := @Int.rec (fun _=>Bool) (fun m => @Int.rec (fun _=>Bool) (fun n=>Nat.beq m n) (fun _=>false) b) (fun m => @Int.rec (fun _=>Bool) (fun _=>false) (fun n=>Nat.beq m n) b) a
theorem ZaD (a b:Int):eqB a b=(a == b):=by
  cases a <;> cases b <;> simp only [eqB,Int.ofNat_eq_natCast]
  · rename_i m n
    rw [Bool.eq_iff_iff,Nat.beq_eq,beq_iff_eq];omega
  · rename_i m n
    symm;rw [beq_eq_false_iff_ne];omega
  · rename_i m n
    symm;rw [beq_eq_false_iff_ne];omega
  · rename_i m n
    rw [Bool.eq_iff_iff,Nat.beq_eq,beq_iff_eq];omega
noncomputable def zSS (k:IntKind):Nat:=match k with
  | .i64=>9223372036854775807
  | .u8=>255
  | .u32=>4294967295
  | .u64=>18446744073709551615
  | _=>0
theorem z0H (k:IntKind) (m:Nat) (h:Nat.ble m (zSS k)=true):k.wrap (Int.ofNat m)=Int.ofNat m:=by
  have h:=Nat.le_of_ble_eq_true h
  cases k <;> simp only [zSS] at h <;> simp [IntKind.wrap,IntKind.bits,IntKind.signed] <;> omega
noncomputable def zif (k:IntKind) (x:Int) (K:AV→Ans):Ans :=
  @Int.rec (fun _=>Ans) (fun m => @Bool.rec (fun _=>Ans) (fI (k.wrap (Int.ofNat m)) fun n=>K (.int k n)) (fN m fun m=>K (.int k (Int.ofNat m))) (Nat.ble m (zSS k))) (fun m=>fI (k.wrap (Int.negSucc m)) fun n=>K (.int k n)) x
theorem zM0 (k:IntKind) (x:Int) (K:AV→Ans):zif k x K=K (.int k (k.wrap x)):=by
  cases x with
  | ofNat m =>
    simp only [zif]
    cases h:Nat.ble m (zSS k) with
    | false=>simp only [zVw]
    | true=>simp only [zsk];rw [z0H k m h]
  | negSucc m=>simp only [zif,zVw]
structure CI where
  run:IntKind→Int→Int→(AV→Ans)→Ans
noncomputable def zW6 (op:BinOp):CI :=
  match op with
  | .add=>⟨fun k a b K=>zif k (Int.add a b) K⟩
  | .sub=>⟨fun k a b K=>zif k (Int.sub a b) K⟩
  | .mul=>⟨fun k a b K=>zif k (Int.mul a b) K⟩
  | .eql=>⟨fun _ a b K=>fB (eqB a b) fun b=>K (.bool b)⟩
  | .neq=>⟨fun _ a b K=>fB (@Bool.rec (fun _=>Bool) true false (eqB a b)) fun b=>K (.bool b)⟩
  | .lss=>⟨fun _ a b K=>fB (ltB a b) fun b=>K (.bool b)⟩
  | .gtr=>⟨fun _ a b K=>fB (ltB b a) fun b=>K (.bool b)⟩
  | .leq=>⟨fun _ a b K=>fB (@Bool.rec (fun _=>Bool) true false (ltB b a)) fun b=>K (.bool b)⟩
  | .geq=>⟨fun _ a b K=>fB (@Bool.rec (fun _=>Bool) true false (ltB a b)) fun b=>K (.bool b)⟩
  | op=>⟨fun k a b K=>zcs op k a b K⟩
theorem z8R (op:BinOp) (k:IntKind) (a b:Int) (K:AV→Ans):(zW6 op).run k a b K=zcs op k a b K:=by
  cases op <;> simp only [zW6,zcs,zM0,z74,ZaD,zIr] <;> try rfl
  · congr 2
    cases h:(a == b) <;> simp_all [bne]
  · congr 2
    rw [Bool.eq_iff_iff]
    by_cases h:b<a <;> simp [h] <;> omega
  · congr 2
    rw [Bool.eq_iff_iff]
    by_cases h:a<b <;> simp [h] <;> omega
structure CB where
  run:AV→AV→(AV→Ans)→Ans
noncomputable def zXO (T:Tab) (op:BinOp) (t:Nat) (c:Bool):CB :=
  cond (zbK op) ⟨fun x y K=>zdU T op t c x y K⟩
    ⟨fun x y K=>match x with
      | .int k a=>(match y with
        | .int k' b=>(match decEq k k' with | isTrue _=>(zW6 op).run k a b K | isFalse _=>none)
        | y=>zdU T op t c (.int k a) y K)
      | x=>zdU T op t c x y K⟩
theorem zPm (op:BinOp) (t:Nat) (c:Bool) (x y:AV) (K:AV→Ans):(zXO T op t c).run x y K=zdU T op t c x y K:=by
  unfold zXO
  cases hs:zbK op with
  | true=>rfl
  | false =>
    simp only [cond_false]
    cases x <;> try rfl
    rename_i k a
    cases y <;> try rfl
    rename_i k' b
    show (match decEq k k' with | isTrue _=>(zW6 op).run k a b K | isFalse _=>none)=binOp T op t (.int k a) (.int k' b) K
    simp only [binOp,hs,cond_false,z8R]
    cases decEq k k' <;> rfl
noncomputable def zIX (T:Tab) (s:St) (t:Nat) (x:AV) (lo hi mx:Option AV) (K:AV→Ans):Ans :=
  match x,lo,hi,mx with
  | .str a,some l,none,none=>za (Tab.get T t) fun ti=>match ti.k with
    | .sc=>cond (qy ti) (asInt l fun n=>cond (inR n (a.length+1)) (fN n.toNat fun n=>K (.str (a.drop n))) none) none
    | _=>slice T s t x lo hi mx K
  | .str a,none,some h,none=>za (Tab.get T t) fun ti=>match ti.k with
    | .sc=>cond (qy ti) (asInt h fun n=>cond (inR n (a.length+1)) (fN n.toNat fun n=>K (.str (a.take n))) none) none
    | _=>slice T s t x lo hi mx K
  | _,_,_,_=>slice T s t x lo hi mx K
theorem z1L (s:St) (t:Nat) (x:AV) (lo hi mx:Option AV) (K:AV→Ans):zIX T s t x lo hi mx K=slice T s t x lo hi mx K:=by
  unfold zIX
  split
  · rename_i a l
    unfold slice
    cases Tab.get T t with
    | none=>rfl
    | some ti =>
      dsimp only [za]
      cases ti.k <;> try rfl
      dsimp only
      cases qy ti <;> try rfl
      simp only [cond_true,q1,zsk,zrI]
  · rename_i a h
    unfold slice
    cases Tab.get T t with
    | none=>rfl
    | some ti =>
      dsimp only [za]
      cases ti.k <;> try rfl
      dsimp only
      cases qy ti <;> try rfl
      simp only [cond_true,q1,zsk,zrI]
  · rfl
noncomputable def zoB (i:Nat) (v:AV) (K:AV→Ans):Ans :=
  match v with
  | .int k n=>K (.int k n)
  | .own j => @Bool.rec (fun _=>Ans) (K (.own j)) (K .unk) (Nat.beq i j)
  | .ptr j o => @Bool.rec (fun _=>Ans) (K (.ptr j o)) (K .unk) (Nat.beq i j)
  | .bool b=>K (.bool b)
  | .str s=>K (.str s)
  | .unk=>K .unk
  | .nilp=>K .nilp
  | v=>fV (v.mapR (Zx i)) K
theorem zK8 (i:Nat) (v:AV) (K:AV→Ans):zoB i v K=K (v.mapR (Zx i)):=by
  unfold zoB
  split
  · rw [AV.mapR]
  · rename_i j
    rw [AV.mapR,Zx]
    cases Nat.beq i j <;> rfl
  · rename_i j o
    rw [AV.mapR,Zx]
    cases Nat.beq i j <;> rfl
  · rw [AV.mapR]
  · rw [AV.mapR]
  · rw [AV.mapR]
  · rw [AV.mapR]
  · rw [zaR]
noncomputable def ziA (i:Nat) (env:zT):(zT→Ans)→Ans := @List.rec (Nat×AV) (fun _=>(zT→Ans)→Ans) (fun K=>K []) (fun p _ ih K => @Prod.rec Nat AV (fun _=>Ans) (fun d v=>zoB i v fun v=>ih fun r=>K ((d,v)::r)) p) env
theorem zHz (i:Nat) (env:zT) : ∀K:zT→Ans,ziA i env K=K (Z8 (Zx i) env):=by
  induction env with
  | nil=>intro K;rfl
  | cons p r ih =>
    obtain ⟨d,v⟩:=p
    intro K
    have e:ziA i ((d,v)::r) K=zoB i v (fun v=>ziA i r fun r=>K ((d,v)::r)):=rfl
    rw [e,zK8]
    exact ih _
noncomputable def zGR (i:Nat) (stk:List zT):(List zT→Ans)→Ans := @List.rec zT (fun _=>(List zT→Ans)→Ans) (fun K=>K []) (fun e _ ih K=>ziA i e fun e=>ih fun r=>K (e::r)) stk
theorem z5r (i:Nat) (stk:List zT) : ∀K:List zT→Ans,zGR i stk K=K (YG (Zx i) stk):=by
  induction stk with
  | nil=>intro K;rfl
  | cons e r ih =>
    intro K
    have e':zGR i (e::r) K=ziA i e (fun e=>zGR i r fun r=>K (e::r)):=rfl
    rw [e',zHz]
    exact ih _
noncomputable def zlg (i:Nat) (l:List AV):(List AV→Ans)→Ans := @List.rec AV (fun _=>(List AV→Ans)→Ans) (fun K=>K []) (fun e _ ih K=>zoB i e fun e=>ih fun r=>K (e::r)) l
theorem z3c (i:Nat) (l:List AV) : ∀K:List AV→Ans,zlg i l K=K (AV.mapRs (Zx i) l):=by
  induction l with
  | nil=>intro K;show K []=_;rw [AV.mapRs]
  | cons e r ih =>
    intro K
    have e':zlg i (e::r) K=zoB i e (fun e=>zlg i r fun r=>K (e::r)):=rfl
    rw [e',zK8,AV.mapRs]
    exact ih _
noncomputable def zG5 (i:Nat) (o:Obj) (K:Obj→Ans):Ans :=
  match o with
  | .cells cs=>zlg i cs fun cs=>K (.cells cs)
  | .bcells cs=>zlg i cs fun cs=>K (.bcells cs)
  | .arr t l=>K (.arr t l)
  | .mp k v l=>K (.mp k v l)
  | .dead=>K .dead
  | .btold s=>K (.btold s)
theorem z6G (i:Nat) (o:Obj) (K:Obj→Ans):zG5 i o K=K (o.mapR (Zx i)):=by
  cases o <;> simp only [zG5,z3c,Obj.mapR]
noncomputable def zGT (i:Nat) (H:List Obj):(List Obj→Ans)→Ans := @List.rec Obj (fun _=>(List Obj→Ans)→Ans) (fun K=>K []) (fun e _ ih K=>zG5 i e fun e=>ih fun r=>K (e::r)) H
theorem z69 (i:Nat) (H:List Obj) : ∀K:List Obj→Ans,zGT i H K=K (zV (Zx i) H):=by
  induction H with
  | nil=>intro K;rfl
  | cons e r ih =>
    intro K
    have e':zGT i (e::r) K=zG5 i e (fun e=>zGT i r fun r=>K (e::r)):=rfl
    rw [e',z6G]
    exact ih _
noncomputable def z1K (i:Nat) (s:St) (K:St→Ans):Ans :=
  @St.casesOn (fun _=>Ans) s fun env stk H blk=>ziA i env fun env=>zGR i stk fun stk=>zGT i H fun H=>K ⟨env,stk,H,blk⟩
theorem z2e (i:Nat) (s:St) (K:St→Ans):z1K i s K=K (s.mapR (Zx i)):=by
  obtain ⟨env,stk,H,blk⟩:=s
  show ziA i env _=_
  rw [zHz,z5r,z69]
  rfl
noncomputable def z6n (T:Tab) (t t2:Nat) (x y:AV) (s:St) (K:KV):Ans :=
  za (Tab.get T t2) fun i2=>cond (zuB i2) (za (zaJ T t) fun (_,j)=>cond (Nat.beq j.bytes 0) none (za j.ty fun ty =>
    let news:Option (List ty.T):=match y with
      | .str a=>yH ty (.int .u8) (Zg a)
      | y=>za3 s ty y
    za news fun b =>
      let put (i:Nat) (a:List ty.T) (s:St):Ans:=cond (Nat.ble ((a.length+b.length)*j.bytes) 140737488355328)
        (z1K i s fun s'=>fL (a++b) fun ab=>zAp s' i (.arr ty ab) fun s'=>K (.own i) s') none
      match x with
      | .own i=>match zxl s.H i with
        | .arr t' l=>za (yH ty t' l) fun a=>put i a s
        | _=>none
      | .sub i off len _=>match zxl s.H i with
        | .arr t' l=>cond (Nat.beq off 0&&Nat.ble len l.length) (za (yH ty t' l) fun a=>put i (a.take len) s) none
        | _=>none
      | _=>none)) none
theorem z9p (t t2:Nat) (x y:AV) (s:St) (K:KV):z6n T t t2 x y s K=append T t t2 x y s K:=by
  simp only [z6n,append,z2e,ze8,zgi,ZV,znD]
  rfl
noncomputable def zfB (T:Tab) (t len:Nat) (parts:List (Nat×AV)) (s:St) (K:KV):Ans :=
  za (zaJ T t) fun (_,j)=>cond (Nat.ble (len*j.size) 16777216)
    (za (Y7 (fun i=>some (i*j.size,j.size)) (Wa j.zero len) parts) fun cs =>
      match j.ty with
      | some ty =>
        Jv (AV.refsL cs) cs s fun cs s =>
        za (j8 ty len cs) fun l=>zCg s (.arr ty l) fun i s=>K (.own i) s
      | none=>fVs cs fun cs=>zCg s (.cells cs) fun i s=>K (.sub i 0 len j.size) s)
    none
theorem zBT (t len:Nat) (parts:List (Nat×AV)) (s:St) (K:KV):zfB T t len parts s K=buildSlice T t len parts s K:=by
  simp only [zfB,buildSlice,zqa,J5]
  rfl
noncomputable def zhC (T:Tab) (t:Nat) (l c:AV) (s:St) (K:KV):Ans :=
  za (zaJ T t) fun (_,j)=>za j.ty fun ty=>za (j6 ty j.zero) fun z=>asInt l fun a=>asInt c fun b =>
    cond (decide (0≤a)&&decide (a≤b)&&decide (j.bytes*b≤281474976710656)&&decide (b≤9223372036854775807))
      (zCg s (.arr ty (List.replicate a.toNat z)) fun i s=>K (.own i) s) none
theorem zDH (t:Nat) (l c:AV) (s:St) (K:KV):zhC T t l c s K=makeSlice T t l c s K:=by
  simp only [zhC,makeSlice,zqa]
noncomputable def zAZ (T:Tab) (t:Nat) (x ix y:AV) (s:St) (K:KV):Ans :=
  match x with
  | .map i=>za (zfd T t) fun (kk,_,ty)=>za (ziM kk ix) fun n=>za (zdb s kk ty (.map i)) fun l=>za (j6 ty [y]) fun z =>
      fL (zdI n z l) fun l=>zAp s i (.mp kk ty l) fun s=>K .unk s
  | _=>none
theorem zWC (t:Nat) (x ix y:AV) (s:St) (K:KV):zAZ T t x ix y s K=zjF T t x ix y s K:=by
  simp only [zAZ,zjF,zgi,ze8]
  rfl
noncomputable def zeq (m:Nat) (env:zT):(zT→Ans)→Ans := @List.rec (Nat×AV) (fun _=>(zT→Ans)→Ans) (fun K=>K []) (fun p _ ih K => @Bool.rec (fun _=>Ans) (ih K) (ih fun r=>K (p::r)) (Nat.beq (Nat.land (Nat.shiftRight m p.1) 1) 1)) env
def inM (m t:Nat):Bool:=Nat.beq (Nat.land (Nat.shiftRight m t) 1) 1
theorem zO0 (m:Nat) : ∀env:zT,∃env',(∀t,Zm env' t=cond (inM m t) (Zm env t) .unk) ∧ ∀K:zT→Ans,zeq m env K=K env':=by
  intro env
  induction env with
  | nil=>exact ⟨[],fun t=>by cases inM m t <;> rfl,fun K=>rfl⟩
  | cons p r ih =>
    obtain ⟨d,v⟩:=p
    obtain ⟨env',h1,h2⟩:=ih
    have e : ∀K:zT→Ans,zeq m ((d,v)::r) K = @Bool.rec (fun _=>Ans) (zeq m r K) (zeq m r fun r=>K ((d,v)::r)) (inM m d):=fun K=>rfl
    cases hb:inM m d with
    | true =>
      refine ⟨(d,v)::env',fun t => ?_,fun K=>by rw [e,hb];exact h2 _⟩
      rw [Zu,Zu]
      by_cases hd:d=t
      · subst hd;rw [if_pos rfl,hb,if_pos rfl];rfl
      · rw [if_neg hd,if_neg hd];exact h1 t
    | false =>
      refine ⟨env',fun t => ?_,fun K=>by rw [e,hb];exact h2 _⟩
      rw [h1 t,Zu]
      by_cases hd:d=t
      · subst hd;rw [hb];rfl
      · rw [if_neg hd]
theorem zV9 {C:Cx} {tmps:Array Value} {m:Nat} {env:zT} (h:Zq C env tmps) : ∃env',Zq C env' tmps ∧ ∀K:zT→Ans,zeq m env K=K env':=by
  obtain ⟨env',h1,h2⟩:=zO0 m env
  refine ⟨env',fun t => ?_,h2⟩
  rw [h1 t]
  cases inM m t with
  | true=>exact h t
  | false=>rw [cond_false,VRel];trivial
noncomputable def Wu (m:Nat) (s:St) (K:St→Ans):Ans :=
  @St.casesOn (fun _=>Ans) s fun env stk H blk=>zeq m env fun env=>K ⟨env,stk,H,blk⟩
theorem wS [BT] {F:Fr} {C:Cx} {s:St} {tmps:Array Value} {stk:List (Array Value)} (hS:zB F C s tmps stk) {m:Nat} {K:St→Ans} {res:AV×List Obj} (h:Wu m s K=some res) :
    ∃s',zB F C s' tmps stk∧K s'=some res:=by
  obtain ⟨env,stk0,H,blk⟩:=s
  obtain ⟨env',h1,h2⟩:=zV9 (m:=m) hS.env
  have e:Wu m ⟨env,stk0,H,blk⟩ K=zeq m env fun env=>K ⟨env,stk0,H,blk⟩:=rfl
  rw [e,h2] at h
  exact ⟨⟨env',stk0,H,blk⟩,⟨hS.H,hS.heap,h1,hS.stk,hS.frame⟩,h⟩
def zyC (d:Nat):Nat:=Nat.shiftLeft 1 d
def ZcV (m d:Nat):Nat:=Nat.sub m (Nat.land m (zyC d))
def ZbD:Operand→Nat
  | .tmp t=>zyC t
  | _=>0
def zZD (o:Oper):Nat:=o.op.operands.toList.foldl (fun m x=>Nat.lor m (ZbD x)) 0
def z2F (all:Array Oper) (o:Oper):Nat :=
  match o.guard with
  | some jw=>(match zgA all jw.1 with
    | some g=>zyC g
    | none=>0)
  | none=>0
def zbF (all:Array Oper):List Oper→Nat→Nat
  | [],m=>m
  | o::r,m=>Nat.lor (Nat.lor (match o.dst with
    | some d=>ZcV (zbF all r m) d
    | none=>zbF all r m) (zZD o)) (z2F all o)
def zCt (all:Array Oper):List Oper→Nat
  | []=>0
  | o::r=>Nat.lor (Nat.lor (Nat.lor (zZD o) (z2F all o)) (match o.dst with | some d=>zyC d | none=>0)) (zCt all r)
def exM (i:Nat):List (Nat×Nat)→Nat
  | []=>0
  | (j,m)::r=>cond (Nat.beq i j) m (exM i r)
def wo (nt res:Nat):List (Nat×Nat)→Code→Nat→Nat
  | _,.region _ ops draw,m=>cond draw (Nat.lor m (zCt ops ops.toList)) (zbF ops ops.toList m)
  | ex,.seq a b,m=>wo nt res ex a (wo nt res ex b m)
  | ex,.cond c a b,m=>Nat.lor (ZbD c) (Nat.lor (wo nt res ex a m) (wo nt res ex b m))
  | ex,.block id c,m=>wo nt res ((id,m)::ex) c m
  | ex,.loop c,_=>wo nt res ex c 0
  | ex,.exit id,_=>exM id ex
  | _,.ret,_=>res
  | _,.rangeFunc _ _ _ _,_=>Nat.sub (Nat.shiftLeft 1 (Nat.succ nt)) 1
  | _,_,m=>m
def zdE:List ResultVar→Nat
  | []=>0
  | .tmp t::r=>Nat.lor (zyC t) (zdE r)
  | .cell a _::r=>Nat.lor (zyC a) (zdE r)
def zaW:Nat→Ann→Code→(Ex→St→Ans)→St→Ans:=fun _ _ _ _ _=>none
theorem q0 [BT]:qJ P zaW:=by
  intro r F nt x c K s C a stk res h _ _ _ _ _
  cases h
structure CF where
  nt:Nat
  res:List ResultVar
  run:(Ex→St→Ans)→St→Ans
structure Lo where
  env:Env
  ca:Nat→Option CF
structure CO where
  run:St→KV→Ans
noncomputable def zbQ [BT] (T:Tab) (E:Env) (o:Oper):CO:=⟨fun s K=>opE T E zaW o s K⟩
noncomputable def zie (T:Tab) (s:St):List ResultVar→(List AV→Ans)→Ans
  | [],K=>K []
  | .tmp t::r,K=>fV (zfV s.env t) fun v=>zie T s r fun vs=>K (v::vs)
  | .cell a t::r,K=>(zvy T t).run s (zfV s.env a) fun v=>zie T s r fun vs=>K (v::vs)
theorem znq (s:St) : ∀(l:List ResultVar) (acc:List AV) (K:List AV→Ans),Zv T s l acc K=zie T s l fun vs=>K (acc++vs)
  | [],acc,K=>by rw [Zv,zie,List.append_nil]
  | .tmp t::r,acc,K=>by
    rw [Zv,zie,zaR,zbM,znq s r]
    simp only [List.append_assoc,List.cons_append,List.nil_append]
  | .cell a t::r,acc,K=>by
    rw [Zv,zie,zrH,zbM]
    congr 1
    funext v
    rw [znq s r]
    simp only [List.append_assoc,List.cons_append,List.nil_append]
noncomputable def ztj (T:Tab) (res:List ResultVar) (blk:Nat) (K:KV) (e:Ex) (s':St):Ans :=
  match e with
  | .norm | .ret => @St.casesOn (fun _=>Ans) s' fun _ stk H _=>match stk with
    | env::stk=>zie T s' res fun vs=>fV (y2 vs) fun v=>K v ⟨env,stk,H,blk⟩
    | []=>none
  | _=>none
noncomputable def Ji (T:Tab) (m:Nat) (cf:CF) (args:List AV) (s:St) (K:KV):Ans :=
  fVs args fun args=>fL (ZL 0 args) fun env=>Wu m s fun s => @St.casesOn (fun _=>Ans) s fun env0 stk H blk=>cf.run (ztj T cf.res blk K) ⟨env,env0::stk,H,0⟩
noncomputable def zdh (T:Tab) (t:Nat):Bool:=(ziv T t .nils).isSome
theorem zqO {t:Nat} (h:zdh T t=false) (v:AV) (s:St) (K:KV):yk T t v s K=K v s:=by
  unfold yk
  unfold zdh at h
  have:ziv T t v=none:=by
    cases v <;> try rfl
    simpa using h
  rw [this]
noncomputable def zYI (T:Tab) (src dst:Nat):Option IntKind :=
  match Tab.get T src with
  | none=>none
  | some _=>match Tab.get T dst with
    | none=>none
    | some di=>zb3 di
noncomputable def zTH [BT] (T:Tab) (lo:Lo) (m:Nat) (o:Oper) (c:Call):CO :=
  match c.callee with
  | .value f=>(match f with
    | .func g=>(match lo.ca g with
      | some cf=>⟨fun s K=>Ji T m cf (c.args.toList.map fun x=>(vOf x).run s.env) s K⟩
      | none=>zbQ T lo.env o)
    | f=>⟨fun s K=>match (vOf f).run s.env with
      | .fn (.func g) first cap=>(match lo.ca g with
        | some cf=>Ji T m cf (first++(c.args.toList.map fun x=>(vOf x).run s.env)++cap) s K
        | none=>opE T lo.env zaW o s K)
      | _=>none⟩)
  | .invoke _ _=>⟨fun s K=>match w6 T s c with
    | some ga=>(match lo.ca ga.1 with
      | some cf=>Ji T m cf ga.2 s K
      | none=>opE T lo.env zaW o s K)
    | none=>none⟩
  | _=>zbQ T lo.env o
noncomputable def opC [BT] (T:Tab) (lo:Lo) (m:Nat) (o:Oper):CO :=
  match o.op with
  | .move x=>⟨fun s K=>K ((vOf x).run s.env) s⟩
  | .assign x=>(match x with
    | .const v=>(match ziv T o.type (zdp v) with
      | none=>⟨fun s K=>K (zdp v) s⟩
      | some ty=>⟨fun s K=>zCg s (.arr ty []) fun i s'=>K (.own i) s'⟩)
    | x=>⟨fun s K=>K ((vOf x).run s.env) s⟩)
  | .load t a=>⟨fun s K=>(zvy T t).run s ((vOf a).run s.env) fun v=>K v s⟩
  | .store t a x=>cond (zdh T t) (zbQ T lo.env o) ⟨fun s K=>(zvF T t).run s ((vOf a).run s.env) ((vOf x).run s.env) fun s=>K .unk s⟩
  | .fieldAddr t x f=>⟨fun s K=>(zcR T t f).run ((vOf x).run s.env) fun v=>K v s⟩
  | .nilCheck x=>⟨fun s K=>match (vOf x).run s.env with
    | .ptr i off=>K (.ptr i off) s
    | .eptr i n off=>K (.eptr i n off) s
    | .rptr t y off=>K (.rptr t y off) s
    | _=>none⟩
  | .binOp op t x y _=>⟨fun s K=>(zXO T op t (isConst x || isConst y)).run ((vOf x).run s.env) ((vOf y).run s.env) fun v=>K v s⟩
  | .extract t i=>⟨fun s K=>match (vOf t).run s.env with
    | .tup vs=>za (zAW vs i) fun v=>K v s
    | _=>none⟩
  | .pick c a b=>⟨fun s K=>match (vOf c).run s.env with
    | .bool p => @Bool.rec (fun _=>Ans) (K ((vOf b).run s.env) s) (K ((vOf a).run s.env) s) p
    | _=>none⟩
  | .convert src dst x=>(match zYI T src dst with
    | some k=>⟨fun s K=>match (vOf x).run s.env with
      | .int _ n=>zif k n fun v=>K v s
      | _=>opE T lo.env zaW o s K⟩
    | none=>zbQ T lo.env o)
  | .field t x f=>⟨fun s K=>field T t ((vOf x).run s.env) f fun v=>K v s⟩
  | .indexAddr t x i=>⟨fun s K=>indexAddr T s t ((vOf x).run s.env) ((vOf i).run s.env) fun v=>K v s⟩
  | .index t x i=>⟨fun s K=>index T t ((vOf x).run s.env) ((vOf i).run s.env) fun v=>K v s⟩
  | .unOp op _ x=>⟨fun s K=>unOp op ((vOf x).run s.env) fun v=>K v s⟩
  | .slice t x lo hi mx=>⟨fun s K=>zIX T s t ((vOf x).run s.env) (lo.map fun x=>(vOf x).run s.env) (hi.map fun x=>(vOf x).run s.env) (mx.map fun x=>(vOf x).run s.env) fun v=>K v s⟩
  | .typeAssert x _ t ok=>⟨fun s K=>zrK T t ok ((vOf x).run s.env) fun v=>K v s⟩
  | .makeFunc f a b=>⟨fun s K=>K (.fn f (a.toList.map fun x=>(vOf x).run s.env) (b.toList.map fun x=>(vOf x).run s.env)) s⟩
  | .alloc t=>⟨fun s K=>zeroCells T t s fun z s'=>zCg s' (zvt T t z) fun i s'=>K (.ptr i 0) s'⟩
  | .buildSlice t len parts=>⟨fun s K=>zfB T t len (parts.toList.map fun q=>(q.1,(vOf q.2).run s.env)) s K⟩
  | .makeSlice t l c=>⟨fun s K=>zhC T t ((vOf l).run s.env) ((vOf c).run s.env) s K⟩
  | .lookup t x i ok=>⟨fun s K=>zeN T t ((vOf x).run s.env) ((vOf i).run s.env) ok s fun r=>K r s⟩
  | .mapUpdate t x i y=>⟨fun s K=>zAZ T t ((vOf x).run s.env) ((vOf i).run s.env) ((vOf y).run s.env) s K⟩
  | .call c=>(match c.callee with
    | .builtin b=>(match b with
      | .append=>(match c.args.toList with
        | [x,y]=>(match c.argTypes.toList with
          | [t,t2]=>⟨fun s K=>yk T t ((vOf x).run s.env) s fun r s'=>z6n T t t2 r ((vOf y).run s.env) s' K⟩
          | _=>zbQ T lo.env o)
        | _=>zbQ T lo.env o)
      | _=>zbQ T lo.env o)
    | _=>zTH T lo m o c)
  | _=>zbQ T lo.env o
def zof [BT] (P:Program) (o:Oper) (R:St→KV→Ans):Prop :=
  ∀⦃F:Fr⦄ ⦃C:Cx⦄ ⦃s:St⦄ ⦃a:Act⦄ ⦃stk:List (Array Value)⦄ ⦃K:KV⦄ ⦃res:AV×List Obj⦄,R s K=some res→zB F C s a.tmps stk →
    ZE P o a C.w fun u w' => ∃r s' C',K r s'=some res∧C'.w=w'∧zB F C' s' a.tmps stk∧VRel C' r u
theorem ziU [BT] (hT:zN P T) (hE:zf P E) {o:Oper} {R:St→KV→Ans} (h : ∀s K,R s K=opE T E zaW o s K):zof P o R:=by
  intro F C s a stk K res hR hS
  rw [h] at hR
  exact yg (fun u w' ⟨r,s',C',h1,h2,h3,h4,_⟩=>⟨r,s',C',h1,h2,h3,h4⟩) (zcA hT hE q0 hS hR)
structure ZC [BT] (P:Program) (lo:Lo):Prop where
  env:zf P lo.env
  ca : ∀g cf,lo.ca g=some cf → ∃fn c,P.funcs[g]? = some fn∧fn.body=some c∧fn.name ≠ "runtime.NumGoroutine" ∧ cf.nt=fn.ntmps∧cf.res=fn.results.toList∧zw P fn.ntmps c cf.run
theorem zqK [BT] (hT:zN P T) {lo:Lo} (hL:ZC P lo) {g:Nat} {cf:CF} (hcf:lo.ca g=some cf) {F:Fr} {C:Cx} {s:St} {a:Act} {stk:List (Array Value)} (hS:zB F C s a.tmps stk)
    {args:List AV} {us:Array Value} (hargs:VRels C args us.toList) {m:Nat} {K:KV} {res:AV×List Obj} (h:Ji T m cf args s K=some res) :
    (∃w,(Go.callFunc g us).run P C.w = .ok (.enter g us) w∧w=C.w) ∧
    Calls P g us C.w fun
      | .returned v,w' => ∃r s' C',K r s'=some res∧C'.w=w'∧zB F C' s' a.tmps stk∧VRel C' r v
      | _,_=>False:=by
  obtain ⟨fn,c,hf,hb,hn,hnt,hres,hG⟩:=hL.ca g cf hcf
  unfold Ji at h
  rw [J5,ze8] at h
  obtain ⟨s1,hS,h⟩:=wS hS h
  obtain ⟨env0,stk0,H0,blk0⟩:=s1
  dsimp only at h
  rw [hres] at h
  refine ⟨⟨C.w,?_,rfl⟩,?_⟩
  · have hne:(fn.name == "runtime.NumGoroutine")=false:=by simpa using hn
    simp [Go.callFunc,hf,hb,hn]
  · obtain ⟨F1,hF1⟩ : ∃F1:Fr,F1={ F.re C with base:=C.w.heap.size }:=⟨_,rfl⟩
    have hF1C:zK F1 C:=by rw [hF1];exact ⟨rfl,rfl,rfl,Nat.le_refl _,fun _ _ _=>rfl,fun _ h=>h,fun _ h => .inl h,fun i b hl hb => .inl ⟨i,hl,hb⟩⟩
    have hback : ∀C',zK F1 C'→zK F C':=fun C' h=>(zcP hS.frame).frame C' (by rw [hF1] at h;exact ⟨h.os,h.tape,h.output,h.size,h.keep,h.r0,h.rN,h.own⟩)
    have hb1:F1.base=C.w.heap.size:=by rw [hF1]
    have hw1:F.w0.heap.size≤C.w.heap.size:=hS.frame.size
    have hS':zB F1 C { env:=ZL 0 args,stk:=env0::stk0,H:=H0,blk:=0 } (us++Array.replicate (fn.ntmps - us.size) undef) (a.tmps::stk) :=
      ⟨hS.H,hS.heap,Jq hargs _,by rw [ZG];exact ⟨_,_,rfl,hS.env,hS.stk⟩,hF1C⟩
    refine (callsIn_wide (n:=0)).1 (callsIn_of_wp_marks hf hb trivial (wpIn_mono (hG (r:=none) (a:={ tmps:=us++Array.replicate (fn.ntmps - us.size) undef,defers:=[] }) h (Yf.none _) hS' (by simp;omega) ⟨by rw [hF1];exact Nat.le_refl _,trivial⟩) ?_))
    rintro e a' w' ⟨F2,e',s',C',hle,rfl,hK,rfl,hS'',hsz,hd⟩
    have fin : ∀{stk' env'},s'.stk=env'::stk'→(Zv T s' fn.results.toList [] fun vs=>Z4 (y2 vs) fun v=>K v ⟨env',stk',s'.H,blk0⟩)=some res →
        ∀W,Priv F2.base C' W → ∃v,(results fn a'.tmps).run P W = .ok v W ∧ ∃r s'' C'',K r s''=some res∧C''.w=W∧zB F C'' s'' a.tmps stk∧VRel C'' r v:=by
      intro stk' env' hst hr W hW
      have hSF:zB F C' s' a'.tmps (a.tmps::stk):=⟨hS''.H,hS''.heap,hS''.env,hS''.stk,hback _ (hle.frame _ hS''.frame)⟩
      have hSW:zB F (C'.at W) s' a'.tmps (a.tmps::stk):=yi hSF (by rw [hle.base,hb1];exact hw1) hW
      obtain ⟨rs,v,h1,h2,h3⟩:=YP hT hSW hr
      rw [yn] at h1
      have hstk:=hSW.stk
      rw [hst,ZG] at hstk
      obtain ⟨t',ts',he,henv,hstk⟩:=hstk
      cases he
      exact ⟨v,h2,_,_,C'.at W,h1,rfl,⟨hSW.H,hSW.heap,henv,hstk,hSW.frame⟩,h3⟩
    have same : ∀{stk' env'},s'.stk=env'::stk'→(zie T s' fn.results.toList fun vs=>fV (y2 vs) fun v=>K v ⟨env',stk',s'.H,blk0⟩)=(Zv T s' fn.results.toList [] fun vs=>Z4 (y2 vs) fun v=>K v ⟨env',stk',s'.H,blk0⟩):=by
      intro stk' env' _
      rw [znq]
      simp only [zaR,yn,List.nil_append]
    obtain ⟨env1,stk1,H1,blk1⟩:=s'
    cases e' with
    | norm =>
      simp only [ztj] at hK
      split at hK
      · rename_i env' stk'
        exact yA _ F2 C' hd.2 hS''.frame (fun W hW=>fin rfl ((same rfl).symm.trans hK) W hW)
      · cases hK
    | ret =>
      simp only [ztj] at hK
      split at hK
      · rename_i env' stk'
        exact yA _ F2 C' hd.2 hS''.frame (fun W hW=>fin rfl ((same rfl).symm.trans hK) W hW)
      · cases hK
    | exit i=>cases hK
    | goto l=>cases hK
theorem zgV (l:List Operand) (env:zT):(l.map fun x=>(vOf x).run env)=l.map (opd env):=by
  congr 1
  funext x
  exact Zn x env
theorem zNj [BT] (hT:zN P T) {lo:Lo} (hL:ZC P lo) (m:Nat) {o:Oper} {c:Call} (ho:o.op = .call c):zof P o (zTH T lo m o c).run:=by
  have slow:zof P o (zbQ T lo.env o).run:=ziU hT hL.env fun _ _=>rfl
  have quick : ∀{g:Nat} {cf:CF} {args:List AV},lo.ca g=some cf → ∀{F:Fr} {C:Cx} {s:St} {a:Act} {stk:List (Array Value)} {K:KV} {res:AV×List Obj},zB F C s a.tmps stk→w6 T s c=some (g,args)→Ji T m cf args s K=some res →
      ZE P o a C.w fun u w' => ∃r s' C',K r s'=some res∧C'.w=w'∧zB F C' s' a.tmps stk∧VRel C' r u:=by
    intro g cf args hcf F C s a stk K res hS hfn hR
    obtain ⟨us,hus,hex⟩:=zah hT hS.env hfn
    obtain ⟨⟨w,hr,rfl⟩,hcall⟩:=zqK hT hL hcf hS hus hR
    unfold ZE
    rw [hex o ho,hr]
    refine hcall.mono ?_
    intro e w' hw'
    cases e with
    | returned v =>
      obtain ⟨r,s',C',g1,g2,g3,g4⟩:=hw'
      exact ⟨v,rfl,r,s',C',g1,g2,g3,g4⟩
    | panicked ch=>exact hw'.elim
    | outgrown=>exact hw'.elim
  unfold zTH
  split
  · rename_i f hcal
    split
    · rename_i g
      split
      · rename_i cf hcf
        intro F C s a stk K res hR hS
        refine quick hcf hS ?_ hR
        unfold w6
        rw [hcal]
        simp only [opd,zgV,List.nil_append,List.append_nil]
      · exact slow
    · rename_i hne
      intro F C s a stk K res hR hS
      dsimp only at hR
      rw [Zn] at hR
      split at hR
      · rename_i g first cap hf
        split at hR
        · rename_i cf hcf
          refine quick hcf hS ?_ hR
          unfold w6
          rw [hcal]
          simp only [hf,zgV]
        · exact yg (fun u w' ⟨r,s',C',h1,h2,h3,h4,_⟩=>⟨r,s',C',h1,h2,h3,h4⟩) (zcA hT hL.env q0 hS hR)
      · cases hR
  · intro F C s a stk K res hR hS
    dsimp only at hR
    split at hR
    · rename_i ga hga
      obtain ⟨g,args⟩:=ga
      dsimp only at hR
      split at hR
      · rename_i cf hcf
        exact quick hcf hS hga hR
      · exact yg (fun u w' ⟨r,s',C',h1,h2,h3,h4,_⟩=>⟨r,s',C',h1,h2,h3,h4⟩) (zcA hT hL.env q0 hS hR)
    · cases hR
  · exact slow
theorem zDi [BT] (hT:zN P T) {lo:Lo} (hL:ZC P lo) (m:Nat) (o:Oper):zof P o (opC T lo m o).run:=by
  have slow:zof P o (zbQ T lo.env o).run:=ziU hT hL.env fun _ _=>rfl
  have same : ∀{R:St→KV→Ans},(∀s K,R s K=opE T lo.env zaW o s K)→zof P o R:=fun h=>ziU hT hL.env h
  unfold opC
  split
  · rename_i x ho
    refine same fun s K => ?_
    simp only [opE,ho,Zb,Zn]
  · rename_i x ho
    split
    · rename_i v
      split
      · rename_i hn
        refine same fun s K => ?_
        simp only [opE,ho,YD,opd]
        unfold yk
        rw [hn]
      · rename_i ty hn
        refine same fun s K => ?_
        simp only [opE,ho,YD,opd]
        unfold yk
        rw [hn]
        exact zqa _ _ _
    · rename_i hne
      refine same fun s K => ?_
      cases x with
      | const v=>exact (hne v rfl).elim
      | _=>simp only [opE,ho,Zb,Zn]
  · rename_i t x ho
    refine same fun s K => ?_
    simp only [opE,ho,Zb,Zn,zrH]
  · rename_i t x y ho
    cases hn:zdh T t with
    | true=>exact slow
    | false =>
      refine same fun s K => ?_
      simp only [opE,ho,Zb,YD,Zn,zDj,cond_false,zqO hn]
  · rename_i t x f ho
    refine same fun s K => ?_
    simp only [opE,ho,Zb,Zn,zjc]
  · rename_i x ho
    refine same fun s K => ?_
    simp only [opE,ho,Zb,Zn]
    cases opd s.env x <;> rfl
  · rename_i op t x y t2 ho
    refine same fun s K => ?_
    simp only [opE,ho,Zb,Zn,zPm]
  · rename_i t i ho
    refine same fun s K => ?_
    simp only [opE,ho,Zb,Zn,extract,zgn]
    cases opd s.env t <;> rfl
  · rename_i c x y ho
    refine same fun s K => ?_
    simp only [opE,ho,Zb,Zn]
    cases opd s.env c <;> try rfl
    rename_i b
    cases b <;> rfl
  · rename_i src dst x ho
    split
    · rename_i k hk
      refine same fun s K => ?_
      dsimp only
      rw [Zn]
      split
      · rename_i q n hx
        simp only [opE,ho,Zb,hx,zM0,convert]
        unfold zYI at hk
        cases h1:Tab.get T src with
        | none=>rw [h1] at hk;cases hk
        | some si =>
          rw [h1] at hk
          dsimp only at hk
          cases h2:Tab.get T dst with
          | none=>rw [h2] at hk;cases hk
          | some di =>
            rw [h2] at hk
            dsimp only at hk
            simp only [za,hk]
      · rfl
    · exact slow
  · rename_i t x f ho
    refine same fun s K => ?_
    simp only [opE,ho,Zb,Zn]
  · rename_i t x i ho
    refine same fun s K => ?_
    simp only [opE,ho,Zb,Zn]
  · rename_i t x i ho
    refine same fun s K => ?_
    simp only [opE,ho,Zb,Zn]
  · rename_i op t x ho
    refine same fun s K => ?_
    simp only [opE,ho,Zb,Zn]
  · rename_i t x lo hi mx ho
    refine same fun s K => ?_
    simp only [opE,ho,Zb,Zn,z1L]
  · rename_i x xt t ok ho
    refine same fun s K => ?_
    simp only [opE,ho,Zb,Zn]
  · rename_i f a b ho
    refine same fun s K => ?_
    simp only [opE,ho,Zb,zgV]
  · rename_i t ho
    refine same fun s K => ?_
    simp only [opE,ho,Zb,YD,zqa]
  · rename_i t len parts ho
    refine same fun s K => ?_
    simp only [opE,ho,Zb,YD,zBT,Zn]
  · rename_i t l c ho
    refine same fun s K => ?_
    simp only [opE,ho,Zb,YD,zDH,Zn]
  · rename_i t x i ok ho
    refine same fun s K => ?_
    simp only [opE,ho,Zb,YD,Zn]
  · rename_i t x i y ho
    refine same fun s K => ?_
    simp only [opE,ho,Zb,YD,zWC,Zn]
  · rename_i c ho
    split
    · rename_i b hb
      split
      · split
        · rename_i x y hxy
          split
          · rename_i t t2 htt
            refine same fun s K => ?_
            simp only [opE,ho,hb,hxy,htt,Zb,YD,z9p,Zn]
          · exact slow
        · exact slow
      · exact slow
    · exact zNj hT hL m ho
  · exact slow
structure CW where
  run:St→(St→Ans)→(St→Ans)→Ans
noncomputable def zw0 (all:Array Oper) (nt:Nat) (o:Oper):CW :=
  match o.guard with
  | none=>⟨fun s run _=>run s⟩
  | some jw=>match zgA all jw.1 with
    | none=>⟨fun _ _ _=>none⟩
    | some g=>cond (Nat.blt g nt)
      (cond jw.2
        ⟨fun s run skip=>match zfV s.env g with
          | .bool b => @St.casesOn (fun _=>Ans) s fun env stk H blk => @Bool.rec (fun _=>Ans) (skip ⟨(g,.bool false)::env,stk,H,blk⟩) (run ⟨(g,.bool true)::env,stk,H,blk⟩) b
          | .tup _=>skip s
          | _=>none⟩
        ⟨fun s run skip=>match zfV s.env g with
          | .bool b => @St.casesOn (fun _=>Ans) s fun env stk H blk => @Bool.rec (fun _=>Ans) (run ⟨(g,.bool false)::env,stk,H,blk⟩) (skip ⟨(g,.bool true)::env,stk,H,blk⟩) b
          | .tup _=>skip s
          | _=>none⟩)
      ⟨fun _ _ _=>none⟩
theorem zrR (all:Array Oper) (nt:Nat) (o:Oper) (s:St) (run skip:St→Ans):(zw0 all nt o).run s run skip=Qm all nt o s run skip:=by
  unfold zw0 Qm
  cases o.guard with
  | none=>rfl
  | some jw =>
    obtain ⟨j,want⟩:=jw
    dsimp only
    cases zgA all j with
    | none=>rfl
    | some g =>
      obtain ⟨env,stk,H,blk⟩:=s
      dsimp only [za]
      cases hb:Nat.blt g nt with
      | false =>
        simp only [cond_false]
        cases Zm env g <;> rfl
      | true =>
        cases want with
        | true =>
          simp only [cond_true,zbM]
          cases Zm env g <;> try rfl
          rename_i b
          cases b <;> rfl
        | false =>
          simp only [cond_true,cond_false,zbM]
          cases Zm env g <;> try rfl
          rename_i b
          cases b <;> rfl
structure CR where
  run:(St→Ans)→St→Ans
noncomputable def zhJ [BT] (T:Tab) (lo:Lo) (out:Nat) (all:Array Oper) (nt:Nat):List Oper→CR
  | []=>⟨fun K s=>K s⟩
  | o::r=>match o.guard with
    | none=>⟨fun K s=>(opC T lo (zbF all r out) o).run s fun v s'=>zdD nt o.dst v s' ((zhJ T lo out all nt r).run K)⟩
    | some _=>⟨fun K s=>(zw0 all nt o).run s (fun s=>(opC T lo (zbF all r out) o).run s fun v s'=>zdD nt o.dst v s' ((zhJ T lo out all nt r).run K)) (fun s=>zdD nt o.dst (.tup []) s ((zhJ T lo out all nt r).run K))⟩
theorem z9b [BT] (lo:Lo) (out:Nat) (all:Array Oper) (nt:Nat) (o:Oper) (r:List Oper) (K:St→Ans) (s:St) :
    (zhJ T lo out all nt (o::r)).run K s=Qm all nt o s (fun s=>(opC T lo (zbF all r out) o).run s fun v s'=>zcG nt o.dst v s' ((zhJ T lo out all nt r).run K)) (fun s=>zcG nt o.dst (.tup []) s ((zhJ T lo out all nt r).run K)):=by
  rw [zhJ]
  split
  · rename_i h
    simp only [Qm,h,JA]
  · simp only [JA,zrR]
structure CQ where
  run:St→(AV→Ans)→Ans
noncomputable def z5X [BT] (T:Tab) (E:Env) (o:Oper):CQ :=
  match o.op with
  | .move x=>⟨fun s K=>K ((vOf x).run s.env)⟩
  | .assign x=>⟨fun s K=>K ((vOf x).run s.env)⟩
  | .load t a=>⟨fun s K=>(zvy T t).run s ((vOf a).run s.env) K⟩
  | .fieldAddr t x f=>⟨fun s K=>(zcR T t f).run ((vOf x).run s.env) K⟩
  | .nilCheck x=>⟨fun s K=>match (vOf x).run s.env with
    | .ptr i off=>K (.ptr i off)
    | .eptr i n off=>K (.eptr i n off)
    | .rptr t y off=>K (.rptr t y off)
    | _=>none⟩
  | .binOp op t x y _=>⟨fun s K=>(zXO T op t (isConst x || isConst y)).run ((vOf x).run s.env) ((vOf y).run s.env) K⟩
  | .extract t i=>⟨fun s K=>match (vOf t).run s.env with
    | .tup vs=>za (zAW vs i) K
    | _=>none⟩
  | .pick c a b=>⟨fun s K=>match (vOf c).run s.env with
    | .bool p => @Bool.rec (fun _=>Ans) (K ((vOf b).run s.env)) (K ((vOf a).run s.env)) p
    | _=>none⟩
  | _=>⟨fun s K=>opQ T E o s K⟩
theorem z9a [BT] (o:Oper) (s:St) (K:AV→Ans):(z5X T E o).run s K=opQ T E o s K:=by
  unfold z5X
  split
  · rename_i x ho;simp only [opQ,ho,Zb,Zn]
  · rename_i x ho;simp only [opQ,ho,Zb,Zn]
  · rename_i t x ho;simp only [opQ,ho,Zb,Zn,zrH]
  · rename_i t x f ho;simp only [opQ,ho,Zb,Zn,zjc]
  · rename_i x ho
    simp only [opQ,ho,Zb,Zn]
    cases opd s.env x <;> rfl
  · rename_i op t x y t2 ho;simp only [opQ,ho,Zb,Zn,zPm]
  · rename_i t i ho
    simp only [opQ,ho,Zb,Zn,extract,zgn]
    cases opd s.env t <;> rfl
  · rename_i c x y ho
    simp only [opQ,ho,Zb,Zn]
    cases opd s.env c <;> try rfl
    rename_i b
    cases b <;> rfl
  · rfl
structure Zdd where
  run:St→List (Nat×Option (List Nat))→List (Nat×Option (List Nat))
noncomputable def z6h [BT] (T:Tab) (j:Nat) (o:Oper):Zdd :=
  match o.op with
  | .load _ x=>⟨fun s acc=>(j,some ((vOf x).run s.env).refs)::acc⟩
  | .call _=>⟨fun s acc=>zgt j (yE T s o) acc⟩
  | _=>⟨fun _ acc=>acc⟩
theorem z8v [BT] (j:Nat) (o:Oper) (s:St) (acc:List (Nat×Option (List Nat))):(z6h T j o).run s acc=zgt j (yE T s o) acc:=by
  unfold z6h
  split
  · rename_i t x ho
    simp only [yE,ho,zgt,Zn]
  · rfl
  · rename_i h1 h2
    have:yE T s o=none:=by
      unfold yE
      split
      · rename_i t x ho;exact (h1 t x ho).elim
      · rename_i c ho;exact (h2 c ho).elim
      · rfl
    rw [this];rfl
structure COL where
  run:List (Nat×Option (List Nat))→St→(Option (List Nat)→KV)→Ans
noncomputable def zsx [BT] (T:Tab) (E:Env) (o:Oper):COL:=⟨fun _ s K=>opL T E zaW o s K⟩
noncomputable def z7O [BT] (T:Tab) (lo:Lo) (m:Nat) (ms:List Nat) (i:Nat) (o:Oper) (c:Call):COL :=
  match c.callee with
  | .value f=>(match f with
    | .func g=>(match lo.ca g with
      | some cf=>⟨fun acc s K=>cond (zc3 ms i none acc) (Ji T m cf (c.args.toList.map fun x=>(vOf x).run s.env) s (K none)) (opL T lo.env zaW o s K)⟩
      | none=>zsx T lo.env o)
    | f=>⟨fun acc s K=>match (vOf f).run s.env with
      | .fn (.func g) first cap=>(match lo.ca g with
        | some cf=>cond (zc3 ms i none acc) (Ji T m cf (first++(c.args.toList.map fun x=>(vOf x).run s.env)++cap) s (K none)) (opL T lo.env zaW o s K)
        | none=>opL T lo.env zaW o s K)
      | _=>none⟩)
  | _=>zsx T lo.env o
noncomputable def z4x [BT] (T:Tab) (lo:Lo) (m:Nat) (ms:List Nat) (i:Nat) (o:Oper):COL :=
  match o.op with
  | .store t a x=>cond (zdh T t) (zsx T lo.env o) ⟨fun _ s K=>(zvF T t).run s ((vOf a).run s.env) ((vOf x).run s.env) fun s'=>K (Zt s o) .unk s'⟩
  | .call c=>z7O T lo m ms i o c
  | _=>zsx T lo.env o
def z0n [BT] (P:Program) (o:Oper) (R:List (Nat×Option (List Nat))→St→(Option (List Nat)→KV)→Ans):Prop :=
  ∀⦃acc:List (Nat×Option (List Nat))⦄ ⦃F:Fr⦄ ⦃C:Cx⦄ ⦃s:St⦄ ⦃a:Act⦄ ⦃stk:List (Array Value)⦄ ⦃K:Option (List Nat)→KV⦄ ⦃res:AV×List Obj⦄,R acc s K=some res→zB F C s a.tmps stk →
    ZE P o a C.w fun u w' => ∃foot r s' C',K foot r s'=some res∧C'.w=w'∧zB F C' s' a.tmps stk∧VRel C' r u∧Ze C C' foot
theorem zUh [BT] (hT:zN P T) {lo:Lo} (hL:ZC P lo) (m:Nat) (ms:List Nat) (i:Nat) (o:Oper):z0n P o (z4x T lo m ms i o).run:=by
  have slow:z0n P o (zsx T lo.env o).run:=fun acc F C s a stk K res h hS=>JH hT hL.env q0 hS h
  unfold z4x
  split
  · rename_i t x y ho
    cases hn:zdh T t with
    | true=>exact slow
    | false =>
      intro acc F C s a stk K res h hS
      refine JH hT hL.env q0 hS (o:=o) ?_
      rw [← h]
      simp only [opL,ho,opE,Zb,YD,Zn,zDj,cond_false,zqO hn]
  · rename_i c ho
    have quick : ∀{g:Nat} {cf:CF} {args:List AV},lo.ca g=some cf → ∀{F:Fr} {C:Cx} {s:St} {a:Act} {stk:List (Array Value)} {K:Option (List Nat)→KV} {res:AV×List Obj},zB F C s a.tmps stk→w6 T s c=some (g,args)→Ji T m cf args s (K none)=some res →
        ZE P o a C.w fun u w' => ∃foot r s' C',K foot r s'=some res∧C'.w=w'∧zB F C' s' a.tmps stk∧VRel C' r u∧Ze C C' foot:=by
      intro g cf args hcf F C s a stk K res hS hfn hR
      obtain ⟨us,hus,hex⟩:=zah hT hS.env hfn
      obtain ⟨⟨w,hr,rfl⟩,hcall⟩:=zqK hT hL hcf hS hus hR
      unfold ZE
      rw [hex o ho,hr]
      refine hcall.mono ?_
      intro e w' hw'
      cases e with
      | returned v =>
        obtain ⟨r,s',C',g1,g2,g3,g4⟩:=hw'
        exact ⟨v,rfl,none,r,s',C',g1,g2,g3,g4,trivial⟩
      | panicked ch=>exact hw'.elim
      | outgrown=>exact hw'.elim
    unfold z7O
    split
    · rename_i f hcal
      split
      · rename_i g
        split
        · rename_i cf hcf
          intro acc F C s a stk K res hR hS
          dsimp only at hR
          cases hacc:zc3 ms i none acc with
          | true =>
            rw [hacc,cond_true] at hR
            refine quick hcf hS ?_ hR
            unfold w6
            rw [hcal]
            simp only [opd,zgV,List.nil_append,List.append_nil]
          | false =>
            rw [hacc,cond_false] at hR
            exact JH hT hL.env q0 hS hR
        · exact slow
      · intro acc F C s a stk K res hR hS
        dsimp only at hR
        rw [Zn] at hR
        split at hR
        · rename_i g first cap hf
          split at hR
          · rename_i cf hcf
            cases hacc:zc3 ms i none acc with
            | true =>
              rw [hacc,cond_true] at hR
              refine quick hcf hS ?_ hR
              unfold w6
              rw [hcal]
              simp only [hf,zgV]
            | false =>
              rw [hacc,cond_false] at hR
              exact JH hT hL.env q0 hS hR
          · exact JH hT hL.env q0 hS hR
        · cases hR
    · exact slow
  · exact slow
structure CY where
  run:(St→Ans)→List (Nat×Option (List Nat))→St→Ans
noncomputable def zTy (g:Nat→CY):List Nat→CY
  | []=>⟨fun _ _ _=>none⟩
  | i::r=>match r with
    | []=>g i
    | _::_=>⟨fun K acc s=>zW5 ((g i).run K acc s) ((zTy g r).run K acc s)⟩
theorem zR9 {g:Nat→CY} {K:St→Ans} {acc:List (Nat×Option (List Nat))} {s:St} {res:AV×List Obj} : ∀{l:List Nat},(zTy g l).run K acc s=some res → ∀i ∈ l,(g i).run K acc s=some res
  | [],_,i,hi=>by cases hi
  | [j],h,i,hi=>by
    obtain rfl:=List.mem_singleton.1 hi
    exact h
  | j::k::r,h,i,hi=>by
    rw [zTy] at h
    obtain ⟨h1,h2⟩:=z48 h
    rcases List.mem_cons.1 hi with rfl | hi
    · exact h1
    · exact zR9 h2 i hi
noncomputable def yC [BT] (T:Tab) (lo:Lo) (m:Nat) (all:Array Oper) (q:Nat→Bool) (ms:List Nat) (nt:Nat):Nat→Array Bool→CY
  | 0,listed=>match Region.ready .any all listed with
    | []=>⟨fun K _ s=>K s⟩
    | _::_=>⟨fun _ _ _=>none⟩
  | f+1,listed=>match Region.ready .any all listed with
    | []=>⟨fun K _ s=>K s⟩
    | i::r=>match zmx q (i::r) with
      | some j=>cond (Region.free .any all listed j) (match all[j]? with
        | some o=>⟨fun K acc s=>(zw0 all nt o).run s
            (fun s=>(z5X T lo.env o).run s fun v=>zdD nt o.dst v s ((yC T lo m all q ms nt f (listed.setIfInBounds j true)).run K ((z6h T j o).run s acc)))
            (fun s=>zdD nt o.dst (.tup []) s ((yC T lo m all q ms nt f (listed.setIfInBounds j true)).run K acc))⟩
        | none=>⟨fun _ _ _=>none⟩) ⟨fun _ _ _=>none⟩
      | none=>zTy (fun i=>match all[i]? with
          | some o=>⟨fun K acc s=>(zw0 all nt o).run s
              (fun s=>(z4x T lo m ms i o).run acc s fun foot v s'=>cond (zc3 ms i foot acc) (zdD nt o.dst v s' ((yC T lo m all q ms nt f (listed.setIfInBounds i true)).run K (zdj foot acc))) none)
              (fun s=>zdD nt o.dst (.tup []) s ((yC T lo m all q ms nt f (listed.setIfInBounds i true)).run K acc))⟩
          | none=>⟨fun _ _ _=>none⟩) (i::r)
theorem Jp [BT] (hT:zN P T) {lo:Lo} (hL:ZC P lo) (m:Nat) {F:Fr} {stk:List (Array Value)} {all:Array Oper} {nt:Nat} {K:St→Ans} {res:AV×List Obj} {Q:Act→World→Prop} {ds:List Deferred}
    {q:Nat→Bool} (hsel:Region.noSelect all=true)
    (hQ : ∀s C a,K s=some res→zB F C s a.tmps stk→nt≤a.tmps.size→a.defers=ds→Q a C.w) :
    ∀(f:Nat) (listed:Array Bool) (acc:List (Nat×Option (List Nat))) (es:List Ent) {s:St} {C:Cx} {a:Act},JD .any all listed→Z2 C acc es →
      (yC T lo m all q (YK all all.size) nt f listed).run K acc s=some res→zB F C s a.tmps stk→nt≤a.tmps.size→a.defers=ds →
      Yz P .any all (zfH (YK all all.size)) Q es f listed a C.w
  | 0,listed,acc,es,s,C,a,hcl,hes,h,hS,hsz,hd=>by
    rw [yC] at h
    split at h
    · rename_i hr
      intro w' hq
      exact ⟨hr,hQ s (C.at w') a h (YE hS hq) hsz hd⟩
    · cases h
  | f+1,listed,acc,es,s,C,a,hcl,hes,h,hS,hsz,hd=>by
    rw [yC] at h
    split at h
    · rename_i hr
      intro w' hq
      refine ⟨fun _=>hQ s (C.at w') a h (YE hS hq) hsz hd,fun i hi => ?_⟩
      rw [hr] at hi
      cases hi
    · rename_i i0 r0 hr
      split at h
      · rename_i j hj
        cases hfree:Region.free .any all listed j with
        | false=>rw [hfree] at h;cases h
        | true =>
        rw [hfree,cond_true] at h
        have hjr:j ∈ Region.ready .any all listed:=by rw [hr];exact ziG hj
        obtain ⟨_,o,ho,_⟩:=mem_ready.1 hjr
        rw [ho] at h
        dsimp only at h
        rw [zrR] at h
        obtain ⟨s',hS',h⟩:=YO hS hsz h
        rcases h with ⟨hw,h⟩ | ⟨hw,h⟩
        · rw [z9a] at h
          simp only [JA,z8v] at h
          obtain ⟨r',v,hK,hv,hsees⟩:=zMa hT hL.env hS' h
          obtain ⟨s3,h3,hS3,hsz3,hd3⟩:=ZW hS' hsz hv hK
          cases hrd:yE T s' o with
          | none =>
            have:=Jp hT hL m hsel hQ f _ acc es (hcl.set hjr) hes (by rw [hrd] at h3;exact h3) hS3 hsz3 (hd3.trans hd)
            refine wX (zdg all) (B:=fun _=>False) (w0:=C.w) ho (Region.noSelect_spec hsel) f listed a C.w hcl (Region.free_spec ho hfree) hjr (.inl ⟨hw,fun W _=>hsees W (fun l hl=>by rw [hrd] at hl;cases hl)⟩) (fun b hb=>hb.elim) ?_
            exact more_ents this
          | some rd =>
          let B:Nat→Prop:=fun b=>C.R b ∨ ∃i ∈ rd,zA C.H i∧C.ρ i=some b
          have hB:Qn B C.w C.w:=by
            rintro b (hb | ⟨i,_,hl,hb⟩)
            · exact ⟨hS.heap.rlt b hb,rfl⟩
            · exact ⟨hS.heap.blk_lt hl hb,rfl⟩
          refine wX (zdg all) (B:=B) (w0:=C.w) ho (Region.noSelect_spec hsel) f listed a C.w hcl (Region.free_spec ho hfree) hjr (.inl ⟨hw,fun W hW=>hsees W (fun l hl b hb=>by
            rw [hrd] at hl
            cases hl
            exact (hW b hb).2)⟩) hB ?_
          refine Jp hT hL m hsel hQ f _ _ _ (hcl.set hjr) ?_ (by rw [hrd] at h3;exact h3) hS3 hsz3 (hd3.trans hd)
          unfold zgt
          rw [Z2]
          refine ⟨_,es,rfl,rfl,⟨fun l hl => ?_⟩,hes⟩
          cases hl
          refine ⟨hB,?_⟩
          rintro b (hb | ⟨k,hk,hlk,hbk⟩) i hl hbi
          · exact absurd hb (hS.heap.ro i b hl hbi)
          · rw [hS.heap.inj i k b hl hlk hbi hbk];exact hk
        · rw [JA] at h
          obtain ⟨s3,h3,hS3,hsz3,hd3⟩:=ZW (v := .tup []) (u:=undef) hS' hsz (by rw [VRel];exact ⟨#[],rfl,by rw [VRels]⟩) h
          have:=Jp hT hL m hsel hQ f _ acc es (hcl.set hjr) hes h3 hS3 hsz3 (hd3.trans hd)
          refine wX (zdg all) (B:=fun _=>False) (w0:=C.w) ho (Region.noSelect_spec hsel) f listed a C.w hcl (Region.free_spec ho hfree) hjr (.inr ⟨hw,rfl⟩) (fun b hb=>hb.elim) ?_
          exact more_ents this
      · intro w' hq
        refine ⟨fun h0=>(by rw [hr] at h0;cases h0),fun i hi => ?_⟩
        replace h:=zR9 h i (by rw [← hr];exact hi)
        obtain ⟨_,o,ho,_⟩:=mem_ready.1 hi
        have hSw:=YE hS hq
        have hesw:=hes.later hq
        generalize hC:C.at w'=C2 at hSw hesw
        have hw:w'=C2.w:=by rw [← hC];rfl
        clear hC hS hes hq
        subst hw
        rename_i C0 _
        clear C0
        obtain ⟨C,hC⟩ : ∃C,C=C2:=⟨_,rfl⟩
        subst hC
        rw [ho] at h
        dsimp only at h
        rw [zrR] at h
        obtain ⟨s',hS',h⟩:=YO hSw hsz h
        unfold clOp
        simp only [ho]
        rcases h with ⟨hw,h⟩ | ⟨hw,h⟩
        · rw [if_pos hw]
          refine yg ?_ (zUh hT hL m (YK all all.size) i o h hS')
          rintro u w'' ⟨foot,r',s'',C',hK,rfl,hS'',hv,hf⟩
          replace hK:=zI hK;obtain ⟨hacc,hK⟩:=hK
          rw [JA] at hK
          obtain ⟨s3,h3,hS3,hsz3,hd3⟩:=ZW hS'' hsz hv hK
          obtain ⟨g1,g2⟩:=Z2.foot hf hesw hacc
          exact ⟨g2,Jp hT hL m hsel hQ f _ _ _ (hcl.set hi) g1 h3 hS3 hsz3 (hd3.trans hd)⟩
        · rw [if_neg (by rw [hw];decide)]
          rw [JA] at h
          obtain ⟨s3,h3,hS3,hsz3,hd3⟩:=ZW (v := .tup []) (u:=undef) hS' hsz (by rw [VRel];exact ⟨#[],rfl,by rw [VRels]⟩) h
          exact ⟨fun e _ _ hke=>hke,Jp hT hL m hsel hQ f _ acc es (hcl.set hi) hesw h3 hS3 hsz3 (hd3.trans hd)⟩
where
  more_ents {f:Nat} {listed:Array Bool} {a:Act} {w:World} {es:List Ent} {an:Nat→Nat→Bool} {k:Nat} {w0:World} {all:Array Oper} {Q:Act→World→Prop} (h:Yz P .any all an Q es f listed a w) :
      Yz P .any all an Q (⟨k,fun _=>False,w0⟩::es) f listed a w:=by
    induction f generalizing listed a w with
    | zero=>exact h
    | succ f ih =>
      intro w' hq
      refine ⟨(h w' hq).1,fun i hi=>zcl (fun a' w'' hk=>⟨fun e he => ?_,ih hk.2⟩) ((h w' hq).2 i hi)⟩
      rcases List.mem_cons.1 he with rfl | he
      · exact fun _ _ b hb=>hb.elim
      · exact hk.1 e he
theorem zcX [BT] (hT:zN P T) {lo:Lo} (hL:ZC P lo) (out:Nat) {F:Fr} {stk:List (Array Value)} {all:Array Oper} {nt:Nat} {K:St→Ans} {res:AV×List Obj} {Q:Exit→Act→World→Prop} {ds:List Deferred} {rn:Option Nat}
    (hQ : ∀s C a,K s=some res→zB F C s a.tmps stk→nt≤a.tmps.size→a.defers=ds→Q .normal a C.w) :
    ∀(l:List Oper) (n:Nat),all.toList.drop n=l → ∀{s:St} {C:Cx} {a:Act},(zhJ T lo out all nt l).run K s=some res→zB F C s a.tmps stk→nt≤a.tmps.size→a.defers=ds →
      wpOpsIn (WF rn) 0 P all Q (List.range' n l.length) a C.w
  | [],n,hl,s,C,a,h,hS,hsz,hd=>hQ s C a h hS hsz hd
  | o::r,n,hl,s,C,a,h,hS,hsz,hd=>by
    rw [z9b] at h
    have hlr:all.toList.drop (n+1)=r:=by rw [← List.tail_drop,hl];rfl
    have ho:all[n]? = some o:=by
      have:(all.toList.drop n)[0]? = some o:=by rw [hl];rfl
      simpa using this
    rw [List.length_cons,List.range'_succ,wpOpsIn,ho]
    dsimp only
    obtain ⟨s',hS',h⟩:=YO hS hsz h
    rcases h with ⟨hw,h⟩ | ⟨hw,h⟩
    · rw [if_pos hw]
      refine Jl (yg ?_ (zDi hT hL _ o h hS'))
      rintro u w' ⟨r',s'',C',hK,rfl,hS'',hv⟩
      obtain ⟨s3,h3,hS3,hsz3,hd3⟩:=ZW hS'' hsz hv hK
      exact zcX hT hL out hQ r (n+1) hlr h3 hS3 hsz3 (hd3.trans hd)
    · rw [if_neg (by rw [hw];decide)]
      refine ⟨fun f _=>zdf rn f,?_⟩
      obtain ⟨s3,h3,hS3,hsz3,hd3⟩:=ZW (v := .tup []) (u:=undef) hS' hsz (by rw [VRel];exact ⟨#[],rfl,by rw [VRels]⟩) h
      exact zcX hT hL out hQ r (n+1) hlr h3 hS3 hsz3 (hd3.trans hd)
noncomputable def zSX (env:zT) (keep:List Nat):(zT→Ans)→Ans := @List.rec Nat (fun _=>(zT→Ans)→Ans) (fun K=>K []) (fun d _ ih K=>fV (zfV env d) fun v=>ih fun r=>K ((d,v)::r)) keep
theorem z41 (env:zT) (keep:List Nat) : ∀K:zT→Ans,zSX env keep K=K (YH env keep):=by
  induction keep with
  | nil=>intro K;rfl
  | cons d r ih =>
    intro K
    show fV (zfV env d) _=_
    rw [zaR,zbM]
    exact ih _
noncomputable def zs7 (keep:List Nat) (s:St) (K:St→Ans):Ans :=
  @St.casesOn (fun _=>Ans) s fun env stk H blk=>zSX env keep fun env=>fL (zbe (yU env++Ye stk) H.length H) fun H=>K ⟨env,stk,H,blk⟩
theorem zq4 (keep:List Nat) (s:St) (K:St→Ans):zs7 keep s K=K (s.head keep):=by
  obtain ⟨env,stk,H,blk⟩:=s
  show zSX env keep _=_
  rw [z41,ze8]
  rfl
noncomputable def zup (keep:List Nat) (run:(Ex→St→Ans)→St→Ans) (K:Ex→St→Ans):Nat→St→Ans :=
  @Nat.rec (fun _=>St→Ans) (fun _=>none) (fun _ ih s=>zs7 keep s fun s=>run (fun e s'=>match e with
    | .norm=>ih s'
    | e=>K e s') s)
structure CC where
  run:(Ex→St→Ans)→St→Ans
noncomputable def zMK (G:St→Ans) (K:Ex→St→Ans) (e:Ex) (s:St):Ans :=
  match e with
  | .norm=>G s
  | e=>K e s
noncomputable def zrs (id:Nat) (K:Ex→St→Ans) (e:Ex) (s:St):Ans :=
  match e with
  | .exit i => @Bool.rec (fun _=>Ans) (K (.exit i) s) (K .norm s) (Nat.beq i id)
  | e=>K e s
noncomputable def ZZ [BT] (T:Tab) (lo:Lo) (h:List (Nat×List Nat)) (nt rs:Nat):List (Nat×Nat)→Nat→Nat→Code→CC
  | _,_,_,.skip=>⟨fun K s=>K .norm s⟩
  | _,out,_,.region _ ops draw=>cond draw
      (cond (Region.noSelect ops)
        ⟨fun K s=>(yC T lo (Nat.lor out (zCt ops ops.toList)) ops (zPZ T lo.env ops) (YK ops ops.size) nt ops.size (Array.replicate ops.size false)).run (fun s=>K .norm s) [] s⟩ ⟨fun _ _=>none⟩)
      ⟨fun K s=>(zhJ T lo out ops nt ops.toList).run (fun s=>K .norm s) s⟩
  | ex,out,b,.seq x y=>⟨fun K s=>(ZZ T lo h nt rs ex (wo nt rs ex y out) b x).run (zMK (fun s=>Wu (wo nt rs ex y out) s fun s=>(ZZ T lo h nt rs ex out b y).run K s) K) s⟩
  | ex,out,b,.cond c x y=>⟨fun K s=>match (vOf c).run s.env with
      | .bool p => @Bool.rec (fun _=>Ans) ((ZZ T lo h nt rs ex out b y).run K s) ((ZZ T lo h nt rs ex out b x).run K s) p
      | _=>none⟩
  | ex,out,_,.block id c=>⟨fun K s=>(ZZ T lo h nt rs ((id,out)::ex) out id c).run (zrs id K) s⟩
  | ex,_,b,.loop c=>⟨fun K s=>zup (yJ b h) (ZZ T lo h nt rs ex (wo nt rs ex c 0) b c).run K zbp s⟩
  | _,_,_,.exit id=>⟨fun K s=>K (.exit id) s⟩
  | _,_,_,.ret=>⟨fun K s=>K .ret s⟩
  | _,_,_,.label _=>⟨fun K s=>K .norm s⟩
  | _,_,b,.rangeFunc g ps asn c=>⟨fun K s=>zs7 (yJ b h) s fun s=>zKh s.H fun k0=>zhs lo.env nt k0 (yJ b h) g (fun K s =>
      zx T lo.env (zgx h) (zy T lo.env (zgx h) 0 1) zbp nt (.rnd (.block (qw T lo.env h nt k0 b c))) (.rangeFunc g ps asn c) (zD k0 (fun _=>yJ b h) K) s) K s⟩
  | _,_,_,_=>⟨fun _ _=>none⟩
theorem zqA [BT] {nt:Nat} {c:Code} {G:(Ex→St→Ans)→St→Ans} (hG:zw P nt c G) (keep:List Nat) {r:Option Nat} {stk:List (Array Value)} {res:AV×List Obj} {K:Ex→St→Ans} :
    ∀(n:Nat) {F:Fr} {s:St} {C:Cx} {a:Act},zup keep G K n s=some res→Yf r F→zB F C s a.tmps stk→nt≤a.tmps.size→Yw F a.defers→wW r P c (yG F K stk nt res) a C.w
  | 0,F,s,C,a,h,hro,hS,hsz,hd=>by cases h
  | n+1,F,s,C,a,h,hro,hS,hsz,hd=>by
    replace h:zs7 keep s (fun s=>G (fun e s'=>match e with
      | .norm=>zup keep G K n s'
      | e=>K e s') s)=some res:=h
    rw [zq4] at h
    obtain ⟨C',hw,hS'⟩:=Y6 hS keep
    rw [← hw]
    refine zdT (wpIn_mono (hG h hro hS' hsz hd) ?_)
    rintro e a' w' ⟨F',e',s',C'',hle,rfl,hK,rfl,hS'',hsz',hd'⟩
    cases e' with
    | norm=>exact wW.mono (zqA hG keep n hK (hro.le hle) hS'' hsz' hd') (fun _ _ _ h=>yG.of_le hle h)
    | exit i=>exact ⟨F',.exit i,s',C'',hle,rfl,hK,rfl,hS'',hsz',hd'⟩
    | ret=>exact ⟨F',.ret,s',C'',hle,rfl,hK,rfl,hS'',hsz',hd'⟩
    | goto l=>exact ⟨F',.goto l,s',C'',hle,rfl,hK,rfl,hS'',hsz',hd'⟩
theorem zqx [BT] (hm:P.follows .mixedOrders=true) (hT:zN P T) {lo:Lo} (hL:ZC P lo) (h:List (Nat×List Nat)) (nt rs:Nat) : ∀(c:Code) (ex:List (Nat×Nat)) (out b:Nat),zw P nt c (ZZ T lo h nt rs ex out b c).run:=by
  intro c
  induction c with
  | skip =>
    intro ex out b r F K s C a stk res hG hro hS hsz hd
    exact wpIn_skip ⟨F,.norm,s,C,FLe.refl F,rfl,hG,rfl,hS,hsz,hd⟩
  | region id ops draw =>
    intro ex out b r F K s C a stk res hG hro hS hsz hd
    rw [ZZ] at hG
    cases draw with
    | false =>
      refine wpIn_region ?_
      have:=zcX hT hL _ (Q:=yG F K stk nt res) (all:=ops) (ds:=a.defers) (rn:=r) (fun s C a' hK hS hsz hd'=>⟨F,.norm,s,C,FLe.refl F,rfl,hK,rfl,hS,hsz,by rw [hd'];exact hd⟩) ops.toList 0 (by simp) hG hS hsz rfl
      rw [List.range_eq_range']
      simpa using this
    | true =>
      simp only [cond_true] at hG
      have hW:Below C.w.heap.size C.w { C.w with drawn:=C.w.drawn+1 }:=⟨rfl,rfl,rfl,Nat.le_refl _,fun _ _=>rfl⟩
      have hS1:=YE hS hW
      cases hsel:Region.noSelect ops with
      | false=>rw [hsel] at hG;cases hG
      | true =>
      rw [hsel] at hG
      refine wpIn_region_any hm ?_
      refine JL (ents:=[]) (an:=zfH (YK ops ops.size)) (Q:=fun a' w'=>yG F K stk nt res .normal a' w') (fun a' w' h=>h) _ _ _ _ ?_
      refine Jp hT hL _ hsel (ds:=a.defers) (fun s C a' hK hS hsz hd' => ?_) ops.size _ [] [] ?_ (by rw [Z2]) hG hS1 hsz rfl
      · exact ⟨F,.norm,s,C,FLe.refl F,rfl,hK,rfl,hS,hsz,by rw [hd'];exact hd⟩
      intro j oj _ hl
      rw [getD_replicate_false] at hl
      cases hl
  | seq p q ihx ihy =>
    intro ex out b r F K s C a stk res hG hro hS hsz hd
    rw [ZZ] at hG
    refine wpIn_seq (wpIn_mono (ihx _ _ _ hG hro hS hsz hd) ?_)
    rintro e a' w' ⟨F',e',s',C',hle,rfl,hK,rfl,hS',hsz',hd'⟩
    cases e' with
    | norm =>
      obtain ⟨s2,hS2,hK⟩:=wS hS' (show Wu _ s' _=some res from hK)
      exact wpIn_mono (ihy _ _ _ hK (hro.le hle) hS2 hsz' hd') fun _ _ _ h=>h.of_le hle
    | exit i=>exact ⟨F',.exit i,s',C',hle,rfl,hK,rfl,hS',hsz',hd'⟩
    | ret=>exact ⟨F',.ret,s',C',hle,rfl,hK,rfl,hS',hsz',hd'⟩
    | goto l=>exact ⟨F',.goto l,s',C',hle,rfl,hK,rfl,hS',hsz',hd'⟩
  | cond c p q ihx ihy =>
    intro ex out b r F K s C a stk res hG hro hS hsz hd
    rw [ZZ] at hG
    dsimp only at hG
    rw [Zn] at hG
    split at hG
    · rename_i p hp
      have hv:=zR (C:=C) hS.env c
      rw [hp,VRel] at hv
      refine wpIn_cond hv ?_
      cases p with
      | true=>exact ihx _ _ _ hG hro hS hsz hd
      | false=>exact ihy _ _ _ hG hro hS hsz hd
    · cases hG
  | block id c ih =>
    intro ex out b r F K s C a stk res hG hro hS hsz hd
    rw [ZZ] at hG
    refine wpIn_block (wpIn_mono (ih _ _ id hG hro hS hsz hd) ?_)
    rintro e a' w' ⟨F',e',s',C',hle,rfl,hK,rfl,hS',hsz',hd'⟩
    cases e' with
    | norm=>exact ⟨F',.norm,s',C',hle,rfl,hK,rfl,hS',hsz',hd'⟩
    | exit i =>
      simp only [zrs] at hK
      show if i=id then _ else _
      by_cases hi:i=id
      · subst hi
        rw [if_pos rfl]
        rw [Nat.beq_refl] at hK
        exact ⟨F',.norm,s',C',hle,rfl,hK,rfl,hS',hsz',hd'⟩
      · rw [if_neg hi]
        rw [zhi hi] at hK
        exact ⟨F',.exit i,s',C',hle,rfl,hK,rfl,hS',hsz',hd'⟩
    | ret=>exact ⟨F',.ret,s',C',hle,rfl,hK,rfl,hS',hsz',hd'⟩
    | goto l=>exact ⟨F',.goto l,s',C',hle,rfl,hK,rfl,hS',hsz',hd'⟩
  | loop c ih =>
    intro ex out b r F K s C a stk res hG hro hS hsz hd
    rw [ZZ] at hG
    exact q3 (zqA (G:=(ZZ T lo h nt rs ex (wo nt rs ex c 0) b c).run) (ih _ _ b) (yJ b h) zbp hG hro hS hsz hd)
  | exit id =>
    intro ex out b r F K s C a stk res hG hro hS hsz hd
    exact wpIn_exit ⟨F,.exit id,s,C,FLe.refl F,rfl,hG,rfl,hS,hsz,hd⟩
  | ret =>
    intro ex out b r F K s C a stk res hG hro hS hsz hd
    exact wpIn_ret ⟨F,.ret,s,C,FLe.refl F,rfl,hG,rfl,hS,hsz,hd⟩
  | label l =>
    intro ex out b r F K s C a stk res hG hro hS hsz hd
    exact wpIn_label ⟨F,.norm,s,C,FLe.refl F,rfl,hG,rfl,hS,hsz,hd⟩
  | rangeFunc g ps asn c iha ihc =>
    intro ex out b r F K s C a stk res hG hro hS hsz hd
    rw [ZZ] at hG
    dsimp only at hG
    rw [zq4,zCJ] at hG
    obtain ⟨C',hw,hS'⟩:=Y6 hS (yJ b h)
    rw [← hw]
    exact zfJ (hint:=zgx h) (d:=0) (m:=1) hm hT hL.env (s.head (yJ b h)).H.length (fun _=>yJ b h) (yJ b h) (x := .block (qw T lo.env h nt (s.head (yJ b h)).H.length b c)) (z8d hm hT hL.env h nt _ c b).1 (fun K s res e=>⟨zbp,e⟩) hG hro hS' hsz hd
  | _=>intro ex out b r F K s C a stk res hG hro hS hsz hd;cases hG
noncomputable def ZcW [BT] (T:Tab) (lo:Lo) (i:ZN) (f:Func):CF:=⟨f.ntmps,f.results.toList,(ZZ T lo i.hints f.ntmps (zdE f.results.toList) [] (zdE f.results.toList) 0 (f.body.getD .skip)).run⟩
noncomputable def YL [BT] (T:Tab) (lo:Lo) (i:ZN) (f:Func) (l:List AV) (H:List Obj) (K:AV→List Obj→Ans):Ans :=
  (ZZ T lo i.hints f.ntmps (zdE f.results.toList) [] (zdE f.results.toList) 0 (f.body.getD .skip)).run (zLb T H f.results.toList K) { env:=ZL 0 l,stk:=[yd 0 H],H:=H,blk:=0 }
noncomputable def zv3 [BT] (T:Tab) (lo:Lo) (i:ZN) (f:Func) (l:List AV) (K:AV→Ans):Ans :=
  match YL T lo i f l [] (fun v _=>some (v,[])) with
  | some (r,H)=>cond (zbU H&&r.closed1) (fV r K) none
  | none=>none
theorem z7i [BT] (hT:zN P T) {g:Nat} {fn:Func} {c:Code} (hf:P.funcs[g]? = some fn) (hb:fn.body=some c) {G:(Ex→St→Ans)→St→Ans} (hG:zw P fn.ntmps c G) {F:Fr} {C:Cx} (hh:zY C) (hF:zK F C) {args:List AV} {us:Array Value} (hargs:VRels C args us.toList)
    {K:AV→List Obj→Ans} {res:AV×List Obj} (h:G (zLb T C.H fn.results.toList K) { env:=ZL 0 args,stk:=[yd 0 C.H],H:=C.H,blk:=0 }=some res) :
    Calls P g us C.w fun
      | .returned v,w' => ∃r C',K r C'.H=some res∧C'.w=w'∧zY C'∧zK F C'∧VRel C' r v∧(∀j b,(zp C.H j).isBlk=true→C.ρ j=some b→C'.ρ j=some b∧zA C'.H j)
      | _,_=>False:=by
  obtain ⟨F1,hF1⟩ : ∃F1:Fr,F1={ F.re C with base:=C.w.heap.size }:=⟨_,rfl⟩
  have hF1C:zK F1 C:=by rw [hF1];exact ⟨rfl,rfl,rfl,Nat.le_refl _,fun _ _ _=>rfl,fun _ h=>h,fun _ h => .inl h,fun i b hl hb => .inl ⟨i,hl,hb⟩⟩
  have hback : ∀C',zK F1 C'→zK F C':=fun C' h=>(zcP hF).frame C' (by rw [hF1] at h;exact ⟨h.os,h.tape,h.output,h.size,h.keep,h.r0,h.rN,h.own⟩)
  have hb1:F1.base=C.w.heap.size:=by rw [hF1]
  have hw1:F.w0.heap.size≤C.w.heap.size:=hF.size
  have hS:zB F1 C { env:=ZL 0 args,stk:=[yd 0 C.H],H:=C.H,blk:=0 } (us++Array.replicate (fn.ntmps - us.size) undef) [YB C] :=
    ⟨rfl,hh,Jq hargs _,by rw [ZG];exact ⟨_,[],rfl,zj3 hh,by rw [ZG]⟩,hF1C⟩
  refine (callsIn_wide (n:=0)).1 (callsIn_of_wp_marks hf hb trivial (wpIn_mono (hG (r:=none) (a:={ tmps:=us++Array.replicate (fn.ntmps - us.size) undef,defers:=[] }) h (Yf.none _) hS (by simp;omega) ⟨by rw [hF1];exact Nat.le_refl _,trivial⟩) ?_))
  rintro e a' w' ⟨F2,e',s',C0,hle,rfl,hK,rfl,hS0,hsz,hd⟩
  have fin:(match s'.stk with
      | [env]=>cond (yb env 0 C.H) (Zv T s' fn.results.toList [] fun vs=>ziN C.H.length (y2 vs) s'.H K) none
      | _=>none)=some res → ∀W,Priv F2.base C0 W →
      ∃v,(results fn a'.tmps).run P W = .ok v W ∧ ∃r C'',K r C''.H=some res∧C''.w=W∧zY C''∧zK F C''∧VRel C'' r v∧(∀j b,(zp C.H j).isBlk=true→C.ρ j=some b→C''.ρ j=some b∧zA C''.H j):=by
    intro hr W hW
    obtain ⟨C',hC'⟩ : ∃C',C'=C0.at W:=⟨_,rfl⟩
    have hS':zB F C' s' a'.tmps [YB C]:=by
      rw [hC']
      exact yi (F:=F) ⟨hS0.H,hS0.heap,hS0.env,hS0.stk,hback _ (hle.frame _ hS0.frame)⟩ (by rw [hle.base,hb1];exact hw1) hW
    have hCw:C'.w=W:=by rw [hC'];rfl
    rw [← hCw]
    split at hr
    · rename_i env hst
      replace hr:=zI hr;obtain ⟨hro,hr⟩:=hr
      obtain ⟨rs,v,h1,h2,h3⟩:=YP hT hS' hr
      rw [← hS'.H] at h1
      obtain ⟨r',C'',hw'',hh'',hF'',hv'',hK'',hkeep⟩:=zfS hS'.heap hS'.frame h3 h1
      refine ⟨v,h2,r',C'',hK'',hw'',hh'',hF'',hv'',?_⟩
      intro j b hg hbj
      have hl:zA C.H j:=Wn hg
      have hlt:=Z7 hl
      have hst':=hS'.stk
      rw [hst,ZG] at hst'
      obtain ⟨v',vs',he,henv,_⟩:=hst'
      cases he
      have hv:=henv j
      have hroot:=zbj C.H 0 hro j hg
      rw [Nat.zero_add] at hroot
      rw [hroot,zaN hlt hbj] at hv
      obtain ⟨hb',hlv⟩:=zfR hv
      exact hkeep j hlt b hb' hlv
    · cases hr
  cases e' with
  | norm=>exact yA _ F2 C0 hd.2 hS0.frame (fun W hW=>fin hK W hW)
  | ret=>exact yA _ F2 C0 hd.2 hS0.frame (fun W hW=>fin hK W hW)
  | exit i=>cases hK
  | goto l=>cases hK
theorem zpp [BT] (hm:P.follows .mixedOrders=true) (hT:zN P T) {lo:Lo} (hL:ZC P lo) {i:ZN} {f:Func} (hf:P.funcs[i.g]? = some f) (hb:f.body.isSome=true) (hn:f.name ≠ "runtime.NumGoroutine") :
    zO P i.g (YL T lo i f) :=
  ⟨⟨f,hf,hb,hn⟩,fun C args us K res Fr hh hF hargs h=>z7i hT hf (zC hb) (zqx hm hT hL i.hints f.ntmps _ _ _ _ 0) hh hF hargs h⟩
theorem zr7 [BT] (hm:P.follows .mixedOrders=true) (hT:zN P T) {lo:Lo} (hL:ZC P lo) {i:ZN} {f:Func} (hf:P.funcs[i.g]? = some f) (hb:f.body.isSome=true) (hn:f.name ≠ "runtime.NumGoroutine") :
    zM P i.g (zv3 T lo i f):=by
  refine ⟨⟨f,hf,hb,hn⟩,fun C args us K res hh hH hargs hFp => ?_⟩
  unfold zv3 at hFp
  cases hr:YL T lo i f args [] (fun v _=>some (v,[])) with
  | none=>rw [hr] at hFp;cases hFp
  | some p =>
    obtain ⟨r,H⟩:=p
    rw [hr] at hFp
    dsimp only at hFp
    replace hFp:=zI hFp
    simp only [Bool.and_eq_true] at hFp
    rw [zaR] at hFp
    obtain ⟨⟨hnil,hcl⟩,hK⟩:=hFp
    refine ⟨r,y6 r,hK,fun C'=>(Yd hcl).2 rfl,fun W hW => ?_⟩
    obtain ⟨hh',hat⟩:=zSn hh hH hW
    have hargs':VRels (C.at W) args us.toList:=hat hargs
    let F:Fr:=⟨W,fun _=>False,C.R,0⟩
    have hF:zK F (C.at W):=⟨rfl,rfl,rfl,Nat.le_refl _,fun _ _ _=>rfl,fun _ h=>h,fun _ h => .inl h,fun i b hl=>by
      exact absurd (by show zp C.H i = .dead;rw [hH];rfl) hl⟩
    have hn':YL T lo i f args (C.at W).H (fun v _=>some (v,[]))=some (r,H):=by
      show YL T lo i f args C.H _=_
      rw [hH];exact hr
    refine ((zpp hm hT hL hf hb hn).2 (C.at W) args us _ _ F hh' hF hargs' hn').mono ?_
    intro e w' hw'
    cases e with
    | returned v =>
      obtain ⟨r',C',hK',rfl,_,hF',hv,_⟩:=hw'
      cases hK'
      refine ⟨by rw [(Yd hcl).1 hv],⟨hF'.os,hF'.tape,hF'.output,hF'.size,fun k hk=>hF'.keep k hk fun h=>h⟩⟩
    | panicked ch=>exact hw'.elim
    | outgrown=>exact hw'.elim
noncomputable def zSJ [BT] (P:Program) (T:Tab) (lo:Lo) (i:ZN):znZ :=
  match P.funcs[i.g]? with
  | some f=>cond i.pure (.pure (zv3 T lo i f)) (.func (YL T lo i f))
  | none => .func fun _ _ _=>none
noncomputable def z3W [BT] (P:Program) (T:Tab) (lo:Lo):List ZN→Env→Env
  | [],b=>b
  | i::r,b=>(i.g,zSJ P T lo i)::z3W P T lo r b
noncomputable def caQ [BT] (P:Program) (T:Tab) (lo:Lo):List ZN→Nat→Option CF
  | [],_=>none
  | i::r,g=>cond (Nat.beq i.g g) (match P.funcs[i.g]? with
    | some f=>some (ZcW T lo i f)
    | none=>none) (caQ P T lo r g)
theorem z6c [BT] (hm:P.follows .mixedOrders=true) (hT:zN P T) {lo:Lo} (hL:ZC P lo) {i:ZN} (hi:i.ok P=true):zgz P i.g (zSJ P T lo i):=by
  unfold ZN.ok at hi
  unfold zSJ
  cases hf:P.funcs[i.g]? with
  | none=>rw [hf] at hi;cases hi
  | some f =>
    rw [hf] at hi
    simp only [Bool.and_eq_true,decide_eq_true_eq] at hi
    dsimp only
    cases i.pure with
    | true=>exact zr7 hm hT hL hf hi.1 hi.2
    | false=>exact zpp hm hT hL hf hi.1 hi.2
theorem zRP [BT] (hm:P.follows .mixedOrders=true) (hT:zN P T) {lo:Lo} (hL:ZC P lo) {base:Env} (hB:zf P base) : ∀{L:List ZN},L.all (ZN.ok P)=true→zf P (z3W P T lo L base)
  | [],_=>hB
  | i::r,h=>by
    rw [List.all_cons,Bool.and_eq_true] at h
    exact zf.cons (z6c hm hT hL h.1) (zRP hm hT hL hB h.2)
theorem zYA [BT] (hm:P.follows .mixedOrders=true) (hT:zN P T) {lo:Lo} (hL:ZC P lo) : ∀{L:List ZN},L.all (ZN.ok P)=true → ∀g cf,caQ P T lo L g=some cf →
    ∃fn c,P.funcs[g]? = some fn∧fn.body=some c∧fn.name ≠ "runtime.NumGoroutine" ∧ cf.nt=fn.ntmps∧cf.res=fn.results.toList∧zw P fn.ntmps c cf.run
  | [],_,g,cf,e=>by cases e
  | i::r,h,g,cf,e=>by
    rw [List.all_cons,Bool.and_eq_true] at h
    rw [caQ] at e
    cases hb:Nat.beq i.g g with
    | false=>rw [hb] at e;exact zYA hm hT hL h.2 g cf e
    | true =>
      obtain rfl:=Nat.eq_of_beq_eq_true hb
      rw [hb,cond_true] at e
      have hi:=h.1
      unfold ZN.ok at hi
      cases hf:P.funcs[i.g]? with
      | none=>rw [hf] at e;cases e
      | some f =>
        rw [hf] at e hi
        cases e
        simp only [Bool.and_eq_true,decide_eq_true_eq] at hi
        exact ⟨f,_,rfl,zC hi.1,hi.2,rfl,rfl,zqx hm hT hL i.hints f.ntmps _ _ _ _ 0⟩
theorem Zbo [BT] (hm:P.follows .mixedOrders=true) (hT:zN P T) {lo:Lo} (hL:ZC P lo) {i:ZN} {f:Func} (hf:P.funcs[i.g]? = some f) (hb:f.body.isSome=true) (hn:f.name ≠ "runtime.NumGoroutine") {v:AV}
    (hr : ∀K,YL T lo i f [] [] K=K v []):zO P i.g (z7P v):=by
  have hC:=zpp hm hT hL hf hb hn
  refine ⟨hC.1,fun C args us K res Fr hh hF hargs hFf=>hC.2 C args us K res Fr hh hF hargs ?_⟩
  generalize C.H=H0 at hFf ⊢
  unfold z7P at hFf
  split at hFf
  · exact (hr K).trans hFf
  · cases hFf
theorem z8Z [BT] (hm:P.follows .mixedOrders=true) (hT:zN P T) {lo:Lo} (hL:ZC P lo) {i:ZN} {f:Func} (hf:P.funcs[i.g]? = some f) (hb:f.body.isSome=true) (hn:f.name ≠ "runtime.NumGoroutine") {v:AV} (hv:v.closed1=true)
    {F:List AV→(AV→Ans)→Ans} (hF : ∀l K res,F l K=some res→l=[]∧K v=some res) (hr : ∀K,YL T lo i f [] [] K=K v []):zM P i.g F:=by
  have hC:=zr7 hm hT hL hf hb hn
  refine ⟨hC.1,fun C args us K res hh hH hargs hFf=>hC.2 C args us K res hh hH hargs ?_⟩
  obtain ⟨rfl,hK⟩:=hF _ _ _ hFf
  unfold zv3
  rw [hr]
  simp only [zbU,hv,Bool.and_self,cond_true,zaR]
  exact hK
#print axioms Zbo
#print axioms z8Z
end Go.AE
namespace Go.AE
open Go.RowKit (Below)
variable {P:Program} {T:Tab}
def zJT (P:Program) (fn:Func) (tmps:Array Value) (R:Value→World→Prop):List Deferred→World→Prop
  | [],w => ∃v,(results fn tmps).run P w = .ok v w∧R v w
  | d::ds,w => ∃r w',d.target = .collected r∧(Instr.takeDeferred r).run P w = .ok [] w'∧zJT P fn tmps R ds w'
theorem ziR {F:Fence} {n:Nat} {fn:Func} {tmps:Array Value} {R:Value→World→Prop} : ∀(ds:List Deferred) (w:World) (fr:Frame)
    (cs:List Frame),fr.mode = .returning→fr.defers=ds→fr.tmps=tmps→P.funcs[fr.fn]? = some fn→F.fn fr.fn→F.room (cs.length+1+n)→zJT P fn tmps R ds w →
    ∃v w' fr',R v w'∧StepsIn (Machine.fenced P F) P (lone fr cs w) (lone fr' cs w')∧fr'.fn=fr.fn∧fr'.kind=fr.kind∧fr'.going P w' (.returned v)
  | [],w,fr,cs,hm,hd,ht,hf,hb,hr,h=>by
    obtain ⟨v,h1,h2⟩:=h
    exact ⟨v,w,fr,h2,StepsIn.refl _,rfl,rfl,hm,hd,fn,hf,ht ▸ h1⟩
  | d::ds,w,fr,cs,hm,hd,ht,hf,hb,hr,h=>by
    obtain ⟨r,w',htar,htake,hrest⟩:=h
    have hrun:fr.mode ≠ .run:=by rw [hm];simp
    have h1:=step_collected (cs:=cs) hrun hd htar htake
    have i1:(lone fr cs w).fenced P F:=fenced_out hb hr hrun hd (fun g hg=>by rw [htar] at hg;simp [Target.leads] at hg)
    obtain ⟨v,w'',fr',hR,hs,hfn,hk,hg⟩:=ziR ds w' { fr with defers:=[]++ds } cs hm rfl ht hf hb hr hrest
    exact ⟨v,w'',fr',hR,.head i1 h1 hs,hfn,hk,hg⟩
def ZbH (P:Program) (fn:Func) (R:Value→World→Prop):Exit→Act→World→Prop
  | .normal,a,w | .ret,a,w=>zJT P fn a.tmps R a.defers w
  | _,_,_=>False
theorem zqv {F:Fence} {n:Nat} {f:FuncId} {fn:Func} {c:Code} {args:Array Value} {u:FrameMode} {w:World} {R:Value→World→Prop}
    (hf:P.funcs[f]? = some fn) (hb:fn.body=some c) (hF:F.fn f)
    (h:c.wpIn F n P (ZbH P fn R) { tmps:=args++Array.replicate (fn.ntmps - args.size) undef,defers:=[] } w) (hro:F.round=none:=by rfl) :
    CallsDIn F n P f args u w fun e u' w'=>u'=u ∧ ∃v,e = .returned v∧R v w':=by
  refine ⟨hF,fun c₀ cs hu hr => ?_⟩
  let b:Frame:={ (default:Frame) with fn:=f,kind := .deferred,roundOf:=none }
  have henter:Frame.enter P f args .deferred =
      b.atR { tmps:=args++Array.replicate (fn.ntmps - args.size) undef,defers:=[] } [.code c]:=by
    simp [Frame.enter,Frame.atR,hf,hb,b]
  have hc:({ c₀ with mode:=u }:Frame)=c₀:=by subst hu;rfl
  obtain ⟨e,a',w',hq,harr⟩:=h b [] (c₀::cs) hro.symm hF hr
  rw [← henter] at harr
  cases e with
  | normal =>
    obtain ⟨v,w'',fr',hR,hs,hfn,hk,hg⟩:=ziR (F:=F) (n:=n) a'.defers w' { b.atR a' [] with mode := .returning } (c₀::cs) rfl rfl rfl hf hF hr hq
    exact ⟨.returned v,u,w'',fr',⟨rfl,v,rfl,hR⟩,(by rw [hc];exact StepsIn.trans (StepsIn.trans harr (.one (fenced_calm (fr:=b.atR a' []) hF hr rfl) (stepR_end rfl))) hs),hk,hfn,hg⟩
  | ret =>
    obtain ⟨todo,hs₀⟩:=harr.1 rfl
    obtain ⟨v,w'',fr',hR,hs,hfn,hk,hg⟩:=ziR (F:=F) (n:=n) a'.defers w' { b.atR a' todo with mode := .returning } (c₀::cs) rfl rfl rfl hf hF hr hq
    exact ⟨.returned v,u,w'',fr',⟨rfl,v,rfl,hR⟩,(by rw [hc];exact StepsIn.trans hs₀ hs),hk,hfn,hg⟩
  | panic chain=>exact hq.elim
  | exit id=>exact hq.elim
  | goto l=>exact hq.elim
  | outgrown=>exact hq.elim
theorem zDE {F:Fence} {n:Nat} {f:FuncId} {args:Array Value} {u:FrameMode} {w:World} {R R':Ending→FrameMode→World→Prop}
    (h:CallsDIn F n P f args u w R) (hr : ∀e u' w',R e u' w'→R' e u' w'):CallsDIn F n P f args u w R':=by
  refine ⟨h.1,fun c cs hu hroom => ?_⟩
  obtain ⟨e,u',w',fr,hR,rest⟩:=h.2 c cs hu hroom
  exact ⟨e,u',w',fr,hr _ _ _ hR,rest⟩
theorem zt9 {fn:Func} {tmps:Array Value} {R:Value→World→Prop} : ∀(ds:List Deferred) (F:Fr) (C:Cx),yD F ds→zK F C →
    (∀W,Priv F.base C W → ∃v,(results fn tmps).run P W = .ok v W∧R v W)→zJT P fn tmps R ds C.w:=by
  suffices key : ∀(ds:List Deferred) (F:Fr) (C:Cx) (W:World),yD F ds→zK F C→Priv F.base C W→(∀d ∈ ds,∀D,d.target = .collected D→W.heap[D]? = C.w.heap[D]?) →
      (∀W,Priv F.base C W → ∃v,(results fn tmps).run P W = .ok v W∧R v W)→zJT P fn tmps R ds W from
    fun ds F C hm hF hR=>key ds F C C.w hm hF (Priv.refl _ _) (fun _ _ _ _=>rfl) hR
  intro ds
  induction ds with
  | nil=>intro F C W _ _ hW _ hR;exact hR W hW
  | cons d ds ih =>
    intro F C W hm hF hW hk hR
    obtain ⟨⟨D,⟨ht,hb,hs⟩,hne⟩,hm⟩:=hm
    obtain ⟨h1,h2⟩:=hs.at hF
    have hD:W.heap[D]? = some (.deferred (some [])):=(hk d (List.mem_cons_self ..) D ht).trans h1
    refine ⟨D,W.putObj D (.deferred none),ht,run_takeDeferred hD,?_⟩
    have hW':Priv F.base (C.at W) (W.putObj D (.deferred none)):=Y8 (C:=C.at W) _ h2 hb
    refine ih F C _ hm hF (hW.trans hW') (fun e he D' hD' => ?_) hR
    refine (World.putObj_heap_other ?_).trans (hk e (List.mem_cons_of_mem _ he) D' hD')
    intro e'
    subst e'
    exact hne e he hD'
theorem zym [BT] (hT:zN P T) {lo:Lo} (hL:ZC P lo) {g:Nat} {cf:CF} (hcf:lo.ca g=some cf) {F:Fr} {C:Cx} {s:St} {a:Act} {stk:List (Array Value)} (hS:zB F C s a.tmps stk)
    {args:List AV} {us:Array Value} (hargs:VRels C args us.toList) {m:Nat} {K:KV} {res:AV×List Obj} (h:Ji T m cf args s K=some res) {u:FrameMode} :
    (∀W,(Go.callFunc g us).run P W = .ok (.enter g us) W) ∧
    CallsDIn (WF none) 0 P g us u C.w fun e u' w'=>u'=u ∧ ∃v,e = .returned v ∧ ∃r s' C',K r s'=some res∧C'.w=w'∧zB F C' s' a.tmps stk∧VRel C' r v:=by
  obtain ⟨fn,c,hf,hb,hn,hnt,hres,hG⟩:=hL.ca g cf hcf
  unfold Ji at h
  rw [J5,ze8] at h
  obtain ⟨s1,hS,h⟩:=wS hS h
  obtain ⟨env0,stk0,H0,blk0⟩:=s1
  dsimp only at h
  rw [hres] at h
  refine ⟨fun W => ?_,?_⟩
  · have hne:(fn.name == "runtime.NumGoroutine")=false:=by simpa using hn
    simp [Go.callFunc,hf,hb,hn]
  · obtain ⟨F1,hF1⟩ : ∃F1:Fr,F1={ F.re C with base:=C.w.heap.size }:=⟨_,rfl⟩
    have hF1C:zK F1 C:=by rw [hF1];exact ⟨rfl,rfl,rfl,Nat.le_refl _,fun _ _ _=>rfl,fun _ h=>h,fun _ h => .inl h,fun i b hl hb => .inl ⟨i,hl,hb⟩⟩
    have hback : ∀C',zK F1 C'→zK F C':=fun C' h=>(zcP hS.frame).frame C' (by rw [hF1] at h;exact ⟨h.os,h.tape,h.output,h.size,h.keep,h.r0,h.rN,h.own⟩)
    have hb1:F1.base=C.w.heap.size:=by rw [hF1]
    have hw1:F.w0.heap.size≤C.w.heap.size:=hS.frame.size
    have hS':zB F1 C { env:=ZL 0 args,stk:=env0::stk0,H:=H0,blk:=0 } (us++Array.replicate (fn.ntmps - us.size) undef) (a.tmps::stk) :=
      ⟨hS.H,hS.heap,Jq hargs _,by rw [ZG];exact ⟨_,_,rfl,hS.env,hS.stk⟩,hF1C⟩
    refine zqv hf hb trivial (wpIn_mono (hG (r:=none) (a:={ tmps:=us++Array.replicate (fn.ntmps - us.size) undef,defers:=[] }) h (Yf.none _) hS' (by simp;omega) ⟨by rw [hF1];exact Nat.le_refl _,trivial⟩) ?_)
    rintro e a' w' ⟨F2,e',s',C',hle,rfl,hK,rfl,hS'',hsz,hd⟩
    have fin : ∀{stk' env'},s'.stk=env'::stk'→(Zv T s' fn.results.toList [] fun vs=>Z4 (y2 vs) fun v=>K v ⟨env',stk',s'.H,blk0⟩)=some res →
        ∀W,Priv F2.base C' W → ∃v,(results fn a'.tmps).run P W = .ok v W ∧ ∃r s'' C'',K r s''=some res∧C''.w=W∧zB F C'' s'' a.tmps stk∧VRel C'' r v:=by
      intro stk' env' hst hr W hW
      have hSF:zB F C' s' a'.tmps (a.tmps::stk):=⟨hS''.H,hS''.heap,hS''.env,hS''.stk,hback _ (hle.frame _ hS''.frame)⟩
      have hSW:zB F (C'.at W) s' a'.tmps (a.tmps::stk):=yi hSF (by rw [hle.base,hb1];exact hw1) hW
      obtain ⟨rs,v,h1,h2,h3⟩:=YP hT hSW hr
      rw [yn] at h1
      have hstk:=hSW.stk
      rw [hst,ZG] at hstk
      obtain ⟨t',ts',he,henv,hstk⟩:=hstk
      cases he
      exact ⟨v,h2,_,_,C'.at W,h1,rfl,⟨hSW.H,hSW.heap,henv,hstk,hSW.frame⟩,h3⟩
    have same : ∀{stk' env'},s'.stk=env'::stk'→(zie T s' fn.results.toList fun vs=>fV (y2 vs) fun v=>K v ⟨env',stk',s'.H,blk0⟩)=(Zv T s' fn.results.toList [] fun vs=>Z4 (y2 vs) fun v=>K v ⟨env',stk',s'.H,blk0⟩):=by
      intro stk' env' _
      rw [znq]
      simp only [zaR,yn,List.nil_append]
    obtain ⟨env1,stk1,H1,blk1⟩:=s'
    cases e' with
    | norm =>
      simp only [ztj] at hK
      split at hK
      · rename_i env' stk'
        exact zt9 _ F2 C' hd.2 hS''.frame (fun W hW=>fin rfl ((same rfl).symm.trans hK) W hW)
      · cases hK
    | ret =>
      simp only [ztj] at hK
      split at hK
      · rename_i env' stk'
        exact zt9 _ F2 C' hd.2 hS''.frame (fun W hW=>fin rfl ((same rfl).symm.trans hK) W hW)
      · cases hK
    | exit i=>cases hK
    | goto l=>cases hK
def wP [BT] (F:Fr) (K:Ex→St→Ans) (stk:List (Array Value)) (nt:Nat) (res:AV×List Obj) (ds:List Deferred) (e:Exit) (a:Act) (w:World):Prop :=
  ∃e' s' C',e'.toExit=e∧K e' s'=some res∧C'.w=w∧zB F C' s' a.tmps stk∧nt≤a.tmps.size∧a.defers=ds
def JZ:Code→Bool
  | .seq a b=>JZ a&&JZ b
  | .cond _ a b=>JZ a&&JZ b
  | .block _ c=>JZ c
  | .loop c=>JZ c
  | .rangeFunc .. => false
  | _=>true
def zTI [BT] (P:Program) (nt:Nat) (c:Code) (G:(Ex→St→Ans)→St→Ans):Prop :=
  ∀{F:Fr} {K:Ex→St→Ans} {s:St} {C:Cx} {a:Act} {stk:List (Array Value)} {res:AV×List Obj} {ds:List Deferred},
    G K s=some res→zB F C s a.tmps stk→nt≤a.tmps.size→a.defers=ds→c.wpIn (WF none) 0 P (wP F K stk nt res ds) a C.w
theorem zqF [BT] {nt:Nat} {c:Code} {G:(Ex→St→Ans)→St→Ans} (hG:zTI P nt c G) (keep:List Nat) {stk:List (Array Value)} {res:AV×List Obj} {K:Ex→St→Ans} {F:Fr} {ds:List Deferred} :
    ∀(n:Nat) {s:St} {C:Cx} {a:Act},zup keep G K n s=some res→zB F C s a.tmps stk→nt≤a.tmps.size→a.defers=ds→wW none P c (wP F K stk nt res ds) a C.w
  | 0,s,C,a,h,hS,hsz,hd=>by cases h
  | n+1,s,C,a,h,hS,hsz,hd=>by
    replace h:zs7 keep s (fun s=>G (fun e s'=>match e with
      | .norm=>zup keep G K n s'
      | e=>K e s') s)=some res:=h
    rw [zq4] at h
    obtain ⟨C',hw,hS'⟩:=Y6 hS keep
    rw [← hw]
    refine zdT (wpIn_mono (hG h hS' hsz hd) ?_)
    rintro e a' w' ⟨e',s',C'',rfl,hK,rfl,hS'',hsz',hd'⟩
    cases e' with
    | norm=>exact zqF hG keep n hK hS'' hsz' hd'
    | exit i=>exact ⟨.exit i,s',C'',rfl,hK,rfl,hS'',hsz',hd'⟩
    | ret=>exact ⟨.ret,s',C'',rfl,hK,rfl,hS'',hsz',hd'⟩
    | goto l=>exact ⟨.goto l,s',C'',rfl,hK,rfl,hS'',hsz',hd'⟩
theorem zFL [BT] (hm:P.follows .mixedOrders=true) (hT:zN P T) {lo:Lo} (hL:ZC P lo) (h:List (Nat×List Nat)) (nt rs:Nat) (id:Nat) (ops:Array Oper) (draw:Bool) (ex:List (Nat×Nat)) (out b:Nat):zTI P nt (.region id ops draw) (ZZ T lo h nt rs ex out b (.region id ops draw)).run:=by
  intro F K s C a stk res ds hG hS hsz hd
  rw [ZZ] at hG
  cases draw with
  | false =>
    refine wpIn_region ?_
    have:=zcX hT hL _ (Q:=wP F K stk nt res ds) (all:=ops) (ds:=ds) (rn:=none) (fun s C a' hK hS hsz hd'=>⟨.norm,s,C,rfl,hK,rfl,hS,hsz,hd'⟩) ops.toList 0 (by simp) hG hS hsz hd
    rw [List.range_eq_range']
    simpa using this
  | true =>
    simp only [cond_true] at hG
    have hW:Below C.w.heap.size C.w { C.w with drawn:=C.w.drawn+1 }:=⟨rfl,rfl,rfl,Nat.le_refl _,fun _ _=>rfl⟩
    have hS1:=YE hS hW
    cases hsel:Region.noSelect ops with
    | false=>rw [hsel] at hG;cases hG
    | true =>
    rw [hsel] at hG
    refine wpIn_region_any hm ?_
    refine JL (ents:=[]) (an:=zfH (YK ops ops.size)) (Q:=fun a' w'=>wP F K stk nt res ds .normal a' w') (fun a' w' h=>h) _ _ _ _ ?_
    refine Jp hT hL _ hsel (ds:=ds) (fun s C a' hK hS hsz hd' => ?_) ops.size _ [] [] ?_ (by rw [Z2]) hG hS1 hsz hd
    · exact ⟨.norm,s,C,rfl,hK,rfl,hS,hsz,hd'⟩
    intro j oj _ hl
    rw [getD_replicate_false] at hl
    cases hl
theorem zqL [BT] (hm:P.follows .mixedOrders=true) (hT:zN P T) {lo:Lo} (hL:ZC P lo) (h:List (Nat×List Nat)) (nt rs:Nat) : ∀(c:Code),JZ c=true → ∀(ex:List (Nat×Nat)) (out b:Nat),zTI P nt c (ZZ T lo h nt rs ex out b c).run:=by
  intro c
  induction c with
  | skip =>
    intro _ ex out b F K s C a stk res ds hG hS hsz hd
    exact wpIn_skip ⟨.norm,s,C,rfl,hG,rfl,hS,hsz,hd⟩
  | region id ops draw =>
    intro _ ex out b
    exact zFL hm hT hL h nt rs id ops draw ex out b
  | seq p q ihx ihy =>
    intro hn ex out b F K s C a stk res ds hG hS hsz hd
    simp only [JZ,Bool.and_eq_true] at hn
    rw [ZZ] at hG
    refine wpIn_seq (wpIn_mono (ihx hn.1 _ _ _ hG hS hsz hd) ?_)
    rintro e a' w' ⟨e',s',C',rfl,hK,rfl,hS',hsz',hd'⟩
    cases e' with
    | norm =>
      obtain ⟨s2,hS2,hK⟩:=wS hS' (show Wu _ s' _=some res from hK)
      exact ihy hn.2 _ _ _ hK hS2 hsz' hd'
    | exit i=>exact ⟨.exit i,s',C',rfl,hK,rfl,hS',hsz',hd'⟩
    | ret=>exact ⟨.ret,s',C',rfl,hK,rfl,hS',hsz',hd'⟩
    | goto l=>exact ⟨.goto l,s',C',rfl,hK,rfl,hS',hsz',hd'⟩
  | cond c p q ihx ihy =>
    intro hn ex out b F K s C a stk res ds hG hS hsz hd
    simp only [JZ,Bool.and_eq_true] at hn
    rw [ZZ] at hG
    dsimp only at hG
    rw [Zn] at hG
    split at hG
    · rename_i p hp
      have hv:=zR (C:=C) hS.env c
      rw [hp,VRel] at hv
      refine wpIn_cond hv ?_
      cases p with
      | true=>exact ihx hn.1 _ _ _ hG hS hsz hd
      | false=>exact ihy hn.2 _ _ _ hG hS hsz hd
    · cases hG
  | block id c ih =>
    intro hn ex out b F K s C a stk res ds hG hS hsz hd
    rw [ZZ] at hG
    refine wpIn_block (wpIn_mono (ih hn _ _ id hG hS hsz hd) ?_)
    rintro e a' w' ⟨e',s',C',rfl,hK,rfl,hS',hsz',hd'⟩
    cases e' with
    | norm=>exact ⟨.norm,s',C',rfl,hK,rfl,hS',hsz',hd'⟩
    | exit i =>
      simp only [zrs] at hK
      show if i=id then _ else _
      by_cases hi:i=id
      · subst hi
        rw [if_pos rfl]
        rw [Nat.beq_refl] at hK
        exact ⟨.norm,s',C',rfl,hK,rfl,hS',hsz',hd'⟩
      · rw [if_neg hi]
        rw [zhi hi] at hK
        exact ⟨.exit i,s',C',rfl,hK,rfl,hS',hsz',hd'⟩
    | ret=>exact ⟨.ret,s',C',rfl,hK,rfl,hS',hsz',hd'⟩
    | goto l=>exact ⟨.goto l,s',C',rfl,hK,rfl,hS',hsz',hd'⟩
  | loop c ih =>
    intro hn ex out b F K s C a stk res ds hG hS hsz hd
    rw [ZZ] at hG
    exact q3 (zqF (G:=(ZZ T lo h nt rs ex (wo nt rs ex c 0) b c).run) (ih hn _ _ b) (yJ b h) zbp hG hS hsz hd)
  | exit id =>
    intro _ ex out b F K s C a stk res ds hG hS hsz hd
    exact wpIn_exit ⟨.exit id,s,C,rfl,hG,rfl,hS,hsz,hd⟩
  | ret =>
    intro _ ex out b F K s C a stk res ds hG hS hsz hd
    exact wpIn_ret ⟨.ret,s,C,rfl,hG,rfl,hS,hsz,hd⟩
  | label l =>
    intro _ ex out b F K s C a stk res ds hG hS hsz hd
    exact wpIn_label ⟨.norm,s,C,rfl,hG,rfl,hS,hsz,hd⟩
  | rangeFunc g ps asn c iha ihc =>
    intro hn
    cases hn
  | _=>intro _ ex out b F K s C a stk res ds hG hS hsz hd;cases hG
def zUe (P:Program) (d:Deferred) (g:Nat) (us:Array Value):Prop:=(∃fv cap,d.target = .fn fv cap) ∧ ∀W,(invoke d.target d.args).run P W=(Go.callFunc g us).run P W
theorem zNY [BT] {C:Cx} {s:St} {a:Act} (he:Zq C s.env a.tmps) {c:Call} {f:Operand} (hc:c.callee = .value f) {g:Nat} {args:List AV} (h:w6 T s c=some (g,args)) :
    ∃us d,VRels C args us.toList∧zUe P d g us ∧ ∀(o:Oper),o.op = .defer c → ∀W,(execOp a.eval o).run P W = .ok (.defer d) W:=by
  unfold w6 at h
  rw [hc] at h
  dsimp only at h
  split at h
  · rename_i g' first cap hf
    cases h
    have hv:=zR (C:=C) he f
    rw [hf,VRel] at hv
    obtain ⟨a',b',hv,h1,h2⟩:=hv
    refine ⟨a'++c.args.map a.eval++b',{ target := .fn (.func g) b',args:=a'++c.args.map a.eval },?_,⟨⟨_,_,rfl⟩,fun W=>rfl⟩,fun o ho W => ?_⟩
    · rw [Array.toList_append,Array.toList_append,Array.toList_map]
      exact (h1.append (qV he _)).append h2
    · have hv':a.eval f = .func (.func g) a' b':=hv
      simp only [execOp,ho,resolve,hc,Deferred.ofValue,hv',Sem.run_bind,Sem.run_pure,Result.andThen_ok]
  · cases h
structure CRD where
  run:(Nat→Nat→St→Ans)→St→Ans
noncomputable def zSI (args:List AV) (s:St) (K:Nat→St→Ans):Ans :=
  fVs args fun args=>zKh args fun n=>fL (ZL 0 args) fun env => @St.casesOn (fun _=>Ans) s fun env0 stk H blk=>K n ⟨env0,env::stk,H,blk⟩
theorem z5C (args:List AV) (env0:zT) (stk:List zT) (H:List Obj) (blk:Nat) (K:Nat→St→Ans):zSI args ⟨env0,stk,H,blk⟩ K=K args.length ⟨env0,ZL 0 args::stk,H,blk⟩:=by
  unfold zSI
  rw [J5,zCJ,ze8]
noncomputable def z0g [BT] (T:Tab) (nt:Nat) (o:Oper):CRD :=
  match o.op with
  | .defer c=>match c.callee,o.guard with
    | .value _,none=>⟨fun K s=>za (w6 T s c) fun ga=>zSI ga.2 s fun n s=>zdD nt o.dst (.tup []) s (K ga.1 n)⟩
    | _,_=>⟨fun _ _=>none⟩
  | _=>⟨fun _ _=>none⟩
noncomputable def zH3 [BT] (T:Tab) (lo:Lo) (out:Nat) (all:Array Oper) (nt:Nat):List Oper→CRD
  | []=>⟨fun _ _=>none⟩
  | o::r=>cond (zbU r) (z0g T nt o) (cond o.guard.isNone ⟨fun K s=>(opC T lo (zbF all r out) o).run s fun v s'=>zdD nt o.dst v s' ((zH3 T lo out all nt r).run K)⟩ ⟨fun _ _=>none⟩)
def z7M [BT] (P:Program) (F:Fr) (K0:Ex→St→Ans) (K1:Nat→Nat→Ex→St→Ans) (stk:List (Array Value)) (nt:Nat) (res:AV×List Obj) (e:Exit) (a:Act) (w:World):Prop :=
  wP F K0 stk nt res [] e a w ∨ ∃g us d,zUe P d g us∧wP F (K1 g us.size) (us::stk) nt res [d] e a w
theorem zwu [BT] (hT:zN P T) {lo:Lo} (hL:ZC P lo) (out:Nat) {F:Fr} {stk:List (Array Value)} {all:Array Oper} {nt:Nat} {K:Nat→Nat→St→Ans} {res:AV×List Obj} {Q:Exit→Act→World→Prop}
    (hQ : ∀g us d s C a,K g us.size s=some res→zUe P d g us→zB F C s a.tmps (us::stk)→nt≤a.tmps.size→a.defers=[d]→Q .normal a C.w) :
    ∀(l:List Oper) (n:Nat),all.toList.drop n=l → ∀{s:St} {C:Cx} {a:Act},(zH3 T lo out all nt l).run K s=some res→zB F C s a.tmps stk→nt≤a.tmps.size→a.defers=[] →
      wpOpsIn (WF none) 0 P all Q (List.range' n l.length) a C.w
  | [],n,hl,s,C,a,h,hS,hsz,hd=>by cases h
  | [o],n,hl,s,C,a,h,hS,hsz,hd=>by
    have ho:all[n]? = some o:=by
      have:(all.toList.drop n)[0]? = some o:=by rw [hl];rfl
      simpa using this
    rw [zH3,show zbU ([]:List Oper)=true from rfl,cond_true] at h
    unfold z0g at h
    split at h
    · rename_i c hop
      split at h
      · rename_i f hcal hgd
        dsimp only at h
        replace h:=zr h;obtain ⟨⟨g,args⟩,hg,h⟩:=h
        obtain ⟨us,d,hus,hdo,hex⟩:=zNY (P:=P) hS.env hcal hg
        obtain ⟨env0,stk0,H,blk⟩:=s
        dsimp only at h
        rw [z5C,JA] at h
        have hlen:args.length=us.size:=by
          have:=hus.length
          simpa using this.symm
        rw [hlen] at h
        have hS':zB F C ⟨env0,ZL 0 args::stk0,H,blk⟩ ({ a with defers:=d::a.defers }:Act).tmps (us::stk) :=
          ⟨hS.H,hS.heap,hS.env,by rw [ZG];exact ⟨_,_,rfl,by simpa using Jq hus 0,hS.stk⟩,hS.frame⟩
        obtain ⟨s3,h3,hS3,hsz3,hd3⟩:=ZW (a:={ a with defers:=d::a.defers }) (v := .tup []) (u:=undef) hS' hsz (by rw [VRel];exact ⟨#[],rfl,by rw [VRels]⟩) h
        rw [List.length_cons,List.length_nil,List.range'_succ,wpOpsIn,ho]
        dsimp only
        have hw:Region.wanted o (yielded all a.tmps)=true:=by simp [Region.wanted,hgd]
        rw [if_pos hw]
        refine ⟨fun f _=>zdf none f,?_⟩
        have hsem:(o.semAt (WF none).round a.eval).run P C.w = .ok (.defer d) C.w:=by
          show (Oper.semAt none a.eval o).run P C.w=_
          rw [show Oper.semAt none a.eval o=execOp a.eval o from rfl]
          exact hex o hop C.w
        rw [hsem,Oper.uponIn_defer]
        exact hQ g us d s3 C _ h3 hdo hS3 hsz3 (by rw [hd3,hd])
      · cases h
    · cases h
  | o::o2::r,n,hl,s,C,a,h,hS,hsz,hd=>by
    rw [zH3,show zbU (o2::r)=false from rfl,cond_false] at h
    have hlr:all.toList.drop (n+1)=o2::r:=by rw [← List.tail_drop,hl];rfl
    have ho:all[n]? = some o:=by
      have:(all.toList.drop n)[0]? = some o:=by rw [hl];rfl
      simpa using this
    rw [List.length_cons,List.range'_succ,wpOpsIn,ho]
    dsimp only
    cases hgd:o.guard with
    | none =>
      rw [hgd,Option.isNone_none,cond_true] at h
      have hw:Region.wanted o (yielded all a.tmps)=true:=by simp [Region.wanted,hgd]
      rw [if_pos hw]
      dsimp only at h
      refine Jl (yg ?_ (zDi hT hL _ o h hS))
      rintro u w' ⟨r',s'',C',hK,rfl,hS'',hv⟩
      rw [JA] at hK
      obtain ⟨s3,h3,hS3,hsz3,hd3⟩:=ZW hS'' hsz hv hK
      exact zwu hT hL out hQ (o2::r) (n+1) hlr h3 hS3 hsz3 (hd3.trans hd)
    | some g=>rw [hgd] at h;cases h
structure CD where
  run:(Ex→St→Ans)→(Nat→Nat→Ex→St→Ans)→St→Ans
def hasDefer:Code→Bool
  | .region _ ops _=>ops.toList.any fun o=>match o.op with | .defer _=>true | _=>false
  | .seq a b=>hasDefer a || hasDefer b
  | .block _ c=>hasDefer c
  | _=>false
noncomputable def zmI [BT] (T:Tab) (lo:Lo) (h:List (Nat×List Nat)) (nt rs:Nat):List (Nat×Nat)→Nat→Nat→Code→CD
  | _,out,_,.region _ ops draw=>cond draw ⟨fun _ _ _=>none⟩ ⟨fun _ K1 s=>(zH3 T lo out ops nt ops.toList).run (fun g n s=>K1 g n .norm s) s⟩
  | ex,out,b,.seq x y =>
    cond (hasDefer x)
      (cond (JZ y) ⟨fun K0 K1 s=>(zmI T lo h nt rs ex (wo nt rs ex y out) b x).run (zMK (fun s=>Wu (wo nt rs ex y out) s fun s=>(ZZ T lo h nt rs ex out b y).run K0 s) K0)
        (fun g n=>zMK (fun s=>Wu (wo nt rs ex y out) s fun s=>(ZZ T lo h nt rs ex out b y).run (K1 g n) s) (K1 g n)) s⟩ ⟨fun _ _ _=>none⟩)
      (cond (JZ x) ⟨fun K0 K1 s=>(ZZ T lo h nt rs ex (wo nt rs ex y out) b x).run (zMK (fun s=>Wu (wo nt rs ex y out) s fun s=>(zmI T lo h nt rs ex out b y).run K0 K1 s) K0) s⟩ ⟨fun _ _ _=>none⟩)
  | ex,out,_,.block id c=>⟨fun K0 K1 s=>(zmI T lo h nt rs ((id,out)::ex) out id c).run (zrs id K0) (fun g n=>zrs id (K1 g n)) s⟩
  | _,_,_,_=>⟨fun _ _ _=>none⟩
theorem z96 [BT] {F:Fr} {K:Ex→St→Ans} {stk:List (Array Value)} {nt:Nat} {res:AV×List Obj} {ds:List Deferred} {id:Nat} {e:Exit} {a:Act} {w:World} (h:wP F (zrs id K) stk nt res ds e a w) :
    (match e with
     | .exit i=>if i=id then wP F K stk nt res ds .normal a w else wP F K stk nt res ds (.exit i) a w
     | e=>wP F K stk nt res ds e a w):=by
  obtain ⟨e',s',C',rfl,hK,rfl,hS',hsz',hd'⟩:=h
  cases e' with
  | norm=>exact ⟨.norm,s',C',rfl,hK,rfl,hS',hsz',hd'⟩
  | exit i =>
    simp only [zrs] at hK
    show if i=id then _ else _
    by_cases hi:i=id
    · subst hi
      rw [if_pos rfl]
      rw [Nat.beq_refl] at hK
      exact ⟨.norm,s',C',rfl,hK,rfl,hS',hsz',hd'⟩
    · rw [if_neg hi]
      rw [zhi hi] at hK
      exact ⟨.exit i,s',C',rfl,hK,rfl,hS',hsz',hd'⟩
  | ret=>exact ⟨.ret,s',C',rfl,hK,rfl,hS',hsz',hd'⟩
  | goto l=>exact ⟨.goto l,s',C',rfl,hK,rfl,hS',hsz',hd'⟩
theorem ZaE [BT] (hm:P.follows .mixedOrders=true) (hT:zN P T) {lo:Lo} (hL:ZC P lo) {h:List (Nat×List Nat)} {nt rs:Nat} {y:Code} (hn:JZ y=true) {ex:List (Nat×Nat)} {out b m:Nat} {F:Fr} {K:Ex→St→Ans} {stk:List (Array Value)} {res:AV×List Obj} {ds:List Deferred} {e:Exit} {a:Act} {w:World}
    (hp:wP F (zMK (fun s=>Wu m s fun s=>(ZZ T lo h nt rs ex out b y).run K s) K) stk nt res ds e a w) :
    (match e with
     | .normal=>y.wpIn (WF none) 0 P (wP F K stk nt res ds) a w
     | e=>wP F K stk nt res ds e a w):=by
  obtain ⟨e',s',C',rfl,hK,rfl,hS',hsz',hd'⟩:=hp
  cases e' with
  | norm =>
    obtain ⟨s2,hS2,hK⟩:=wS hS' (show Wu _ s' _=some res from hK)
    exact zqL hm hT hL h nt rs y hn _ _ _ hK hS2 hsz' hd'
  | exit i=>exact ⟨.exit i,s',C',rfl,hK,rfl,hS',hsz',hd'⟩
  | ret=>exact ⟨.ret,s',C',rfl,hK,rfl,hS',hsz',hd'⟩
  | goto l=>exact ⟨.goto l,s',C',rfl,hK,rfl,hS',hsz',hd'⟩
theorem zUB [BT] (hm:P.follows .mixedOrders=true) (hT:zN P T) {lo:Lo} (hL:ZC P lo) (h:List (Nat×List Nat)) (nt rs:Nat) : ∀(c:Code) (ex:List (Nat×Nat)) (out b:Nat) {F:Fr} {K0:Ex→St→Ans} {K1:Nat→Nat→Ex→St→Ans} {s:St} {C:Cx} {a:Act} {stk:List (Array Value)} {res:AV×List Obj},
    (zmI T lo h nt rs ex out b c).run K0 K1 s=some res→zB F C s a.tmps stk→nt≤a.tmps.size→a.defers=[]→c.wpIn (WF none) 0 P (z7M P F K0 K1 stk nt res) a C.w:=by
  intro c
  induction c with
  | region id ops draw =>
    intro ex out b F K0 K1 s C a stk res hG hS hsz hd
    rw [zmI] at hG
    cases draw with
    | true=>cases hG
    | false =>
      simp only [cond_false] at hG
      refine wpIn_region ?_
      have:=zwu hT hL _ (Q:=z7M P F K0 K1 stk nt res) (all:=ops) (fun g us d s C a hK hdo hS hsz hd => .inr ⟨g,us,d,hdo,.norm,s,C,rfl,hK,rfl,hS,hsz,hd⟩) ops.toList 0 (by simp) hG hS hsz hd
      rw [List.range_eq_range']
      simpa using this
  | seq x y ihx ihy =>
    intro ex out b F K0 K1 s C a stk res hG hS hsz hd
    rw [zmI] at hG
    cases hx:hasDefer x with
    | true =>
      rw [hx,cond_true] at hG
      cases hn:JZ y with
      | false=>rw [hn] at hG;cases hG
      | true =>
        rw [hn,cond_true] at hG
        refine wpIn_seq (wpIn_mono (ihx _ _ _ hG hS hsz hd) ?_)
        intro e a' w' hp
        rcases hp with hp | ⟨g,us,d,hdo,hp⟩
        · have:=ZaE hm hT hL hn hp
          cases e with
          | normal=>exact wpIn_mono this fun _ _ _ h => .inl h
          | _=>exact .inl this
        · have:=ZaE hm hT hL hn hp
          cases e with
          | normal=>exact wpIn_mono this fun _ _ _ h => .inr ⟨g,us,d,hdo,h⟩
          | _=>exact .inr ⟨g,us,d,hdo,this⟩
    | false =>
      rw [hx,cond_false] at hG
      cases hn:JZ x with
      | false=>rw [hn] at hG;cases hG
      | true =>
        rw [hn,cond_true] at hG
        refine wpIn_seq (wpIn_mono (zqL hm hT hL h nt rs x hn _ _ _ hG hS hsz hd) ?_)
        rintro e a' w' ⟨e',s',C',rfl,hK,rfl,hS',hsz',hd'⟩
        cases e' with
        | norm =>
          obtain ⟨s2,hS2,hK⟩:=wS hS' (show Wu _ s' _=some res from hK)
          exact ihy _ _ _ hK hS2 hsz' hd'
        | exit i=>exact .inl ⟨.exit i,s',C',rfl,hK,rfl,hS',hsz',hd'⟩
        | ret=>exact .inl ⟨.ret,s',C',rfl,hK,rfl,hS',hsz',hd'⟩
        | goto l=>exact .inl ⟨.goto l,s',C',rfl,hK,rfl,hS',hsz',hd'⟩
  | block id c ih =>
    intro ex out b F K0 K1 s C a stk res hG hS hsz hd
    rw [zmI] at hG
    refine wpIn_block (wpIn_mono (ih _ _ id hG hS hsz hd) ?_)
    intro e a' w' hp
    rcases hp with hp | ⟨g,us,d,hdo,hp⟩
    · have:=z96 hp
      cases e with
      | exit i =>
        show if i=id then _ else _
        dsimp only at this
        by_cases hi:i=id
        · rw [if_pos hi] at this ⊢;exact .inl this
        · rw [if_neg hi] at this ⊢;exact .inl this
      | _=>exact .inl this
    · have:=z96 hp
      cases e with
      | exit i =>
        show if i=id then _ else _
        dsimp only at this
        by_cases hi:i=id
        · rw [if_pos hi] at this ⊢;exact .inr ⟨g,us,d,hdo,this⟩
        · rw [if_neg hi] at this ⊢;exact .inr ⟨g,us,d,hdo,this⟩
      | _=>exact .inr ⟨g,us,d,hdo,this⟩
  | _=>intro ex out b F K0 K1 s C a stk res hG hS hsz hd;cases hG
noncomputable def zn9 (env:zT):Nat→Nat→List AV
  | 0,_=>[]
  | n+1,i=>zfV env i::zn9 env n (i+1)
theorem zDg {C:Cx} {env:zT} {us:Array Value} (he:Zq C env us) : ∀(n i:Nat),i+n=us.size→VRels C (zn9 env n i) (us.toList.drop i)
  | 0,i,h=>by
    rw [zn9,List.drop_eq_nil_of_le (by simp;omega),VRels]
  | n+1,i,h=>by
    have hi:i<us.toList.length:=by simp;omega
    rw [zn9,List.drop_eq_getElem_cons hi,VRels]
    refine ⟨_,_,rfl,?_,zDg he n (i+1) (by omega)⟩
    rw [zbM]
    have:=he i
    have e:us.getD i undef=us.toList[i]:=by
      rw [Array.getD_eq_getD_getElem?,Array.getElem?_eq_getElem (by simpa using hi)];simp
    rw [e] at this
    exact this
noncomputable def zWV (T:Tab) (lo:Lo) (H0:List Obj) (res:List ResultVar) (K:AV→List Obj→Ans) (g n:Nat) (e:Ex) (s:St):Ans :=
  match e with
  | .norm | .ret => @St.casesOn (fun _=>Ans) s fun env stk H blk=>match stk with
    | envd::stk=>(match lo.ca g with
      | some cf=>Ji T (zdE res) cf (zn9 envd n 0) ⟨env,stk,H,blk⟩ fun _ s=>zLb T H0 res K .norm s
      | none=>none)
    | []=>none
  | _=>none
noncomputable def zfC [BT] (T:Tab) (lo:Lo) (i:ZN) (f:Func) (l:List AV) (H:List Obj) (K:AV→List Obj→Ans):Ans :=
  (zmI T lo i.hints f.ntmps (zdE f.results.toList) [] (zdE f.results.toList) 0 (f.body.getD .skip)).run (zLb T H f.results.toList K) (zWV T lo H f.results.toList K) { env:=ZL 0 l,stk:=[yd 0 H],H:=H,blk:=0 }
theorem zQd [BT] (hm:P.follows .mixedOrders=true) (hT:zN P T) {lo:Lo} (hL:ZC P lo) {i:ZN} {fn:Func} (hf:P.funcs[i.g]? = some fn) (hb:fn.body.isSome=true) (hn:fn.name ≠ "runtime.NumGoroutine") :
    zO P i.g (zfC T lo i fn):=by
  refine ⟨⟨fn,hf,hb,hn⟩,fun C args us K res F hh hF hargs h => ?_⟩
  have hb':=zC hb
  unfold zfC at h
  generalize hcd:fn.body.getD .skip=c at h hb'
  obtain ⟨F1,hF1⟩ : ∃F1:Fr,F1={ F.re C with base:=C.w.heap.size }:=⟨_,rfl⟩
  have hF1C:zK F1 C:=by rw [hF1];exact ⟨rfl,rfl,rfl,Nat.le_refl _,fun _ _ _=>rfl,fun _ h=>h,fun _ h => .inl h,fun i b hl hb => .inl ⟨i,hl,hb⟩⟩
  have hback : ∀C',zK F1 C'→zK F C':=fun C' h=>(zcP hF).frame C' (by rw [hF1] at h;exact ⟨h.os,h.tape,h.output,h.size,h.keep,h.r0,h.rN,h.own⟩)
  have hS:zB F1 C { env:=ZL 0 args,stk:=[yd 0 C.H],H:=C.H,blk:=0 } (us++Array.replicate (fn.ntmps - us.size) undef) [YB C] :=
    ⟨rfl,hh,Jq hargs _,by rw [ZG];exact ⟨_,[],rfl,zj3 hh,by rw [ZG]⟩,hF1C⟩
  have fin : ∀{s':St} {C':Cx} {tmps:Array Value},zB F1 C' s' tmps [YB C]→(match s'.stk with
      | [env]=>cond (yb env 0 C.H) (Zv T s' fn.results.toList [] fun vs=>ziN C.H.length (y2 vs) s'.H K) none
      | _=>none)=some res →
      ∃v,(results fn tmps).run P C'.w = .ok v C'.w ∧ ∃r C'',K r C''.H=some res∧C''.w=C'.w∧zY C''∧zK F C''∧VRel C'' r v∧(∀j b,(zp C.H j).isBlk=true→C.ρ j=some b→C''.ρ j=some b∧zA C''.H j):=by
    intro s' C' tmps hS0 hr
    have hS':zB F C' s' tmps [YB C]:=⟨hS0.H,hS0.heap,hS0.env,hS0.stk,hback _ hS0.frame⟩
    split at hr
    · rename_i env hst
      replace hr:=zI hr;obtain ⟨hro,hr⟩:=hr
      obtain ⟨rs,v,h1,h2,h3⟩:=YP hT hS' hr
      rw [← hS'.H] at h1
      obtain ⟨r',C'',hw'',hh'',hF'',hv'',hK'',hkeep⟩:=zfS hS'.heap hS'.frame h3 h1
      refine ⟨v,h2,r',C'',hK'',hw'',hh'',hF'',hv'',?_⟩
      intro j b hg hbj
      have hl:zA C.H j:=Wn hg
      have hlt:=Z7 hl
      have hst':=hS'.stk
      rw [hst,ZG] at hst'
      obtain ⟨v',vs',he,henv,_⟩:=hst'
      cases he
      have hv:=henv j
      have hroot:=zbj C.H 0 hro j hg
      rw [Nat.zero_add] at hroot
      rw [hroot,zaN hlt hbj] at hv
      obtain ⟨hb',hlv⟩:=zfR hv
      exact hkeep j hlt b hb' hlv
    · cases hr
  obtain ⟨R,hR⟩ : ∃R:Ending→World→Prop,R=fun e w'=>match e with
      | .returned v => ∃r C',K r C'.H=some res∧C'.w=w'∧zY C'∧zK F C'∧VRel C' r v∧(∀j b,(zp C.H j).isBlk=true→C.ρ j=some b→C'.ρ j=some b∧zA C'.H j)
      | _=>False:=⟨_,rfl⟩
  have hgoal:Calls P i.g us C.w R→Calls P i.g us C.w fun
      | .returned v,w' => ∃r C',K r C'.H=some res∧C'.w=w'∧zY C'∧zK F C'∧VRel C' r v∧(∀j b,(zp C.H j).isBlk=true→C.ρ j=some b→C'.ρ j=some b∧zA C'.H j)
      | _,_=>False:=by
    intro h
    refine h.mono ?_
    intro e w' he
    rw [hR] at he
    cases e <;> exact he
  refine hgoal ?_
  refine (callsIn_wide (n:=0)).1 (callsIn_of_wp_marks hf hb' trivial (wpIn_mono (zUB hm hT hL i.hints fn.ntmps (zdE fn.results.toList) c [] (zdE fn.results.toList) 0 (a:={ tmps:=us++Array.replicate (fn.ntmps - us.size) undef,defers:=[] }) h hS (by simp;omega) rfl) ?_))
  intro e a' w' hp
  rcases hp with ⟨e',s',C',rfl,hK,rfl,hS',hsz',hd'⟩ | ⟨g,us',d,⟨⟨fv,cap,htar⟩,hinv⟩,e',s',C',rfl,hK,rfl,hS',hsz',hd'⟩
  · have go:(match s'.stk with
      | [env]=>cond (yb env 0 C.H) (Zv T s' fn.results.toList [] fun vs=>ziN C.H.length (y2 vs) s'.H K) none
      | _=>none)=some res→LeavesInM (WF none) 0 P fn a'.tmps R a'.defers .returning C'.w:=by
      intro hK
      rw [hd']
      obtain ⟨v,h1,h2⟩:=fin hS' hK
      exact ⟨v,h1,by rw [hR];exact h2⟩
    cases e' with
    | norm=>exact go hK
    | ret=>exact go hK
    | exit i=>cases hK
    | goto l=>cases hK
  · have go : ∀{K':Ex→St→Ans},K'=zWV T lo C.H fn.results.toList K g us'.size→K' .norm s'=some res→LeavesInM (WF none) 0 P fn a'.tmps R a'.defers .returning C'.w:=by
      intro K' eK hK
      rw [eK] at hK
      rw [hd']
      obtain ⟨env,stk,H,blk⟩:=s'
      simp only [zWV] at hK
      split at hK
      · rename_i envd stk2 _h0
        split at hK
        · rename_i cf hcf
          have hst:=hS'.stk
          rw [ZG] at hst
          obtain ⟨v',vs',he,henv,hst⟩:=hst
          cases he
          have hS2:zB F1 C' ⟨env,stk2,H,blk⟩ a'.tmps [YB C]:=⟨hS'.H,hS'.heap,hS'.env,hst,hS'.frame⟩
          have hargs':VRels C' (zn9 envd us'.size 0) us'.toList:=by
            have:=zDg henv us'.size 0 (by omega)
            simpa using this
          obtain ⟨hcall,hD⟩:=zym hT hL hcf hS2 hargs' hK (u := .returning)
          refine ⟨by simp,.inr ⟨fun h=>zq7 _ _ h,fv,cap,g,us',htar,(hinv _).trans (hcall _),fun f _=>zdf none f,zDE hD ?_⟩⟩
          rintro e u' w' ⟨rfl,v,rfl,r,s'',C'',hK2,rfl,hS3,_⟩
          obtain ⟨v2,h1,h2⟩:=fin hS3 hK2
          exact ⟨v2,h1,by rw [hR];exact h2⟩
        · cases hK
      · cases hK
    cases e' with
    | norm=>exact go rfl hK
    | ret=>exact go rfl (show zWV T lo C.H fn.results.toList K g us'.size .norm s'=some res from hK)
    | exit i=>cases hK
    | goto l=>cases hK
noncomputable def zKD [BT] (P:Program) (T:Tab) (lo:Lo):List ZN→Env→Env
  | [],b=>b
  | i::r,b=>match P.funcs[i.g]? with
    | some f=>(i.g,.func (zfC T lo i f))::zKD P T lo r b
    | none=>zKD P T lo r b
noncomputable def loD [BT] (P:Program) (T:Tab) (base:Env) (L D:List ZN):Nat→Lo
  | 0=>⟨base,fun _=>none⟩
  | d+1=>⟨zKD P T (loD P T base L D d) D (z3W P T (loD P T base L D d) L base),caQ P T (loD P T base L D d) L⟩
theorem zSh [BT] (hm:P.follows .mixedOrders=true) (hT:zN P T) {lo:Lo} (hL:ZC P lo) {base:Env} (hB:zf P base) : ∀{L:List ZN},L.all (ZN.ok P)=true→zf P (zKD P T lo L base)
  | [],_=>hB
  | i::r,h=>by
    rw [List.all_cons,Bool.and_eq_true] at h
    have hi:=h.1
    unfold ZN.ok at hi
    rw [zKD]
    cases hf:P.funcs[i.g]? with
    | none=>rw [hf] at hi;cases hi
    | some f =>
      rw [hf] at hi
      simp only [Bool.and_eq_true,decide_eq_true_eq] at hi
      dsimp only
      exact zf.cons (zQd hm hT hL hf hi.1 hi.2) (zSh hm hT hL hB h.2)
theorem yc [BT] (hm:P.follows .mixedOrders=true) (hT:zN P T) {base:Env} (hB:zf P base) {L D:List ZN} (hL:L.all (ZN.ok P)=true) (hD:D.all (ZN.ok P)=true) : ∀d,ZC P (loD P T base L D d)
  | 0=>⟨hB,fun g cf e=>by cases e⟩
  | d+1=>⟨zSh hm hT (yc hm hT hB hL hD d) (zRP hm hT (yc hm hT hB hL hD d) hB hL) hD,zYA hm hT (yc hm hT hB hL hD d) hL⟩
#print axioms yc
end Go.AE
namespace Go.AE
variable {P:Program}
def orF (F G:List AV→List Obj→(AV→List Obj→Ans)→Ans):List AV→List Obj→(AV→List Obj→Ans)→Ans:=fun l H K=>match F l H K with
  | some r=>some r
  | none=>G l H K
theorem zQ [BT] {g:Nat} {F G:List AV→List Obj→(AV→List Obj→Ans)→Ans} (hF:zO P g F) (hG:zO P g G):zO P g (orF F G):=by
  refine ⟨hF.1,?_⟩
  intro C args us K res Fr h1 h2 hv h3
  unfold orF at h3
  split at h3
  · rename_i r hr
    cases h3
    exact hF.2 C args us K res Fr h1 h2 hv hr
  · exact hG.2 C args us K res Fr h1 h2 hv h3
end Go.AE
namespace Go.AE
variable {P:Program} {T:Tab}
noncomputable def yI (l0:List AV) (H0:List Obj) (v:AV) (H1:List Obj):List AV→List Obj→(AV→List Obj→Ans)→Ans:=fun l H K=>cond (zim l l0) (cond (lEq zu8 H H0) (K v H1) none) none
theorem z6M {l0 l:List AV} {H0 H:List Obj} {v:AV} {H1:List Obj} {K:AV→List Obj→Ans} {res:AV×List Obj} (h:yI l0 H0 v H1 l H K=some res):l=l0∧H=H0∧K v H1=some res:=by
  unfold yI at h
  obtain ⟨h1,h⟩:=zI h
  obtain ⟨h2,h⟩:=zI h
  exact ⟨zby _ _ h1,zd7 zHQ h2,h⟩
theorem zO.told [BT] {g:Nat} {F:List AV→List Obj→(AV→List Obj→Ans)→Ans} (hC:zO P g F) {l0:List AV} {H0 H1:List Obj} {v:AV} (hr:F l0 H0 (fun v H=>some (v,H))=some (v,H1)):zO P g (yI l0 H0 v H1):=by
  refine ⟨hC.1,fun C args us K res Fr hh hF' hargs hFf => ?_⟩
  obtain ⟨rfl,hH,hK⟩:=z6M hFf
  refine (hC.2 C args us (fun v H=>some (v,H)) (v,H1) Fr hh hF' hargs (by rw [hH];exact hr)).mono ?_
  intro e w' hw
  cases e with
  | returned u =>
    obtain ⟨r,C',h1,h2⟩:=hw
    cases h1
    exact ⟨_,C',hK,h2⟩
  | panicked ch=>exact hw.elim
  | outgrown=>exact hw.elim
theorem wG [BT] (hm:P.follows .mixedOrders=true) (hT:zN P T) {lo:Lo} (hL:ZC P lo) {i:ZN} {f:Func} (hf:P.funcs[i.g]? = some f) (hb:f.body.isSome=true) (hn:f.name ≠ "runtime.NumGoroutine") {l0:List AV} {H0 H1:List Obj} {v:AV}
    (hr:YL T lo i f l0 H0 (fun v H=>some (v,H))=some (v,H1)):zO P i.g (yI l0 H0 v H1):=(zpp hm hT hL hf hb hn).told hr
theorem zbu [BT] (hm:P.follows .mixedOrders=true) (hT:zN P T) {lo:Lo} (hL:ZC P lo) {i:ZN} {f:Func} (hf:P.funcs[i.g]? = some f) (hb:f.body.isSome=true) (hn:f.name ≠ "runtime.NumGoroutine") {l0:List AV} {H0 H1:List Obj} {v:AV}
    (hr:zfC T lo i f l0 H0 (fun v H=>some (v,H))=some (v,H1)):zO P i.g (yI l0 H0 v H1):=(zQd hm hT hL hf hb hn).told hr
theorem z8F [BT] (hm:P.follows .mixedOrders=true) (hT:zN P T) {lo:Lo} (hL:ZC P lo) {i:ZN} {f:Func} (hf:P.funcs[i.g]? = some f) (hb:f.body.isSome=true) (hn:f.name ≠ "runtime.NumGoroutine") {v:AV} (hv:v.closed1=true)
    {F:List AV→(AV→Ans)→Ans} (hF : ∀l K res,F l K=some res→l=[]∧K v=some res) (hr:YL T lo i f [] [] (fun v _=>some (v,[]))=some (v,[])):zM P i.g F:=by
  have hC:=zr7 hm hT hL hf hb hn
  refine ⟨hC.1,fun C args us K res hh hH hargs hFf=>hC.2 C args us K res hh hH hargs ?_⟩
  obtain ⟨rfl,hK⟩:=hF _ _ _ hFf
  unfold zv3
  rw [hr]
  simp only [zbU,hv,Bool.and_self,cond_true,zaR]
  exact hK
end Go.AE
