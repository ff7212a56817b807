/- The abstract evaluator AE, proved: part 2. -/
import Derived.Test.YthfoooplgceaoaaGreatDoorAe1
import Derived.Laws.BytesString
import Derived.MapKept
import Derived.Orders
import Derived.OrdersIn
import Derived.RangeFuncCalls
import Derived.StillTail
import Derived.RangeFuncNested
set_option linter.unusedVariables false
set_option linter.unusedSimpArgs false
namespace Go.AE
variable {P:Program} {T:Tab}
theorem zb4 {C:Cx} {o:Obj} {r:Option Nat} {w':World} {bo:Option (_root_.Go.Obj)} (hw:World.Pushed C.w w' bo) (hr:r=none∨r=some C.w.heap.size):Z0 C (C.push o r w'):=by
  intro b hb
  refine ⟨hw.old hb,Nat.lt_of_lt_of_le hb hw.size,fun i hl hi => ?_⟩
  have hi:(if i=C.H.length then r else C.ρ i)=some b:=hi
  by_cases e:i=C.H.length
  · rw [if_pos e] at hi
    rcases hr with hr | hr
    · rw [hr] at hi;cases hi
    · rw [hr] at hi
      have:C.w.heap.size=b:=by simpa using hi
      omega
  · rw [if_neg e] at hi
    refine ⟨?_,hi⟩
    have hlt:i<(C.H++[o]).length:=Z7 hl
    rw [List.length_append,List.length_singleton] at hlt
    unfold zA at hl ⊢
    have hg:zp (C.H++[o]) i=zp C.H i:=by
      rw [ZJ,ZJ,List.getElem?_append_left (by omega)]
    intro hd
    exact hl (hg.trans hd)
structure qN (C C':Cx):Prop where
  foot:Z0 C C'
  ref : ∀a v,a.isRef=true→VRel C a v→VRel C' a v
  R : ∀b,C.R b→C'.R b∧C'.w.heap[b]? = C.w.heap[b]?
theorem qN.val {C C':Cx} (h:qN C C') {a:AV} {v:Value} (hv:VRel C a v):VRel C' a v:=VRel.mono h.ref h.R hv
theorem qN.vals {C C':Cx} (h:qN C C') {a:List AV} {v:List Value} (hv:VRels C a v):VRels C' a v:=VRels.mono h.ref h.R hv
theorem qN.refl (C:Cx):qN C C:=⟨Z0.refl C,fun _ _ _ h=>h,fun _ h=>⟨h,rfl⟩⟩
theorem qN.trans {A B C:Cx} (h:qN A B) (k:qN B C):qN A C :=
  ⟨h.foot.trans k.foot,fun a v ha hv=>k.ref a v ha (h.ref a v ha hv),fun b hb=>⟨(k.R b (h.R b hb).1).1,(k.R b (h.R b hb).1).2.trans (h.R b hb).2⟩⟩
theorem qN.data {C C':Cx} (h:qN C C') {t:Ty} {x:t.T} {vs:List Value} (hd:zJ C.R C.w t x vs):zJ C'.R C'.w t x vs:=zJ.mono h.R hd
def qv [BT] (F:Fr) (C:Cx) (s:St) (tmps:Array Value) (stk:List (Array Value)) (s':St) (C':Cx):Prop :=
  zB F C' s' tmps stk∧qN C C'∧s'.env=s.env∧s'.stk=s.stk∧s'.blk=s.blk
theorem qv.refl [BT] {F:Fr} {C:Cx} {s:St} {tmps:Array Value} {stk:List (Array Value)} (h:zB F C s tmps stk):qv F C s tmps stk s C:=⟨h,qN.refl C,rfl,rfl,rfl⟩
theorem qv.trans [BT] {F:Fr} {C C' C'':Cx} {s s' s'':St} {tmps:Array Value} {stk:List (Array Value)} (h:qv F C s tmps stk s' C') (k:qv F C' s' tmps stk s'' C''):qv F C s tmps stk s'' C'' :=
  ⟨k.1,h.2.1.trans k.2.1,k.2.2.1.trans h.2.2.1,k.2.2.2.1.trans h.2.2.2.1,k.2.2.2.2.trans h.2.2.2.2⟩
section
variable {F:Fr} {C:Cx} {s:St} {tmps:Array Value} {stk:List (Array Value)}
theorem zLW [BT] (hS:zB F C s tmps stk) (ty:Ty) : ∃C',qv F C s tmps stk { s with H:=s.H++[.arr ty []] } C'∧C'.w=C.w∧VRel C' (.own s.H.length) (.slice none 0 0):=by
  have hw:World.Pushed C.w C.w none:=⟨rfl,rfl,rfl,rfl⟩
  have:=J6 (o := .arr ty []) (r:=none) hS hw (.inl rfl) (fun _=>rfl) (.inl ⟨rfl,rfl⟩)
  refine ⟨_,⟨this,⟨zb4 hw (.inl rfl),zeF hS.heap hw,zlA hS.heap hw⟩,rfl,rfl,rfl⟩,rfl,?_⟩
  rw [VRel]
  refine ⟨ty,[],?_,.inl ⟨?_,rfl,rfl⟩⟩
  · show zp (C.H++[_]) s.H.length=_
    rw [← hS.H,Yv]
  · simp [Cx.push,hS.H]
theorem zi4 [BT] (hS:zB F C s tmps stk) {cs:List AV} {c:Array Value} (e:TypeId) (fr:Nat×Nat) (hfr:qX fr c.size) (hv:VRels C cs c.toList) (h1 : ∀u ∈ c.toList,u.oneCell'=true) {w':World} (hw:World.Pushed C.w w' (some (.cells c e fr))) :
    ∃C',qv F C s tmps stk { s with H:=s.H++[.cells cs] } C'∧C'.w=w'∧C'.ρ s.H.length=some C.w.heap.size∧zp C'.H s.H.length = .cells cs:=by
  have hg:qN C (C.push (.cells cs) (some C.w.heap.size) w'):=⟨zb4 hw (.inr rfl),zeF hS.heap hw,zlA hS.heap hw⟩
  have:=J6 (o := .cells cs) (r:=some C.w.heap.size) hS hw (.inr rfl) (fun h=>by cases h) ⟨C.w.heap.size,c,e,fr,rfl,hw.new,hfr,hg.vals hv,h1⟩
  refine ⟨_,⟨this,hg,rfl,rfl,rfl⟩,rfl,?_,?_⟩
  · simp [Cx.push,hS.H]
  · show zp (C.H++[_]) s.H.length=_
    rw [← hS.H,Yv]
theorem zNK [BT] (hS:zB F C s tmps stk) {cs:List AV} {c:Array Value} {v0:Value} {vs:List Value} (hc:c.toList=v0::vs) (hv:VRels C cs vs) (h1 : ∀u ∈ c.toList,u.oneCell'=true) (h0:v0 = .pointer none) {w':World} (hw:World.Pushed C.w w' (some (.cells c BT.bld (0,0)))) :
    ∃C',qv F C s tmps stk { s with H:=s.H++[.bcells cs] } C'∧C'.w=w'∧C'.ρ s.H.length=some C.w.heap.size∧zp C'.H s.H.length = .bcells cs:=by
  have hg:qN C (C.push (.bcells cs) (some C.w.heap.size) w'):=⟨zb4 hw (.inr rfl),zeF hS.heap hw,zlA hS.heap hw⟩
  have:=J6 (o := .bcells cs) (r:=some C.w.heap.size) hS hw (.inr rfl) (fun h=>by cases h) ⟨C.w.heap.size,c,v0,rfl,hw.new,⟨vs,hc,hg.vals hv⟩,h1,.inl h0⟩
  refine ⟨_,⟨this,hg,rfl,rfl,rfl⟩,rfl,?_,?_⟩
  · simp [Cx.push,hS.H]
  · show zp (C.H++[_]) s.H.length=_
    rw [← hS.H,Yv]
theorem Ty.isU8_false {t:Ty} (h:t.isU8=false):t ≠ .int .u8:=fun e=>by subst e;cases h
theorem zia [BT] (hS:zB F C s tmps stk) {t:Ty} {l:List t.T} {c:Array Value} (e:TypeId) (fr:Nat×Nat) (hfr:qX fr c.size) (hl:l.length*t.size≤c.size)
    (hel : ∀k x,l[k]? = some x → ∃us,zJ C.R C.w t x us ∧ ∀j u,us[j]? = some u→c[k*t.size+j]? = some u) (hby:t = .int .u8→e=BT.byte) {w':World} (hw:World.Pushed C.w w' (some (.cells c e fr))) :
    ∃C',qv F C s tmps stk { s with H:=s.H++[.arr t l] } C'∧C'.w=w'∧C'.ρ s.H.length=some C.w.heap.size∧zp C'.H s.H.length = .arr t l:=by
  have hg:qN C (C.push (.arr t l) (some C.w.heap.size) w'):=⟨zb4 hw (.inr rfl),zeF hS.heap hw,zlA hS.heap hw⟩
  have:=J6 (o := .arr t l) (r:=some C.w.heap.size) hS hw (.inr rfl) (fun h=>by cases h) (.inr ⟨C.w.heap.size,c,e,fr,rfl,hw.new,hfr,hl,fun k x hk=>by
    obtain ⟨us,hd,hu⟩:=hel k x hk
    exact ⟨us,hg.data hd,hu⟩,hby⟩)
  refine ⟨_,⟨this,hg,rfl,rfl,rfl⟩,rfl,?_,?_⟩
  · simp [Cx.push,hS.H]
  · show zp (C.H++[_]) s.H.length=_
    rw [← hS.H,Yv]
theorem zCe {C':Cx} {i b:Nat} {t:Ty} {l:List t.T} {c:Array Value} {e:TypeId} {fr:Nat×Nat} {cap:Nat} (hg:zp C'.H i = .arr t l) (hb:C'.ρ i=some b) (hw:C'.w.heap[b]? = some (.cells c e fr)) (hl:l.length≤cap) (hc:cap*t.size≤c.size) :
    VRel C' (.own i) (.slice (some ⟨b,0,none⟩) l.length cap):=by
  rw [VRel]
  exact ⟨t,l,hg,.inr ⟨b,c,cap,hb,blkOf_cells hw,hl,hc,rfl⟩⟩
theorem Yy [BT] (hS:zB F C s tmps stk) {t:Nat} {v:AV} {u:Value} (hv:VRel C v u) {K:KV} {res:AV×List Obj} (h:yk T t v s K=some res) :
    ∃r s' C',K r s'=some res∧qv F C s tmps stk s' C'∧C'.w=C.w∧VRel C' r u:=by
  unfold yk at h
  split at h
  · rename_i ty hty
    rw [Y5] at h
    have:v = .nils:=by
      unfold ziv at hty
      split at hty
      · rfl
      · cases hty
    subst this
    rw [VRel] at hv
    subst hv
    obtain ⟨C',h1,h2,h3⟩:=zLW hS ty
    exact ⟨_,_,C',h,h1,h2,h3⟩
  · exact ⟨_,_,C,h,qv.refl hS,rfl,hv⟩
theorem zas [BT] : ∀{fs:List (Nat×Nat)} {cs:List AV} {us:List Value} {C:Cx} {s:St} {K:List AV→St→Ans} {res:AV×List Obj},zB F C s tmps stk→VRels C cs us→zcC T fs cs s K=some res →
    ∃r s' C',K r s'=some res∧qv F C s tmps stk s' C'∧C'.w=C.w∧VRels C' r us
  | [],cs,us,C,s,K,res,hS,hv,h=>⟨_,_,C,h,qv.refl hS,rfl,hv⟩
  | (t,off)::r,cs,us,C,s,K,res,hS,hv,h=>by
    rw [zcC] at h
    split at h
    · rename_i rest hd
      obtain ⟨v,s',C',h',hst,hw,hvv⟩:=Yy hS (u := .slice none 0 0) (by rw [VRel]) h
      split at h'
      · rename_i cs' hcs
        have hput:=qS (us:=[.slice none 0 0]) hcs (hst.2.1.vals hv) (by rw [VRels];exact ⟨_,[],rfl,hvv,by rw [VRels]⟩)
        -- the very same values
        have hcell:us[off]? = some (.slice none 0 0):=by
          have hdv:=hv.drop off
          rw [hd] at hdv
          rw [VRels] at hdv
          obtain ⟨v0,vs0,he,h0,_⟩:=hdv
          rw [VRel] at h0
          have:(us.drop off)[0]? = some v0:=by rw [he];rfl
          rw [List.getElem?_drop] at this
          rw [← h0]
          simpa using this
        have hsame:us.take off++[Value.slice none 0 0]++us.drop (off+1)=us:=by
          have hlt:=(List.getElem?_eq_some_iff.1 hcell).1
          have he:us[off] = .slice none 0 0:=(List.getElem?_eq_some_iff.1 hcell).2
          rw [← he]
          simp
        have hv':VRels C' cs' us:=by
          have:=hput.1
          simp only [List.length_singleton] at this
          rwa [hsame] at this
        obtain ⟨r',s'',C'',hK,hst',hw',hvr⟩:=zas hst.1 hv' h'
        exact ⟨r',s'',C'',hK,hst.trans hst',hw'.trans hw,hvr⟩
      · cases h'
    · exact zas hS hv h
theorem zfq [BT] (hT:zN P T) (hS:zB F C s tmps stk) {t:Nat} {K:List AV→St→Ans} {res:AV×List Obj} (h:zeroCells T t s K=some res) :
    ∃r s' C' z,K r s'=some res∧qv F C s tmps stk s' C'∧C'.w=C.w∧(∀w,(zeroValue t).run P w = .ok z w)∧VRels C' r z.cells.toList∧(∀u ∈ z.cells.toList,u.oneCell'=true):=by
  unfold zeroCells at h
  replace h:=zr h;obtain ⟨i,hti,h⟩:=h
  obtain ⟨d,info,z,hi⟩:=hT t i hti
  have hz:VRels C i.zero z.cells.toList:=by rw [hi.cells];exact zbz _ hi.isz
  have hz1 : ∀u ∈ z.cells.toList,u.oneCell'=true:=by rw [hi.cells];exact zrd _ hi.isz
  split at h
  · obtain ⟨r,s',C',h1,h2,h3,h4⟩:=zas hS hz h
    exact ⟨r,s',C',z,h1,h2,h3,fun w=>hi.run_zero w,h4,hz1⟩
  · split at h
    · rename_i v hzv
      rw [hzv] at hz
      rw [VRels] at hz
      obtain ⟨u,us,he,hu,hr⟩:=hz
      rw [VRels] at hr
      subst hr
      obtain ⟨r,s',C',h1,h2,h3,h4⟩:=Yy hS hu h
      exact ⟨[r],s',C',z,h1,h2,h3,fun w=>hi.run_zero w,by rw [he,VRels];exact ⟨u,[],rfl,h4,by rw [VRels]⟩,hz1⟩
    · cases h
  · exact ⟨_,_,C,z,h,qv.refl hS,rfl,fun w=>hi.run_zero w,hz,hz1⟩
theorem zcY {C:Cx} {t:Ty} : ∀{n:Nat} {cs:List AV} {l:List t.T} {vs:List Value},j8 t n cs=some l→VRels C cs vs →
    l.length=n∧vs.length=n*t.size ∧ ∀k x,l[k]? = some x → ∃us,zJ C.R C.w t x us ∧ ∀j u,us[j]? = some u→vs[k*t.size+j]? = some u
  | 0,[],l,vs,h,hv=>by
    rw [j8] at h;cases h
    rw [VRels] at hv;subst hv
    exact ⟨rfl,by simp,by simp⟩
  | 0,_::_,l,vs,h,hv=>by rw [j8] at h;cases h
  | n+1,cs,l,vs,h,hv=>by
    rw [j8] at h
    split at h
    · rename_i x r hx
      split at h
      · rename_i l' hl'
        cases h
        obtain ⟨us,ws,rfl,hd,hr⟩:=zhz hx hv
        obtain ⟨h1,h2,h3⟩:=zcY hl' hr
        have hul:=hd.length
        refine ⟨by simp [h1],by rw [List.length_append,hul,h2,Nat.add_mul];omega,fun k y hk => ?_⟩
        cases k with
        | zero =>
          simp at hk;subst hk
          refine ⟨us,hd,fun j u hj => ?_⟩
          have:=(List.getElem?_eq_some_iff.1 hj).1
          rw [Nat.zero_mul,Nat.zero_add,List.getElem?_append_left this]
          exact hj
        | succ k =>
          obtain ⟨us',hd',hu'⟩:=h3 k y (by simpa using hk)
          refine ⟨us',hd',fun j u hj => ?_⟩
          rw [List.getElem?_append_right (by rw [hul,Nat.add_mul];omega),hul,← hu' j u hj]
          congr 1
          rw [Nat.add_mul]
          omega
      · cases h
    · cases h
theorem qD (n:Nat):qX (0,0) n:=fun x _ h=>by omega
theorem Yn (w:World) (o:_root_.Go.Obj):World.Pushed w { w with heap:=w.heap.push o } (some o):=⟨rfl,rfl,rfl,rfl⟩
theorem zvz [BT] (hS:zB F C s tmps stk) {t:Nat} {z0:List AV} {c:Array Value} (e:TypeId) (he:e=t) (hv:VRels C z0 c.toList) (h1 : ∀u ∈ c.toList,u.oneCell'=true) :
    ∃C',qv F C s tmps stk { s with H:=s.H++[zvt T t z0] } C'∧C'.w={ C.w with heap:=C.w.heap.push (.cells c e) }∧VRel C' (.ptr s.H.length 0) (.pointer (some ⟨C.w.heap.size,0,none⟩)):=by
  have hcells : ∃C',qv F C s tmps stk { s with H:=s.H++[.cells z0] } C'∧C'.w={ C.w with heap:=C.w.heap.push (.cells c e) }∧VRel C' (.ptr s.H.length 0) (.pointer (some ⟨C.w.heap.size,0,none⟩)):=by
    obtain ⟨C',h2,h3,h4,h5⟩:=zi4 hS e (0,0) (qD _) hv h1 (Yn C.w (.cells c e))
    exact ⟨C',h2,h3,by rw [VRel];exact ⟨_,h4,rfl,by unfold zA;rw [h5];simp⟩⟩
  unfold zvt
  split
  · split
    · rename_i n e' hk
      cases hb:zZk n with
      | false=>exact hcells
      | true =>
        rw [cond_true]
        split
        · rename_i j hj
          split
          · rename_i ty hty
            cases hu8:ty.isU8 with
            | true=>exact hcells
            | false =>
              rw [cond_false]
              split
              · rename_i l hl
                obtain ⟨g1,g2,g3⟩:=zcY hl hv
                simp only [Array.length_toList] at g2
                obtain ⟨C',h2,h3,h4,h5⟩:=zia hS (l:=l) (c:=c) e (0,0) (qD _) (by rw [g1,g2];exact Nat.le_refl _) (fun k x hk=>by
                  obtain ⟨us,hd,hu⟩:=g3 k x hk
                  exact ⟨us,hd,fun j u hj=>by have:=hu j u hj;simpa using this⟩) (fun e=>absurd e (Ty.isU8_false hu8)) (Yn C.w (.cells c e))
                exact ⟨C',h2,h3,by rw [VRel];exact ⟨_,h4,rfl,by unfold zA;rw [h5];simp⟩⟩
              · exact hcells
          · exact hcells
        · exact hcells
    · split
      · rename_i r
        cases hb:Nat.beq t BT.bld with
        | false=>exact hcells
        | true =>
          rw [cond_true]
          have hb:=Nat.eq_of_beq_eq_true hb
          subst he
          rw [VRels] at hv
          obtain ⟨v0,vs,hc,h0,hv⟩:=hv
          rw [VRel] at h0
          obtain ⟨C',h2,h3,h4,h5⟩:=zNK hS hc hv h1 h0 (w':={ C.w with heap:=C.w.heap.push (.cells c e) }) (by rw [← hb];exact Yn C.w (.cells c e))
          exact ⟨C',h2,h3,by rw [VRel];exact ⟨_,h4,rfl,by unfold zA;rw [h5];simp⟩⟩
      · exact hcells
  · exact hcells
end
end Go.AE
namespace Go.AE
variable {P:Program} {T:Tab}
structure zbY (C:Cx) (t:Ty) (b:List t.T) (A:Option Addr) (news:List Value):Prop where
  len:news.length=b.length*t.size
  cell : ∀a,A=some a → ∀j v,news[j]? = some v→C.w.cell? (a.add j)=some v
  nil:A=none→b=[]
  el : ∀k x,b[k]? = some x → ∃us,zJ C.R C.w t x us ∧ ∀j v,us[j]? = some v→news[k*t.size+j]? = some v
  one : ∀v ∈ news,v.oneCell'=true
theorem zlu {C:Cx} {t:Ty} {b:List t.T} (cellf:Nat→Option Value) (h : ∀k x,b[k]? = some x → ∃us,zJ C.R C.w t x us ∧ ∀j u,us[j]? = some u→cellf (k*t.size+j)=some u) :
    ∃news:List Value,news.length=b.length*t.size∧(∀j v,news[j]? = some v→cellf j=some v) ∧
      (∀k x,b[k]? = some x → ∃us,zJ C.R C.w t x us ∧ ∀j v,us[j]? = some v→news[k*t.size+j]? = some v) ∧ ∀v ∈ news,v.oneCell'=true:=by
  have hsome : ∀j,j<b.length*t.size → ∃v,cellf j=some v∧v.oneCell'=true:=by
    intro j hj
    have hs:0<t.size:=by
      rcases Nat.eq_zero_or_pos t.size with h0 | h0
      · rw [h0,Nat.mul_zero] at hj;omega
      · exact h0
    have hk:j / t.size<b.length:=by
      rw [Nat.div_lt_iff_lt_mul hs];exact hj
    obtain ⟨us,hd,hu⟩:=h (j / t.size) b[j / t.size] (List.getElem?_eq_getElem hk)
    have hr:j % t.size<us.length:=by rw [hd.length];exact Nat.mod_lt _ hs
    have:=hu (j % t.size) us[j % t.size] (List.getElem?_eq_getElem hr)
    rw [Nat.mul_comm,Nat.div_add_mod] at this
    exact ⟨_,this,hd.oneCell _ (List.getElem_mem hr)⟩
  refine ⟨(List.range (b.length*t.size)).map fun j=>(cellf j).getD undef,by simp,?_,?_,?_⟩
  · intro j v hv
    rw [List.getElem?_map] at hv
    rcases Nat.lt_or_ge j (b.length*t.size) with hj | hj
    · rw [List.getElem?_range hj] at hv
      obtain ⟨u,hu,_⟩:=hsome j hj
      simp [hu] at hv
      rw [← hv];exact hu
    · rw [List.getElem?_eq_none (by simpa using hj)] at hv;cases hv
  · intro k x hk
    obtain ⟨us,hd,hu⟩:=h k x hk
    refine ⟨us,hd,fun j v hj => ?_⟩
    have hkl:=(List.getElem?_eq_some_iff.1 hk).1
    have hjl:=(List.getElem?_eq_some_iff.1 hj).1
    rw [hd.length] at hjl
    have hlt:k*t.size+j<b.length*t.size:=by
      have:(k+1)*t.size≤b.length*t.size:=Nat.mul_le_mul_right _ hkl
      rw [Nat.add_mul,Nat.one_mul] at this
      omega
    rw [List.getElem?_map,List.getElem?_range hlt]
    simp [hu j v hj]
  · intro v hv
    obtain ⟨j,hj,rfl⟩:=List.mem_map.1 hv
    obtain ⟨u,hu,h1⟩:=hsome j (List.mem_range.1 hj)
    rw [hu];exact h1
theorem zbY.nils (C:Cx) (t:Ty) (A:Option Addr):zbY C t [] A []:=⟨by simp,by simp,fun _=>rfl,by simp,by simp⟩
theorem zig [BT] {C:Cx} (hh:zY C) {s:St} (hs:C.H=s.H) {t:Ty} {y:AV} {b:List t.T} (h:za3 s t y=some b) {u:Value} (hy:VRel C y u) :
    ∃A c news,u = .slice A b.length c∧zbY C t b A news:=by
  unfold za3 at h
  rw [← hs] at h
  cases y with
  | nils =>
    cases h
    rw [VRel] at hy;subst hy
    exact ⟨none,0,[],rfl,zbY.nils C t none⟩
  | ro t' l =>
    simp only at h
    obtain ⟨he,hb⟩:=yM h
    subst he
    simp at hb
    subst hb
    rw [VRel,zJ] at hy
    obtain ⟨A,c,hv,hlc,hx⟩:=hy
    obtain rfl:u = .slice A b.length c:=by simpa using hv
    rcases hx with rfl | ⟨b0,o,rfl,hb0,hx⟩
    · exact ⟨A,c,[],rfl,zbY.nils C t' A⟩
    · obtain ⟨news,n1,n2,n3,n4⟩:=zlu (C:=C) (b:=b) (fun j=>C.w.cell? ⟨b0,o+j,none⟩) (fun k x hk=>hx k x hk)
      exact ⟨_,c,news,rfl,n1,fun a ha j v hj=>by cases ha;rw [Addr.add_mid];exact n2 j v hj,(fun h=>by cases h),n3,n4⟩
  | own n =>
    simp only at h
    rw [VRel] at hy
    obtain ⟨t',l,hg,hy⟩:=hy
    rw [hg] at h
    simp only at h
    obtain ⟨he,hb⟩:=yM h
    subst he
    simp at hb
    subst hb
    rcases hy with ⟨_,rfl,rfl⟩ | ⟨b0,c,cap,hb0,hc,hcap,hcs,rfl⟩
    · exact ⟨none,0,[],rfl,zbY.nils C t' none⟩
    · rcases zbv hh hg with ⟨hn,_⟩ | ⟨b',c',e,fr,hb',hw,hfr,hl,hel⟩
      · rw [hn] at hb0;cases hb0
      · obtain rfl:b0=b':=Option.some.inj (hb0.symm.trans hb')
        obtain ⟨news,n1,n2,n3,n4⟩:=zlu (C:=C) (b:=b) (fun j=>c'[j]?) (fun k x hk=>hel k x hk)
        exact ⟨_,cap,news,rfl,n1,fun a ha j v hj=>by cases ha;rw [Addr.add_mid,Nat.zero_add,cell_blk (blkOf_cells hw)];exact n2 j v hj,(fun h=>by cases h),n3,n4⟩
  | sub n off len e =>
    simp only at h
    rw [VRel] at hy
    obtain ⟨A,cap,rfl,hlc,hy⟩:=hy
    split at h
    · rename_i t' l hg
      split at h
      · rename_i l' hl'
        obtain ⟨he,hb⟩:=yM hl'
        subst he
        simp at hb
        subst hb
        cases hbl:Nat.ble (off+len) l'.length with
        | false=>rw [hbl] at h;cases h
        | true =>
          rw [hbl] at h
          have hle:=Nat.le_of_ble_eq_true hbl
          cases h
          have hlen:((l'.drop off).take len).length=len:=by simp;omega
          have hnil:len=0→(l'.drop off).take len=[]:=fun e=>by rw [e];simp
          rcases hy with ⟨h0,_⟩ | ⟨h0,_,_⟩ | ⟨b0,hb0,rfl,c,hc,hcs,hm⟩
          · exact ⟨A,cap,[],by rw [hlen],by rw [hnil h0];exact zbY.nils C t' A⟩
          · exact ⟨A,cap,[],by rw [hlen],by rw [hnil h0];exact zbY.nils C t' A⟩
          · rw [hg] at hm
            obtain ⟨rfl,_⟩:=hm
            rcases zbv hh hg with ⟨hn,_⟩ | ⟨b',c',e,fr,hb',hw,hfr,hl,hel⟩
            · rw [hn] at hb0;cases hb0
            · obtain rfl:b0=b':=Option.some.inj (hb0.symm.trans hb')
              obtain ⟨news,n1,n2,n3,n4⟩:=zlu (C:=C) (b:=(l'.drop off).take len) (fun j=>c'[off*t'.size+j]?) (fun k x hk=>by
                rw [List.getElem?_take] at hk
                split at hk
                · rw [List.getElem?_drop] at hk
                  obtain ⟨us,hd,hu⟩:=hel _ x hk
                  refine ⟨us,hd,fun j v hj => ?_⟩
                  rw [← hu j v hj,Nat.add_mul,Nat.add_assoc]
                · cases hk)
              exact ⟨_,cap,news,by rw [hlen],n1,fun a ha j v hj=>by cases ha;rw [Addr.add_mid,cell_blk (blkOf_cells hw)];exact n2 j v hj,(fun h=>by cases h),n3,n4⟩
      · cases h
    · rename_i cs hg
      cases hbe:Nat.beq e t.size with
      | false=>rw [hbe] at h;cases h
      | true =>
        rw [hbe] at h
        have hes:=yw hbe
        subst hes
        rw [cond_true] at h
        obtain ⟨b',c',e,fr,hb',hw,hfr,hv,hone⟩:=qH hh hg
        obtain ⟨g1,g2,g3⟩:=zcY h ((hv.drop _).take _)
        have hnil:len=0→b=[]:=fun e=>List.eq_nil_of_length_eq_zero (by rw [g1,e])
        rcases hy with ⟨h0,_⟩ | ⟨h0,_,_⟩ | ⟨b0,hb0,rfl,c,hc,hcs,hm⟩
        · exact ⟨A,cap,[],by rw [g1],by rw [hnil h0];exact zbY.nils C t A⟩
        · exact ⟨A,cap,[],by rw [g1],by rw [hnil h0];exact zbY.nils C t A⟩
        · obtain rfl:b0=b':=Option.some.inj (hb0.symm.trans hb')
          refine ⟨_,cap,_,by rw [g1],by rw [g1];exact g2,fun a ha j v hj => ?_,(fun h=>by cases h),g3,fun v hv => ?_⟩
          · cases ha
            rw [Addr.add_mid,cell_blk (blkOf_cells hw)]
            rw [List.getElem?_take] at hj
            split at hj
            · rw [List.getElem?_drop] at hj
              simpa using hj
            · cases hj
          · exact hone v (List.mem_of_mem_drop (List.mem_of_mem_take hv))
    · cases h
  | _=>cases h
theorem zf3 (w:World) {A:Option Addr} {n c size:Nat} {news:List Value} (hl:news.length=n*size) (hc : ∀a,A=some a → ∀j v,news[j]? = some v→w.cell? (a.add j)=some v) (hn:A=none→n=0) :
    (Builtin.firstCells size n (.slice A n c)).run P w = .ok news.toArray w:=by
  cases A with
  | none =>
    have:=hn rfl
    subst this
    have:news=[]:=List.eq_nil_of_length_eq_zero (by simpa using hl)
    subst this
    simp [Builtin.firstCells]
  | some a =>
    have:=run_loadCells_list (P:=P) w a news (hc a rfl)
    rw [hl] at this
    simp [Builtin.firstCells,this]
theorem zOT [BT] {t t2 e:Nat} {i j:TI} {info info':TypeInfo} {z z':Value} {d' d2:TypeDesc} (hi:y7 P t i (.slice e) info z) (hj:y7 P e j d' info' z') (h2:P.underlying t2=some d2) (hn2:(∃e2,d2 = .slice e2)∨d2 = .string)
    (w:World) (A:Option Addr) (sLen sCap:Nat) (x:Value) (m:Nat) (news:List Value) (hlen:(Builtin.lenOf x).run P w = .ok m w) (hfcN : ∀w',w'.heap=w.heap→(Builtin.firstCells j.size m x).run P w' = .ok news.toArray w')
    (hnl:news.length=m*j.size) (hno : ∀v ∈ news,v.oneCell'=true)
    (hA:(A=none∧sLen=0∧sCap=0) ∨ ∃b c e' fr,A=some ⟨b,0,none⟩∧w.heap[b]? = some (.cells c e' fr)∧qX fr c.size∧sLen≤sCap∧sCap*j.size≤c.size)
    (hb:(sLen+m)*j.bytes≤140737488355328) (hb0:j.bytes≠0) (ty:TypeId) :
    ∃v' w',(Builtin.append_ #[t,t2] ty #[.slice A sLen sCap,x]).run P w = .ok v' w' ∧
      ((∃b,A=some ⟨b,0,none⟩∧sLen+m≤sCap∧v' = .slice A (sLen+m) sCap∧w'=w.setCells b (sLen*j.size) news) ∨
       (A=none∧m=0∧v' = .slice none 0 0∧w'=w) ∨
       (∃cap' c' old rest,sLen+m≤cap'∧v' = .slice (some ⟨w.heap.size,0,none⟩) (sLen+m) cap'∧World.Pushed w w' (some (.cells c' e))∧c'.size=cap'*j.size∧c'.toList=old++news++rest∧old.length=sLen*j.size ∧
         ∀b c,A=some ⟨b,0,none⟩→YI w b=some c→old=c.toList.take (sLen*j.size))):=by
  have hfc:(Builtin.firstCells j.size m x).run P w = .ok news.toArray w:=hfcN w rfl
  by_cases hroom:sLen+m≤sCap
  · rcases hA with ⟨rfl,rfl,rfl⟩ | ⟨b,c,e',fr,rfl,hw,hfr,hle,hcs⟩
    · have hm:m=0:=by omega
      subst hm
      refine ⟨.slice none 0 0,w,?_,.inr (.inl ⟨rfl,rfl,rfl,rfl⟩)⟩
      rcases hn2 with ⟨e2,rfl⟩ | rfl
      · simp [Builtin.append_,run_underlying hi.under,run_underlying h2,hj.run_sizeOf,hlen,hfc]
      · simp [Builtin.append_,run_underlying hi.under,run_underlying h2,hj.run_sizeOf,hlen,hfc]
    · have hst:=run_storeCells_cells (P:=P) b (sLen*j.size) news 0 w (fun q hq=>by
          have:(sLen+m)*j.size≤sCap*j.size:=Nat.mul_le_mul_right _ hroom
          rw [Nat.add_mul] at this
          rw [cell_blk (blkOf_cells hw),Array.getElem?_eq_getElem (by omega)];rfl)
        (fun q hq=>zhW hw hfr (by
          have:(sLen+m)*j.size≤sCap*j.size:=Nat.mul_le_mul_right _ hroom
          rw [Nat.add_mul] at this
          omega)) hno
      rw [Nat.add_zero] at hst
      have hadd:(⟨b,0,none⟩:Addr).add (sLen*j.size)=⟨b,sLen*j.size,none⟩:=by rw [Addr.add_mid,Nat.zero_add]
      refine ⟨_,_,?_,.inl ⟨b,rfl,hroom,rfl,rfl⟩⟩
      rcases hn2 with ⟨e2,rfl⟩ | rfl
      · simp [Builtin.append_,run_underlying hi.under,run_underlying h2,hj.run_sizeOf,hlen,hfc,hroom,hadd,hst]
      · simp [Builtin.append_,run_underlying hi.under,run_underlying h2,hj.run_sizeOf,hlen,hfc,hroom,hadd,hst]
  · have hlt:sCap<sLen+m:=by omega
    have hfits:=growslice_fits hlt hb
    have hnf : ¬Builtin.nextslicecap (sLen+m) sCap*j.bytes>2 ^ 48:=by
      have:(2:Nat) ^ 48=281474976710656:=by decide
      omega
    -- the old cells
    have hold : ∃old:List Value,(Builtin.firstCells j.size sLen (.slice A sLen sCap)).run P w = .ok old.toArray w∧old.length=sLen*j.size ∧
        ∀b c,A=some ⟨b,0,none⟩→YI w b=some c→old=c.toList.take (sLen*j.size):=by
      rcases hA with ⟨rfl,rfl,rfl⟩ | ⟨b,c,e',fr,rfl,hw,hfr,hle,hcs⟩
      · exact ⟨[],by simp [Builtin.firstCells],by simp,fun b c h=>by cases h⟩
      · have hsz:sLen*j.size≤c.size:=Nat.le_trans (Nat.mul_le_mul_right _ hle) hcs
        refine ⟨c.toList.take (sLen*j.size),?_,by simp;omega,fun b' c' hb' hc' => ?_⟩
        · have:=run_loadCells_list (P:=P) w ⟨b,0,none⟩ (c.toList.take (sLen*j.size)) (fun q v hq=>by
            rw [Addr.add_mid,Nat.zero_add,cell_blk (blkOf_cells hw)]
            rw [List.getElem?_take] at hq
            split at hq
            · simpa using hq
            · cases hq)
          rw [List.length_take,Array.length_toList,Nat.min_eq_left hsz] at this
          simp [Builtin.firstCells,this]
        · have:b=b':=by injection hb' with h;injection h
          subst this
          rw [blkOf_cells hw] at hc'
          cases hc';rfl
    obtain ⟨old,ho1,ho2,ho3⟩:=hold
    have hzs:z'.cells.size=j.size:=by
      have:=congrArg List.length hj.cells
      simp only [Array.length_toList,List.length_map] at this
      rw [this,hj.len]
    let cap':=Question.cut (.appendCap (sLen+m) sCap e) (w.tape w.drawn (.appendCap (sLen+m) sCap e))
    have hcap:sLen+m≤cap':=Nat.le_add_right _ _
    have hrsz:(Builtin.zeroCells z'.cells (cap' - (sLen+m))).size=(cap' - (sLen+m))*j.size:=by rw [size_zeroCells,hzs]
    have hi64 : ¬((IntKind.i64.max<(sLen:Int)+(m:Int))∧j.bytes=0):=fun h=>hb0 h.2
    have old2 : ∀w',w'.heap=w.heap→(Builtin.firstCells j.size sLen (.slice A sLen sCap)).run P w' = .ok old.toArray w':=by
      intro w' hw'
      rcases hA with ⟨rfl,rfl,rfl⟩ | ⟨b,c,e',fr,rfl,hw,hfr,hle,hcs⟩
      · have:old=[]:=List.eq_nil_of_length_eq_zero (by simpa using ho2)
        subst this
        simp [Builtin.firstCells]
      · have hsz:sLen*j.size≤c.size:=Nat.le_trans (Nat.mul_le_mul_right _ hle) hcs
        rw [ho3 b c rfl (blkOf_cells hw)]
        have hb':YI w' b=some c:=(wb (by rw [hw'])).trans (blkOf_cells hw)
        have:=run_loadCells_list (P:=P) w' ⟨b,0,none⟩ (c.toList.take (sLen*j.size)) (fun q v hq=>by
            rw [Addr.add_mid,Nat.zero_add,cell_blk hb']
            rw [List.getElem?_take] at hq
            split at hq
            · simpa using hq
            · cases hq)
        rw [List.length_take,Array.length_toList,Nat.min_eq_left hsz] at this
        simp [Builtin.firstCells,this]
    have old3:=old2 w.drew rfl
    have hfd:=hfcN w.drew rfl
    refine ⟨.slice (some ⟨w.heap.size,0,none⟩) (sLen+m) cap',w.drew.alloc (.cells (old.toArray++(news.toArray++Builtin.zeroCells z'.cells (cap' - (sLen+m)))) e),?_,
      .inr (.inr ⟨cap',_,old,(Builtin.zeroCells z'.cells (cap' - (sLen+m))).toList,hcap,rfl,⟨rfl,rfl,rfl,rfl⟩,?_,by simp,ho2,ho3⟩)⟩
    · rcases hn2 with ⟨e2,rfl⟩ | rfl
      all_goals
        simp [Builtin.append_,run_underlying hi.under,run_underlying h2,hj.run_sizeOf,hj.run_info,hj.bytes,hlen,hroom,hb0,hnf,old3,hfd,hj.run_zero,newRow,Question.forced]
        exact ⟨rfl,rfl⟩
    · simp only [Array.size_append,List.size_toArray,hrsz,ho2,hnl]
      rw [← Nat.add_mul,← Nat.add_mul]
      congr 1
      omega
end Go.AE
namespace Go.AE
variable {P:Program} {T:Tab}
section
variable {F:Fr} {C:Cx} {s:St} {tmps:Array Value} {stk:List (Array Value)}
theorem zbZ [BT] (hT:zN P T) {t e:Nat} {j:TI} (h:zaJ T t=some (e,j)):(∃i info z,y7 P t i (.slice e) info z) ∧ ∃d' info' z',y7 P e j d' info' z':=by
  unfold zaJ at h
  split at h
  · rename_i i hti
    obtain ⟨d,info,z,hi⟩:=hT t i hti
    have hk:=hi.kind
    split at h
    · rename_i e' hkk
      rw [hkk] at hk
      obtain ⟨rfl,_⟩:=hk
      split at h
      · rename_i j' hj
        cases h
        exact ⟨⟨i,info,z,hi⟩,hT _ _ hj⟩
      · cases h
    · cases h
  · cases h
theorem zNb [BT] (hT:zN P T) {t:Nat} {i:TI} (h:Tab.get T t=some i) (hn:zuB i=true) : ∃d,P.underlying t=some d∧((∃e,d = .slice e)∨d = .string):=by
  obtain ⟨d,info,z,hi⟩:=hT t i h
  have hk:=hi.kind
  unfold zuB at hn
  split at hn
  · rename_i e hkk
    rw [hkk] at hk
    exact ⟨d,hi.under,.inl ⟨e,hk.1⟩⟩
  · rename_i hkk
    exact ⟨d,hi.under,.inr (Y1 hi hkk hn)⟩
  · cases hn
theorem zih {R:Nat→Prop} {w:World} (a:List UInt8) : ∀k x,(Zg a)[k]? = some x → ∃us,zJ R w (.int .u8) x us ∧ ∀j u,us[j]? = some u→(a.map fun c=>Value.int .u8 (c.toNat:Int))[k*1+j]? = some u:=by
  intro k x hk
  unfold Zg at hk
  rw [List.getElem?_map] at hk
  cases hc:a[k]? with
  | none=>rw [hc] at hk;cases hk
  | some c =>
    rw [hc] at hk
    simp at hk
    refine ⟨[.int .u8 x],by rw [zJ],fun j u hj => ?_⟩
    cases j with
    | zero=>simp at hj;subst hj;simp [hc,hk]
    | succ j=>simp at hj
def zh7:AV→Option (List Nat)
  | .own i=>some [i]
  | .sub i _ _ _=>some [i]
  | _=>none
theorem zjw [BT] (hT:zN P T) (hS:zB F C s tmps stk) {t t2:Nat} {x y:AV} {u v:Value} (hx:VRel C x u) (hy:VRel C y v) {K:KV} {res:AV×List Obj}
    (h:append T t t2 x y s K=some res) (ty:TypeId) :
    ∃r s' C' z w',K r s'=some res∧(Builtin.append_ #[t,t2] ty #[u,v]).run P C.w = .ok z w'∧C'.w=w'∧zB F C' s' tmps stk∧VRel C' r z∧s'.blk=s.blk∧Ze C C' (zh7 x):=by
  unfold append at h
  replace h:=zr h;obtain ⟨i2,hi2,h⟩:=h
  replace h:=zI h;obtain ⟨hn2,h⟩:=h
  replace h:=zr h;obtain ⟨⟨e,j⟩,hej,h⟩:=h
  dsimp only at h
  replace h:=Qt h;obtain ⟨hb0,h⟩:=h
  replace h:=zr h;obtain ⟨ety,hety,h⟩:=h
  obtain ⟨⟨i,info,z,hi⟩,d',info',z',hj⟩:=zbZ hT hej
  obtain ⟨d2,hd2,hd2'⟩:=zNb hT hi2 hn2
  have hesz:=(hj.ty ety hety).1
  have hbne:j.bytes≠0:=by intro e;rw [e] at hb0;exact absurd hb0 (by decide)
  replace h:=zr h;obtain ⟨b,hb,h⟩:=h
  have hh:=hS.heap
  -- what is appended
  have src : ∃news:List Value,(∀w',w'.heap=C.w.heap→(Builtin.firstCells j.size b.length v).run P w' = .ok news.toArray w')∧(Builtin.lenOf v).run P C.w = .ok b.length C.w∧news.length=b.length*j.size ∧
      (∀v ∈ news,v.oneCell'=true) ∧ ∀k x,b[k]? = some x → ∃us,zJ C.R C.w ety x us ∧ ∀q u,us[q]? = some u→news[k*ety.size+q]? = some u:=by
    have fromData:za3 s ety y=some b→_:=fun hb=>zig hh hS.H hb hy
    cases y with
    | str a =>
      simp only at hb
      obtain ⟨he,hbb⟩:=yM hb
      subst he
      simp at hbb
      subst hbb
      rw [VRel] at hy
      subst hy
      have hs1:j.size=1:=hesz.symm
      refine ⟨a.map fun c=>Value.int .u8 (c.toNat:Int),fun w' _ => ?_,by simp [Builtin.lenOf,zdJ,Zg],by simp [Zg,hs1],fun v hv => ?_,zih a⟩
      · simp [Builtin.firstCells,Zg]
      · obtain ⟨c,_,rfl⟩:=List.mem_map.1 hv;rfl
    | _ =>
      simp only at hb
      obtain ⟨A,c,news,hv,hrow⟩:=fromData hb
      subst hv
      refine ⟨news,fun w' hw' => ?_,by simp [Builtin.lenOf],by rw [hrow.len,hesz],hrow.one,hrow.el⟩
      exact zf3 w' (by rw [hrow.len,hesz]) (fun a ha q v hq=>by
        have:=hrow.cell a ha q v hq
        unfold World.cell? at this ⊢
        rw [hw']
        exact this) (fun h=>by rw [hrow.nil h];rfl)
  obtain ⟨news,hfc,hlen,hnl,hno,hel⟩:=src
  -- the row that grows
  have put : ∀(n:Nat) (a:List ety.T) (t0:Ty) (l0:List t0.T) (A:Option Addr) (cap:Nat),zp C.H n = .arr t0 l0→u = .slice A a.length cap →
      ((A=none∧a=[]∧cap=0) ∨ ∃b c e' fr,A=some ⟨b,0,none⟩∧C.ρ n=some b∧C.w.heap[b]? = some (.cells c e' fr)∧qX fr c.size∧a.length≤cap∧cap*j.size≤c.size ∧
        (∀k x,a[k]? = some x → ∃us,zJ C.R C.w ety x us ∧ ∀q u,us[q]? = some u→c[k*ety.size+q]? = some u)∧(ety = .int .u8→e'=BT.byte)) →
      (cond (Nat.ble ((a.length+b.length)*j.bytes) 140737488355328) (yl (s.mapR (Zx n)) fun s'=>Wy s' n (.arr ety (a++b)) fun s'=>K (.own n) s') none)=some res →
      ∃r s' C' z w',K r s'=some res∧(Builtin.append_ #[t,t2] ty #[u,v]).run P C.w = .ok z w'∧C'.w=w'∧zB F C' s' tmps stk∧VRel C' r z∧s'.blk=s.blk∧Ze C C' (some [n]):=by
    intro n a t0 l0 A cap hg hu hA h
    replace h:=zI h;obtain ⟨hble,h⟩:=h
    have hble:=Nat.le_of_ble_eq_true hble
    rw [ZV,YV] at h
    have hA':(A=none∧a.length=0∧cap=0) ∨ ∃b c e' fr,A=some ⟨b,0,none⟩∧C.w.heap[b]? = some (.cells c e' fr)∧qX fr c.size∧a.length≤cap∧cap*j.size≤c.size:=by
      rcases hA with ⟨h1,h2,h3⟩ | ⟨b,c,e',fr,h1,_,h2,h3,h4,h5,_⟩
      · exact .inl ⟨h1,by rw [h2];rfl,h3⟩
      · exact .inr ⟨b,c,e',fr,h1,h2,h3,h4,h5⟩
    subst hu
    obtain ⟨v',w',hrun,hres⟩:=zOT hi hj hd2 hd2' C.w A a.length cap v b.length news hlen hfc hnl hno hA' hble hbne ty
    have hln:zA C.H n:=by unfold zA;rw [hg];simp
    have hn:=Z7 hln
    have hR0 : ∀r:Option Nat,(C.regrow n (.arr ety (a++b)) r w').R=C.R:=fun _=>rfl
    have fin : ∀(r:Option Nat),Ze C (C.regrow n (.arr ety (a++b)) r w') (some [n])→zB F (C.regrow n (.arr ety (a++b)) r w') { s.mapR (Zx n) with H:=Zc (zV (Zx n) s.H) n (.arr ety (a++b)) } tmps stk →
        (r=none∧a++b=[]∧v' = .slice none 0 0 ∨ ∃b' c cap',r=some b'∧YI w' b'=some c∧(a++b).length≤cap'∧cap'*ety.size≤c.size∧v' = .slice (some ⟨b',0,none⟩) (a++b).length cap') →
        ∃r s' C' z w',K r s'=some res∧(Builtin.append_ #[t,t2] ty #[.slice A a.length cap,v]).run P C.w = .ok z w'∧C'.w=w'∧zB F C' s' tmps stk∧VRel C' r z∧s'.blk=s.blk∧Ze C C' (some [n]):=by
      intro r hft hS' hv
      refine ⟨.own n,_,C.regrow n (.arr ety (a++b)) r w',v',w',h,hrun,rfl,hS',?_,rfl,hft⟩
      rw [VRel]
      refine ⟨ety,a++b,?_,?_⟩
      · show zp (Zc (zV (Zx n) C.H) n _) n=_
        exact ym (by rw [yO];exact hn)
      · have hρ:(C.regrow n (.arr ety (a++b)) r w').ρ n=r:=by simp [Cx.regrow]
        rcases hv with ⟨h1,h2,h3⟩ | ⟨b',c,cap',h1,h2,h3,h4,h5⟩
        · exact .inl ⟨hρ.trans h1,h2,h3⟩
        · exact .inr ⟨b',c,cap',hρ.trans h1,h2,h3,h4,h5⟩
    -- an element of what came out
    have elem : ∀(R':Nat→Prop) (W:World) (cell:Nat→Option Value),(∀b,C.R b→R' b∧W.heap[b]? = C.w.heap[b]?) →
        (∀k x,a[k]? = some x → ∃us,zJ C.R C.w ety x us ∧ ∀q u,us[q]? = some u→cell (k*ety.size+q)=some u) →
        (∀q u,news[q]? = some u→cell (a.length*ety.size+q)=some u) →
        ∀k x,(a++b)[k]? = some x → ∃us,zJ R' W ety x us ∧ ∀q u,us[q]? = some u→cell (k*ety.size+q)=some u:=by
      intro R' W cell hRW hca hcn k x hk
      by_cases hka:k<a.length
      · rw [List.getElem?_append_left hka] at hk
        obtain ⟨us,hd,hu⟩:=hca k x hk
        exact ⟨us,zJ.mono hRW hd,hu⟩
      · rw [List.getElem?_append_right (by omega)] at hk
        obtain ⟨us,hd,hu⟩:=hel _ x hk
        refine ⟨us,zJ.mono hRW hd,fun q u hq => ?_⟩
        have:=hcn _ u (hu q u hq)
        rw [← this]
        congr 1
        rw [← Nat.add_assoc,← Nat.add_mul]
        congr 2
        omega
    rcases hres with ⟨b1,hAb,hroom,rfl,rfl⟩ | ⟨hAn,hm,rfl,rfl⟩ | ⟨cap',c',old,rest,hcap,rfl,hw',hsz,hcl,hol,hoc⟩
    · -- in place
      rcases hA with ⟨hn',_,_⟩ | ⟨b2,c,e',fr,hAb2,hρ,hw,hfr,hle,hcs,hea,hby⟩
      · rw [hn'] at hAb;cases hAb
      · have hbb:b2=b1:=by rw [hAb2] at hAb;injection hAb with h1;injection h1
        subst hbb
        have hfits:(a.length+b.length)*j.size≤c.size:=Nat.le_trans (Nat.mul_le_mul_right _ hroom) hcs
        rw [Nat.add_mul] at hfits
        obtain ⟨c',hc1,hc2⟩:=y5 b2 news (a.length*j.size) C.w c e' fr hw (by omega)
        obtain ⟨r1,r2,r3,r4,r5⟩:=YN b2 news (a.length*j.size) C.w
        have hcsz:c'.size=c.size:=by rw [← Array.length_toList,hc2];simp;omega
        have hRW : ∀k,C.R k→C.R k∧(C.w.setCells b2 (a.length*j.size) news).heap[k]? = C.w.heap[k]? := fun k hk=>⟨hk,r5 k fun e=>hh.ro n b2 hln hρ (e ▸ hk)⟩
        have hcell : ∀q,q<a.length*j.size→c'[q]? = c[q]? := by
          intro q hq
          rw [← Array.getElem?_toList,hc2,List.append_assoc,List.getElem?_append_left (by simp;omega),List.getElem?_take_of_lt hq,Array.getElem?_toList]
        have hcelln : ∀q u,news[q]? = some u→c'[a.length*j.size+q]? = some u:=by
          intro q u hq
          have hql:=(List.getElem?_eq_some_iff.1 hq).1
          rw [← Array.getElem?_toList,hc2,List.append_assoc,List.getElem?_append_right (by simp;omega),List.getElem?_append_left (by simp;omega),← hq]
          congr 1
          simp
          omega
        refine fin (some b2) (zfF hg (by rw [r4];exact Nat.le_refl _) (fun k _ hk=>r5 k fun e=>hk (e ▸ hρ)) (fun b' hb' => .inl (by cases hb';exact hρ))) (zey hS hg r1 r2 r3 (by rw [r4];exact Nat.le_refl _) (fun k _ hk=>r5 k fun e=>hk (e ▸ hρ)) (fun b' hb' => .inl (by cases hb';exact hρ)) ?_) (.inr ⟨b2,c',cap,rfl,blkOf_cells hc1,by simpa using hroom,by rw [hcsz,hesz];exact hcs,by rw [← hAb2];simp⟩)
        refine .inr ⟨b2,c',e',fr,rfl,hc1,by rw [hcsz];exact hfr,by rw [hcsz,hesz,List.length_append,Nat.add_mul];omega,?_,hby⟩
        refine elem C.R _ (fun q=>c'[q]?) hRW ?_ (fun q u hq=>by rw [hesz];exact hcelln q u hq)
        intro k x hk
        obtain ⟨us,hd,hu⟩:=hea k x hk
        refine ⟨us,hd,fun q u hq => ?_⟩
        have hkl:=(List.getElem?_eq_some_iff.1 hk).1
        have hql:=(List.getElem?_eq_some_iff.1 hq).1
        rw [hd.length] at hql
        have:(k+1)*ety.size≤a.length*ety.size:=Nat.mul_le_mul_right _ hkl
        rw [Nat.add_mul,Nat.one_mul] at this
        show c'[k*ety.size+q]? = some u
        rw [hcell _ (by rw [← hesz];omega)]
        exact hu q u hq
    · -- nothing to nil
      have ha:a=[]:=by
        rcases hA with ⟨_,h2,_⟩ | ⟨b2,_,_,_,h2,_⟩
        · exact h2
        · rw [hAn] at h2;cases h2
      have hbn:b=[]:=List.eq_nil_of_length_eq_zero hm
      exact fin none (zfF hg (Nat.le_refl _) (fun k _ _=>rfl) (fun b' hb'=>by cases hb')) (zey hS hg rfl rfl rfl (Nat.le_refl _) (fun k _ _=>rfl) (fun b' hb'=>by cases hb') (.inl ⟨rfl,by rw [ha,hbn];rfl⟩)) (.inl ⟨rfl,by rw [ha,hbn];rfl,rfl⟩)
    · -- anew
      have hRW : ∀k,C.R k→C.R k∧w'.heap[k]? = C.w.heap[k]? := fun k hk=>⟨hk,hw'.old (hh.rlt k hk)⟩
      have hlt : ∀q,c'[q]? = c'.toList[q]? := fun q=>(Array.getElem?_toList).symm
      refine fin (some C.w.heap.size) (zfF hg hw'.size (fun k hk _=>hw'.old hk) (fun b' hb' => .inr (by cases hb';exact Nat.le_refl _))) (zey hS hg hw'.os hw'.tape hw'.output hw'.size (fun k hk _=>hw'.old hk) (fun b' hb' => .inr (by cases hb';exact Nat.le_refl _)) ?_)
        (.inr ⟨C.w.heap.size,c',cap',rfl,blkOf_cells hw'.new,by simpa using hcap,by rw [hsz,hesz];exact Nat.le_refl _,by simp⟩)
      refine .inr ⟨C.w.heap.size,c',e,(0,0),rfl,hw'.new,qD _,by rw [hsz,hesz,List.length_append];exact Nat.mul_le_mul_right _ hcap,?_,fun e=>hj.byte (by rw [hety,e])⟩
      refine elem C.R w' (fun q=>c'[q]?) hRW ?_ ?_
      · intro k x hk
        rcases hA with ⟨_,h2,_⟩ | ⟨b2,c,e',fr,hAb2,hρ,hw,hfr,hle,hcs,hea,_⟩
        · rw [h2] at hk;simp at hk
        · obtain ⟨us,hd,hu⟩:=hea k x hk
          refine ⟨us,hd,fun q u hq => ?_⟩
          have hkl:=(List.getElem?_eq_some_iff.1 hk).1
          have hql:=(List.getElem?_eq_some_iff.1 hq).1
          rw [hd.length] at hql
          have:(k+1)*ety.size≤a.length*ety.size:=Nat.mul_le_mul_right _ hkl
          rw [Nat.add_mul,Nat.one_mul,hesz] at this
          show c'[k*ety.size+q]? = some u
          rw [hlt,hcl,List.append_assoc,List.getElem?_append_left (by rw [hol,hesz];rw [hesz] at hql;omega),hoc b2 c hAb2 (blkOf_cells hw),List.getElem?_take_of_lt (by rw [hesz];rw [hesz] at hql;omega),Array.getElem?_toList]
          exact hu q u hq
      · intro q u hq
        have hql:=(List.getElem?_eq_some_iff.1 hq).1
        show c'[a.length*ety.size+q]? = some u
        rw [hlt,hcl,List.append_assoc,List.getElem?_append_right (by rw [hol,hesz];omega),List.getElem?_append_left (by rw [hol,hesz];omega),← hq]
        congr 1
        rw [hol,hesz]
        omega
  simp only at h
  cases x with
  | own n =>
    simp only at h
    rw [VRel] at hx
    obtain ⟨t0,l0,hg,hx⟩:=hx
    rw [← hS.H,hg] at h
    simp only at h
    replace h:=zr h;obtain ⟨a,ha,h⟩:=h
    obtain ⟨he,haa⟩:=yM ha
    subst he
    simp at haa
    subst haa
    rcases hx with ⟨hn,rfl,rfl⟩ | ⟨b0,c,cap,hb0,hc,hcap,hcs,rfl⟩
    · exact put n [] t0 [] none 0 hg rfl (.inl ⟨rfl,rfl,rfl⟩) h
    · rcases zeB hh hg with ⟨hn,_⟩ | ⟨b',c',e',fr,hb',hw,hfr,hl,hea⟩
      · rw [hn] at hb0;cases hb0
      · obtain rfl:b0=b':=Option.some.inj (hb0.symm.trans hb')
        obtain rfl:c'=c:=by rw [blkOf_cells hw] at hc;exact Option.some.inj hc
        exact put n a t0 a _ cap hg rfl (.inr ⟨b0,c',e',fr,rfl,hb0,hw,hfr,hcap,by rw [← hesz];exact hcs,hea⟩) h
  | sub n off len es =>
    simp only at h
    rw [← hS.H] at h
    split at h
    · rename_i t0 l0 hg
      replace h:=zI h;obtain ⟨hc0,h⟩:=h
      simp only [Bool.and_eq_true] at hc0
      have hoff:=yw hc0.1
      have hle:=Nat.le_of_ble_eq_true hc0.2
      subst hoff
      replace h:=zr h;obtain ⟨a,ha,h⟩:=h
      obtain ⟨he,haa⟩:=yM ha
      subst he
      simp at haa
      subst haa
      rw [VRel] at hx
      obtain ⟨A,cap,rfl,hlc,hx⟩:=hx
      have hal:(a.take len).length=len:=by simp;omega
      rcases hx with ⟨_,h0⟩ | ⟨h0,rfl,rfl⟩ | ⟨b0,hb0,rfl,c,hc,hcs,hm⟩
      · exact absurd rfl h0
      · have:a.take len=[]:=by rw [h0];simp
        rw [this] at h
        exact put n [] t0 a none 0 hg (by rw [h0];rfl) (.inl ⟨rfl,rfl,rfl⟩) h
      · rw [hg] at hm
        obtain ⟨rfl,_⟩:=hm
        rcases zeB hh hg with ⟨hn,_⟩ | ⟨b',c',e',fr,hb',hw,hfr,hl,hea,hby⟩
        · rw [hn] at hb0;cases hb0
        · obtain rfl:b0=b':=Option.some.inj (hb0.symm.trans hb')
          obtain rfl:c'=c:=by rw [blkOf_cells hw] at hc;exact Option.some.inj hc
          refine put n (a.take len) t0 a (some ⟨b0,0,none⟩) cap hg (by rw [hal];simp) (.inr ⟨b0,c',e',fr,rfl,hb0,hw,hfr,by rw [hal];exact hlc,by rw [← hesz];simpa using hcs,fun k x hk => ?_,hby⟩) h
          rw [List.getElem?_take] at hk
          split at hk
          · exact hea k x hk
          · cases hk
    · cases h
  | _=>cases h
end
end Go.AE
namespace Go.AE
variable {P:Program} {T:Tab}
theorem VRels.of_get {C:Cx} : ∀{l:List AV} {vs:List Value},vs.length=l.length→(∀(i:Nat) (a:AV) (v:Value),l[i]? = some a→vs[i]? = some v→VRel C a v)→VRels C l vs
  | [],vs,hl,_=>by
    rw [VRels];exact List.eq_nil_of_length_eq_zero (by simpa using hl)
  | a::r,[],hl,_=>by simp at hl
  | a::r,v::vs,hl,h=>by
    rw [VRels]
    exact ⟨v,vs,rfl,h 0 a v rfl rfl,VRels.of_get (by simpa using hl) fun i a' v' h1 h2=>h (i+1) a' v' (by simpa using h1) (by simpa using h2)⟩
theorem zlR (z:List AV) : ∀(n i:Nat),i<n*z.length→(Wa z n)[i]? = z[i % z.length]?
  | 0,i,h=>by simp at h
  | n+1,i,h=>by
    rw [Wa]
    by_cases hi:i<z.length
    · rw [List.getElem?_append_left hi,Nat.mod_eq_of_lt hi]
    · rw [List.getElem?_append_right (by omega),zlR z n (i - z.length) (by rw [Nat.add_mul] at h;omega)]
      have:=Nat.mod_eq_sub_mod (a:=i) (b:=z.length) (by omega)
      rw [this]
theorem zfi (z:List AV) : ∀n,(Wa z n).length=n*z.length
  | 0=>by simp [Wa]
  | n+1=>by rw [Wa,List.length_append,zfi z n,Nat.add_mul];omega
section
variable {F:Fr} {C:Cx} {s:St} {tmps:Array Value} {stk:List (Array Value)}
theorem Jh [BT] : ∀{rows:List Nat} {vs:List AV} {us:List Value} {C:Cx} {s:St} {K:List AV→St→Ans} {res:AV×List Obj},zB F C s tmps stk→VRels C vs us→Jv rows vs s K=some res →
    ∃vs' s' C',K vs' s'=some res∧C'.w=C.w∧zB F C' s' tmps stk∧VRels C' vs' us∧s'.blk=s.blk∧C'.ρ=C.ρ∧(∀i,zA C'.H i→zA C.H i)
  | [],vs,us,C,s,K,res,hS,hv,h=>⟨vs,s,C,h,rfl,hS,hv,rfl,rfl,fun _ h=>h⟩
  | i::r,vs,us,C,s,K,res,hS,hv,h=>by
    rw [Jv] at h
    split at h
    · rename_i t l hg
      rw [YC,ZV] at h
      rw [← hS.H] at hg
      obtain ⟨h1,h2,h3⟩:=zLA hS hg
      obtain ⟨vs',s',C',k1,k2,k3,k4,k5,k6,k7⟩:=Jh h1 (VRels.mapR h3 h2 _ _ (fun _ _=>trivial) hv) h
      refine ⟨vs',s',C',k1,k2,k3,k4,k5,k6,fun j hj => ?_⟩
      have hj:=k7 j hj
      unfold zA at hj ⊢
      intro hd
      apply hj
      show zp (Zc (zV _ C.H) i .dead) j = .dead
      by_cases e:i=j
      · subst e
        rw [ym (by rw [yO];exact Z7 (by unfold zA;rw [hg];simp))]
      · rw [ZX e,YF,hd]
        rfl
    · exact Jh hS hv h
theorem zq0 [BT] (hT:zN P T) (hS:zB F C s tmps stk) {t len:Nat} {parts:List (Nat×AV)} {parts':Array (Nat×Value)} (hn:parts.map (·.1)=parts'.toList.map (·.1)) (hv:VRels C (parts.map (·.2)) (parts'.toList.map (·.2)))
    {K:KV} {res:AV×List Obj} (h:buildSlice T t len parts s K=some res) :
    ∃r s' C' z w',K r s'=some res∧(Instr.buildSlice t len parts').run P C.w = .ok z w'∧C'.w=w'∧zB F C' s' tmps stk∧VRel C' r z∧s'.blk=s.blk∧Z0 C C':=by
  unfold buildSlice at h
  replace h:=zr h;obtain ⟨⟨e,j⟩,hej,h⟩:=h
  dsimp only at h
  replace h:=zI h;obtain ⟨hble,h⟩:=h
  have hble:=Nat.le_of_ble_eq_true hble
  replace h:=zr h;obtain ⟨cs,hcs,h⟩:=h
  obtain ⟨⟨i,info,z,hi⟩,d',info',z',hj⟩:=zbZ hT hej
  have hzs:z'.cells.size=j.size:=by
    have:=congrArg List.length hj.cells
    simp only [Array.length_toList,List.length_map] at this
    rw [this,hj.len]
  have hz0:VRels C j.zero z'.cells.toList:=by rw [hj.cells];exact zbz _ hj.isz
  have hz1 : ∀u ∈ z'.cells.toList,u.oneCell'=true:=by rw [hj.cells];exact zrd _ hj.isz
  -- the row of zeros
  let zz:Array Value:=if len*j.size=0 then #[] else z'.cells
  have hzz:0<len*j.size→zz=z'.cells:=fun h0=>if_neg (by omega)
  have hget : ∀q,q<len*j.size → ∃u,zz[q % zz.size]! = u∧z'.cells.toList[q % j.size]? = some u:=by
    intro q hq
    rw [hzz (by omega),hzs]
    have hpos:0<j.size:=by
      rcases Nat.eq_zero_or_pos j.size with h0 | h0
      · rw [h0,Nat.mul_zero] at hq;omega
      · exact h0
    have hlt:q % j.size<z'.cells.size:=by rw [hzs];exact Nat.mod_lt _ hpos
    refine ⟨_,rfl,?_⟩
    rw [Array.getElem?_toList,getElem!_pos z'.cells _ hlt,Array.getElem?_eq_getElem hlt]
  have hrow:VRels C (Wa j.zero len) ((Array.range (len*j.size)).map (fun q=>zz[q % zz.size]!)).toList:=by
    refine VRels.of_get (by rw [zfi,hj.len];simp) fun q a v ha hv => ?_
    have hq:q<len*j.size:=by
      have:=(List.getElem?_eq_some_iff.1 hv).1
      simpa using this
    rw [zlR _ _ _ (by rw [hj.len];exact hq),hj.len] at ha
    obtain ⟨u,h1,h2⟩:=hget q hq
    have:v=u:=by
      rw [Array.toList_map,List.getElem?_map,Array.toList_range,List.getElem?_range hq] at hv
      simp only [Option.map_some,Option.some.injEq] at hv
      rw [← hv,h1]
    rw [this]
    obtain ⟨v',hv',hr⟩:=hz0.get ha
    rw [h2] at hv'
    cases hv'
    exact hr
  have hrow1 : ∀u ∈ ((Array.range (len*j.size)).map (fun q=>zz[q % zz.size]!)).toList,u.oneCell'=true:=by
    intro u hu
    rw [Array.toList_map,List.mem_map] at hu
    obtain ⟨q,hq,rfl⟩:=hu
    have hq:q<len*j.size:=by simpa using hq
    obtain ⟨u,h1,h2⟩:=hget q hq
    rw [h1]
    exact hz1 u (List.mem_of_getElem? h2)
  obtain ⟨c',hf,hrel,hone,hsz⟩:=zcT (place':=fun i=>some (i*j.size,j.size)) (fun n p hp=>hp) hcs hrow hrow1 hn hv
  have hcsz:c'.size=len*j.size:=by rw [hsz];simp
  have hng : ¬(len*j.size>2 ^ 24):=by
    have:(2:Nat) ^ 24=16777216:=by decide
    omega
  have hrun:(Instr.buildSlice t len parts').run P C.w = .ok (.slice (some ⟨C.w.heap.size,0,none⟩) len len) { C.w with heap:=C.w.heap.push (.cells c' e) }:=by
    by_cases h0:len*j.size=0
    · have hz':zz = #[]:=if_pos h0
      rw [hz'] at hf
      simp only [Instr.buildSlice,Sem.run_bind,run_underlying hi.under,Result.andThen_ok,hj.run_sizeOf,if_neg hng,if_pos h0,Sem.run_pure,hf]
      simp [newRow]
    · have hz':zz=z'.cells:=if_neg h0
      rw [hz'] at hf
      simp only [Instr.buildSlice,Sem.run_bind,run_underlying hi.under,Result.andThen_ok,hj.run_sizeOf,if_neg hng,if_neg h0,Sem.run_pure,hj.run_zero,hf]
      simp [newRow]
  split at h
  · rename_i ty hty
    obtain ⟨cs',s1,C1,h1,hw1,hS1,hv1,hb1,hρ1,hl1⟩:=Jh hS hrel h
    replace h1:=zr h1;obtain ⟨l,hl,h1⟩:=h1
    rw [Y5] at h1
    obtain ⟨g1,g2,g3⟩:=zcY hl hv1
    have hesz:=(hj.ty ty hty).1
    obtain ⟨C',⟨h2,hgr,_,_,hbk⟩,h3,h4,h5⟩:=zia hS1 (l:=l) (c:=c') e (0,0) (qD _) (by rw [g1,hcsz,hesz];exact Nat.le_refl _) (fun k x hk=>by
      obtain ⟨us,hd,hu⟩:=g3 k x hk
      exact ⟨us,hd,fun q u hq=>by have:=hu q u hq;simpa using this⟩) (fun e=>hj.byte (by rw [hty,e])) (Yn C1.w (.cells c' e))
    rw [hw1] at h3 h4
    refine ⟨_,_,C',_,_,h1,hrun,h3,h2,?_,hbk.trans hb1,(Z0.of_less hw1 hρ1 hl1).trans hgr.foot⟩
    have:=zCe (e:=e) (fr:=(0,0)) (cap:=len) h5 h4 (by rw [h3];simp) (by rw [g1];exact Nat.le_refl _) (c:=c') (by rw [hcsz,hesz];exact Nat.le_refl _)
    rwa [g1] at this
  · rw [Y5] at h
    obtain ⟨C',⟨h2,hgr,_,_,hbk⟩,h3,h4,h5⟩:=zi4 hS e (0,0) (qD _) hrel hone (Yn C.w (.cells c' e))
    refine ⟨_,_,C',_,_,h,hrun,h3,h2,?_,hbk,hgr.foot⟩
    rw [VRel]
    have hcl:cs.length=len*j.size:=by have:=hrel.length;simp only [Array.length_toList] at this;omega
    refine ⟨_,len,rfl,Nat.le_refl _,.inr (.inr ⟨_,h4,by simp,c',by rw [h3];exact blkOf_cells (e:=e) (fr:=(0,0)) (by simp),by rw [hcsz];simp,?_⟩)⟩
    rw [h5]
    simp only
    rw [hcl];simp
theorem zv7 [BT] (hT:zN P T) (hS:zB F C s tmps stk) {t:Nat} {l c:AV} {u v:Value} (hl:VRel C l u) (hc:VRel C c v) {K:KV} {res:AV×List Obj} (h:makeSlice T t l c s K=some res) :
    ∃r s' C' z w',K r s'=some res∧(Instr.makeSlice t u v).run P C.w = .ok z w'∧C'.w=w'∧zB F C' s' tmps stk∧VRel C' r z∧s'.blk=s.blk∧Z0 C C':=by
  unfold makeSlice at h
  replace h:=zr h;obtain ⟨⟨e,j⟩,hej,h⟩:=h
  dsimp only at h
  replace h:=zr h;obtain ⟨ty,hty,h⟩:=h
  replace h:=zr h;obtain ⟨zv,hzv,h⟩:=h
  replace h:=YR h;obtain ⟨k1,a,rfl,h⟩:=h
  replace h:=YR h;obtain ⟨k2,b,rfl,h⟩:=h
  replace h:=zI h;obtain ⟨hcond,h⟩:=h
  simp only [Bool.and_eq_true,decide_eq_true_eq] at hcond
  obtain ⟨⟨⟨c1,c2⟩,c3⟩,c4⟩:=hcond
  rw [VRel] at hl hc
  subst hl
  subst hc
  rw [Y5] at h
  obtain ⟨⟨i,info,z,hi⟩,d',info',z',hj⟩:=zbZ hT hej
  have hesz:=(hj.ty ty hty).1
  have hzs:z'.cells.size=j.size:=by
    have:=congrArg List.length hj.cells
    simp only [Array.length_toList,List.length_map] at this
    rw [this,hj.len]
  have hz0:VRels C j.zero z'.cells.toList:=by rw [hj.cells];exact zbz _ hj.isz
  have hzd:=zc4 hzv hz0
  have hwa:IntKind.i64.wrap a=a:=by simp [IntKind.wrap,IntKind.bits,IntKind.signed];omega
  have hwb:IntKind.i64.wrap b=b:=by simp [IntKind.wrap,IntKind.bits,IntKind.signed];omega
  let n:=b.toNat*j.size
  let zz:Array Value:=if n=0 then #[] else z'.cells
  have hbad : ¬(((b<0 || (j.bytes:Int)*b>2 ^ 48) || a<0 || a>b)=true):=by
    simp
    omega
  have hrun:(Instr.makeSlice t (.int k1 a) (.int k2 b)).run P C.w = .ok (.slice (some ⟨C.w.heap.size,0,none⟩) a.toNat b.toNat) { C.w with heap:=C.w.heap.push (.cells ((Array.range n).map (fun q=>zz[q % zz.size]!)) e) }:=by
    by_cases h0:b.toNat*j.size=0
    · have hz':zz = #[]:=if_pos h0
      simp only [Instr.makeSlice,Go.asInt,asIntOf,Sem.run_bind,run_underlying hi.under,Result.andThen_ok,hj.run_sizeOf,hj.run_info,hj.bytes,Sem.run_pure,hwa,hwb,if_neg hbad,run_askRoom,if_pos h0]
      simp [newRow,n,hz']
    · have hz':zz=z'.cells:=if_neg h0
      simp only [Instr.makeSlice,Go.asInt,asIntOf,Sem.run_bind,run_underlying hi.under,Result.andThen_ok,hj.run_sizeOf,hj.run_info,hj.bytes,Sem.run_pure,hwa,hwb,if_neg hbad,run_askRoom,if_neg h0,hj.run_zero]
      simp [newRow,n,hz']
  obtain ⟨C',⟨h2,hgr,_,_,hbk⟩,h3,h4,h5⟩:=zia hS (l:=List.replicate a.toNat zv) (c:=(Array.range n).map (fun q=>zz[q % zz.size]!)) e (0,0) (qD _)
    (by rw [List.length_replicate,hesz];simp [n];exact Nat.mul_le_mul_right _ (by omega)) (fun k x hk=>by
      have hkl:=(List.getElem?_eq_some_iff.1 hk).1
      rw [List.length_replicate] at hkl
      have:x=zv:=by rw [List.getElem?_replicate_of_lt hkl] at hk;exact (Option.some.inj hk).symm
      subst this
      refine ⟨_,hzd,fun q u hq => ?_⟩
      have hql:=(List.getElem?_eq_some_iff.1 hq).1
      simp only [Array.length_toList] at hql
      have hql2:q<ty.size:=by omega
      have hlt:k*ty.size+q<n:=by
        have:(k+1)*ty.size≤b.toNat*ty.size:=Nat.mul_le_mul_right _ (by omega)
        rw [Nat.add_mul,Nat.one_mul] at this
        show _<b.toNat*j.size
        rw [← hesz]
        omega
      have hzz:zz=z'.cells:=if_neg (by omega)
      have hmod:(k*ty.size+q) % zz.size=q:=by
        rw [hzz,hzs,hesz,Nat.add_comm,Nat.add_mul_mod_self_right,Nat.mod_eq_of_lt (by omega)]
      have hrg:(Array.range n)[k*ty.size+q]? = some (k*ty.size+q):=by simp [hlt]
      rw [Array.getElem?_map,hrg]
      simp only [Option.map_some]
      rw [hmod,hzz,getElem!_pos z'.cells _ hql]
      rw [Array.getElem?_toList,Array.getElem?_eq_getElem hql] at hq
      exact hq) (fun e=>hj.byte (by rw [hty,e])) (Yn C.w _)
  refine ⟨_,_,C',_,_,h,hrun,h3,h2,?_,hbk,hgr.foot⟩
  have:=zCe (e:=e) (fr:=(0,0)) (cap:=b.toNat) h5 h4 (by rw [h3];simp;rfl) (by rw [List.length_replicate];omega) (by rw [hesz];simp [n])
  rwa [List.length_replicate] at this
theorem zT6 [BT] {e:Nat} (h:zdX T e=true):e=BT.byte:=by
  unfold zdX at h
  rw [Bool.and_eq_true] at h
  exact Nat.eq_of_beq_eq_true h.1
theorem zqM [BT] (hT:zN P T) {e:Nat} (h:zdX T e=true):P.underlying e=some (.int .u8):=by
  unfold zdX at h
  rw [Bool.and_eq_true] at h
  replace h:=h.2
  split at h
  · rename_i i hi
    obtain ⟨d,info,z,hok⟩:=hT _ _ hi
    split at h
    · rename_i hk
      rw [hok.under,qd hok hk]
    · cases h
  · cases h
theorem zXW (l:List Int) : ∀acc:ByteArray,l.foldl (fun r n=>r.push (UInt8.ofNat n.toNat)) acc=⟨acc.data++(Zl l).toArray⟩:=by
  induction l with
  | nil=>intro acc;simp [Zl]
  | cons n r ih =>
    intro acc
    rw [List.foldl_cons,ih]
    apply ByteArray.ext
    simp [Zl,ByteArray.push]
theorem z62 (n:Nat):qX (n,n+1) n:=fun x hx h=>by omega
theorem zFS [BT] (hT:zN P T) (hS:zB F C s tmps stk) {src dst:Nat} {x:AV} {u:Value} (hx:VRel C x u) {K:KV} {res:AV×List Obj} (h:convert T src dst x s K=some res) :
    ∃r s' C' z w',K r s'=some res∧(Go.convert src dst u).run P C.w = .ok z w'∧C'.w=w'∧zB F C' s' tmps stk∧VRel C' r z∧s'.blk=s.blk∧Z0 C C':=by
  unfold convert at h
  replace h:=zr h;obtain ⟨si,hsi,h⟩:=h
  replace h:=zr h;obtain ⟨di,hdi,h⟩:=h
  obtain ⟨d1,i1,z1,h1⟩:=hT _ _ hsi
  obtain ⟨d2,i2,z2,h2⟩:=hT _ _ hdi
  have toStr : ∀(hnl : ∀k n,x ≠ .int k n) (hns : ∀a,x ≠ .str a),(match si.k,di.k with
      | .slice e,.sc=>cond (zdX T e&&qy di) (za (za3 s (.int .u8) x) fun l=>K (.str (Zl l)) s) none
      | _,_=>none)=some res → ∃r s' C' z w',K r s'=some res∧(Go.convert src dst u).run P C.w = .ok z w'∧C'.w=w'∧zB F C' s' tmps stk∧VRel C' r z∧s'.blk=s.blk∧Z0 C C':=by
    intro _ _ h
    split at h
    · rename_i e hk1 hk2
      replace h:=zI h;obtain ⟨hc,h⟩:=h
      simp only [Bool.and_eq_true] at hc
      replace h:=zr h;obtain ⟨l,hl,h⟩:=h
      obtain ⟨A,c,news,rfl,hrow⟩:=zig hS.heap hS.H hl hx
      have hu1:=zqM hT hc.1
      have hd2:=Y1 h2 hk2 hc.2
      subst hd2
      have hd1:=h1.kind
      rw [hk1] at hd1
      obtain ⟨rfl,_⟩:=hd1
      have hnews:news=l.map (Value.int .u8):=by
        have hlen:=hrow.len
        simp only [Ty.size,Nat.mul_one] at hlen
        refine List.ext_getElem? fun q => ?_
        rw [List.getElem?_map]
        cases hq:l[q]? with
        | none =>
          rw [List.getElem?_eq_none_iff] at hq
          rw [List.getElem?_eq_none (by omega)];rfl
        | some n =>
          obtain ⟨us,hd,hu⟩:=hrow.el q n hq
          rw [zJ] at hd
          subst hd
          have:=hu 0 _ rfl
          simpa [Ty.size] using this
      refine ⟨_,s,C,.string ⟨(Zl l).toArray⟩,C.w,h,?_,rfl,hS,by rw [VRel],rfl,Z0.refl C⟩
      have hrun:(Conv.bytesToString (.slice A l.length c)).run P C.w = .ok (.string ⟨(Zl l).toArray⟩) C.w:=by
        cases A with
        | none =>
          have:=hrow.nil rfl
          subst this
          simp [Conv.bytesToString,Zl]
          rfl
        | some a =>
          have hlc:=run_loadCells_list (P:=P) C.w a news (hrow.cell a rfl)
          rw [hnews,List.length_map] at hlc
          have:=run_bytesToString (P:=P) C.w a l.length c l hlc
          rw [this,zXW]
          simp
      simp [Go.convert,run_underlying h1.under,run_underlying h2.under,run_underlying hu1,hrun]
    · cases h
  cases x with
  | int k n =>
    simp only at h
    replace h:=zr h;obtain ⟨k',hk',h⟩:=h
    rw [VRel] at hx
    subst hx
    obtain rfl:=qd h2 hk'
    exact ⟨_,s,C,.int k' (k'.wrap n),C.w,h,by simp [Go.convert,run_underlying h1.under,run_underlying h2.under,Conv.intToInt],rfl,hS,by rw [VRel],rfl,Z0.refl C⟩
  | str a =>
    simp only at h
    rw [VRel] at hx
    subst hx
    split at h
    · rename_i e hk
      replace h:=zI h;obtain ⟨hc,h⟩:=h
      replace h:=zI h;obtain ⟨hc2,h⟩:=h
      rw [Y5] at h
      have hu1:=zqM hT hc
      have hd2:=h2.kind
      rw [hk] at hd2
      obtain ⟨rfl,_⟩:=hd2
      let cap:=Question.cut (.appendCap a.length 0 e) (C.w.tape C.w.drawn (.appendCap a.length 0 e))
      have hcap:a.length≤cap:=Nat.le_add_right _ _
      let cells:Array Value:=(a.map fun c=>Value.int .u8 (c.toNat:Int)).toArray++Array.replicate (cap - a.length) (.int .u8 0)
      have hcsz:cells.size=cap:=by simp [cells];omega
      let W0:World:={ C.w with drawn:=C.w.drawn+1,heap:=C.w.heap.push (.cells cells e) }
      have hW0:W0.heap[C.w.heap.size]? = some (.cells cells e (0,0)):=by
        show (C.w.heap.push (.cells cells e))[C.w.heap.size]? = _
        rw [Array.getElem?_push,if_pos rfl]
      let W':=W0.freeze ⟨C.w.heap.size,cells.size,none⟩ 1
      have hpush:World.Pushed C.w W' (some (.cells cells e (cells.size,cells.size+1))):=by
        refine ⟨rfl,rfl,rfl,?_⟩
        have hmod:W'.heap=(C.w.heap.push (.cells cells e)).modify C.w.heap.size (fun
            | .cells c elem (lo,hi) => .cells c elem (if lo == hi then (cells.size,cells.size+1) else (min lo cells.size,max hi (cells.size+1)))
            | o=>o):=rfl
        rw [hmod]
        apply Array.ext_getElem?
        intro q
        rw [Array.getElem?_modify,Array.getElem?_push,Array.getElem?_push]
        by_cases hq:q=C.w.heap.size
        · subst hq;simp
        · rw [if_neg (by omega),if_neg hq,if_neg hq]
      have hrun:(Conv.stringToBytes e ⟨a.toArray⟩).run P C.w = .ok (.slice (some ⟨C.w.heap.size,0,none⟩) a.length cap) W':=by
        have hsh:W0.shape? C.w.heap.size=some (e,cells.size):=by
          unfold World.shape?
          rw [hW0]
        have hel:(⟨a.toArray⟩:ByteArray).data.map (fun b=>Value.int .u8 (b.toNat:Int))++Array.replicate (cap - a.length) (.int .u8 0)=cells:=by
          simp [cells]
        have hch:(choose (.appendCap a.length 0 e)).run P C.w = .ok cap { C.w with drawn:=C.w.drawn+1 }:=rfl
        have hnew:(newRow e cells).run P { C.w with drawn:=C.w.drawn+1 } = .ok ⟨C.w.heap.size,0,none⟩ W0:=rfl
        have hmk:(markStringish ⟨C.w.heap.size,0,none⟩).run P W0 = .ok () W':=by
          unfold markStringish
          rw [Sem.run_bind,run_shape,hsh]
          rfl
        simp only [Conv.stringToBytes,Sem.run_bind,zdJ,hch,Result.andThen_ok,hel,hnew,hmk,Sem.run_pure]
      obtain ⟨C',⟨h3,hgr,_,_,hbk⟩,h4,h5,h6⟩:=zia (t := .int .u8) (l:=Zg a) hS e (cells.size,cells.size+1) (z62 _) (by rw [hcsz];simpa [Zg,Ty.size] using hcap) (fun k x hk=>by
        obtain ⟨us,hd,hu⟩:=zih (R:=C.R) (w:=C.w) a k x hk
        refine ⟨us,hd,fun q u hq => ?_⟩
        have:=hu q u hq
        have hlt:=(List.getElem?_eq_some_iff.1 this).1
        simp only [List.length_map] at hlt
        show cells[k*1+q]? = some u
        simp only [cells]
        rw [Array.getElem?_append_left (by simpa using hlt)]
        simpa using this) (fun _=>zT6 hc) hpush
      refine ⟨_,_,C',_,W',h,?_,h4,h3,zCe (e:=e) (fr:=(cells.size,cells.size+1)) (cap:=cap) h6 h5 (by rw [h4];exact hpush.new) (by simpa [Zg] using hcap) (by rw [hcsz];simp [Ty.size]),hbk,hgr.foot⟩
      have:(Zg a).length=a.length:=by simp [Zg]
      rw [this]
      cases d1 <;> simp [Go.convert,run_underlying h1.under,run_underlying h2.under,run_underlying hu1,hrun]
    · rename_i hk
      replace h:=zI h;obtain ⟨hc,h⟩:=h
      have hd2:=Y1 h2 hk hc
      subst hd2
      exact ⟨_,s,C,.string ⟨a.toArray⟩,C.w,h,by cases d1 <;> simp [Go.convert,run_underlying h1.under,run_underlying h2.under],rfl,hS,by rw [VRel],rfl,Z0.refl C⟩
    · cases h
  | _=>exact toStr (by simp) (by simp) h
end
end Go.AE
namespace Go.AE
variable {P:Program} {T:Tab}
open Go.MapKept (IsKey)
theorem zJ4 {k:IntKind} {e:Ty} {k':IntKind} {e':Ty} {l:List (Int×e'.T)} {l':List (Int×e.T)} (h:zG4 k e k' e' l=some l'):k'=k ∧ ∃he:e'=e,l'=he ▸ l:=by
  unfold zG4 at h
  split at h
  · rename_i hk _
    split at h
    · rename_i he _
      exact ⟨hk,he,(Option.some.inj h).symm⟩
    · cases h
  · cases h
theorem ziL [BT] (hT:zN P T) {t:Nat} {kk:IntKind} {ei:TI} {ty:Ty} (h:zfd T t=some (kk,ei,ty)) :
    ∃kt et d info z,P.underlying t=some (.map kt et)∧P.underlying kt=some (.int kk)∧y7 P et ei d info z∧ei.ty=some ty∧ty.sc=true:=by
  unfold zfd at h
  split at h
  · rename_i i hti
    obtain ⟨d,info,z,hi⟩:=hT t i hti
    have hk:=hi.kind
    split at h
    · rename_i k e hkk
      rw [hkk] at hk
      obtain ⟨rfl,_⟩:=hk
      split at h
      · rename_i ki ei' hki hei
        split at h
        · rename_i kk' ty' hkk' hty
          cases hsc:ty'.sc with
          | false=>rw [hsc] at h;cases h
          | true =>
            rw [hsc] at h
            cases h
            obtain ⟨dk,infk,zk,hik⟩:=hT _ _ hki
            obtain rfl:=qd hik hkk'
            obtain ⟨de,infe,ze,hie⟩:=hT _ _ hei
            exact ⟨k,e,de,infe,ze,hi.under,hik.under,hie,hty,hsc⟩
        · cases h
      · cases h
    · cases h
  · cases h
theorem zvi {C:Cx} {kk:IntKind} {ix:AV} {n:Int} (h:ziM kk ix=some n) {u:Value} (hu:VRel C ix u):u = .int kk n:=by
  unfold ziM at h
  split at h
  · rename_i k n'
    split at h
    · rename_i hk _
      cases h
      rw [VRel] at hu
      rw [hu,hk]
    · cases h
  · cases h
theorem ZY.length {k:IntKind} {t:Ty} : ∀{l:List (Int×t.T)} {es:List MapEntry},ZY k t l es→es.length=l.length
  | [],_,h=>by rw [ZY] at h;subst h;rfl
  | (n,x)::r,_,h=>by
    rw [ZY] at h
    obtain ⟨e,es',rfl,_,_,hr⟩:=h
    simp [ZY.length hr]
theorem ZY.noKey {k:IntKind} {t:Ty} {n:Int} : ∀{l:List (Int×t.T)} {es:List MapEntry},ZY k t l es→zfG n l=false → ∀x ∈ es,x.key ≠ .int k n
  | [],_,h,_=>by rw [ZY] at h;subst h;intro x hx;cases hx
  | (m,x)::r,_,h,hn=>by
    rw [ZY] at h
    obtain ⟨e,es',rfl,hk,hx,hr⟩:=h
    rw [zfG] at hn
    cases hb:(n == m) with
    | true=>rw [hb] at hn;cases hn
    | false =>
      rw [hb,cond_false] at hn
      intro y hy
      rcases List.mem_cons.1 hy with rfl | hy
      · rw [hk]
        intro e
        cases e
        simp at hb
      · exact ZY.noKey hr hn y hy
theorem ZY.find {k:IntKind} {t:Ty} (n:Int) (z:t.T) : ∀{l:List (Int×t.T)} {es:List MapEntry} (i:Nat),ZY k t l es →
    (zfG n l=false∧Instr.findNow (.int k) (.int k n) es i=some none∧JN n z l=z ∧ ∀x e,e.key = .int k n→zhH t x=some e.val→ZY k t (zdI n x l) (es++[e])) ∨
    ∃j e,zfG n l=true∧Instr.findNow (.int k) (.int k n) es i=some (some (i+j,e.val))∧zhH t (JN n z l)=some e.val∧es[j]? = some e∧e.key = .int k n ∧
      ∀x u (f:MapEntry→MapEntry),(f e).key = .int k n→(f e).val=u→zhH t x=some u→ZY k t (zdI n x l) (es.modify j f)
  | [],_,i,h=>by
    rw [ZY] at h;subst h
    refine .inl ⟨rfl,rfl,rfl,fun x e he hx => ?_⟩
    rw [zdI,ZY]
    exact ⟨e,[],rfl,he,hx,by rw [ZY]⟩
  | (m,x)::r,_,i,h=>by
    rw [ZY] at h
    obtain ⟨e,es',rfl,hk,hx,hr⟩:=h
    by_cases hnm:n=m
    · subst hnm
      refine .inr ⟨0,e,by simp [zfG],by simp [Instr.findNow,hk,Instr.sameNow],by simp [JN,hx],rfl,hk,fun y u f h1 h2 h3 => ?_⟩
      simp only [zdI,beq_self_eq_true,cond_true,ZY,List.modify_zero_cons]
      exact ⟨_,_,rfl,h1,by rw [h2];exact h3,hr⟩
    · have hb:(n == m)=false:=by simp [hnm]
      rcases ZY.find n z (i+1) hr with ⟨h1,h2,h3,h4⟩ | ⟨j,e',h1,h2,h3,h4,h5,h6⟩
      · refine .inl ⟨by simp [zfG,hb,h1],by simp [Instr.findNow,hk,Instr.sameNow,hb,h2],by simp [JN,hb,h3],fun y e0 he hy => ?_⟩
        rw [zdI,hb,cond_false,List.cons_append,ZY]
        exact ⟨e,_,rfl,hk,hx,h4 y e0 he hy⟩
      · refine .inr ⟨j+1,e',by simp [zfG,hb,h1],by simp [Instr.findNow,hk,Instr.sameNow,hb,h2];omega,by simp [JN,hb,h3],by simpa using h4,h5,fun y u f g1 g2 g3 => ?_⟩
        rw [zdI,hb,cond_false,List.modify_succ_cons,ZY]
        exact ⟨e,_,rfl,hk,hx,h6 y u f g1 g2 g3⟩
theorem zmM {C:Cx} {t:Ty} {x:t.T} {u:Value} (h:zhH t x=some u):VRel C (enc t x) u:=by
  cases t <;> simp only [zhH] at h <;> first | (cases h;done) | skip
  all_goals
    cases h
    simp [enc,VRel]
theorem ztn {R:Nat→Prop} {w:World} {t:Ty} (hs:t.sc=true) {x:t.T} {vs:List Value} (h:zJ R w t x vs) : ∃u,vs=[u]∧zhH t x=some u:=by
  cases t <;> simp only [Ty.sc] at hs <;> first | (cases hs;done) | skip
  all_goals
    rw [zJ] at h
    exact ⟨_,h,rfl⟩
section
variable {F:Fr} {C:Cx} {s:St} {tmps:Array Value} {stk:List (Array Value)}
theorem zCT [BT] (hh:zY C) (hs:C.H=s.H) {kk:IntKind} {ty:Ty} {x:AV} {l:List (Int×ty.T)} (h:zdb s kk ty x=some l) {u:Value} (hx:VRel C x u) :
    (x = .nilm∧u = .map none∧l=[]) ∨ ∃i b es ck,x = .map i∧zp C.H i = .mp kk ty l∧C.ρ i=some b∧u = .map (some b)∧C.w.heap[b]? = some (.map es ck)∧ZY kk ty l es.toList∧MapKept.Stamped es ck:=by
  unfold zdb at h
  split at h
  · rw [VRel] at hx
    cases h
    exact .inl ⟨rfl,hx,rfl⟩
  · rename_i i
    rw [← hs] at h
    split at h
    · rename_i k' t' l' hg
      obtain ⟨rfl,he,hl⟩:=zJ4 h
      subst he
      simp only at hl
      subst hl
      rw [VRel] at hx
      obtain ⟨b,hb,rfl,_⟩:=hx
      have:=hh.obj i
      rw [hg] at this
      obtain ⟨b',es,ck,hb',hw,hm,hst⟩:=this
      obtain rfl:b=b':=Option.some.inj (hb.symm.trans hb')
      exact .inr ⟨i,b,es,ck,rfl,hg,hb,rfl,hw,hm,hst⟩
    · cases h
  · cases h
theorem zmm [BT] (hT:zN P T) (hh:zY C) (hs:C.H=s.H) {t:Nat} {x ix:AV} {ok:Bool} {u v:Value} (hx:VRel C x u) (hi:VRel C ix v) {K:AV→Ans} {res:AV×List Obj}
    (h:zeN T t x ix ok s K=some res) : ∃r y,K r=some res∧(Instr.lookup t u v ok).run P C.w = .ok y C.w∧VRel C r y:=by
  unfold zeN at h
  replace h:=zr h;obtain ⟨⟨kk,ei,ty⟩,hm,h⟩:=h
  dsimp only at h
  replace h:=zr h;obtain ⟨n,hn,h⟩:=h
  replace h:=zr h;obtain ⟨l,hl,h⟩:=h
  replace h:=zr h;obtain ⟨z,hz,h⟩:=h
  obtain ⟨kt,et,d,info,zv,hu,hk,he,hty,hsc⟩:=ziL hT hm
  obtain rfl:=zvi hn hi
  have hzd:=zc4 (C:=C) hz (zbz _ he.isz)
  rw [← he.cells] at hzd
  obtain ⟨zu,hzu,hzs⟩:=ztn hsc hzd
  have hzv:zv=zu:=by
    have hone:ei.isAgg=false:=by
      have:=(he.ty ty hty).2.1
      rw [← this]
      cases ty <;> first | rfl | cases hsc
    have hpl:=he.plain hone
    cases zv <;> first | (cases hpl;done) | simpa [Value.cells] using hzu
  have key:IsKey (.int kk) (.int kk n):=rfl
  have fin : ∀(y:Value) (bo:Bool),VRel C (enc ty (JN n z l)) y→zfG n l=bo → ∃r w,K r=some res∧(if ok then Value.tuple #[y,.bool bo] else y)=w∧VRel C r w:=by
    intro y bo hy hb
    cases ok with
    | true=>exact ⟨_,_,h,rfl,by rw [VRel];exact ⟨_,rfl,by simp [VRels,VRel,hy,hb]⟩⟩
    | false=>exact ⟨_,_,h,rfl,hy⟩
  rcases zCT hh hs hl hx with ⟨rfl,rfl,rfl⟩ | ⟨i,b,es,ck,rfl,hg,hb,rfl,hw,hmr,hst⟩
  · obtain ⟨r,w,h1,h2,h3⟩:=fin zu false (zmM hzs) rfl
    refine ⟨r,w,h1,?_,h3⟩
    simp [Instr.lookup,run_underlying hu,MapKept.run_checkKey hk key,MapKept.run_findKey hk (show Instr.findNow (.int kk) (.int kk n) [] 0=some none from rfl),he.run_zero,hzv,← h2]
  · rcases ZY.find n z 0 hmr with ⟨h1,h2,h3,_⟩ | ⟨j,e,h1,h2,h3,h4,h5,_⟩
    · obtain ⟨r,w,g1,g2,g3⟩:=fin zu false (by rw [h3];exact zmM hzs) h1
      refine ⟨r,w,g1,?_,g3⟩
      simp [Instr.lookup,run_underlying hu,MapKept.run_getObj_map hw,MapKept.run_checkKey hk key,MapKept.run_findKey hk h2,he.run_zero,hzv,← g2]
    · obtain ⟨r,w,g1,g2,g3⟩:=fin e.val true (zmM h3) h1
      refine ⟨r,w,g1,?_,g3⟩
      simp [Instr.lookup,run_underlying hu,MapKept.run_getObj_map hw,MapKept.run_checkKey hk key,MapKept.run_findKey hk h2,← g2]
theorem ztN {w:World} {b:Nat} {es:Array MapEntry} {ck:Nat} (hw:w.heap[b]? = some (.map es ck)) (o:_root_.Go.Obj):World.Turned w { w with heap:=w.heap.setIfInBounds b o } b #[]∧(w.heap.setIfInBounds b o)[b]? = some o:=by
  refine ⟨⟨rfl,rfl,rfl,by simp,fun k hk=>by simp [Ne.symm hk],fun c e fr h=>by rw [hw] at h;cases h⟩,?_⟩
  have:=(Array.getElem?_eq_some_iff.1 hw).1
  simp [this]
theorem zM2 [BT] (hT:zN P T) (hS:zB F C s tmps stk) {t:Nat} {x ix y:AV} {u v q:Value} (hx:VRel C x u) (hi:VRel C ix v) (hy:VRel C y q) {K:KV} {res:AV×List Obj}
    (h:zjF T t x ix y s K=some res) : ∃i s' C' w',x = .map i∧K .unk s'=some res∧(Instr.mapUpdate t u v q).run P C.w = .ok () w'∧C'.w=w'∧zB F C' s' tmps stk∧s'.blk=s.blk∧Ze C C' (some [i]):=by
  unfold zjF at h
  cases x <;> simp only at h <;> first | (cases h;done) | skip
  rename_i i
  replace h:=zr h;obtain ⟨⟨kk,ei,ty⟩,hm,h⟩:=h
  dsimp only at h
  replace h:=zr h;obtain ⟨n,hn,h⟩:=h
  replace h:=zr h;obtain ⟨l,hl,h⟩:=h
  replace h:=zr h;obtain ⟨z,hz,h⟩:=h
  rw [YV] at h
  obtain ⟨kt,et,d,info,zv,hu,hk,he,hty,hsc⟩:=ziL hT hm
  obtain rfl:=zvi hn hi
  have key:IsKey (.int kk) (.int kk n):=rfl
  have hzd:=zc4 (C:=C) (vs:=[q]) hz (by rw [VRels];exact ⟨q,[],rfl,hy,by rw [VRels]⟩)
  obtain ⟨zu,hzu,hzs⟩:=ztn hsc hzd
  obtain rfl:q=zu:=by simpa using hzu
  rcases zCT hS.heap hS.H hl hx with ⟨e,_⟩ | ⟨i',b,es,ck,e,hg,hb,rfl,hw,hmr,hst⟩
  · cases e
  · cases e
    have fin : ∀o:_root_.Go.Obj,(Instr.mapUpdate t (.map (some b)) (.int kk n) q).run P C.w = .ok () { C.w with heap:=C.w.heap.setIfInBounds b o } →
        (∃es' ck',o = .map es' ck'∧ZY kk ty (zdI n z l) es'.toList∧MapKept.Stamped es' ck') → ∃i' s' C' w',AV.map i = .map i'∧K .unk s'=some res∧(Instr.mapUpdate t (.map (some b)) (.int kk n) q).run P C.w = .ok () w'∧C'.w=w'∧zB F C' s' tmps stk∧s'.blk=s.blk∧Ze C C' (some [i']):=by
      rintro o hrun ⟨es',ck',rfl,hm',hst'⟩
      obtain ⟨t1,t2⟩:=ztN hw (.map es' ck')
      have hsh:ZR (.mp kk ty l) (.mp kk ty (zdI n z l)) := .mp kk ty l _
      exact ⟨i,_,_,_,rfl,h,hrun,rfl,qY hS hg hb hsh t1 ⟨b,es',ck',rfl,t2,hm',hst'⟩,rfl,zbr hg hb hsh t1⟩
    rcases ZY.find n z 0 hmr with ⟨h1,h2,_,h4⟩ | ⟨j,e,h1,h2,h3,h4,h5,h6⟩
    · refine fin (.map (es.push ⟨.int kk n,q,ck⟩) (ck+1)) ?_ ⟨_,_,rfl,?_,MapKept.stamped_push hst (hmr.noKey h1)⟩
      · simp [Instr.mapUpdate,run_underlying hu,MapKept.run_getObj_map hw,MapKept.run_checkKey hk key,MapKept.run_findKey hk h2,MapKept.run_setObj_map _ hw]
      · rw [Array.toList_push]
        exact h4 z _ rfl hzs
    · have hj:es[j]? = some e:=by simpa using h4
      refine fin (.map (es.modify j fun e=>{ e with key := .int kk n,val:=q }) ck) ?_ ⟨_,_,rfl,?_,MapKept.stamped_modify hst j _ (fun _ _=>rfl) (fun e' _ he'=>by rw [hj] at he';cases he';exact h5.symm)⟩
      · simp [Instr.mapUpdate,run_underlying hu,MapKept.run_getObj_map hw,MapKept.run_checkKey hk key,MapKept.run_findKey hk h2,hj,h5,MapKept.run_keyThatStays key,MapKept.run_setObj_map _ hw]
      · rw [Array.toList_modify]
        exact h6 z q _ rfl rfl hzs
theorem zGI [BT] (hT:zN P T) (hS:zB F C s tmps stk) {t:Nat} {r:Option Operand} {K:KV} {res:AV×List Obj} (h:zmR T t r s K=some res) :
    ∃i s' C' z w',r=none∧K i s'=some res∧(Instr.makeMap t none).run P C.w = .ok z w'∧C'.w=w'∧zB F C' s' tmps stk∧VRel C' i z∧s'.blk=s.blk∧Z0 C C':=by
  unfold zmR at h
  cases r <;> simp only at h <;> first | (cases h;done) | skip
  replace h:=zr h;obtain ⟨⟨kk,ei,ty⟩,hm,h⟩:=h
  dsimp only at h
  rw [Y5] at h
  have hw:=Yn C.w (.map #[] 0)
  have hp:=J6 (o := .mp kk ty []) (r:=some C.w.heap.size) hS hw (.inr rfl) (fun h=>by cases h) ⟨C.w.heap.size,#[],0,rfl,hw.new,by rw [ZY],MapKept.stamped_empty 0⟩
  refine ⟨_,_,_,.map (some C.w.heap.size),_,rfl,h,?_,rfl,hp,?_,rfl,zb4 hw (.inr rfl)⟩
  · simp [Instr.makeMap]
    try rfl
  · rw [VRel]
    refine ⟨C.w.heap.size,by simp [Cx.push,hS.H],rfl,?_⟩
    unfold zA
    show zp (C.H++[_]) s.H.length≠_
    rw [← hS.H,Yv]
    simp
theorem zKZ [BT] (hS:zB F C s tmps stk) {x:AV} {u:Value} (hx:VRel C x u) {K:KV} {res:AV×List Obj} (h:zH9 x s K=some res) :
    ∃n b es ck,K (.int .i64 n) s=some res∧u = .map (some b)∧C.w.heap[b]? = some (.map es ck)∧(es.size:Int)=n:=by
  unfold zH9 at h
  cases x <;> simp only at h <;> first | (cases h;done) | skip
  rename_i i
  rw [← hS.H] at h
  split at h
  · rename_i k t l hg
    rw [VRel] at hx
    obtain ⟨b,hb,rfl,_⟩:=hx
    have:=hS.heap.obj i
    rw [hg] at this
    obtain ⟨b',es,ck,hb',hw,hm,hst⟩:=this
    obtain rfl:b=b':=Option.some.inj (hb.symm.trans hb')
    exact ⟨_,b,es,ck,h,rfl,hw,by have:=hm.length;simp only [Array.length_toList] at this;rw [this]⟩
  · cases h
def zUj:AV→Option (List Nat)
  | .map n=>some [n]
  | _=>none
theorem zOj [BT] (hS:zB F C s tmps stk) {x:AV} {u:Value} (hx:VRel C x u) {K:KV} {res:AV×List Obj} (h:zA0 x s K=some res) {t:Nat} (ty:TypeId) :
    ∃s' C',K (.tup []) s'=some res∧zB F C' s' tmps stk∧s'.blk=s.blk∧Ze C C' (zUj x) ∧
      (∀d,P.underlying t=some d→(Builtin.clear_ #[t] ty #[u]).run P C.w = .ok (.tuple #[]) C'.w):=by
  unfold zA0 at h
  cases x <;> simp only at h <;> first | (cases h;done) | skip
  case nilm =>
    rw [VRel] at hx
    subst hx
    exact ⟨s,C,h,hS,rfl,trivial,fun d hd=>by simp [Builtin.clear_,run_underlying hd]⟩
  case map i =>
    rw [← hS.H] at h
    split at h
    · rename_i k t' l hg
      rw [YV] at h
      rw [VRel] at hx
      obtain ⟨b,hb,rfl,_⟩:=hx
      have:=hS.heap.obj i
      rw [hg] at this
      obtain ⟨b',es,ck,hb',hw,hm,hst⟩:=this
      obtain rfl:b=b':=Option.some.inj (hb.symm.trans hb')
      obtain ⟨t1,t2⟩:=ztN hw (.map #[] ck)
      have hsh:ZR (.mp k t' l) (.mp k t' []) := .mp k t' l _
      refine ⟨_,_,h,qY hS hg hb hsh t1 ⟨b,#[],ck,rfl,t2,by rw [ZY],MapKept.stamped_empty ck⟩,rfl,zbr hg hb hsh t1,fun d hd => ?_⟩
      simp [Builtin.clear_,run_underlying hd,MapKept.run_getObj_map hw,MapKept.run_setObj_map _ hw]
    · cases h
theorem zWH [BT] (hS:zB F C s tmps stk) {n blk off:Nat} {ty:Ty} {a b:List ty.T} {c:Array Value} {e:TypeId} {fr:Nat×Nat} {news:List Value}
    (hg:zp C.H n = .arr ty a) (hρ:C.ρ n=some blk) (hw:C.w.heap[blk]? = some (.cells c e fr)) (hfr:qX fr c.size) (hl:a.length*ty.size≤c.size)
    (hea : ∀k x,a[k]? = some x → ∃us,zJ C.R C.w ty x us ∧ ∀q u,us[q]? = some u→c[k*ty.size+q]? = some u)
    (hb:off+b.length≤a.length) (hnl:news.length=b.length*ty.size)
    (hel : ∀k x,b[k]? = some x → ∃us,zJ C.R C.w ty x us ∧ ∀q u,us[q]? = some u→news[k*ty.size+q]? = some u) {L:List ty.T} (hL:L=a.take off++(b++a.drop (off+b.length))) :
    zB F ⟨C.R,C.ρ,Zc C.H n (.arr ty L),C.w.setCells blk (off*ty.size) news⟩ { s with H:=Zc s.H n (.arr ty L) } tmps stk ∧
    Ze C ⟨C.R,C.ρ,Zc C.H n (.arr ty L),C.w.setCells blk (off*ty.size) news⟩ (some [n]):=by
  have hmul:(off+b.length)*ty.size≤a.length*ty.size:=Nat.mul_le_mul_right _ hb
  rw [Nat.add_mul] at hmul
  obtain ⟨c',hc1,hc2⟩:=y5 blk news (off*ty.size) C.w c e fr hw (by omega)
  obtain ⟨r1,r2,r3,r4,r5⟩:=YN blk news (off*ty.size) C.w
  have hcsz:c'.size=c.size:=by rw [← Array.length_toList,hc2];simp;omega
  have htn:World.Turned C.w (C.w.setCells blk (off*ty.size) news) blk c':=⟨r1,r2,r3,r4,r5,fun c0 e0 fr0 h0=>by
    rw [hw] at h0;cases h0;exact ⟨hc1,hcsz⟩⟩
  have hLl:L.length=a.length:=by rw [hL];simp;omega
  have hby:ty = .int .u8→e=BT.byte:=by
    rcases zeB hS.heap hg with ⟨hn,_⟩ | ⟨b',c0,e',fr',hb',hw',_,_,_,hby⟩
    · rw [hn] at hρ;cases hρ
    · obtain rfl:blk=b':=Option.some.inj (hρ.symm.trans hb')
      rw [hw] at hw';cases hw'
      exact hby
  have hsh:ZR (.arr ty a) (.arr ty L) := .arr ty a _ hLl
  have hln:zA C.H n:=by unfold zA;rw [hg];simp
  have hRR:=zbC hS hln hρ htn
  refine ⟨qY hS hg hρ hsh htn (.inr ⟨blk,c',e,fr,rfl,hc1,by rw [hcsz];exact hfr,by rw [hcsz,hLl];exact hl,?_,hby⟩),zbr hg hρ hsh htn⟩
  have hcell : ∀q,c'[q]? = if q<off*ty.size then c[q]? else if q<off*ty.size+news.length then news[q - off*ty.size]? else c[q]? := by
    intro q
    rw [← Array.getElem?_toList,hc2]
    split
    · rename_i hq
      rw [List.append_assoc,List.getElem?_append_left (by simp;omega),List.getElem?_take_of_lt hq,Array.getElem?_toList]
    · rename_i hq
      split
      · rename_i hq2
        rw [List.append_assoc,List.getElem?_append_right (by simp;omega),List.getElem?_append_left (by simp;omega)]
        simp only [List.length_take,Array.length_toList]
        rw [Nat.min_eq_left (by omega)]
      · rename_i hq2
        rw [List.getElem?_append_right (by simp;omega),List.getElem?_drop,Array.getElem?_toList]
        congr 1
        simp
        omega
  intro k y hk
  rw [hL] at hk
  have old:a[k]? = some y→(k<off∨off+b.length≤k) → ∃us,zJ C.R (C.w.setCells blk (off*ty.size) news) ty y us ∧ ∀q u,us[q]? = some u→c'[k*ty.size+q]? = some u:=by
    intro hk hor
    obtain ⟨us,hd,hu⟩:=hea k y hk
    refine ⟨us,zJ.mono hRR hd,fun q u hq => ?_⟩
    have hql:=(List.getElem?_eq_some_iff.1 hq).1
    rw [hd.length] at hql
    rw [hcell]
    rcases hor with h | h
    · have:(k+1)*ty.size≤off*ty.size:=Nat.mul_le_mul_right _ h
      rw [Nat.add_mul,Nat.one_mul] at this
      rw [if_pos (by omega)]
      exact hu q u hq
    · have:(off+b.length)*ty.size≤k*ty.size:=Nat.mul_le_mul_right _ h
      rw [Nat.add_mul] at this
      rw [if_neg (by omega),if_neg (by omega)]
      exact hu q u hq
  by_cases h1:k<off
  · rw [List.getElem?_append_left (by simp;omega),List.getElem?_take_of_lt h1] at hk
    exact old hk (.inl h1)
  · rw [List.getElem?_append_right (by simp;omega)] at hk
    simp only [List.length_take] at hk
    rw [Nat.min_eq_left (by omega)] at hk
    by_cases h2:k<off+b.length
    · rw [List.getElem?_append_left (by omega)] at hk
      obtain ⟨us,hd,hu⟩:=hel _ y hk
      refine ⟨us,zJ.mono hRR hd,fun q u hq => ?_⟩
      have hql:=(List.getElem?_eq_some_iff.1 hq).1
      rw [hd.length] at hql
      have m1:(k - off+1)*ty.size≤b.length*ty.size:=Nat.mul_le_mul_right _ (by omega)
      rw [Nat.add_mul,Nat.one_mul] at m1
      have m2:k*ty.size=off*ty.size+(k - off)*ty.size:=by rw [← Nat.add_mul];congr 1;omega
      rw [hcell,if_neg (by omega),if_pos (by omega),← hu q u hq]
      congr 1
      omega
    · rw [List.getElem?_append_right (by omega),List.getElem?_drop] at hk
      have e:off+b.length+(k - off - b.length)=k:=by omega
      rw [e] at hk
      exact old hk (.inr (by omega))
theorem zWm {C:Cx} [BT] (hh:zY C) {s:St} (hs:C.H=s.H) {ety:Ty} {size:Nat} (hesz:ety.size=size) {y:AV} {v:Value} (hy:VRel C y v) {K:List ety.T→Ans} {res:AV×List Obj} (h:zXX s ety y K=some res) :
    ∃b:List ety.T,K b=some res∧(∀m,m≤b.length → ∃news:List Value,(Builtin.firstCells size m v).run P C.w = .ok news.toArray C.w∧news.length=(b.take m).length*ety.size∧(∀x ∈ news,x.oneCell'=true) ∧
      ∀k x,(b.take m)[k]? = some x → ∃us,zJ C.R C.w ety x us ∧ ∀q u,us[q]? = some u→news[k*ety.size+q]? = some u)∧(Builtin.lenOf v).run P C.w = .ok b.length C.w:=by
  subst hesz
  by_cases hstr : ∃a,y = .str a
  · obtain ⟨a,rfl⟩:=hstr
    unfold zXX at h
    dsimp only at h
    replace h:=zr h;obtain ⟨b,hb,h⟩:=h
    obtain ⟨he,hbb⟩:=yM hb
    subst he
    simp at hbb
    subst hbb
    rw [VRel] at hy
    subst hy
    refine ⟨_,h,fun m hm => ?_,by simp [Builtin.lenOf,Zg,ByteArray.size]⟩
    refine ⟨(a.take m).map fun c=>Value.int .u8 (c.toNat:Int),?_,by simp [Zg,Ty.size],fun x hx => ?_,?_⟩
    · have e:(ByteArray.extract ⟨a.toArray⟩ 0 m).data=(a.take m).toArray:=by simp [ByteArray.data_extract]
      simp [Builtin.firstCells,e]
    · obtain ⟨c,_,rfl⟩:=List.mem_map.1 hx;rfl
    · have e:(Zg a).take m=Zg (a.take m):=by simp [Zg,List.map_take]
      intro k x hk
      rw [e] at hk
      exact zih (a.take m) k x hk
  · have h':zG6 s ety y K=some res:=by
      unfold zXX at h
      split at h
      · rename_i a;exact (hstr ⟨a,rfl⟩).elim
      · exact h
    rw [z7m] at h'
    replace h':=zr h';obtain ⟨b,hb,h'⟩:=h'
    obtain ⟨A,cp,news0,hv,hrow⟩:=zig hh hs hb hy
    refine ⟨b,h',?_,by subst hv;simp [Builtin.lenOf]⟩
    intro m hm
    have hmul:m*ety.size≤b.length*ety.size:=Nat.mul_le_mul_right _ hm
    have hlen:(news0.take (m*ety.size)).length=m*ety.size:=by rw [List.length_take,hrow.len,Nat.min_eq_left hmul]
    refine ⟨news0.take (m*ety.size),?_,by rw [hlen];simp [Nat.min_eq_left hm],fun x hx=>hrow.one x (List.mem_of_mem_take hx),fun k x hk => ?_⟩
    · have:=zf3 (P:=P) C.w (A:=A) (n:=m) (c:=cp) (size:=ety.size) hlen (fun a ha q v hq=>by
        rw [List.getElem?_take] at hq
        split at hq
        · exact hrow.cell a ha q v hq
        · cases hq) (fun hA=>by have:=hrow.nil hA;rw [this] at hm;simpa using hm)
      subst hv
      cases A with
      | none=>simpa [Builtin.firstCells] using this
      | some a0=>simpa [Builtin.firstCells] using this
    · rw [List.getElem?_take] at hk
      split at hk
      · rename_i hkm
        obtain ⟨us,hd,hu⟩:=hrow.el k x hk
        refine ⟨us,hd,fun q u hq => ?_⟩
        have hql:=(List.getElem?_eq_some_iff.1 hq).1
        rw [hd.length] at hql
        have:(k+1)*ety.size≤m*ety.size:=Nat.mul_le_mul_right _ hkm
        rw [Nat.add_mul,Nat.one_mul] at this
        rw [List.getElem?_take_of_lt (by omega)]
        exact hu q u hq
      · cases hk
theorem zWt [BT] (hT:zN P T) (hS:zB F C s tmps stk) {t t2:Nat} {x y:AV} {u v:Value} (hx:VRel C x u) (hy:VRel C y v) {K:KV} {res:AV×List Obj}
    (h:zJX T t x y s K=some res) (ty:TypeId) :
    ∃r s' C' z w',K r s'=some res∧(Builtin.copy_ #[t,t2] ty #[u,v]).run P C.w = .ok z w'∧C'.w=w'∧zB F C' s' tmps stk∧VRel C' r z∧s'.blk=s.blk ∧
      Ze C C' (zh7 x):=by
  unfold zJX at h
  replace h:=zr h;obtain ⟨⟨e,j⟩,hej,h⟩:=h
  dsimp only at h
  replace h:=zr h;obtain ⟨ety,hety,h⟩:=h
  obtain ⟨⟨i,info,z,hi⟩,d',info',z',hj⟩:=zbZ hT hej
  have hesz:=(hj.ty ety hety).1
  have hh:=hS.heap
  obtain ⟨b,h,src,hlenv⟩:=zWm (P:=P) hh hS.H hesz hy h
  -- no row
  have none' : ∀c0,u = .slice none 0 c0→(Builtin.copy_ #[t,t2] ty #[u,v]).run P C.w = .ok (.int .i64 0) C.w:=by
    rintro c0 rfl
    obtain ⟨news,hn1,_,_,_⟩:=src 0 (Nat.zero_le _)
    simp [Builtin.copy_,run_underlying hi.under,hj.run_sizeOf,hlenv,hn1,goInt]
  -- into a row
  have put : ∀(n off len cap blk:Nat) (a:List ety.T) (c:Array Value) (e':TypeId) (fr:Nat×Nat) (L:List ety.T),zp C.H n = .arr ety a→C.ρ n=some blk→C.w.heap[blk]? = some (.cells c e' fr)→qX fr c.size→a.length*ety.size≤c.size →
      (∀k x,a[k]? = some x → ∃us,zJ C.R C.w ety x us ∧ ∀q u,us[q]? = some u→c[k*ety.size+q]? = some u)→off+len≤a.length→u = .slice (some ⟨blk,off*ety.size,none⟩) len cap →
      L=a.take off++(b.take len++a.drop (off+Nat.min b.length len)) →
      K (.int .i64 (Nat.min b.length len:Nat)) { s with H:=Zc s.H n (.arr ety L) }=some res →
      ∃r s' C' z w',K r s'=some res∧(Builtin.copy_ #[t,t2] ty #[u,v]).run P C.w = .ok z w'∧C'.w=w'∧zB F C' s' tmps stk∧VRel C' r z∧s'.blk=s.blk∧Ze C C' (some [n]):=by
    rintro n off len cap blk a c e' fr L hg hρ hw hfr hl hea hle rfl hL h
    obtain ⟨news,hn1,hn2,hn3,hn4⟩:=src (Nat.min b.length len) (Nat.min_le_left _ _)
    have htk:b.take (Nat.min b.length len)=b.take len:=by
      rcases Nat.le_total b.length len with h | h
      · rw [show Nat.min b.length len=b.length from Nat.min_eq_left h,List.take_of_length_le (Nat.le_refl _),List.take_of_length_le h]
      · rw [show Nat.min b.length len=len from Nat.min_eq_right h]
    rw [htk] at hn2 hn4
    have hbl:(b.take len).length=Nat.min b.length len:=by rw [List.length_take];exact Nat.min_comm _ _
    obtain ⟨g1,g2⟩:=zWH hS (off:=off) (b:=b.take len) (news:=news) (L:=L) hg hρ hw hfr hl hea (by rw [List.length_take];omega) hn2 hn4 (by rw [hL,hbl])
    refine ⟨_,_,_,.int .i64 (Nat.min b.length len:Nat),_,h,?_,rfl,g1,by rw [VRel],rfl,g2⟩
    have hmul:(off+(b.take len).length)*ety.size≤a.length*ety.size:=Nat.mul_le_mul_right _ (by rw [List.length_take];omega)
    rw [Nat.add_mul] at hmul
    have hst:=run_storeCells_cells (P:=P) blk (off*ety.size) news 0 C.w (fun q hq=>by
        rw [cell_blk (blkOf_cells hw),Array.getElem?_eq_getElem (by omega)];rfl)
      (fun q hq=>zhW hw hfr (by omega)) hn3
    rw [Nat.add_zero] at hst
    simp [Builtin.copy_,run_underlying hi.under,hj.run_sizeOf,hlenv,hn1,goInt,hst]
  cases x with
  | nils =>
    simp only at h
    rw [VRel] at hx
    exact ⟨_,_,C,_,_,h,none' 0 hx,rfl,hS,by rw [VRel],rfl,trivial⟩
  | own n =>
    simp only at h
    rw [VRel] at hx
    obtain ⟨t0,l0,hg,hx⟩:=hx
    rw [← hS.H,hg] at h
    simp only at h
    replace h:=zr h;obtain ⟨a,ha,h⟩:=h
    obtain ⟨he,haa⟩:=yM ha
    subst he
    simp at haa
    subst haa
    rw [YV] at h
    rcases hx with ⟨hn,rfl,rfl⟩ | ⟨b0,c,cap,hb0,hc,hcap,hcs,rfl⟩
    · have hz:Zc s.H n (.arr t0 (b.take ([]:List t0.T).length++([]:List t0.T).drop b.length))=s.H:=by
        have hnl:n<s.H.length:=by rw [← hS.H];exact Z7 (by unfold zA;rw [hg];simp)
        rw [zbE]
        refine List.ext_getElem? fun q => ?_
        by_cases hq:q=n
        · subst hq
          rw [List.getElem?_set_self hnl]
          have:=ZJ s.H q
          rw [← hS.H,hg,hS.H,List.getElem?_eq_getElem hnl] at this
          rw [List.getElem?_eq_getElem hnl]
          simp at this ⊢
          exact this
        · rw [List.getElem?_set_ne (Ne.symm hq)]
      rw [hz] at h
      have e0:((Nat.min b.length ([]:List t0.T).length:Nat):Int)=0:=by simp
      rw [e0] at h
      exact ⟨_,_,C,_,_,h,none' 0 rfl,rfl,hS,by rw [VRel],rfl,fun b hb _=>Z0.refl C b hb⟩
    · rcases zbv hh hg with ⟨hn,_⟩ | ⟨b',c',e',fr,hb',hw,hfr,hl,hea⟩
      · rw [hn] at hb0;cases hb0
      · obtain rfl:b0=b':=Option.some.inj (hb0.symm.trans hb')
        refine put n 0 a.length cap b0 a c' e' fr _ hg hb0 hw hfr hl hea (by omega) (by simp) ?_ h
        rw [List.take_zero,List.nil_append,Nat.zero_add]
        congr 1
        rcases Nat.le_total b.length a.length with hle | hle
        · rw [show Nat.min b.length a.length=b.length from Nat.min_eq_left hle]
        · rw [show Nat.min b.length a.length=a.length from Nat.min_eq_right hle,List.drop_eq_nil_of_le hle,List.drop_eq_nil_of_le (Nat.le_refl _)]
  | sub n off len es =>
    simp only at h
    rw [← hS.H] at h
    split at h
    · rename_i t0 l0 hg
      replace h:=zI h;obtain ⟨hc0,h⟩:=h
      have hle:=Nat.le_of_ble_eq_true hc0
      replace h:=zr h;obtain ⟨a,ha,h⟩:=h
      obtain ⟨he,haa⟩:=yM ha
      subst he
      simp at haa
      subst haa
      rw [YV] at h
      have hK:=h
      rw [VRel] at hx
      obtain ⟨A',cap,rfl,hlc,hx⟩:=hx
      have zero:len=0→Zc s.H n (.arr t0 (a.take off++(b.take len++a.drop (off+Nat.min b.length len))))=s.H:=by
        rintro rfl
        have hnl:n<s.H.length:=by rw [← hS.H];exact Z7 (by unfold zA;rw [hg];simp)
        have e1:a.take off++(b.take 0++a.drop (off+Nat.min b.length 0))=a:=by
          rw [show Nat.min b.length 0=0 from Nat.min_eq_right (Nat.zero_le _)];simp
        rw [e1,zbE]
        refine List.ext_getElem? fun q => ?_
        by_cases hq:q=n
        · subst hq
          rw [List.getElem?_set_self hnl]
          have:=ZJ s.H q
          rw [← hS.H,hg,hS.H,List.getElem?_eq_getElem hnl] at this
          rw [List.getElem?_eq_getElem hnl]
          simp at this ⊢
          exact this
        · rw [List.getElem?_set_ne (Ne.symm hq)]
      have zrun:len=0 → ∃w',(Builtin.copy_ #[t,t2] ty #[.slice A' len cap,v]).run P C.w = .ok (.int .i64 (Nat.min b.length len:Nat)) w'∧w'=C.w:=by
        rintro rfl
        obtain ⟨news,hn1,hn2,_,_⟩:=src 0 (Nat.zero_le _)
        have hnn:news=[]:=List.eq_nil_of_length_eq_zero (by rw [hn2];simp)
        subst hnn
        refine ⟨_,?_,rfl⟩
        cases A' with
        | none=>simp [Builtin.copy_,run_underlying hi.under,hj.run_sizeOf,hlenv,hn1,goInt]
        | some a0=>simp [Builtin.copy_,run_underlying hi.under,hj.run_sizeOf,hlenv,hn1,goInt,storeCells]
      rcases hx with ⟨h0,_⟩ | ⟨h0,_⟩ | ⟨b0,hb0,rfl,c,hc,hcs,hm⟩
      · obtain ⟨w',z1,rfl⟩:=zrun h0
        rw [zero h0] at h
        exact ⟨_,_,C,_,_,h,z1,rfl,hS,by rw [VRel],rfl,fun b hb _=>Z0.refl C b hb⟩
      · obtain ⟨w',z1,rfl⟩:=zrun h0
        rw [zero h0] at h
        exact ⟨_,_,C,_,_,h,z1,rfl,hS,by rw [VRel],rfl,fun b hb _=>Z0.refl C b hb⟩
      · rw [hg] at hm
        obtain ⟨rfl,_⟩:=hm
        rcases zbv hh hg with ⟨hn,_⟩ | ⟨b',c',e',fr,hb',hw,hfr,hl,hea⟩
        · rw [hn] at hb0;cases hb0
        · obtain rfl:b0=b':=Option.some.inj (hb0.symm.trans hb')
          exact put n off len cap b0 a c' e' fr _ hg hb0 hw hfr hl hea hle rfl rfl hK
    · cases h
  | _=>cases h
end
end Go.AE
namespace Go.AE
variable {P:Program} {T:Tab}
section
variable {F:Fr} {C:Cx} {s:St} {tmps:Array Value} {stk:List (Array Value)}
def z3I (C:Cx) (r:AV) (nx:Next):Prop:=(∃v,nx = .value v∧VRel C r v)∨(nx = .skip∧r = .unk)
theorem ZB {C:Cx} {r:AV} {v:Value} (h:VRel C r v):z3I C r (.value v) := .inl ⟨v,rfl,h⟩
theorem zLJ [BT] (hT:zN P T) {a:Act} (hS:zB F C s a.tmps stk) {o:Oper} {K:KV} {res:AV×List Obj} (h:YD T o s K=some res) :
    ∃r s' C' nx,K r s'=some res∧(execOp a.eval o).run P C.w = .ok nx C'.w∧zB F C' s' a.tmps stk∧z3I C' r nx∧s'.blk=s.blk∧Ze C C' (Zt s o):=by
  have he:=hS.env
  unfold YD at h
  cases ho:o.op <;> rw [ho] at h <;> simp only at h <;> first | (cases h;done) | skip
  case assign x =>
    obtain ⟨r,s',C',h1,h2,h3,h4⟩:=Yy hS (zR he x) h
    exact ⟨r,s',C',_,h1,by rw [h3];simp [execOp,ho],h2.1,ZB h4,h2.2.2.2.2,by unfold Zt ZI;rw [ho];exact Ze.of0 h2.2.1.foot⟩
  case alloc t =>
    obtain ⟨r,s',C',z,h1,h2,h3,h4,h5,h6⟩:=zfq hT hS h
    rw [Y5] at h1
    obtain ⟨C'',k1,k2,k3⟩:=zvz (T:=T) (t:=t) h2.1 t rfl h5 h6
    refine ⟨_,_,C'',_,h1,?_,k1.1,ZB k3,k1.2.2.2.2.trans h2.2.2.2.2,by unfold Zt ZI;rw [ho];exact Ze.of0 (h2.2.1.foot.trans k1.2.1.foot)⟩
    rw [k2,h3]
    simp [execOp,ho,Instr.alloc,newVar,newRow,h4]
    try rfl
  case box t x =>
    replace h:=zr h;obtain ⟨i,hti,h⟩:=h
    obtain ⟨r,s',C',h1,h2,h3,h4⟩:=Yy hS (zR he x) h
    replace h1:=zI h1;obtain ⟨hc,h1⟩:=h1
    simp only [Bool.and_eq_true] at hc
    rw [Y5] at h1
    obtain ⟨hcv,hco⟩:=zfW h4 hc.2
    obtain ⟨C'',k1,k2,k3,k4⟩:=zi4 h2.1 t (0,0) (qD _) hcv hco (Yn C'.w _)
    refine ⟨_,_,C'',.value (.pointer (some ⟨C.w.heap.size,0,none⟩)),h1,?_,k1.1,ZB ?_,k1.2.2.2.2.trans h2.2.2.2.2,by unfold Zt ZI;rw [ho];exact Ze.of0 (h2.2.1.foot.trans k1.2.1.foot)⟩
    · rw [k2,h3]
      simp [execOp,ho,Instr.box,newVar,newRow]
      try rfl
    · rw [VRel]
      exact ⟨_,by rw [k3,h3],rfl,by unfold zA;rw [k4];simp⟩
  case build t parts =>
    replace h:=zr h;obtain ⟨i,hti,h⟩:=h
    replace h:=zI h;obtain ⟨hok,h⟩:=h
    obtain ⟨r,s',C',z,h1,h2,h3,h4,h5,h6⟩:=zfq hT hS h
    replace h1:=zr h1;obtain ⟨cs,hcs,h1⟩:=h1
    rw [YC] at h1
    obtain ⟨hn,hv⟩:=ziX (C:=C) he parts.toList
    obtain ⟨u,hu,hr⟩:=zqH (C:=C') hT hti hok h4 h5 h6
      (parts':=parts.map fun (i,x)=>(i,a.eval x)) (by rw [Array.toList_map];exact hn) (by rw [Array.toList_map];exact h2.2.1.vals hv) hcs
    refine ⟨_,_,C',_,h1,?_,h2.1,ZB hr,h2.2.2.2.2,by unfold Zt ZI;rw [ho];exact Ze.of0 h2.2.1.foot⟩
    rw [h3]
    simp [execOp,ho,hu C.w]
  case buildSlice t len parts =>
    obtain ⟨hn,hv⟩:=ziX (C:=C) he parts.toList
    obtain ⟨r,s',C',z,w',h1,h2,h3,h4,h5,h6,h7⟩:=zq0 hT hS (parts':=parts.map fun (i,x)=>(i,a.eval x)) (by rw [Array.toList_map];exact hn) (by rw [Array.toList_map];exact hv) h
    subst h3
    exact ⟨r,s',C',_,h1,by simp [execOp,ho,h2],h4,ZB h5,h6,by unfold Zt ZI;rw [ho];exact Ze.of0 h7⟩
  case store t p x =>
    obtain ⟨r,s',C',h1,h2,h3,h4⟩:=Yy hS (zR he x) h
    obtain ⟨s'',C'',w',k1,k2,k3,k4,_,_,k5,k6⟩:=zN8 hT h2.1 (h2.2.1.val (zR he p)) h4 h1
    subst k3
    refine ⟨_,s'',C'',.skip,k1,?_,k4,.inr ⟨rfl,rfl⟩,k5.trans h2.2.2.2.2,by
      have e:Zt s o=zWM (opd s.env p):=by unfold Zt ZI zWM;rw [ho];rfl
      rw [e]
      exact k6.after h2.2.1.foot⟩
    rw [h3] at k2
    simp [execOp,ho,k2]
  case makeSlice t l c =>
    obtain ⟨r,s',C',z,w',h1,h2,h3,h4,h5,h6,h7⟩:=zv7 hT hS (zR he l) (zR he c) h
    subst h3
    exact ⟨r,s',C',_,h1,by simp [execOp,ho,h2],h4,ZB h5,h6,by unfold Zt ZI;rw [ho];exact Ze.of0 h7⟩
  case convert src dst x =>
    obtain ⟨r,s',C',z,w',h1,h2,h3,h4,h5,h6,h7⟩:=zFS hT hS (zR he x) h
    subst h3
    exact ⟨r,s',C',_,h1,by simp [execOp,ho,h2],h4,ZB h5,h6,by unfold Zt ZI;rw [ho];exact Ze.of0 h7⟩
  case lookup t x ix ok =>
    obtain ⟨r,y,h1,h2,h3⟩:=zmm hT hS.heap hS.H (zR he x) (zR he ix) h
    exact ⟨r,s,C,_,h1,by simp [execOp,ho,h2],hS,ZB h3,rfl,by unfold Zt ZI;rw [ho];exact Ze.of0 (Z0.refl C)⟩
  case mapUpdate t x ix y =>
    obtain ⟨i,s',C',w',hi,h1,h2,h3,h4,h5,h6⟩:=zM2 hT hS (zR he x) (zR he ix) (zR he y) h
    subst h3
    refine ⟨_,s',C',.skip,h1,?_,h4,.inr ⟨rfl,rfl⟩,h5,by
      have e:Zt s o=some [i]:=by unfold Zt ZI;rw [ho];simp only [hi];rfl
      rw [e]
      exact h6⟩
    simp [execOp,ho,h2]
  case makeMap t r =>
    obtain ⟨i,s',C',z,w',hr,h1,h2,h3,h4,h5,h6,h7⟩:=zGI hT hS h
    subst h3
    subst hr
    exact ⟨i,s',C',_,h1,by simp [execOp,ho,h2],h4,ZB h5,h6,by unfold Zt ZI;rw [ho];exact Ze.of0 h7⟩
  case call c =>
    cases hc:c.callee <;> rw [hc] at h <;> first | (cases h;done) | skip
    rename_i b
    cases b <;> simp only at h <;> first | (cases h;done) | skip
    case copy =>
      split at h
      · rename_i x y t t2 hx ht
        have hargs:c.args.map a.eval = #[a.eval x,a.eval y]:=by
          have:(c.args.map a.eval).toList=[a.eval x,a.eval y]:=by rw [Array.toList_map,hx];rfl
          rw [← ZP (c.args.map a.eval),this]
        have htys:c.argTypes = #[t,t2]:=by rw [← ZP c.argTypes,ht]
        obtain ⟨r',s'',C'',z,w',k1,k2,k3,k4,k5,k6,k7⟩:=zWt (t2:=t2) hT hS (zR he x) (zR he y) h o.type
        subst k3
        refine ⟨r',s'',C'',_,k1,by simp [execOp,ho,resolve,hc,invoke,builtin,hargs,htys,k2],k4,ZB k5,k6,?_⟩
        have e:Zt s o=zh7 (opd s.env x):=by unfold Zt ZI zh7;rw [ho];simp only [hc,hx];rfl
        rw [e]
        exact k7
      · cases h
    case len =>
      split at h
      · rename_i x t hx ht
        have hargs:c.args.map a.eval = #[a.eval x]:=by
          have:(c.args.map a.eval).toList=[a.eval x]:=by rw [Array.toList_map,hx];rfl
          rw [← ZP (c.args.map a.eval),this]
        have htys:c.argTypes = #[t]:=by rw [← ZP c.argTypes,ht]
        replace h:=zr h;obtain ⟨⟨kk,ei,ty⟩,hm,h⟩:=h
        obtain ⟨kt,et,d,info,zv,hu,_⟩:=ziL hT hm
        obtain ⟨n,b,es,ck,h1,h2,h3,h4⟩:=zKZ hS (zR he x) h
        refine ⟨_,s,C,.value (.int .i64 n),h1,?_,hS,ZB (by rw [VRel]),rfl,by unfold Zt ZI;rw [ho];simp only [hc];exact Ze.of0 (Z0.refl C)⟩
        simp [execOp,ho,resolve,hc,invoke,builtin,hargs,htys,Builtin.len_,h2,run_underlying hu,MapKept.run_getObj_map h3,goInt,h4]
      · cases h
    case clear =>
      split at h
      · rename_i x t hx ht
        have hargs:c.args.map a.eval = #[a.eval x]:=by
          have:(c.args.map a.eval).toList=[a.eval x]:=by rw [Array.toList_map,hx];rfl
          rw [← ZP (c.args.map a.eval),this]
        have htys:c.argTypes = #[t]:=by rw [← ZP c.argTypes,ht]
        replace h:=zr h;obtain ⟨i,hti,h⟩:=h
        obtain ⟨d,info,z,hi⟩:=hT t i hti
        obtain ⟨s',C',h1,h2,h3,h4,h5⟩:=zOj (P:=P) (t:=t) hS (zR he x) h o.type
        refine ⟨_,s',C',_,h1,by simp [execOp,ho,resolve,hc,invoke,builtin,hargs,htys,h5 d hi.under],h2,ZB (v := .tuple #[]) (by rw [VRel];exact ⟨#[],rfl,by simp [VRels]⟩),h3,?_⟩
        have e:Zt s o=zUj (opd s.env x):=by unfold Zt ZI zUj;rw [ho];simp only [hc,hx];rfl
        rw [e]
        exact h4
      · cases h
    split at h
    · rename_i x y t t2 hx ht
      have hargs:c.args.map a.eval = #[a.eval x,a.eval y]:=by
        have:(c.args.map a.eval).toList=[a.eval x,a.eval y]:=by rw [Array.toList_map,hx];rfl
        rw [← ZP (c.args.map a.eval),this]
      have htys:c.argTypes = #[t,t2]:=by rw [← ZP c.argTypes,ht]
      have hfo:Zt s o=zh7 (opd s.env x):=by unfold Zt ZI zh7;rw [ho];simp only [hc,hx];rfl
      rw [hfo]
      cases hnil:ziv T t (opd s.env x) with
      | none =>
        have e : ∀KK:KV,yk T t (opd s.env x) s KK=KK (opd s.env x) s:=fun KK=>by unfold yk;rw [hnil]
        rw [e] at h
        obtain ⟨r',s'',C'',z,w',k1,k2,k3,k4,k5,k6,k7⟩:=zjw hT hS (zR he x) (zR he y) h o.type
        subst k3
        exact ⟨r',s'',C'',_,k1,by simp [execOp,ho,resolve,hc,invoke,builtin,hargs,htys,k2],k4,ZB k5,k6,k7⟩
      | some ty =>
        have hno:zh7 (opd s.env x)=none:=by
          unfold ziv at hnil
          split at hnil
          · rename_i e;rw [e];rfl
          · cases hnil
        rw [hno]
        obtain ⟨r,s',C',h1,h2,h3,h4⟩:=Yy hS (zR he x) h
        obtain ⟨r',s'',C'',z,w',k1,k2,k3,k4,k5,k6,_⟩:=zjw hT h2.1 h4 (h2.2.1.val (zR he y)) h1 o.type
        subst k3
        rw [h3] at k2
        exact ⟨r',s'',C'',_,k1,by simp [execOp,ho,resolve,hc,invoke,builtin,hargs,htys,k2],k4,ZB k5,k6.trans h2.2.2.2.2,trivial⟩
    · cases h
end
end Go.AE
namespace Go.AE
open Go.RowKit (Below)
def Cx.at (C:Cx) (w:World):Cx:={ C with w:=w }
section
variable {F:Fr} {C:Cx} {s:St} {tmps:Array Value} {stk:List (Array Value)} {W:World}
theorem zvX [BT] (hh:zY C) (hW:Below C.w.heap.size C.w W) : ∀a v,a.isRef=true→VRel C a v→VRel (C.at W) a v:=by
  intro a v ha h
  refine Wk ha h rfl ?_ ?_
  · show match zp C.H a.idOf with
      | .dead=>True
      | .arr t l=>zp C.H a.idOf = .arr t l
      | .cells cs => ∃cs',zp C.H a.idOf = .cells cs'∧cs'.length=cs.length
      | .bcells _ => ∃cs',zp C.H a.idOf = .bcells cs' | .btold _ => ∃cs',zp C.H a.idOf = .btold cs' | .mp k w l=>zp C.H a.idOf = .mp k w l
    generalize zp C.H a.idOf=g
    cases g <;> simp
  · intro b hl hb
    exact hW.block b (hh.blk_lt hl hb)
theorem zWf [BT] (hh:zY C) (hW:Below C.w.heap.size C.w W) : ∀b,C.R b→(C.at W).R b∧(C.at W).w.heap[b]? = C.w.heap[b]? :=
  fun b hb=>⟨hb,hW.block b (hh.rlt b hb)⟩
theorem zRg [BT] (hh:zY C) (hW:Below C.w.heap.size C.w W):zY (C.at W):=by
  refine ⟨fun i => ?_,hh.inj,hh.ro,fun b hb=>Nat.lt_of_lt_of_le (hh.rlt b hb) hW.size⟩
  refine yj.mono (C:=C) (zvX hh hW) (zWf hh hW) (hh.obj i) ?_
  intro b hb hd
  exact hW.block b (hh.blk_lt hd hb)
theorem z5t (hF:zK F C) (hW:Below C.w.heap.size C.w W):zK F (C.at W) :=
  ⟨hW.os.trans hF.os,hW.tape.trans hF.tape,hW.output.trans hF.output,Nat.le_trans hF.size hW.size,
    fun b hb ho=>(hW.block b (Nat.lt_of_lt_of_le hb hF.size)).trans (hF.keep b hb ho),hF.r0,hF.rN,hF.own⟩
theorem YE [BT] (hS:zB F C s tmps stk) (hW:Below C.w.heap.size C.w W):zB F (C.at W) s tmps stk :=
  ⟨hS.H,zRg hS.heap hW,Zq.mono (zvX hS.heap hW) (zWf hS.heap hW) hS.env,ZG.mono (zvX hS.heap hW) (zWf hS.heap hW) hS.stk,z5t hS.frame hW⟩
end
def YQ (P:Program) (g:Nat):Prop := ∃fn,P.funcs[g]? = some fn∧fn.body.isSome=true∧fn.name ≠ "runtime.NumGoroutine"
theorem YQ.run {P:Program} {g:Nat} (h:YQ P g) (us:Array Value) (w:World):(Go.callFunc g us).run P w = .ok (.enter g us) w:=by
  obtain ⟨fn,hf,hb,hn⟩:=h
  cases hfb:fn.body with
  | none=>rw [hfb] at hb;cases hb
  | some c=>simp [Go.callFunc,hf,hfb,hn]
def zM [BT] (P:Program) (g:Nat) (F:List AV→(AV→Ans)→Ans):Prop :=
  YQ P g ∧ ∀(C:Cx) (args:List AV) (us:Array Value) (K:AV→Ans) (res:AV×List Obj),zY C→C.H=[]→VRels C args us.toList→F args K=some res →
    ∃r v,K r=some res∧(∀C',VRel C' r v) ∧ ∀W:World,(∀b,C.R b→W.heap[b]? = C.w.heap[b]?)→Calls P g us W fun e w'=>e = .returned v∧Below W.heap.size W w'
section
variable {P:Program} {T:Tab} {E:Env} {F:Fr} {C:Cx} {s:St} {stk:List (Array Value)}
theorem z6a [BT] {R':Nat→Prop} (hh:zY C) {a:AV} (hR' : ∀b,C.R b∨(∃t l,zp C.H a.idOf = .arr t l∧C.ρ a.idOf=some b)→R' b) {v:Value} (ha:a.isRef=true) (h:VRel C a v) :
    VRel ⟨R',C.ρ,C.H,C.w⟩ (jF C.H a) v:=by
  have same:VRel ⟨R',C.ρ,C.H,C.w⟩ a v:=VRel.mono (C:=C) (C':=⟨R',C.ρ,C.H,C.w⟩) (fun a v ha h=>by
    refine Wk ha h rfl ?_ (fun _ _ _=>rfl)
    show match zp C.H a.idOf with
      | .dead=>True
      | .arr t l=>zp C.H a.idOf = .arr t l
      | .cells cs => ∃cs',zp C.H a.idOf = .cells cs'∧cs'.length=cs.length
      | .bcells _ => ∃cs',zp C.H a.idOf = .bcells cs' | .btold _ => ∃cs',zp C.H a.idOf = .btold cs' | .mp k w l=>zp C.H a.idOf = .mp k w l
    generalize zp C.H a.idOf=g
    cases g <;> simp) (fun b hb=>⟨hR' b (.inl hb),rfl⟩) h
  cases a <;> first | (cases ha;done) | skip
  case own i =>
    rw [jF]
    split
    · rename_i t l hg
      have:=zh4 hh hg (C':=⟨R',C.ρ,C.H,C.w⟩) rfl (fun b hb=>hR' b (hb.elim .inl fun hb => .inr ⟨t,l,hg,hb⟩)) ha rfl h
      rwa [Zo,Nat.beq_refl,cond_true] at this
    · exact same
  case sub i off len e =>
    rw [jF]
    split
    · rename_i t l hg
      cases hc:Nat.ble (off+len) l.length with
      | false=>exact same
      | true =>
        have:=zh4 hh hg (C':=⟨R',C.ρ,C.H,C.w⟩) rfl (fun b hb=>hR' b (hb.elim .inl fun hb => .inr ⟨t,l,hg,hb⟩)) ha rfl h
        rwa [Zo,Nat.beq_refl,cond_true] at this
    · exact same
  all_goals exact same
theorem zcI {H:List Obj} {res:AV×List Obj} : ∀{l:List AV} {K:List AV→Ans},Js H l K=some res → ∃l',K l'=some res∧AV.mapRs (jF H) l'=AV.mapRs (jF H) l
  | [],K,h=>⟨[],h,rfl⟩
  | v::r,K,h=>by
    have plain:Js H r (fun r=>K (v::r))=some res → ∃l',K l'=some res∧AV.mapRs (jF H) l'=AV.mapRs (jF H) (v::r):=by
      intro h
      obtain ⟨l',h1,h2⟩:=zcI h
      exact ⟨v::l',h1,by rw [AV.mapRs,AV.mapRs,h2]⟩
    cases v with
    | sub n off len e =>
      rw [Js] at h
      split at h
      · rename_i t l hg
        replace h:=zI h;obtain ⟨hb,h⟩:=h
        obtain ⟨l',h1,h2⟩:=zcI h
        refine ⟨_,h1,?_⟩
        rw [AV.mapRs,AV.mapRs,h2]
        simp only [AV.mapR,jF,hg,hb,cond_true]
      · exact plain h
    | _=>exact plain h
theorem zgR [BT] {tmps:Array Value} (hS:zB F C s tmps stk) {g:Nat} {Fp:List AV→(AV→Ans)→Ans} (hp:zM P g Fp) {args:List AV} {us:Array Value} (hargs:VRels C args us.toList) {K:KV} {res:AV×List Obj} (h:zh0 Fp s args K=some res) :
    ∃r v,K r s=some res∧(∀C',VRel C' r v) ∧ ∀W,zq6 C (AV.refsL args) W→Calls P g us W fun e w'=>e = .returned v∧Below W.heap.size W w':=by
  unfold zh0 at h
  obtain ⟨args',h,hmap⟩:=zcI h
  rw [YC,hmap] at h
  cases hn:zbU (AV.refsL (AV.mapRs (jF s.H) args)) with
  | false=>rw [hn] at h;cases h
  | true =>
    rw [hn,cond_true] at h
    have hno:AV.refsL (AV.mapRs (jF s.H) args)=[]:=by
      unfold zbU at hn
      split at hn
      · rename_i e;exact e
      · cases hn
    let R':Nat→Prop:=fun b=>C.R b ∨ ∃i t l,i ∈ AV.refsL args∧zp C.H i = .arr t l∧C.ρ i=some b
    have h1:VRels ⟨R',C.ρ,C.H,C.w⟩ (AV.mapRs (jF s.H) args) us.toList:=by
      rw [← hS.H]
      exact VRels.mapR (p:=fun i=>i ∈ AV.refsL args) (fun a v ha hi hv=>z6a hS.heap (R':=R') (fun b hb=>hb.elim .inl fun ⟨t,l,hg,hb⟩ => .inr ⟨a.idOf,t,l,hi _ (by rw [zd3 ha];exact List.mem_singleton.2 rfl),hg,hb⟩) ha hv) (fun b hb=>⟨.inl hb,rfl⟩) _ _ (fun i hi=>hi) hargs
    have h2:VRels ⟨R',fun _=>none,[],C.w⟩ (AV.mapRs (jF s.H) args) us.toList:=by
      have:=VRels.mapR (C:=⟨R',C.ρ,C.H,C.w⟩) (C':=⟨R',fun _=>none,[],C.w⟩) (p:=fun _=>False) (g:=fun x=>x) (fun a v ha hf _=>by
        rw [zd3 ha] at hf
        exact (hf _ (List.mem_singleton.2 rfl)).elim) (fun b hb=>⟨hb,rfl⟩) _ _ (by rw [hno];intro i hi;cases hi) h1
      rwa [qF] at this
    have hh:zY ⟨R',fun _=>none,[],C.w⟩:=by
      refine ⟨fun i=>trivial,fun i j b hi=>absurd rfl hi,fun i b hi=>absurd rfl hi,fun b hb => ?_⟩
      rcases hb with hb | ⟨i,t,l,_,hg,hb⟩
      · exact hS.heap.rlt b hb
      · exact hS.heap.blk_lt (i:=i) (by unfold zA;rw [hg];simp) hb
    obtain ⟨r,v,hK,hv,hc⟩:=hp.2 _ _ us _ _ hh rfl h2 h
    refine ⟨r,v,hK,hv,fun W hW=>hc W ?_⟩
    rintro b (hb | ⟨i,t,l,hi,hg,hb⟩)
    · exact hW b (.inl hb)
    · exact hW b (.inr ⟨i,hi,by unfold zA;rw [hg];simp,hb⟩)
theorem zSn [BT] {C:Cx} (hh:zY C) (hH:C.H=[]) {W:World} (hW : ∀b,C.R b→W.heap[b]? = C.w.heap[b]?) :
    zY (C.at W) ∧ ∀{l:List AV} {us:List Value},VRels C l us→VRels (C.at W) l us:=by
  have hnl : ∀i,¬zA C.H i:=fun i hl=>hl (by rw [hH];rfl)
  refine ⟨⟨fun i => ?_,fun i j b hi=>absurd hi (hnl i),fun i b hi=>absurd hi (hnl i),fun b hb => ?_⟩,fun h=>VRels.mono (C:=C) (C':=C.at W) (fun a v ha hv => ?_) (fun b hb=>⟨hb,hW b hb⟩) h⟩
  · show yj _ (zp C.H i) _
    rw [hH];trivial
  · have h1:=hh.rlt b hb
    have h2:=hW b hb
    rw [Array.getElem?_eq_getElem h1] at h2
    exact (Array.getElem?_eq_some_iff.1 h2).1
  · refine Wk ha hv rfl ?_ (fun b hl=>absurd hl (hnl _))
    rw [hH];trivial
end
end Go.AE
namespace Go.AE
open Go.RowKit (Below)
theorem zC7 {l:List Nat} {n:Nat} (h:YM l n=true):n ∈ l:=by
  induction l with
  | nil=>cases h
  | cons a r ih =>
    rw [YM] at h
    cases hb:Nat.beq a n with
    | true=>rw [Nat.eq_of_beq_eq_true hb];exact List.mem_cons_self ..
    | false=>rw [hb,cond_false] at h;exact List.mem_cons_of_mem _ (ih h)
theorem z8W {l:List Nat} {n:Nat} (h:n ∈ l):YM l n=true:=by
  cases hb:YM l n with
  | true=>rfl
  | false=>exact absurd h (zcQ hb)
theorem zlx {l m:List Nat} (h:zkm l m=true) : ∀i ∈ l,i ∈ m:=by
  induction l with
  | nil=>intro i hi;cases hi
  | cons a r ih =>
    rw [zkm,Bool.and_eq_true] at h
    intro i hi
    rcases List.mem_cons.1 hi with rfl | hi
    · exact zC7 h.1
    · exact ih h.2 i hi
theorem zqR {l:List Nat} (h:zeY l=true):l.Nodup:=by
  induction l with
  | nil=>exact List.nodup_nil
  | cons a r ih =>
    rw [zeY,Bool.and_eq_true,Bool.not_eq_true'] at h
    exact List.nodup_cons.2 ⟨zcQ h.1,ih h.2⟩
theorem zH6 {n:Nat} {l:List Nat} (h:zdn n l=true) : ∀i ∈ l,i<n:=by
  induction l with
  | nil=>intro i hi;cases hi
  | cons a r ih =>
    rw [zdn,Bool.and_eq_true] at h
    intro i hi
    rcases List.mem_cons.1 hi with rfl | hi
    · exact Nat.lt_of_lt_of_le (Nat.lt_succ_self _) (Nat.le_of_ble_eq_true h.1)
    · exact ih h.2 i hi
theorem zdz {H:List Obj} {sel:List Nat} : ∀{l:List Nat},zbx H sel l=true → ∀i ∈ l,∀k ∈ (zp H i).refs,k ∈ sel
  | [],_,i,hi,_,_=>by cases hi
  | a::r,h,i,hi,k,hk=>by
    rw [zbx,Bool.and_eq_true] at h
    rcases List.mem_cons.1 hi with rfl | hi
    · exact zlx h.1 k hk
    · exact zdz h.2 i hi k hk
theorem zb8 : ∀(l:List Nat) (K:List Nat→Ans),zcn l K=K l
  | [],K=>rfl
  | a::r,K=>by rw [zcn,za5,zb8]
theorem zhy : ∀(l:List Nat) (i:Nat),getN l i=(l[i]?).getD 0
  | [],_=>by rw [getN];rfl
  | _::_,0=>rfl
  | _::r,i+1=>by rw [getN,zhy r i];simp
theorem yz : ∀{l:List Nat} {i:Nat},i ∈ l→zU l i<l.length∧l[zU l i]? = some i
  | [],i,h=>by cases h
  | a::r,i,h=>by
    rw [zU]
    cases hb:Nat.beq a i with
    | true=>rw [cond_true,Nat.eq_of_beq_eq_true hb];simp
    | false =>
      rw [cond_false]
      have hne:a≠i:=by intro e;subst e;rw [Nat.beq_refl] at hb;cases hb
      have hi:i ∈ r:=by
        rcases List.mem_cons.1 h with e | h
        · exact absurd e.symm hne
        · exact h
      obtain ⟨h1,h2⟩:=yz hi
      exact ⟨by simp;omega,by simpa using h2⟩
theorem zlm {l:List Nat} (hn:l.Nodup) {j i:Nat} (h:l[j]? = some i):zU l i=j:=by
  have hi:i ∈ l:=List.mem_of_getElem? h
  obtain ⟨h1,h2⟩:=yz hi
  have hj:=(List.getElem?_eq_some_iff.1 h).1
  rw [← h2] at h
  exact ((List.getElem?_inj hj hn).1 h).symm
theorem zsa {C C':Cx} {a:AV} {v:Value} {f:Nat→Nat} (ha:a.isRef=true) (h:VRel C a v) (hρ:C'.ρ (f a.idOf)=C.ρ a.idOf)
    (hg:match zp C.H a.idOf with
      | .dead=>True
      | .arr t l=>zp C'.H (f a.idOf) = .arr t l
      | .cells cs => ∃cs',zp C'.H (f a.idOf) = .cells cs'∧cs'.length=cs.length
      | .bcells _ => ∃cs',zp C'.H (f a.idOf) = .bcells cs' | .btold _ => ∃cs',zp C'.H (f a.idOf) = .btold cs' | .mp k w l=>zp C'.H (f a.idOf) = .mp k w l)
    (hb : ∀b,zA C.H a.idOf→C.ρ a.idOf=some b→C'.w.heap[b]? = C.w.heap[b]?):VRel C' (a.reId f) v:=by
  have lv:zA C.H a.idOf→zA C'.H (f a.idOf):=by
    intro hl
    unfold zA at hl ⊢
    generalize zp C.H a.idOf=g at hg hl
    cases g with
    | dead=>exact absurd rfl hl
    | arr t l=>rw [hg];simp
    | cells cs=>obtain ⟨cs',h1,_⟩:=hg;rw [h1];simp
    | bcells cs=>obtain ⟨cs',h1⟩:=hg;rw [h1];simp
    | btold cs=>obtain ⟨cs',h1⟩:=hg;rw [h1];simp
    | mp k w l=>rw [hg];simp
  cases a <;> first | (cases ha;done) | skip
  case ptr i off =>
    simp only [AV.idOf,AV.reId] at *
    rw [VRel] at h ⊢
    obtain ⟨b,hb',rfl,hl⟩:=h
    exact ⟨b,hρ.trans hb',rfl,lv hl⟩
  case eptr i n off =>
    simp only [AV.idOf,AV.reId] at *
    rw [VRel] at h ⊢
    obtain ⟨b,t,l,hb',hgi,rfl⟩:=h
    rw [hgi] at hg
    exact ⟨b,t,l,hρ.trans hb',hg,rfl⟩
  case own i =>
    simp only [AV.idOf,AV.reId] at *
    rw [VRel] at h ⊢
    obtain ⟨t,l,hgi,h⟩:=h
    have hl:zA C.H i:=by unfold zA;rw [hgi];simp
    rw [hgi] at hg
    refine ⟨t,l,hg,?_⟩
    rcases h with ⟨hn,h⟩ | ⟨b,c,cap,hb',hc,h⟩
    · exact .inl ⟨hρ.trans hn,h⟩
    · exact .inr ⟨b,c,cap,hρ.trans hb',(wb (hb b hl hb')).trans hc,h⟩
  case sub i off len e =>
    simp only [AV.idOf,AV.reId] at *
    rw [VRel] at h ⊢
    obtain ⟨A,cap,rfl,hlc,h⟩:=h
    refine ⟨A,cap,rfl,hlc,?_⟩
    rcases h with h | h | ⟨b,hb',hA,c,hc,hcs,hm⟩
    · exact .inl h
    · exact .inr (.inl h)
    · have hl:zA C.H i:=by
        unfold zA
        intro hd
        rw [hd] at hm
        exact hm
      refine .inr (.inr ⟨b,hρ.trans hb',hA,c,(wb (hb b hl hb')).trans hc,hcs,?_⟩)
      generalize zp C.H i=g at hg hm
      cases g with
      | dead=>exact hm.elim
      | arr t l=>rw [hg];exact hm
      | cells cs=>obtain ⟨cs',h1,h2⟩:=hg;rw [h1];simp only at hm ⊢;omega
      | bcells cs=>exact hm.elim
      | btold cs=>exact hm.elim
      | mp k w l=>exact hm.elim
  case map i =>
    simp only [AV.idOf,AV.reId] at *
    rw [VRel] at h ⊢
    obtain ⟨b,hb',rfl,hl⟩:=h
    exact ⟨b,hρ.trans hb',rfl,lv hl⟩
theorem zde (g:AV→AV) {H H':List Obj} {i i':Nat} (h:zp H' i'=(zp H i).mapR g):match zp H i with
      | .dead=>True
      | .arr t l=>zp H' i' = .arr t l
      | .cells cs => ∃cs',zp H' i' = .cells cs'∧cs'.length=cs.length
      | .bcells _ => ∃cs',zp H' i' = .bcells cs' | .btold _ => ∃cs',zp H' i' = .btold cs' | .mp k w l=>zp H' i' = .mp k w l:=by
  rw [h]
  generalize zp H i=o
  cases o with
  | dead=>trivial
  | arr t l=>rfl
  | cells cs=>exact ⟨_,rfl,zez g cs⟩
  | bcells cs=>exact ⟨_,rfl⟩
  | btold cs=>exact ⟨_,rfl⟩
  | mp k w l=>rfl
theorem q4 (H:List Obj) (f:Nat→Nat) : ∀(sel:List Nat) (j i:Nat),sel[j]? = some i→zp (ZS H f sel) j=(zp H i).mapR (AV.reId f)
  | [],j,i,h=>by simp at h
  | a::r,0,i,h=>by simp at h;subst h;rfl
  | a::r,j+1,i,h=>by
    rw [ZS,zp]
    exact q4 H f r j i (by simpa using h)
theorem zbT (H:List Obj) (f:Nat→Nat) : ∀sel:List Nat,(ZS H f sel).length=sel.length
  | []=>rfl
  | a::r=>by rw [ZS,List.length_cons,zbT H f r,List.length_cons]
theorem zqu {H M:List Obj} {i:Nat} (h:H.length≤i):zp (H++M) i=zp M (i - H.length):=by
  rw [ZJ,ZJ,List.getElem?_append_right h]
theorem zrO {H M:List Obj} {i:Nat} (h:i<H.length):zp (H++M) i=zp H i:=by
  rw [ZJ,ZJ,List.getElem?_append_left h]
theorem zi7 (f:Nat→Nat) : ∀(sel:List Nat) (os H:List Obj),sel.Nodup→(∀i ∈ sel,i<H.length)→sel.length≤os.length →
    (We f sel os H).length=H.length+(os.length - sel.length) ∧
    (∀j i,sel[j]? = some i→zp (We f sel os H) i=(zp os j).mapR (AV.reId f)) ∧
    (∀i,i<H.length→i ∉ sel→zp (We f sel os H) i=zp H i) ∧
    (∀k,zp (We f sel os H) (H.length+k)=(zp os (sel.length+k)).mapR (AV.reId f))
  | [],os,H,_,_,_=>by
    rw [We]
    refine ⟨by simp [yO],by simp,fun i hi _=>zrO hi,fun k => ?_⟩
    rw [zqu (by omega),YF]
    simp
  | i::r,[],H,_,_,hl=>by simp at hl
  | i::r,o::os,H,hn,hi,hl=>by
    rw [We]
    obtain ⟨hnm,hnr⟩:=List.nodup_cons.1 hn
    obtain ⟨h1,h2,h3,h4⟩:=zi7 f r os (Zc H i (o.mapR (AV.reId f))) hnr (fun k hk=>by rw [zqJ];exact hi k (List.mem_cons_of_mem _ hk)) (by simpa using hl)
    rw [zqJ] at h1 h3 h4
    refine ⟨by rw [h1];simp,fun j k hj => ?_,fun k hk hks => ?_,fun k => ?_⟩
    · cases j with
      | zero =>
        simp at hj
        subst hj
        rw [h3 i (hi i (List.mem_cons_self ..)) hnm,ym (hi i (List.mem_cons_self ..))]
        rfl
      | succ j =>
        rw [h2 j k (by simpa using hj)]
        rfl
    · rw [List.mem_cons,not_or] at hks
      rw [h3 k hk hks.2,ZX (fun e=>hks.1 e.symm)]
    · rw [h4 k,List.length_cons,show r.length+1+k=(r.length+k)+1 by omega,zp]
def Obj.isBlk:Obj→Bool
  | .cells _=>true
  | .bcells _=>true
  | .btold _=>true
  | .mp _ _ _=>true
  | _=>false
def zO [BT] (P:Program) (g:Nat) (F:List AV→List Obj→(AV→List Obj→Ans)→Ans):Prop :=
  YQ P g ∧ ∀(C:Cx) (args:List AV) (us:Array Value) (K:AV→List Obj→Ans) (res:AV×List Obj) (Fr:Fr),zY C→zK Fr C→VRels C args us.toList→F args C.H K=some res →
    Calls P g us C.w fun
      | .returned v,w' => ∃r C',K r C'.H=some res∧C'.w=w'∧zY C'∧zK Fr C'∧VRel C' r v∧(∀j b,(zp C.H j).isBlk=true→C.ρ j=some b→C'.ρ j=some b∧zA C'.H j)
      | _,_=>False
section
variable {P:Program} {F:Fr} {C:Cx} {s:St} {tmps:Array Value} {stk:List (Array Value)}
theorem zJW [BT] {rows:List Nat} {vs:List AV} {us:List Value} {K:List AV→St→Ans} {res:AV×List Obj} (hS:zB F C s tmps stk) (hv:VRels C vs us) (h:Jv rows vs s K=some res) :
    ∃vs' s' C1,K vs' s'=some res∧C1.w=C.w∧zB F C1 s' tmps stk∧VRels C1 vs' us ∧ ∀(C':Cx) (sel:List Nat),Ze C1 C' (some sel)→Ze C C' (some sel):=by
  obtain ⟨args,s,C1,h,hw0,hS,hargs,_,hρ0,hl0⟩:=Jh hS hv h
  refine ⟨args,s,C1,h,hw0,hS,hargs,fun C' sel hf b hb hno => ?_⟩
  obtain ⟨h1,h2,h3⟩:=hf b (by rw [hw0];exact hb) (fun i hi hl=>by rw [hρ0];exact hno i hi (hl0 i hl))
  refine ⟨by rw [h1,hw0],h2,fun i hl hb => ?_⟩
  obtain ⟨g1,g2⟩:=h3 i hl hb
  exact ⟨hl0 i g1,by rw [← hρ0];exact g2⟩
theorem zff [BT] (hS0:zB F C s tmps stk) {g:Nat} {Ff:List AV→List Obj→(AV→List Obj→Ans)→Ans} (hp:zO P g Ff) {args:List AV} {us:Array Value} (hargs0:VRels C args us.toList) {K:List Nat→KV} {res:AV×List Obj} (h:JI Ff s args K=some res) :
    Calls P g us C.w fun
      | .returned v,w' => ∃sel r s' C',K sel r s'=some res∧C'.w=w'∧zB F C' s' tmps stk∧VRel C' r v∧Ze C C' (some sel)
      | _,_=>False:=by
  unfold JI at h
  obtain ⟨args,s,C,h,hw0,hS,hargs,foot0⟩:=zJW hS0 hargs0 h
  rw [← hw0]
  clear hw0
  rw [zb8] at h
  generalize zbP s.H 400 (AV.refsL args) []=sel at h
  cases hc:(zeY sel&&zdn s.H.length sel&&zkm (AV.refsL args) sel&&zbx s.H sel sel) with
  | false=>rw [hc] at h;cases h
  | true =>
  rw [hc,cond_true,za5,YC,JF] at h
  simp only [Bool.and_eq_true] at hc
  obtain ⟨⟨⟨hnd,hin⟩,hsub⟩,hcl⟩:=hc
  have hnd:=zqR hnd
  have hin:=zH6 hin
  have hsub:=zlx hsub
  have hcl:=zdz hcl
  have hh:=hS.heap
  have hH:=hS.H
  rw [← hH] at h hin hcl
  -- the callee's side
  let Cc:Cx:=⟨C.R,fun j=>(sel[j]?).bind C.ρ,ZS C.H (zU sel) sel,C.w⟩
  have toC : ∀a v,a.isRef=true→(∀i ∈ a.refs,i ∈ sel)→VRel C a v→VRel Cc (a.reId (zU sel)) v:=by
    intro a v ha hi hv
    have him:a.idOf ∈ sel:=hi _ (by rw [zd3 ha];exact List.mem_singleton.2 rfl)
    obtain ⟨h1,h2⟩:=yz him
    refine zsa ha hv ?_ (zde (AV.reId (zU sel)) ?_) (fun _ _ _=>rfl)
    · show (sel[zU sel a.idOf]?).bind C.ρ=_
      rw [h2];rfl
    · exact q4 _ _ _ _ _ h2
  have hRc : ∀b,C.R b→Cc.R b∧Cc.w.heap[b]? = C.w.heap[b]? := fun b hb=>⟨hb,rfl⟩
  have hgc : ∀j i,sel[j]? = some i→zp Cc.H j=(zp C.H i).mapR (AV.reId (zU sel)):=fun j i hj=>q4 _ _ _ _ _ hj
  have hlc:Cc.H.length=sel.length:=zbT _ _ _
  have hidx : ∀j,zA Cc.H j → ∃i,sel[j]? = some i∧zA C.H i:=by
    intro j hl
    have hlt:=Z7 hl
    rw [hlc] at hlt
    refine ⟨sel[j],List.getElem?_eq_getElem hlt,?_⟩
    intro hd
    apply hl
    rw [hgc j _ (List.getElem?_eq_getElem hlt),hd]
    rfl
  have hhc:zY Cc:=by
    refine ⟨fun j => ?_,fun j k b hj hk hbj hbk => ?_,fun j b hj hb => ?_,hh.rlt⟩
    · by_cases hlt:j<sel.length
      · have hj:=List.getElem?_eq_getElem hlt
        rw [hgc j _ hj]
        have:Cc.ρ j=C.ρ sel[j]:=by show (sel[j]?).bind C.ρ=_;rw [hj];rfl
        rw [this]
        exact yj.mapR (p:=fun i=>i ∈ sel) toC hRc (hh.obj _) (fun _ _ _=>rfl) (fun k hk=>hcl _ (List.getElem_mem hlt) k hk)
      · rw [zfo (by rw [hlc];omega)]
        trivial
    · obtain ⟨i,hi,hli⟩:=hidx j hj
      obtain ⟨i',hi',hli'⟩:=hidx k hk
      have e1:C.ρ i=some b:=by have:=hbj;change (sel[j]?).bind C.ρ=_ at this;rwa [hi] at this
      have e2:C.ρ i'=some b:=by have:=hbk;change (sel[k]?).bind C.ρ=_ at this;rwa [hi'] at this
      have e:=hh.inj i i' b hli hli' e1 e2
      subst e
      rw [← hi'] at hi
      exact (List.getElem?_inj (List.getElem?_eq_some_iff.1 hi').1 hnd).1 hi.symm |>.symm
    · obtain ⟨i,hi,hli⟩:=hidx j hj
      have e1:C.ρ i=some b:=by have:=hb;change (sel[j]?).bind C.ρ=_ at this;rwa [hi] at this
      exact hh.ro i b hli e1
  let Fc:Fr:=⟨C.w,fun b => ∃i,i ∈ sel∧zA C.H i∧C.ρ i=some b,C.R,0⟩
  have hFc:zK Fc Cc:=by
    refine ⟨rfl,rfl,rfl,Nat.le_refl _,fun _ _ _=>rfl,fun _ hb=>hb,fun _ hb => .inl hb,fun j b hj hb => ?_⟩
    obtain ⟨i,hi,hli⟩:=hidx j hj
    have e1:C.ρ i=some b:=by have:=hb;change (sel[j]?).bind C.ρ=_ at this;rwa [hi] at this
    exact .inl ⟨i,List.mem_of_getElem? hi,hli,e1⟩
  have hargsc:VRels Cc (AV.mapRs (AV.reId (zU sel)) args) us.toList:=VRels.mapR (p:=fun i=>i ∈ sel) toC hRc _ _ hsub hargs
  refine (hp.2 Cc _ us _ res Fc hhc hFc hargsc h).mono ?_
  intro e w' hw'
  cases e with
  | panicked ch=>exact hw'.elim
  | outgrown=>exact hw'.elim
  | returned v =>
  obtain ⟨r,C',hK,rfl,hh',hF',hr,hroots⟩:=hw'
  dsimp only at hK
  replace hK:=zI hK;obtain ⟨hle,hK⟩:=hK
  have hle:=Nat.le_of_ble_eq_true hle
  rw [yn,ZV] at hK
  -- back at the caller's
  let base:=C.H.length
  let fb:=zrM sel base
  let kl:=zgB C.H sel
  let H2:=We fb sel C'.H (zV kl C.H)
  obtain ⟨b1,b2,b3,b4⟩:=zi7 fb sel C'.H (zV kl C.H) hnd (fun i hi=>by rw [yO];exact hin i hi) hle
  rw [yO] at b1 b3 b4
  let C2:Cx:=⟨C'.R,fun i=>if i ∈ sel then C'.ρ (zU sel i) else if i<base then C.ρ i else C'.ρ (sel.length+(i - base)),H2,C'.w⟩
  have fb_sel : ∀j i,sel[j]? = some i→fb j=i:=by
    intro j i hj
    have hlt:=(List.getElem?_eq_some_iff.1 hj).1
    show cond (Nat.blt j sel.length) _ _=_
    have:Nat.blt j sel.length=true:=Nat.ble_eq_true_of_le hlt
    rw [this,cond_true,zhy,hj]
    rfl
  have fb_new : ∀j,sel.length≤j→fb j=base+(j - sel.length):=by
    intro j hj
    show cond (Nat.blt j sel.length) _ _=_
    have:Nat.blt j sel.length=false:=by
      cases hb:Nat.blt j sel.length with
      | false=>rfl
      | true=>have:=Nat.le_of_ble_eq_true hb;omega
    rw [this,cond_false]
  have hfb : ∀j,C2.ρ (fb j)=C'.ρ j∧zp C2.H (fb j)=(zp C'.H j).mapR (AV.reId fb):=by
    intro j
    by_cases hlt:j<sel.length
    · have hj:=List.getElem?_eq_getElem hlt
      rw [fb_sel j _ hj]
      refine ⟨?_,b2 j _ hj⟩
      show (if sel[j] ∈ sel then _ else _)=_
      rw [if_pos (List.getElem_mem hlt),zlm hnd hj]
    · rw [fb_new j (by omega)]
      have hns:base+(j - sel.length) ∉ sel:=fun hm=>by have:=hin _ hm;omega
      refine ⟨?_,?_⟩
      · show (if _ ∈ sel then _ else if _ then _ else _)=_
        rw [if_neg hns,if_neg (by omega)]
        congr 1
        omega
      · have:=b4 (j - sel.length)
        rw [show sel.length+(j - sel.length)=j by omega] at this
        exact this
  have fromC : ∀a v,a.isRef=true→(∀i ∈ a.refs,True)→VRel C' a v→VRel C2 (a.reId fb) v:=fun a v ha _ hv =>
    zsa ha hv (hfb _).1 (zde (AV.reId fb) (hfb _).2) (fun _ _ _=>rfl)
  have hR2 : ∀b,C'.R b→C2.R b∧C2.w.heap[b]? = C'.w.heap[b]? := fun b hb=>⟨hb,rfl⟩
  -- what the caller alone holds
  have outer : ∀i,i<base→i ∉ sel→C2.ρ i=C.ρ i∧zp C2.H i=(zp C.H i).mapR kl:=by
    intro i hi hns
    refine ⟨?_,?_⟩
    · show (if _ ∈ sel then _ else if _ then _ else _)=_
      rw [if_neg hns,if_pos hi]
    · have:=b3 i hi hns
      rw [YF] at this
      exact this
  have notOwn : ∀i b,zA C.H i→i ∉ sel→C.ρ i=some b → ¬Fc.own0 b:=by
    rintro i b hl hns hb ⟨k,hk,hlk,hbk⟩
    exact hns (hh.inj i k b hl hlk hb hbk ▸ hk)
  have keepO : ∀i b,zA C.H i→i ∉ sel→C.ρ i=some b→C'.w.heap[b]? = C.w.heap[b]? := fun i b hl hns hb=>hF'.keep b (hh.blk_lt hl hb) (notOwn i b hl hns hb)
  have hRo : ∀b,C.R b→C2.R b∧C2.w.heap[b]? = C.w.heap[b]? := by
    intro b hb
    refine ⟨hF'.r0 b hb,hF'.keep b (hh.rlt b hb) ?_⟩
    rintro ⟨k,hk,hlk,hbk⟩
    exact hh.ro k b hlk hbk hb
  have refO : ∀a v,a.isRef=true→VRel C a v→VRel C2 (kl a) v:=by
    intro a v ha hv
    by_cases hs:a.idOf ∈ sel
    · have hbn:=z8W hs
      cases a <;> first | (cases ha;done) | skip
      case ptr i off =>
        show VRel C2 (cond (YM sel i) _ _) v
        simp only [AV.idOf] at hbn hs
        rw [hbn,cond_true]
        split
        · rename_i cs hg
          rw [VRel] at hv ⊢
          obtain ⟨b,hb,rfl,hl⟩:=hv
          obtain ⟨h1,h2⟩:=yz hs
          have hgj:=hgc _ _ h2
          rw [hg] at hgj
          obtain ⟨g1,g2⟩:=hroots (zU sel i) b (by rw [hgj];rfl) (by show (sel[zU sel i]?).bind C.ρ=_;rw [h2];exact hb)
          have hf:=hfb (zU sel i)
          rw [fb_sel _ _ h2] at hf
          refine ⟨b,hf.1.trans g1,rfl,?_⟩
          unfold zA
          rw [hf.2]
          intro hd
          apply g2
          generalize zp C'.H (zU sel i)=o at hd
          cases o <;> first | rfl | cases hd
        · rename_i cs hg
          rw [VRel] at hv ⊢
          obtain ⟨b,hb,rfl,hl⟩:=hv
          obtain ⟨h1,h2⟩:=yz hs
          have hgj:=hgc _ _ h2
          rw [hg] at hgj
          obtain ⟨g1,g2⟩:=hroots (zU sel i) b (by rw [hgj];rfl) (by show (sel[zU sel i]?).bind C.ρ=_;rw [h2];exact hb)
          have hf:=hfb (zU sel i)
          rw [fb_sel _ _ h2] at hf
          refine ⟨b,hf.1.trans g1,rfl,?_⟩
          unfold zA
          rw [hf.2]
          intro hd
          apply g2
          generalize zp C'.H (zU sel i)=o at hd
          cases o <;> first | rfl | cases hd
        · rename_i cs hg
          rw [VRel] at hv ⊢
          obtain ⟨b,hb,rfl,hl⟩:=hv
          obtain ⟨h1,h2⟩:=yz hs
          have hgj:=hgc _ _ h2
          rw [hg] at hgj
          obtain ⟨g1,g2⟩:=hroots (zU sel i) b (by rw [hgj];rfl) (by show (sel[zU sel i]?).bind C.ρ=_;rw [h2];exact hb)
          have hf:=hfb (zU sel i)
          rw [fb_sel _ _ h2] at hf
          refine ⟨b,hf.1.trans g1,rfl,?_⟩
          unfold zA
          rw [hf.2]
          intro hd
          apply g2
          generalize zp C'.H (zU sel i)=o at hd
          cases o <;> first | rfl | cases hd
        · rw [VRel];trivial
      case map i =>
        show VRel C2 (cond (YM sel i) _ _) v
        simp only [AV.idOf] at hbn hs
        rw [hbn,cond_true]
        split
        · rename_i kk tt ll hg
          rw [VRel] at hv ⊢
          obtain ⟨b,hb,rfl,hl⟩:=hv
          obtain ⟨h1,h2⟩:=yz hs
          have hgj:=hgc _ _ h2
          rw [hg] at hgj
          obtain ⟨g1,g2⟩:=hroots (zU sel i) b (by rw [hgj];rfl) (by show (sel[zU sel i]?).bind C.ρ=_;rw [h2];exact hb)
          have hf:=hfb (zU sel i)
          rw [fb_sel _ _ h2] at hf
          refine ⟨b,hf.1.trans g1,rfl,?_⟩
          unfold zA
          rw [hf.2]
          intro hd
          apply g2
          generalize zp C'.H (zU sel i)=o at hd
          cases o <;> first | rfl | cases hd
        · rw [VRel];trivial
      all_goals
        simp only [AV.idOf] at hbn
        simp only [kl,zgB,hbn,cond_true]
        rw [VRel];trivial
    · have hbn:YM sel a.idOf=false:=by
        cases hb:YM sel a.idOf with
        | false=>rfl
        | true=>exact absurd (zC7 hb) hs
      have hk:kl a=a:=by
        cases a <;> first | (cases ha;done) | skip
        all_goals
          simp only [AV.idOf] at hbn
          simp only [kl,zgB,hbn,cond_false]
      rw [hk]
      by_cases hi:a.idOf<base
      · obtain ⟨h1,h2⟩:=outer _ hi hs
        exact Wk ha hv h1 (zde kl h2) (fun b hl hb=>keepO _ b hl hs hb)
      · -- nothing stands there
        have hd:zp C.H a.idOf = .dead:=zfo (by omega)
        have hnl : ¬zA C.H a.idOf:=fun hl=>hl hd
        cases a <;> first | (cases ha;done) | skip
        case ptr i off=>rw [VRel] at hv;obtain ⟨_,_,_,hl⟩:=hv;exact absurd hl hnl
        case eptr i n off=>rw [VRel] at hv;obtain ⟨_,_,_,_,hg,_⟩:=hv;simp only [AV.idOf] at hd;rw [hd] at hg;cases hg
        case own i=>rw [VRel] at hv;obtain ⟨_,_,hg,_⟩:=hv;simp only [AV.idOf] at hd;rw [hd] at hg;cases hg
        case map i=>rw [VRel] at hv;obtain ⟨_,_,_,hl⟩:=hv;exact absurd hl hnl
        case sub i off len e =>
          rw [VRel] at hv ⊢
          obtain ⟨A,cap,rfl,hlc,hx⟩:=hv
          refine ⟨A,cap,rfl,hlc,?_⟩
          rcases hx with hx | hx | ⟨b,hb,hA,c,hc,hcs,hm⟩
          · exact .inl hx
          · exact .inr (.inl hx)
          · simp only [AV.idOf] at hd
            rw [hd] at hm
            exact hm.elim
  have cases3 : ∀i,zA C2.H i→(∃j,fb j=i∧zA C'.H j)∨(i<base∧i ∉ sel∧zA C.H i):=by
    intro i hl
    have back : ∀j,fb j=i→zA C'.H j:=by
      intro j hj hd
      apply hl
      rw [← hj,(hfb j).2,hd]
      rfl
    by_cases hs:i ∈ sel
    · obtain ⟨h1,h2⟩:=yz hs
      exact .inl ⟨_,fb_sel _ _ h2,back _ (fb_sel _ _ h2)⟩
    · by_cases hi:i<base
      · refine .inr ⟨hi,hs,fun hd=>hl ?_⟩
        rw [(outer i hi hs).2,hd]
        rfl
      · have e:fb (sel.length+(i - base))=i:=by rw [fb_new _ (by omega)];omega
        exact .inl ⟨_,e,back _ e⟩
  have hown' : ∀j b,zA C'.H j→C'.ρ j=some b→(∃i,i ∈ sel∧zA C.H i∧C.ρ i=some b)∨C.w.heap.size≤b:=fun j b hl hb=>hF'.own j b hl hb
  have hh2:zY C2:=by
    refine ⟨fun i => ?_,fun i k b hi hk hbi hbk => ?_,fun i b hi hb => ?_,fun b hb=>hh'.rlt b hb⟩
    · by_cases hl:zA C2.H i
      · rcases cases3 i hl with ⟨j,rfl,hlj⟩ | ⟨hi,hns,hlo⟩
        · rw [(hfb j).1,(hfb j).2]
          exact yj.mapR (p:=fun _=>True) fromC hR2 (hh'.obj j) (fun _ _ _=>rfl) (fun _ _=>trivial)
        · rw [(outer i hi hns).1,(outer i hi hns).2]
          exact yj.mapR (p:=fun _=>True) (fun a v ha _ hv=>refO a v ha hv) hRo (hh.obj i) (fun b hb _=>keepO i b hlo hns hb) (fun _ _=>trivial)
      · have:zp C2.H i = .dead:=Classical.byContradiction hl
        rw [this]
        trivial
    · rcases cases3 i hi with ⟨j,rfl,hlj⟩ | ⟨hib,hns,hlo⟩ <;> rcases cases3 k hk with ⟨j',rfl,hlj'⟩ | ⟨hkb,hns',hlo'⟩
      · rw [(hfb j).1] at hbi
        rw [(hfb j').1] at hbk
        rw [hh'.inj j j' b hlj hlj' hbi hbk]
      · rw [(hfb j).1] at hbi
        rw [(outer k hkb hns').1] at hbk
        rcases hown' j b hlj hbi with ho | ho
        · exact absurd ho (notOwn k b hlo' hns' hbk)
        · have:=hh.blk_lt hlo' hbk;omega
      · rw [(hfb j').1] at hbk
        rw [(outer i hib hns).1] at hbi
        rcases hown' j' b hlj' hbk with ho | ho
        · exact absurd ho (notOwn i b hlo hns hbi)
        · have:=hh.blk_lt hlo hbi;omega
      · rw [(outer i hib hns).1] at hbi
        rw [(outer k hkb hns').1] at hbk
        exact hh.inj i k b hlo hlo' hbi hbk
    · rcases cases3 i hi with ⟨j,rfl,hlj⟩ | ⟨hib,hns,hlo⟩
      · rw [(hfb j).1] at hb
        exact hh'.ro j b hlj hb
      · rw [(outer i hib hns).1] at hb
        intro hR
        rcases hF'.rN b hR with h0 | h0 | h0
        · exact hh.ro i b hlo hb h0
        · exact notOwn i b hlo hns hb h0
        · have:=hh.blk_lt hlo hb
          have h0:C.w.heap.size≤b:=h0
          omega
  have hF:=hS.frame
  have own_F : ∀b,Fc.own0 b→F.own0 b∨F.w0.heap.size≤b:=fun b ⟨i,_,hl,hb⟩=>hF.own i b hl hb
  have hF2:zK F C2:=by
    refine ⟨hF'.os.trans hF.os,hF'.tape.trans hF.tape,hF'.output.trans hF.output,Nat.le_trans hF.size hF'.size,fun b hb ho => ?_,fun b hb=>hF'.r0 b (hF.r0 b hb),fun b hb => ?_,fun i b hi hb => ?_⟩
    · refine (hF'.keep b (Nat.lt_of_lt_of_le hb hF.size) ?_).trans (hF.keep b hb ho)
      intro h0
      rcases own_F b h0 with h1 | h1
      · exact ho h1
      · omega
    · rcases hF'.rN b hb with h0 | h0 | h0
      · exact hF.rN b h0
      · exact .inr (own_F b h0)
      · exact .inr (.inr (Nat.le_trans hF.size h0))
    · rcases cases3 i hi with ⟨j,rfl,hlj⟩ | ⟨hib,hns,hlo⟩
      · rw [(hfb j).1] at hb
        rcases hown' j b hlj hb with h0 | h0
        · exact own_F b h0
        · exact .inr (Nat.le_trans hF.size h0)
      · rw [(outer i hib hns).1] at hb
        exact hF.own i b hlo hb
  refine ⟨sel,_,_,C2,hK,rfl,⟨rfl,hh2,?_,?_,hF2⟩,?_,foot0 C2 sel fun b hb hno=>⟨?_,?_,fun i hl hbi => ?_⟩⟩
  · exact Zq.mapR (p:=fun _=>True) (fun a v ha _ hv=>refO a v ha hv) hRo hS.env (fun _ _=>trivial)
  · exact ZG.mapR (p:=fun _=>True) (fun a v ha _ hv=>refO a v ha hv) hRo hS.stk (fun _ _=>trivial)
  · exact VRel.mapR (p:=fun _=>True) fromC hR2 _ _ (fun _ _=>trivial) hr
  · exact hF'.keep b hb (fun ⟨k,hk,hlk,hbk⟩=>hno k hk hlk hbk)
  · exact Nat.lt_of_lt_of_le hb hF'.size
  · rcases cases3 i hl with ⟨j,rfl,hlj⟩ | ⟨hib,hns,hlo⟩
    · rw [(hfb j).1] at hbi
      rcases hown' j b hlj hbi with ⟨k,hk,hlk,hbk⟩ | ho
      · exact absurd hbk (hno k hk hlk)
      · omega
    · rw [(outer i hib hns).1] at hbi
      exact ⟨hlo,hbi⟩
theorem zCi [BT] (hS0:zB F C s tmps stk) {g:Nat} {Ff:List AV→List Obj→(AV→List Obj→Ans)→Ans} (hp:zO P g Ff) {args:List AV} {us:Array Value} (hargs0:VRels C args us.toList) {K:KV} {res:AV×List Obj} (h:callFunc Ff s args K=some res) :
    Calls P g us C.w fun
      | .returned v,w' => ∃r s' C',K r s'=some res∧C'.w=w'∧zB F C' s' tmps stk∧VRel C' r v
      | _,_=>False:=by
  refine (zff hS0 hp hargs0 h).mono ?_
  intro e w' hw'
  cases e with
  | returned v =>
    obtain ⟨sel,r,s',C',h1,h2,h3,h4,_⟩:=hw'
    exact ⟨r,s',C',h1,h2,h3,h4⟩
  | panicked ch=>exact hw'.elim
  | outgrown=>exact hw'.elim
end
end Go.AE
namespace Go.AE
theorem zqS {sel:List Nat} : ∀{l:List Nat},zvS sel l=true → ∀j ∈ l,zU sel j=j
  | [],_,j,hj=>by cases hj
  | a::r,h,j,hj=>by
    rw [zvS,Bool.and_eq_true] at h
    rcases List.mem_cons.1 hj with rfl | hj
    · exact Nat.eq_of_beq_eq_true h.1
    · exact zqS h.2 j hj
def yo (C:Cx) (sel:List Nat):Cx:=⟨C.R,fun j=>match sel[j]? with | some i=>C.ρ i | none=>none,ZS C.H (zU sel) sel,C.w⟩
theorem zC1 [BT] {C:Cx} (hh:zY C) {roots sel:List Nat} (hok:qG C.H roots sel=true) :
    zY (yo C sel)∧(∀F,zK F C→zK F (yo C sel)) ∧
    (∀a v,a.isRef=true→(∀i ∈ a.refs,i ∈ sel)→VRel C a v→VRel (yo C sel) (a.reId (zU sel)) v)∧(∀i ∈ roots,i ∈ sel):=by
  unfold qG at hok
  simp only [Bool.and_eq_true] at hok
  obtain ⟨⟨h1,h3⟩,h4⟩:=hok
  have hnd:=zqR h1
  have hroot:=zlx h3
  have hcl:=zdz h4
  have hρ : ∀i ∈ sel,(yo C sel).ρ (zU sel i)=C.ρ i:=by
    intro i hi
    show (match sel[zU sel i]? with | some i=>C.ρ i | none=>none)=_
    rw [(yz hi).2]
  have hg : ∀i ∈ sel,zp (yo C sel).H (zU sel i)=(zp C.H i).mapR (AV.reId (zU sel)):=fun i hi=>q4 _ _ _ _ _ (yz hi).2
  have hl : ∀a v,a.isRef=true→(∀i ∈ a.refs,i ∈ sel)→VRel C a v→VRel (yo C sel) (a.reId (zU sel)) v:=by
    intro a v ha hi h
    have hin:a.idOf ∈ sel:=hi a.idOf (by rw [zd3 ha];simp)
    refine zsa ha h (hρ _ hin) ?_ (fun _ _ _=>rfl)
    exact zde _ (hg _ hin)
  have hR : ∀b,C.R b→(yo C sel).R b∧(yo C sel).w.heap[b]? = C.w.heap[b]? := fun b hb=>⟨hb,rfl⟩
  have back : ∀j,zA (yo C sel).H j → ∃i,sel[j]? = some i∧zA C.H i∧(yo C sel).ρ j=C.ρ i:=by
    intro j hj
    have hlt:=Z7 hj
    rw [show (yo C sel).H.length=sel.length from zbT _ _ _] at hlt
    refine ⟨sel[j],by simp [hlt],?_,?_⟩
    · unfold zA at hj ⊢
      rw [show zp (yo C sel).H j=_ from q4 C.H (zU sel) sel j sel[j] (by simp [hlt])] at hj
      intro e
      rw [e] at hj
      exact hj rfl
    · show (match sel[j]? with | some i=>C.ρ i | none=>none)=_
      rw [List.getElem?_eq_getElem hlt]
  refine ⟨⟨?_,?_,?_,hh.rlt⟩,?_,hl,hroot⟩
  · intro j
    by_cases hlt:j<sel.length
    · have hget:sel[j]? = some sel[j]:=by simp [hlt]
      have hj:(yo C sel).ρ j=C.ρ sel[j]:=by
        show (match sel[j]? with | some i=>C.ρ i | none=>none)=_
        rw [hget]
      rw [show zp (yo C sel).H j=_ from q4 C.H (zU sel) sel j sel[j] hget,hj]
      exact yj.mapR (p:=fun i=>i ∈ sel) hl hR (hh.obj _) (fun _ _ _=>rfl) (fun i hi=>hcl _ (List.getElem_mem hlt) i hi)
    · have hd:zp (yo C sel).H j = .dead:=zfo (by rw [show (yo C sel).H.length=sel.length from zbT _ _ _];omega)
      rw [hd]
      trivial
  · intro i j b hi hj hbi hbj
    obtain ⟨i',e1,l1,r1⟩:=back i hi
    obtain ⟨j',e2,l2,r2⟩:=back j hj
    rw [r1] at hbi
    rw [r2] at hbj
    have:=hh.inj i' j' b l1 l2 hbi hbj
    subst this
    rw [← zlm hnd e1,← zlm hnd e2]
  · intro i b hi hbi
    obtain ⟨i',e1,l1,r1⟩:=back i hi
    rw [r1] at hbi
    exact hh.ro i' b l1 hbi
  · intro F hF
    refine ⟨hF.os,hF.tape,hF.output,hF.size,hF.keep,hF.r0,hF.rN,?_⟩
    intro i b hi hbi
    obtain ⟨i',e1,l1,r1⟩:=back i hi
    rw [r1] at hbi
    exact hF.own i' b l1 hbi
theorem z4M [BT] {C:Cx} (hh:zY C) {roots sel:List Nat} (hok:zhE C.H roots sel=true) :
    zY (yo C sel)∧(∀F,zK F C→zK F (yo C sel)) ∧
    (∀a v,a.isRef=true→(∀i ∈ a.refs,i ∈ sel)→VRel C a v→VRel (yo C sel) (a.reId (zU sel)) v)∧(∀i ∈ roots,i ∈ sel):=by
  refine zC1 hh ?_
  unfold zhE at hok
  simp only [Bool.and_eq_true] at hok
  obtain ⟨⟨⟨h1,h2⟩,h3⟩,h4⟩:=hok
  unfold qG
  simp only [Bool.and_eq_true]
  exact ⟨⟨h1,h3⟩,h4⟩
theorem zDJ [BT] {F:Fr} {C:Cx} {s:St} {tmps:Array Value} {stk:List (Array Value)} (hS:zB F C s tmps stk) {roots sel:List Nat} (hok:qG s.H (roots++(Ye s.stk++yU s.env)) sel=true) :
    ∃C',C'.w=C.w∧zB F C' ⟨Z8 (AV.reId (zU sel)) s.env,YG (AV.reId (zU sel)) s.stk,ZS s.H (zU sel) sel,s.blk⟩ tmps stk:=by
  rw [← hS.H] at hok
  obtain ⟨h1,h2,h3,h4⟩:=zC1 hS.heap hok
  have hR : ∀b,C.R b→(yo C sel).R b∧(yo C sel).w.heap[b]? = C.w.heap[b]? := fun b hb=>⟨hb,rfl⟩
  refine ⟨yo C sel,rfl,⟨?_,h1,?_,?_,h2 F hS.frame⟩⟩
  · show ZS C.H _ _=ZS s.H _ _
    rw [hS.H]
  · exact Zq.mapR (p:=fun i=>i ∈ sel) h3 hR hS.env (fun i hi=>h4 i (by simp [hi]))
  · exact ZG.mapR (p:=fun i=>i ∈ sel) h3 hR hS.stk (fun i hi=>h4 i (by simp [hi]))
theorem zVN {H:List Obj} {roots sel:List Nat} (hok:zhE H roots sel=true):qG H roots sel=true:=by
  unfold zhE at hok
  simp only [Bool.and_eq_true] at hok
  obtain ⟨⟨⟨h1,h2⟩,h3⟩,h4⟩:=hok
  unfold qG
  simp only [Bool.and_eq_true]
  exact ⟨⟨h1,h3⟩,h4⟩
theorem zXo (k0:Nat) (s:St):(∃roots sel,qG s.H (roots++(Ye s.stk++yU s.env)) sel=true ∧ ∀K,zpf k0 s K=K ⟨Z8 (AV.reId (zU sel)) s.env,YG (AV.reId (zU sel)) s.stk,ZS s.H (zU sel) sel,s.blk⟩) ∨ ∀K,zpf k0 s K=none:=by
  simp only [zpf,zb8,ZV]
  generalize zbP s.H 400 _ []=sel
  cases h:zhE s.H (List.range k0++(Ye s.stk++yU s.env)) sel with
  | true=>exact .inl ⟨_,sel,zVN h,fun K=>rfl⟩
  | false=>exact .inr fun K=>rfl
theorem zY1 (k1:Nat) (s:St):(∃roots sel,qG s.H (roots++(Ye s.stk++yU s.env)) sel=true ∧ ∀K,zmf k1 s K=K ⟨Z8 (AV.reId (zU sel)) s.env,YG (AV.reId (zU sel)) s.stk,ZS s.H (zU sel) sel,s.blk⟩) ∨ ∀K,zmf k1 s K=none:=by
  simp only [zmf,za5,zb8,ZV]
  generalize zbP s.H 400 _ []=sel
  cases h:qG s.H (zMQ s.H s.H.length (List.range k1)++(Ye s.stk++yU s.env)) sel with
  | true=>exact .inl ⟨_,sel,h,fun K=>rfl⟩
  | false=>exact .inr fun K=>rfl
inductive j4:St→St→Prop
  | refl {s:St}:j4 s s
  | sel {s s':St} {roots sel:List Nat} (h:qG s.H (roots++(Ye s.stk++yU s.env)) sel=true) (hp:j4 ⟨Z8 (AV.reId (zU sel)) s.env,YG (AV.reId (zU sel)) s.stk,ZS s.H (zU sel) sel,s.blk⟩ s'):j4 s s'
  | loose {s s':St} {j:Nat} {t:Ty} {l:List t.T} (hg:zp s.H j = .arr t l) (h:j4 (s.mapR (zg8 j l.length t.size)) s'):j4 s s'
theorem zTK (q c:Nat) (s:St) : ∃s',j4 s s' ∧ ∀K,zx2 q c s K=K s':=by
  unfold zx2
  split
  · split
    · split
      · rename_i t l hg
        simp only [ZV]
        exact ⟨_,.loose hg .refl,fun _=>rfl⟩
      · exact ⟨s,.refl,fun _=>rfl⟩
    · exact ⟨s,.refl,fun _=>rfl⟩
  · exact ⟨s,.refl,fun _=>rfl⟩
theorem z7j (b b2:Bool) (q c k1 k0:Nat) (s:St):(∃s',j4 s s' ∧ ∀K,zG7 b b2 q c k1 k0 s K=K s') ∨ ∀K,zG7 b b2 q c k1 k0 s K=none:=by
  unfold zG7
  cases b with
  | false =>
    rcases zXo k0 s with ⟨roots,sel,h,e⟩ | e
    · exact .inl ⟨_,.sel h .refl,e⟩
    · exact .inr e
  | true =>
    rcases zY1 k1 s with ⟨roots,sel,h,e⟩ | e
    · cases b2 with
      | false=>exact .inl ⟨_,.sel h .refl,e⟩
      | true =>
        obtain ⟨s',h1,h2⟩:=zTK q c ⟨Z8 (AV.reId (zU sel)) s.env,YG (AV.reId (zU sel)) s.stk,ZS s.H (zU sel) sel,s.blk⟩
        exact .inl ⟨s',.sel h h1,fun K=>by rw [cond_true,cond_true,e,h2]⟩
    · refine .inr fun K => ?_
      cases b2 with
      | false=>exact e K
      | true=>exact e _
theorem zDm (k0:Nat) (s:St):(∃s',j4 s s' ∧ ∀K,Yb k0 s K=K s') ∨ ∀K,Yb k0 s K=none:=z7j _ _ _ _ _ _ _
theorem zOp [BT] {F:Fr} {C:Cx} {s:St} {tmps:Array Value} {stk:List (Array Value)} (hS:zB F C s tmps stk) {i:Nat} {t:Ty} {l:List t.T} (hg:zp s.H i = .arr t l) :
    ∃C',C'.w=C.w∧zB F C' (s.mapR (zg8 i l.length t.size)) tmps stk:=by
  have hh:=hS.heap
  rw [← hS.H] at hg
  let C':Cx:=⟨C.R,C.ρ,zV (zg8 i l.length t.size) C.H,C.w⟩
  have hgj : ∀j,zp C'.H j=(zp C.H j).mapR (zg8 i l.length t.size):=fun j=>YF _ _ _
  have hgi:zp C'.H i = .arr t l:=by rw [hgj,hg];rfl
  have hR : ∀b,C.R b→C'.R b∧C'.w.heap[b]? = C.w.heap[b]? := fun b hb=>⟨hb,rfl⟩
  have keep : ∀a v,a.isRef=true→VRel C a v→VRel C' a v:=by
    intro a v ha h
    refine Wk ha h rfl ?_ fun b hlv hb=>rfl
    show match zp C.H a.idOf with | .dead=>True | .arr t' l'=>zp C'.H a.idOf = .arr t' l' | .cells cs => ∃cs',zp C'.H a.idOf = .cells cs'∧cs'.length=cs.length | .bcells _ => ∃cs',zp C'.H a.idOf = .bcells cs' | .btold _ => ∃cs',zp C'.H a.idOf = .btold cs' | .mp k w l'=>zp C'.H a.idOf = .mp k w l'
    rw [hgj]
    exact zhG _ _
  have hl : ∀a v,a.isRef=true→(∀i ∈ a.refs,True)→VRel C a v→VRel C' (zg8 i l.length t.size a) v:=by
    intro a v ha _ h
    cases a with
    | own j =>
      show VRel C' (cond (Nat.beq j i) (.sub i 0 l.length t.size) (.own j)) v
      cases hj:Nat.beq j i with
      | false=>exact keep _ v rfl h
      | true =>
        have hji:=Nat.eq_of_beq_eq_true hj
        subst hji
        rw [cond_true]
        rw [VRel] at h
        obtain ⟨t',l',hg',h⟩:=h
        rw [hg] at hg'
        cases hg'
        rw [VRel]
        rcases h with ⟨h1,h2,h3⟩ | ⟨b,c,cap,h1,h2,h3,h4,h5⟩
        · refine ⟨none,0,?_,?_,.inr (.inl ⟨?_,rfl,rfl⟩)⟩
          · rw [h3,h2];rfl
          · rw [h2];exact Nat.le_refl _
          · rw [h2];rfl
        · refine ⟨some ⟨b,0,none⟩,cap,h5,h3,.inr (.inr ⟨b,h1,by rw [Nat.zero_mul],c,h2,by rw [Nat.zero_add];exact h4,?_⟩)⟩
          rw [hgi]
          exact ⟨rfl,by omega⟩
    | _=>exact keep _ v ha h
  have hlive : ∀j,zA C'.H j→zA C.H j:=by
    intro j h
    unfold zA at h ⊢
    rw [hgj] at h
    intro e
    rw [e] at h
    exact h rfl
  refine ⟨C',rfl,⟨?_,⟨?_,?_,?_,?_⟩,Zq.mapR hl hR hS.env (fun _ _=>trivial),ZG.mapR hl hR hS.stk (fun _ _=>trivial),⟨hS.frame.os,hS.frame.tape,hS.frame.output,hS.frame.size,hS.frame.keep,hS.frame.r0,hS.frame.rN,?_⟩⟩⟩
  · show zV _ C.H=zV _ s.H
    rw [hS.H]
  · intro j
    rw [hgj j]
    exact yj.mapR (p:=fun _=>True) hl hR (hh.obj j) (fun b hb _=>rfl) (fun _ _=>trivial)
  · intro j k b hj hk hjb hkb
    exact hh.inj j k b (hlive j hj) (hlive k hk) hjb hkb
  · intro j b hj hb hRb
    exact hh.ro j b (hlive j hj) hb hRb
  · exact hh.rlt
  · intro j b hj hb
    exact hS.frame.own j b (hlive j hj) hb
theorem zHR [BT] {s s':St} (h:j4 s s') : ∀{F:Fr} {C:Cx} {tmps:Array Value} {stk:List (Array Value)},zB F C s tmps stk → ∃C',C'.w=C.w∧zB F C' s' tmps stk:=by
  induction h with
  | refl=>intro F C tmps stk hS;exact ⟨C,rfl,hS⟩
  | sel h _ ih =>
    intro F C tmps stk hS
    obtain ⟨C1,hw1,hS1⟩:=zDJ hS h
    obtain ⟨C2,hw2,hS2⟩:=ih hS1
    exact ⟨C2,hw2.trans hw1,hS2⟩
  | loose hg _ ih =>
    intro F C tmps stk hS
    obtain ⟨C1,hw1,hS1⟩:=zOp hS hg
    obtain ⟨C2,hw2,hS2⟩:=ih hS1
    exact ⟨C2,hw2.trans hw1,hS2⟩
theorem wA [BT] {F:Fr} {C:Cx} {s:St} {tmps:Array Value} {stk:List (Array Value)} (hS:zB F C s tmps stk) {k0:Nat} {K:St→Ans} {res:AV×List Obj} (h:Yb k0 s K=some res) :
    ∃s' C',C'.w=C.w∧zB F C' s' tmps stk∧K s'=some res:=by
  rcases zDm k0 s with ⟨s',hp,e⟩ | e
  · rw [e] at h
    obtain ⟨C',hw,hS'⟩:=zHR hp hS
    exact ⟨_,C',hw,hS',h⟩
  · rw [e] at h;cases h
theorem zfS [BT] {F:Fr} {C:Cx} (hh:zY C) (hF:zK F C) {k0:Nat} {v:AV} {u:Value} (hv:VRel C v u) {K:AV→List Obj→Ans} {res:AV×List Obj} (h:ziN k0 v C.H K=some res) :
    ∃r C',C'.w=C.w∧zY C'∧zK F C'∧VRel C' r u∧K r C'.H=some res∧(∀j,j<k0 → ∀b,C.ρ j=some b→zA C.H j→C'.ρ j=some b∧zA C'.H j):=by
  unfold ziN at h
  rw [zb8] at h
  generalize zbP C.H 400 _ []=sel at h
  replace h:=zI h;obtain ⟨hok,h⟩:=h
  rw [yn,JF] at h
  rw [Bool.and_eq_true] at hok
  obtain ⟨hok,hfix⟩:=hok
  obtain ⟨h1,h2,h3,h4⟩:=z4M hh hok
  have hfix:=zqS hfix
  refine ⟨_,yo C sel,rfl,h1,h2 F hF,VRel.mapR (p:=fun i=>i ∈ sel) h3 (fun b hb=>⟨hb,rfl⟩) _ _ (fun i hi=>h4 i (by simp [hi])) hv,h,?_⟩
  intro j hj b hb hl
  have hin:j ∈ sel:=h4 j (by simp [hj])
  have hidx:=hfix j (List.mem_range.2 hj)
  have hget:=(yz hin).2
  rw [hidx] at hget
  refine ⟨?_,?_⟩
  · show (match sel[j]? with | some i=>C.ρ i | none=>none)=_
    rw [hget];exact hb
  · unfold zA at hl ⊢
    rw [show zp (yo C sel).H j=_ from q4 C.H (zU sel) sel j j hget]
    intro e
    apply hl
    generalize zp C.H j=o at e
    cases o <;> simp_all [Obj.mapR]
theorem zOP [BT] {F:Fr} {C:Cx} {s:St} {tmps:Array Value} {stk:List (Array Value)} (hS:zB F C s tmps stk) {x:Ann} {K:St→Ans} {res:AV×List Obj} (h:zWr x s K=some res) :
    ∃s' C',C'.w=C.w∧zB F C' s' tmps stk∧K s'=some res:=by
  unfold zWr at h
  split at h
  · rename_i k0 keep
    obtain ⟨env,sk,H,blk⟩:=s
    have hS':zB F C ⟨YH env keep,sk,H,blk⟩ tmps stk:=⟨hS.H,hS.heap,Zq.keep hS.env keep,hS.stk,hS.frame⟩
    exact wA hS' h
  · exact ⟨s,C,rfl,hS,h⟩
theorem zfL [BT] {F:Fr} {C:Cx} {s:St} {tmps:Array Value} {stk:List (Array Value)} (hS:zB F C s tmps stk) {keep:List Nat} {x:Ann} {K:St→Ans} {res:AV×List Obj} (h:zbV keep x s K=some res) :
    ∃s' C',C'.w=C.w∧zB F C' s' tmps stk∧K s'=some res:=by
  unfold zbV at h
  split at h
  · rw [ZV] at h
    obtain ⟨C',hw,hS'⟩:=Y6 hS (by assumption)
    obtain ⟨s'',C'',hw',hS'',h⟩:=wA hS' h
    exact ⟨s'',C'',hw'.trans hw,hS'',h⟩
  · rw [ZV] at h
    obtain ⟨C',hw,hS'⟩:=Y6 hS keep
    split at h
    · obtain ⟨s'',C'',hw',hS'',h⟩:=wA hS' h
      exact ⟨s'',C'',hw'.trans hw,hS'',h⟩
    · exact ⟨_,C',hw,hS',h⟩
end Go.AE
namespace Go.AE
open Go.RowKit (Below)
abbrev Gq (w w':World):Prop:=Below w.heap.size w w'
theorem Gq.refl (w:World):Gq w w:=Below.refl _ _
theorem Gq.trans {a b c:World} (h:Gq a b) (k:Gq b c):Gq a c:=Below.trans h (k.mono h.size)
section
variable {P:Program} {ops:Array Oper} {md:Region.Mode}
def ZE (P:Program) (o:Oper) (a:Act) (w:World) (K:Value→World→Prop):Prop :=
  match (execOp a.eval o).run P w with
  | .ok (.value u) w'=>K u w'
  | .ok .skip w'=>K undef w'
  | .ok (.enter f args) w'=>Calls P f args w' fun e w'' => ∃u,e = .returned u∧K u w''
  | _=>False
theorem yg {o:Oper} {a:Act} {w:World} {K K':Value→World→Prop} (h : ∀u w',K u w'→K' u w') (hh:ZE P o a w K):ZE P o a w K':=by
  unfold ZE at *
  split at hh
  · exact h _ _ hh
  · exact h _ _ hh
  · exact hh.mono fun e w'' ⟨u,he,hk⟩=>⟨u,he,h _ _ hk⟩
  · exact hh.elim
def WF (r:Option Nat):Fence:={ Fence.wide with round:=r }
theorem zdf (r:Option Nat) (f:Nat):(WF r).fn f:=trivial
theorem zzC (r:Option Nat) (n:Nat):(WF r).room n:=room_wide n
theorem zq7 (r:Option Nat) (n:Nat) (h:(WF r).depth.isSome=true):1≤n:=by cases h
theorem z9f {r:Option Nat} {n:Nat} {f:FuncId} {us:Array Value} {w:World} {R:Ending→World→Prop} (h:Calls P f us w R):CallsIn (WF r) n P f us w R :=
  (callsIn_wide (n:=n)).2 h
theorem zAg {o:Oper} {a:Act} {w:World} {K:Value→World→Prop} (h:ZE P o a w K) (c:Call):o.op ≠ .defer c:=by
  intro hc
  unfold ZE execOp at h
  simp only [hc,Sem.run_bind] at h
  cases hr:(resolve a.eval c o.type).run P w with
  | ok d w'=>rw [hr] at h;simp [Result.andThen] at h
  | halt x w'=>rw [hr] at h;simp [Result.andThen] at h
theorem Jl {r:Option Nat} {n:Nat} {o:Oper} {a:Act} {w:World} {K:Act→World→Prop} {Q:Exit→Act→World→Prop} (h:ZE P o a w fun u w'=>K (a.put o.dst u) w'):o.wpIn (WF r) n P a w K Q:=by
  have hnd:=zAg h
  unfold ZE at h
  unfold Oper.wpIn
  refine ⟨fun f _=>zdf r f,?_⟩
  rw [Oper.semAt_eq _ _ _ hnd]
  split at h
  · rename_i u w' e;rw [e];exact h
  · rename_i w' e;rw [e];exact h
  · rename_i f args w' e
    rw [e,Oper.uponIn_enter]
    refine ⟨zq7 r n,z9f (h.mono ?_)⟩
    rintro e w'' ⟨u,rfl,hk⟩
    exact hk
  · exact h.elim
def clOp (P:Program) (ops:Array Oper) (i:Nat) (K:Act→World→Prop) (a:Act) (w:World):Prop :=
  match ops[i]? with
  | none=>K a w
  | some o=>if Region.wanted o (yielded ops a.tmps) then ZE P o a w (fun u w'=>K (a.put o.dst u) w') else K (a.put o.dst undef) w
theorem zcl {i:Nat} {a:Act} {w:World} {K K':Act→World→Prop} (h : ∀a w,K a w→K' a w) (hh:clOp P ops i K a w):clOp P ops i K' a w:=by
  unfold clOp at *
  split
  · exact h _ _ (by simpa [*] using hh)
  · rename_i o ho
    simp only [ho] at hh
    split
    · rename_i hw;simp only [hw,if_true] at hh;exact yg (fun u w' hk=>h _ _ hk) hh
    · rename_i hw;simp only [hw] at hh;exact h _ _ hh
theorem zxm {r:Option Nat} {n:Nat} {i:Nat} {a:Act} {w:World} {K:Act→World→Prop} {Q:Exit→Act→World→Prop} (hh:clOp P ops i K a w):wpOpIn (WF r) n P ops Q i K a w:=by
  unfold clOp at hh
  unfold wpOpIn
  split
  · rename_i ho;simp only [ho] at hh;exact hh
  · rename_i o ho
    simp only [ho] at hh
    split
    · rename_i hw;simp only [hw,if_true] at hh;exact Jl hh
    · rename_i hw;simp only [hw] at hh;exact ⟨fun f _=>zdf r f,hh⟩
def Qn (B:Nat→Prop) (w0 w:World):Prop := ∀b,B b→b<w.heap.size∧w.heap[b]? = w0.heap[b]?
theorem Qn.gq {B:Nat→Prop} {w0 w w':World} (h:Qn B w0 w) (hq:Gq w w'):Qn B w0 w':=fun b hb =>
  ⟨Nat.lt_of_lt_of_le (h b hb).1 hq.size,(hq.block b (h b hb).1).trans (h b hb).2⟩
def zG2 (md:Region.Mode) (ops:Array Oper) (an:Nat→Nat→Bool):Prop :=
  ∀i j,an i j=true → ∃oj,ops[j]? = some oj ∧ ∃e ∈ oj.after,Region.binds md e=true∧(e.on=i∨(e.on<j∧an i e.on=true))
def JD (md:Region.Mode) (ops:Array Oper) (listed:Array Bool):Prop :=
  ∀j oj,ops[j]? = some oj→listed.getD j false=true → ∀e ∈ oj.after,Region.binds md e=true→listed.getD e.on false=true
theorem zE5 {listed:Array Bool} {i j:Nat} (h:listed.getD j false=true):(listed.setIfInBounds i true).getD j false=true:=by
  by_cases e:i=j
  · subst e
    have hj:i<listed.size:=by
      rcases Nat.lt_or_ge i listed.size with h' | h'
      · exact h'
      · simp [Array.getD,show ¬i<listed.size by omega] at h
    simp [Array.getD,hj]
  · rw [getD_set_ne false e];exact h
theorem JD.set {listed:Array Bool} (h:JD md ops listed) {i:Nat} (hi:i ∈ Region.ready md ops listed):JD md ops (listed.setIfInBounds i true):=by
  intro j oj hj hl e he hb
  apply zE5
  by_cases e':i=j
  · subst e'
    obtain ⟨_,o,ho,hall⟩:=mem_ready.1 hi
    rw [hj] at ho
    cases ho
    exact hall e he hb
  · rw [getD_set_ne false e'] at hl
    exact h j oj hj hl e he hb
theorem zw5 {an:Nat→Nat→Bool} (hAn:zG2 md ops an) {listed:Array Bool} (h:JD md ops listed) {i:Nat} : ∀(n j:Nat),j<n→an i j=true→listed.getD j false=true→listed.getD i false=true
  | 0,_,hn,_,_=>by omega
  | n+1,j,hn,ha,hl=>by
    obtain ⟨o,ho,e,he,hb,hx⟩:=hAn i j ha
    have hle:=h j o ho hl e he hb
    rcases hx with hx | ⟨hlt,hx⟩
    · rw [← hx];exact hle
    · exact zw5 hAn h n e.on (by omega) hx hle
theorem zDW {an:Nat→Nat→Bool} (hAn:zG2 md ops an) {listed:Array Bool} (h:JD md ops listed) {i j:Nat} (hi:listed.getD i true=false) (hj:j ∈ Region.ready md ops listed):an i j=false:=by
  cases ha:an i j with
  | false=>rfl
  | true =>
    exfalso
    obtain ⟨o,ho,e,he,hb,hx⟩:=hAn i j ha
    obtain ⟨_,o',ho',hall⟩:=mem_ready.1 hj
    rw [ho] at ho'
    cases ho'
    have hle:=hall e he hb
    have:listed.getD i false=true:=by
      rcases hx with hx | ⟨hlt,hx⟩
      · rw [← hx];exact hle
      · exact zw5 hAn h (e.on+1) e.on (by omega) hx hle
    have h0:=getD_both hi
    rw [this] at h0
    cases h0
structure Ent where
  k:Nat
  B:Nat→Prop
  w0:World
def Yz (P:Program) (md:Region.Mode) (ops:Array Oper) (an:Nat→Nat→Bool) (Q:Act→World→Prop) (ents:List Ent):Nat→Array Bool→Act→World→Prop
  | 0,listed,a,w => ∀w',Gq w w'→Region.ready md ops listed=[]∧Q a w'
  | f+1,listed,a,w => ∀w',Gq w w'→(Region.ready md ops listed=[]→Q a w') ∧ ∀i ∈ Region.ready md ops listed,
      clOp P ops i (fun a' w''=>(∀e ∈ ents,an e.k i=false→Qn e.B e.w0 w'→Qn e.B e.w0 w'')∧Yz P md ops an Q ents f (listed.setIfInBounds i true) a' w'') a w'
variable {an:Nat→Nat→Bool} {Q:Act→World→Prop}
theorem Yz.later {ents:List Ent} {f:Nat} {listed:Array Bool} {a:Act} {w w':World} (h:Yz P md ops an Q ents f listed a w) (hq:Gq w w'):Yz P md ops an Q ents f listed a w':=by
  cases f with
  | zero=>exact fun w'' h'=>h w'' (hq.trans h')
  | succ f=>exact fun w'' h'=>h w'' (hq.trans h')
theorem JL {r:Option Nat} {n:Nat} {Q':Exit→Act→World→Prop} {ents:List Ent} (hQ : ∀a w,Q a w→Q' .normal a w) : ∀(f:Nat) (listed:Array Bool) (a:Act) (w:World),
    Yz P md ops an Q ents f listed a w→wpAnyIn (WF r) n P md ops Q' f listed a w
  | 0,_,_,w,h=>⟨(h w (Gq.refl w)).1,hQ _ _ (h w (Gq.refl w)).2⟩
  | f+1,_,_,w,h=>⟨fun h0=>hQ _ _ ((h w (Gq.refl w)).1 h0),fun i hi=>zxm (zcl (fun a' w' hk=>JL hQ f _ a' w' hk.2) ((h w (Gq.refl w)).2 i hi))⟩
def wY (P:Program) (ops:Array Oper) (B:Nat→Prop) (w0:World) (o:Oper) (v:Value) (a:Act):Prop :=
  (Region.wanted o (yielded ops a.tmps)=true ∧ ∀W,Qn B w0 W→ZE P o a W fun u w'=>u=v∧Gq W w') ∨
  (Region.wanted o (yielded ops a.tmps)=false∧v=undef)
theorem wY.of_same {B:Nat→Prop} {w0:World} {o:Oper} {v:Value} {a a':Act} (hy:wY P ops B w0 o v a) (he:execOp a'.eval o=execOp a.eval o)
    (hw:Region.wanted o (yielded ops a'.tmps)=Region.wanted o (yielded ops a.tmps)):wY P ops B w0 o v a':=by
  unfold wY ZE at *
  rw [he,hw]
  exact hy
theorem wY.clOp {B:Nat→Prop} {w0:World} {i:Nat} {o:Oper} {v:Value} {a:Act} {w:World} (hi:ops[i]? = some o) (hy:wY P ops B w0 o v a) (hk:Qn B w0 w) {K:Act→World→Prop}
    (h : ∀w',Gq w w'→K (a.put o.dst v) w'):Go.AE.clOp P ops i K a w:=by
  unfold Go.AE.clOp
  simp only [hi]
  rcases hy with ⟨hw,hv⟩ | ⟨hw,rfl⟩
  · simp only [hw,if_true]
    exact yg (fun u w' ⟨e,hq⟩=>by subst e;exact h w' hq) (hv w hk)
  · simp only [hw,Bool.false_eq_true,if_false]
    exact h w (Gq.refl w)
theorem z5U {B:Nat→Prop} {w0:World} {j:Nat} {oi oj:Oper} {v:Value} (hj:ops[j]? = some oj) (hap:oi.apart ops oj=true)
    (hsi : ∀cs b,oi.op ≠ .select cs b) (hsj : ∀cs b,oj.op ≠ .select cs b) {K:Act→World→Prop} {a:Act} {w:World}
    (hy:wY P ops B w0 oi v a) (h:clOp P ops j K (a.put oi.dst v) w) :
    clOp P ops j (fun a' w'=>wY P ops B w0 oi v a'∧K (a'.put oi.dst v) w') a w:=by
  obtain ⟨h1,h2,h3⟩:=Oper.apart_spec hap
  have keep : ∀(a:Act),wY P ops B w0 oi v a → ∀u,wY P ops B w0 oi v (a.put oj.dst u):=fun a hy u =>
    hy.of_same (execOp_put oi hsi a oj.dst u h3) (wanted_put oi a oj.dst u h3)
  unfold clOp at *
  simp only [hj] at *
  rw [wanted_put oj a oi.dst v h1] at h
  split
  · rename_i hw
    simp only [hw,if_true] at h
    have h':ZE P oj a w (fun u w'=>K ((a.put oi.dst v).put oj.dst u) w'):=by
      unfold ZE at h ⊢
      rwa [execOp_put oj hsj a oi.dst v h1] at h
    exact yg (fun u w' hk=>⟨keep a hy u,by rw [← Act.put_comm a v u h2];exact hk⟩) h'
  · rename_i hw
    simp only [hw] at h
    exact ⟨keep a hy _,by rw [← Act.put_comm a v undef h2];exact h⟩
theorem wX (hAn:zG2 md ops an) {B:Nat→Prop} {w0:World} {i:Nat} {oi:Oper} {v:Value} {ents:List Ent} (hi:ops[i]? = some oi) (hsel : ∀(j:Nat) (o:Oper) cs b,ops[j]? = some o→o.op ≠ .select cs b) :
    ∀(fuel:Nat) (listed:Array Bool) (a:Act) (w:World),JD md ops listed →
      (∀j oj,ops[j]? = some oj→j≠i→listed.getD j true=false→(∀e ∈ oj.after,Region.binds md e=true→e.on≠i)→oi.apart ops oj=true) →
      i ∈ Region.ready md ops listed→wY P ops B w0 oi v a→Qn B w0 w →
      Yz P md ops an Q (⟨i,B,w0⟩::ents) fuel (listed.setIfInBounds i true) (a.put oi.dst v) w→Yz P md ops an Q ents (fuel+1) listed a w:=by
  intro fuel
  induction fuel with
  | zero =>
    intro listed a w hcl hfree hr hy hk H w' hq
    refine ⟨fun h=>(by rw [h] at hr;cases hr),fun j hj => ?_⟩
    by_cases hji:j=i
    · subst hji
      refine hy.clOp hi (hk.gq hq) (fun w'' hq'=>⟨fun e _ _ hke=>hke.gq hq',?_⟩)
      intro w3 hq3
      exact H w3 ((hq.trans hq').trans hq3)
    · have:=ready_mono hj hji
      rw [(H w (Gq.refl w)).1] at this
      cases this
  | succ fuel ih =>
    intro listed a w hcl hfree hr hy hk H w' hq
    refine ⟨fun h=>(by rw [h] at hr;cases hr),fun j hj => ?_⟩
    by_cases hji:j=i
    · subst hji
      refine hy.clOp hi (hk.gq hq) (fun w'' hq'=>⟨fun e _ _ hke=>hke.gq hq',?_⟩)
      have H':=H.later (hq.trans hq')
      -- fewer demands
      have weaken : ∀(f:Nat) (listed:Array Bool) (a:Act) (w:World),Yz P md ops an Q (⟨j,B,w0⟩::ents) f listed a w→Yz P md ops an Q ents f listed a w:=by
        intro f
        induction f with
        | zero=>exact fun _ _ _ h=>h
        | succ f ih=>exact fun listed a w h w' hq=>⟨(h w' hq).1,fun i hi=>zcl (fun a' w'' hk=>⟨fun e he=>hk.1 e (List.mem_cons_of_mem _ he),ih _ _ _ hk.2⟩) ((h w' hq).2 i hi)⟩
      exact weaken _ _ _ _ H'
    · have h1:=(H w' hq).2 j (ready_mono hj hji)
      obtain ⟨hjun,oj,hoj,hall⟩:=mem_ready.1 hj
      have hun:=(mem_ready.1 hr).1
      have hnot : ∀e ∈ oj.after,Region.binds md e=true→e.on≠i:=fun e he hb heq=>by
        have h1:=hall e he hb
        rw [heq,getD_both hun] at h1
        cases h1
      have hnanc:an i j=false:=zDW hAn hcl hun hj
      have h2:=z5U hoj (hfree j oj hoj hji hjun hnot) (fun cs b=>hsel i oi cs b hi) (fun cs b=>hsel j oj cs b hoj) hy h1
      have hfree' : ∀k ok,ops[k]? = some ok→k≠i→(listed.setIfInBounds j true).getD k true=false →
          (∀e ∈ ok.after,Region.binds md e=true→e.on≠i)→oi.apart ops ok=true:=fun k ok hk hki hun hno=>by
        refine hfree k ok hk hki ?_ hno
        by_cases hjk:j=k
        · subst hjk;exact hjun
        · rw [getD_set_ne true hjk] at hun;exact hun
      refine zcl (fun a' w'' h3 => ?_) h2
      obtain ⟨hy',hkeep,hrest⟩:=h3
      have hk'':=hkeep ⟨i,B,w0⟩ (List.mem_cons_self ..) hnanc (hk.gq hq)
      refine ⟨fun e he hn hke=>hkeep e (List.mem_cons_of_mem _ he) hn hke,ih (listed.setIfInBounds j true) a' w'' (hcl.set hj) hfree' (ready_mono hr (Ne.symm hji)) hy' hk'' ?_⟩
      rw [Array.setIfInBounds_comm _ _ hji]
      exact hrest
end
end Go.AE
namespace Go.AE
open Go.RowKit (Below)
def Fr.Safe (F:Fr) (b:Nat) (o:Go.Obj):Prop:=b<F.w0.heap.size ∧ ¬F.own0 b ∧ ¬F.R0 b∧F.w0.heap[b]? = some o
def Cx.Beside (C:Cx) (b:Nat):Prop := ¬C.R b ∧ ∀i,zA C.H i→C.ρ i≠some b
theorem Fr.Safe.at {F:Fr} {C:Cx} {b:Nat} {o:Go.Obj} (h:F.Safe b o) (hF:zK F C):C.w.heap[b]? = some o∧C.Beside b:=by
  obtain ⟨h1,h2,h3,h4⟩:=h
  refine ⟨(hF.keep b h1 h2).trans h4,fun hb => ?_,fun i hl hb => ?_⟩
  · rcases hF.rN b hb with h | h | h
    · exact h3 h
    · exact h2 h
    · omega
  · rcases hF.own i b hl hb with h | h
    · exact h2 h
    · omega
structure FLe (F' F:Fr):Prop where
  frame : ∀C,zK F' C→zK F C
  safe : ∀b o,F.Safe b o→F'.Safe b o
  base:F'.base=F.base
  size:F.w0.heap.size≤F'.w0.heap.size
theorem FLe.refl (F:Fr):FLe F F:=⟨fun _ h=>h,fun _ _ h=>h,rfl,Nat.le_refl _⟩
theorem FLe.trans {A B C:Fr} (h:FLe A B) (k:FLe B C):FLe A C:=⟨fun x hx=>k.frame x (h.frame x hx),fun b o hb=>h.safe b o (k.safe b o hb),h.base.trans k.base,Nat.le_trans k.size h.size⟩
def Fr.re (F:Fr) (C:Cx):Fr:=⟨C.w,fun b => ∃i,zA C.H i∧C.ρ i=some b,C.R,F.base⟩
def Cx.fr (C:Cx):Fr:=⟨C.w,fun b => ∃i,zA C.H i∧C.ρ i=some b,C.R,0⟩
theorem zS1 (F:Fr) (C:Cx):zK (F.re C) C :=
  ⟨rfl,rfl,rfl,Nat.le_refl _,fun _ _ _=>rfl,fun _ h=>h,fun _ h => .inl h,fun i b hl hb => .inl ⟨i,hl,hb⟩⟩
theorem zcP {F:Fr} {C:Cx} (hF:zK F C):FLe (F.re C) F:=by
  refine ⟨fun C' h => ?_,fun b o h => ?_,rfl,hF.size⟩
  · refine ⟨h.os.trans hF.os,h.tape.trans hF.tape,h.output.trans hF.output,Nat.le_trans hF.size h.size,fun b hb ho => ?_,fun b hb=>h.r0 b (hF.r0 b hb),fun b hb => ?_,fun i b hl hb => ?_⟩
    · have hlt:b<C.w.heap.size:=Nat.lt_of_lt_of_le hb hF.size
      by_cases hn : ∃i,zA C.H i∧C.ρ i=some b
      · obtain ⟨i,hl,hi⟩:=hn
        rcases hF.own i b hl hi with h' | h'
        · exact absurd h' ho
        · omega
      · exact (h.keep b hlt hn).trans (hF.keep b hb ho)
    · rcases h.rN b hb with h' | ⟨i,hl,hi⟩ | h'
      · exact hF.rN b h'
      · rcases hF.own i b hl hi with h'' | h''
        · exact .inr (.inl h'')
        · exact .inr (.inr h'')
      · exact .inr (.inr (Nat.le_trans hF.size h'))
    · rcases h.own i b hl hb with ⟨j,hlj,hj⟩ | h'
      · exact hF.own j b hlj hj
      · exact .inr (Nat.le_trans hF.size h')
  · obtain ⟨h1,h2⟩:=h.at hF
    exact ⟨Nat.lt_of_lt_of_le h.1 hF.size,fun ⟨i,hl,hi⟩=>h2.2 i hl hi,h2.1,h1⟩
theorem Qd {F:Fr} {C:Cx} {b:Nat} {o:Go.Obj} (hb:C.w.heap[b]? = some o) (hn:C.Beside b):(F.re C).Safe b o :=
  ⟨(Array.getElem?_eq_some_iff.1 hb).1,fun ⟨i,hl,hi⟩=>hn.2 i hl hi,hn.1,hb⟩
def Za8 (F:Fr) (d:Deferred) (D:Nat):Prop:=d.target = .collected D∧F.base≤D∧F.Safe D (.deferred (some []))
def yD (F:Fr):List Deferred→Prop
  | []=>True
  | d::r=>(∃D,Za8 F d D ∧ ∀e ∈ r,e.target ≠ .collected D)∧yD F r
def Yw (F:Fr) (ds:List Deferred):Prop:=F.base≤F.w0.heap.size∧yD F ds
theorem yD.to {F F':Fr} (hb:F'.base=F.base) (hs : ∀D,F.Safe D (.deferred (some []))→F'.Safe D (.deferred (some []))) : ∀{ds:List Deferred},yD F ds→yD F' ds
  | [],_=>trivial
  | _::_,⟨⟨D,⟨h1,h2,h3⟩,h4⟩,h⟩=>⟨⟨D,⟨h1,by rw [hb];exact h2,hs _ h3⟩,h4⟩,yD.to hb hs h⟩
theorem yD.fresh {F:Fr} {D:Nat} (hD:F.w0.heap.size≤D) : ∀{ds:List Deferred},yD F ds → ∀e ∈ ds,e.target ≠ .collected D
  | [],_,e,he=>by cases he
  | _::_,⟨⟨D',⟨h1,h2,h3⟩,h4⟩,h⟩,e,he=>by
    rcases List.mem_cons.1 he with rfl | he
    · rw [h1]
      intro e'
      cases e'
      have:=h3.1
      omega
    · exact yD.fresh hD h e he
theorem Yw.le {F F':Fr} (hl:FLe F' F) {ds:List Deferred} (h:Yw F ds):Yw F' ds :=
  ⟨by rw [hl.base];exact Nat.le_trans h.1 hl.size,h.2.to hl.base fun D hD=>hl.safe _ _ hD⟩
def Yf (r:Option Nat) (F:Fr):Prop := ∀l,r=some l → ∃r0,F.Safe l (.loop r0)
theorem Yf.none (F:Fr):Yf .none F:=fun _ h=>by cases h
theorem Yf.le {r:Option Nat} {F F':Fr} (hl:FLe F' F) (h:Yf r F):Yf r F':=fun l e=>by
  obtain ⟨r0,h0⟩:=h l e
  exact ⟨r0,hl.safe _ _ h0⟩
structure Priv (n0:Nat) (C:Cx) (W:World):Prop where
  os:W.os=C.w.os
  tape:W.tape=C.w.tape
  output:W.output=C.w.output
  size:C.w.heap.size≤W.heap.size
  low : ∀b,b<C.w.heap.size→b<n0→W.heap[b]? = C.w.heap[b]?
  ro : ∀b,C.R b→W.heap[b]? = C.w.heap[b]?
  own : ∀i b,zA C.H i→C.ρ i=some b→W.heap[b]? = C.w.heap[b]?
section
variable {F:Fr} {C:Cx} {s:St} {tmps:Array Value} {stk:List (Array Value)} {W:World} {n0:Nat}
theorem Priv.refl (n0:Nat) (C:Cx):Priv n0 C C.w:=⟨rfl,rfl,rfl,Nat.le_refl _,fun _ _ _=>rfl,fun _ _=>rfl,fun _ _ _ _=>rfl⟩
theorem Priv.trans {W':World} (h:Priv n0 C W) (k:Priv n0 (C.at W) W'):Priv n0 C W' :=
  ⟨k.os.trans h.os,k.tape.trans h.tape,k.output.trans h.output,Nat.le_trans h.size k.size,fun b hb hn=>(k.low b (Nat.lt_of_lt_of_le hb h.size) hn).trans (h.low b hb hn),
    fun b hb=>(k.ro b hb).trans (h.ro b hb),fun i b hl hb=>(k.own i b hl hb).trans (h.own i b hl hb)⟩
theorem zrJ [BT] (hW:Priv n0 C W) : ∀a v,a.isRef=true→VRel C a v→VRel (C.at W) a v:=by
  intro a v ha h
  refine Wk ha h rfl ?_ ?_
  · show match zp C.H a.idOf with
      | .dead=>True
      | .arr t l=>zp C.H a.idOf = .arr t l
      | .cells cs => ∃cs',zp C.H a.idOf = .cells cs'∧cs'.length=cs.length
      | .bcells _ => ∃cs',zp C.H a.idOf = .bcells cs' | .btold _ => ∃cs',zp C.H a.idOf = .btold cs' | .mp k w l=>zp C.H a.idOf = .mp k w l
    generalize zp C.H a.idOf=g
    cases g <;> simp
  · intro b hl hb
    exact hW.own _ b hl hb
theorem zKq (hW:Priv n0 C W) : ∀b,C.R b→(C.at W).R b∧(C.at W).w.heap[b]? = C.w.heap[b]? := fun b hb=>⟨hb,hW.ro b hb⟩
theorem zYO [BT] (hh:zY C) (hW:Priv n0 C W):zY (C.at W):=by
  refine ⟨fun i => ?_,hh.inj,hh.ro,fun b hb=>Nat.lt_of_lt_of_le (hh.rlt b hb) hW.size⟩
  refine yj.mono (C:=C) (zrJ hW) (zKq hW) (hh.obj i) ?_
  intro b hb hd
  exact hW.own i b hd hb
theorem zVy (hF:zK F C) (hn:F.w0.heap.size≤n0) (hW:Priv n0 C W):zK F (C.at W) :=
  ⟨hW.os.trans hF.os,hW.tape.trans hF.tape,hW.output.trans hF.output,Nat.le_trans hF.size hW.size,
    fun b hb ho=>(hW.low b (Nat.lt_of_lt_of_le hb hF.size) (Nat.lt_of_lt_of_le hb hn)).trans (hF.keep b hb ho),hF.r0,hF.rN,hF.own⟩
theorem yi [BT] (hS:zB F C s tmps stk) (hn:F.w0.heap.size≤n0) (hW:Priv n0 C W):zB F (C.at W) s tmps stk :=
  ⟨hS.H,zYO hS.heap hW,Zq.mono (zrJ hW) (zKq hW) hS.env,ZG.mono (zrJ hW) (zKq hW) hS.stk,zVy hS.frame hn hW⟩
theorem Y8 {D:Nat} (o:Go.Obj) (hD:C.Beside D) (hn:n0≤D):Priv n0 C (C.w.putObj D o) :=
  ⟨rfl,rfl,rfl,by simp,fun b _ hb=>World.putObj_heap_other (by omega),fun b hb=>World.putObj_heap_other (fun e=>hD.1 (e ▸ hb)),fun i b hl hb=>World.putObj_heap_other (fun e=>hD.2 i hl (e ▸ hb))⟩
end
structure YJ (n0:Nat) (C C':Cx):Prop where
  size:C.w.heap.size≤C'.w.heap.size
  keep : ∀b,n0≤b→b<C.w.heap.size→C.Beside b→C'.w.heap[b]? = C.w.heap[b]? ∧ C'.Beside b
theorem YJ.trans {n0:Nat} {A B C:Cx} (h:YJ n0 A B) (k:YJ n0 B C):YJ n0 A C :=
  ⟨Nat.le_trans h.size k.size,fun b hn hb hs=>by
    obtain ⟨h1,h2⟩:=h.keep b hn hb hs
    obtain ⟨k1,k2⟩:=k.keep b hn (Nat.lt_of_lt_of_le hb h.size) h2
    exact ⟨k1.trans h1,k2⟩⟩
theorem YJ.of_re {n0:Nat} {F:Fr} {C C':Cx} (h:zK (F.re C) C'):YJ n0 C C' :=
  ⟨h.size,fun b _ hb hs=>by
    have:=(Qd (F:=F) (b:=b) (o:=C.w.heap[b]) (Array.getElem?_eq_getElem hb) hs).at h
    exact ⟨by rw [this.1,Array.getElem?_eq_getElem hb],this.2⟩⟩
theorem YJ.putObj {n0 l:Nat} (C:Cx) (o:Go.Obj) (hl:l<n0):YJ n0 C (C.at (C.w.putObj l o)) :=
  ⟨by show C.w.heap.size≤(C.w.putObj l o).heap.size;simp,fun b hn _ hs=>⟨World.putObj_heap_other (by omega),hs⟩⟩
theorem yA {P:Program} {fn:Func} {tmps:Array Value} {R:Ending→World→Prop} {r:Option Nat} {n:Nat} : ∀(ds:List Deferred) (F:Fr) (C:Cx),yD F ds→zK F C →
    (∀W,Priv F.base C W → ∃v,(results fn tmps).run P W = .ok v W∧R (.returned v) W)→LeavesInM (WF r) n P fn tmps R ds .returning C.w:=by
  suffices key : ∀(ds:List Deferred) (F:Fr) (C:Cx) (W:World),yD F ds→zK F C→Priv F.base C W→(∀d ∈ ds,∀D,d.target = .collected D→W.heap[D]? = C.w.heap[D]?) →
      (∀W,Priv F.base C W → ∃v,(results fn tmps).run P W = .ok v W∧R (.returned v) W)→LeavesInM (WF r) n P fn tmps R ds .returning W from
    fun ds F C hm hF hR=>key ds F C C.w hm hF (Priv.refl _ _) (fun _ _ _ _=>rfl) hR
  intro ds
  induction ds with
  | nil=>intro F C W _ _ hW _ hR;exact hR W hW
  | cons d ds ih =>
    intro F C W hm hF hW hk hR
    obtain ⟨⟨D,⟨ht,hb,hs⟩,hne⟩,hm⟩:=hm
    obtain ⟨h1,h2⟩:=hs.at hF
    have hD:W.heap[D]? = some (.deferred (some [])):=(hk d (List.mem_cons_self ..) D ht).trans h1
    refine ⟨by simp,.inl ⟨D,W.putObj D (.deferred none),ht,run_takeDeferred hD,?_⟩⟩
    have hW':Priv F.base (C.at W) (W.putObj D (.deferred none)):=Y8 (C:=C.at W) _ h2 hb
    refine ih F C _ hm hF (hW.trans hW') (fun e he D' hD' => ?_) hR
    refine (World.putObj_heap_other ?_).trans (hk e (List.mem_cons_of_mem _ he) D' hD')
    intro e'
    subst e'
    exact hne e he hD'
#print axioms yA
end Go.AE
namespace Go.AE
open Go.RowKit (Below)
variable {P:Program} {T:Tab} {E:Env}
def Ex.toExit:Ex→Exit
  | .norm => .normal
  | .exit i => .exit i
  | .ret => .ret
  | .goto l => .goto l
def yG [BT] (F:Fr) (K:Ex→St→Ans) (stk:List (Array Value)) (nt:Nat) (res:AV×List Obj) (e:Exit) (a:Act) (w:World):Prop :=
  ∃F' e' s' C',FLe F' F∧e'.toExit=e∧K e' s'=some res∧C'.w=w∧zB F' C' s' a.tmps stk∧nt≤a.tmps.size∧Yw F' a.defers
theorem yG.of_le [BT] {F F':Fr} (hl:FLe F' F) {K:Ex→St→Ans} {stk:List (Array Value)} {nt:Nat} {res:AV×List Obj} {e:Exit} {a:Act} {w:World} (h:yG F' K stk nt res e a w):yG F K stk nt res e a w:=by
  obtain ⟨F'',e',s',C',h0,h⟩:=h
  exact ⟨F'',e',s',C',h0.trans hl,h⟩
def wW (r:Option Nat) (P:Program) (c:Code) (Q:Exit→Act→World→Prop) (a:Act) (w:World):Prop :=
  ∀(b:Frame) (k:List Item) (cs:List Frame),b.roundOf=r → ∃e a' w',Q e a' w'∧ArrivesIn (Machine.fenced P (WF r)) P (lone (b.atR a (.code c :: .inLoop c::k)) cs w) b k cs e a' w'
def Zdc [BT] (P:Program) (nt:Nat) (c:Code) (G:(Ex→St→Ans)→St→Ans):Prop :=
  ∀{r:Option Nat} {F:Fr} {K:Ex→St→Ans} {s:St} {C:Cx} {a:Act} {stk:List (Array Value)} {res:AV×List Obj},
    G K s=some res→Yf r F→zB F C s a.tmps stk→nt≤a.tmps.size→Yw F a.defers→wW r P c (yG F K stk nt res) a C.w
def zw [BT] (P:Program) (nt:Nat) (c:Code) (G:(Ex→St→Ans)→St→Ans):Prop :=
  ∀{r:Option Nat} {F:Fr} {K:Ex→St→Ans} {s:St} {C:Cx} {a:Act} {stk:List (Array Value)} {res:AV×List Obj},
    G K s=some res→Yf r F→zB F C s a.tmps stk→nt≤a.tmps.size→Yw F a.defers→c.wpIn (WF r) 0 P (yG F K stk nt res) a C.w
def zcK [BT] (P:Program) (nt:Nat) (c:Code) (x:Ann) (p:Prop):Prop :=
  match x with
  | .cut _ _ G=>zw P nt c G
  | _=>p
def zq [BT] (P:Program) (nt:Nat):Code→Ann→Prop
  | .seq a b,x=>zcK P nt a x.fst (zq P nt a x.fst)∧zcK P nt b x.snd (zq P nt b x.snd)
  | .cond _ a b,x=>zcK P nt a x.fst (zq P nt a x.fst)∧zcK P nt b x.snd (zq P nt b x.snd)
  | .block _ c,x=>zcK P nt c x.fst (zq P nt c x.fst)
  | .loop c,x=>zcK P nt c x.fst (zq P nt c x.fst) ∧ ∀G,x.sum? = some G→Zdc P nt c G
  | .rangeFunc _ _ _ _,x=>match x with
    | .rnd _=>False
    | _=>True
  | _,_=>True
theorem zb [BT] (P:Program) (nt:Nat) : ∀c:Code,zq P nt c .none:=by
  intro c
  induction c with
  | seq a b iha ihb=>exact ⟨iha,ihb⟩
  | cond c a b iha ihb=>exact ⟨iha,ihb⟩
  | block id c ih=>exact ih
  | loop c ih=>exact ⟨ih,fun G h=>by cases h⟩
  | _=>trivial
def qJ [BT] (P:Program) (X:Nat→Ann→Code→(Ex→St→Ans)→St→Ans):Prop :=
  ∀{r:Option Nat} {F:Fr} {nt:Nat} {x:Ann} {c:Code} {K:Ex→St→Ans} {s:St} {C:Cx} {a:Act} {stk:List (Array Value)} {res:AV×List Obj},
    X nt x c K s=some res→zq P nt c x→Yf r F→zB F C s a.tmps stk→nt≤a.tmps.size→Yw F a.defers→Code.wpIn (WF r) 0 P c (yG F K stk nt res) a C.w
def z7H (P:Program) (yv:Value) (vs:Array Value) (W:World) (R:Ending→World→Prop):Prop :=
  ∃fn cap nx,yv = .func fn #[] cap∧(invoke (.fn fn cap) vs).run P W = .ok nx W∧match nx with
    | .enter f args=>CallsIn Fence.wide 0 P f args W R
    | .round l f tmps as c=>RoundIn Fence.wide 0 P l f tmps as c W R
    | _=>False
def IterOk [BT] (P:Program) (g:Nat) (start:List AV→List Obj→Option (List Int)) (nx:List AV→List Obj→List Int→Option (Option (List AV×List Int))):Prop :=
  YQ P g ∧ ∀(yv:Value) (C:Cx) (cap:List AV) (us:Array Value) (L:List Int) (J:List Int→Cx→List AV→Prop) (Jx:Cx→Prop),
    zY C→VRels C cap us.toList→start cap C.H=some L→(∃C1 cap1,C1.w=C.w∧J L C1 cap1) →
    (∀L C1 cap1,J L C1 cap1→zY C1∧VRels C1 cap1 us.toList ∧ ∃o,nx cap1 C1.H L=some o) →
    (∀L C1 cap1 W,J L C1 cap1→Priv C.w.heap.size C1 W→J L (C1.at W) cap1) →
    (∀C1 W,Jx C1→Priv C.w.heap.size C1 W→Jx (C1.at W)) →
    (∀L C1 cap1 xs L',J L C1 cap1→nx cap1 C1.H L=some (some (xs,L')) → ∀vs:Array Value,VRels C1 xs vs.toList →
      z7H P yv vs C1.w fun e W' =>
        (e = .returned (.bool true) ∧ ∃C' cap',C'.w=W'∧J L' C' cap'∧YJ C.w.heap.size C1 C') ∨
        (e = .returned (.bool false) ∧ ∃C',C'.w=W'∧Jx C'∧YJ C.w.heap.size C1 C')) →
    CallsIn Fence.wide 0 P g (#[yv]++us) C.w fun e W'=>e = .returned (.tuple #[]) ∧
      ((∃L' C' cap',C'.w=W'∧J L' C' cap'∧nx cap' C'.H L'=some none) ∨ ∃C',C'.w=W'∧Jx C')
def zgz [BT] (P:Program) (g:Nat):znZ→Prop
  | .inline nt res ann body => ∃fn,P.funcs[g]? = some fn∧fn.body=some body∧fn.name ≠ "runtime.NumGoroutine" ∧ fn.ntmps=nt∧fn.results.toList=res∧zq P nt body ann
  | .pure F=>zM P g F
  | .func F=>zO P g F
  | .iter start next => ∃st nx,IterOk P (g - 100000) st nx∧(∀cap H K,start cap H K=za (st cap H) K) ∧ ∀cap H L Ke Kg,next cap H L Ke Kg=za (nx cap H L) fun o=>match o with
    | none=>Ke
    | some p=>Kg p.1 p.2
def zf [BT] (P:Program) (E:Env):Prop := ∀g sp,Env.get E g=some sp→zgz P g sp
def znN (tmps:Array Value):ResultVar→Sem Value
  | .tmp t=>pure (tmps.getD t undef)
  | .cell a t=>do loadVar t (← asAddr (tmps.getD a undef))
theorem zWK (fn:Func) (tmps:Array Value):results fn tmps=(do let vs ← fn.results.mapM (znN tmps);pure (if h:vs.size=1 then vs[0] else .tuple vs)):=by
  have:znN tmps=(fun x=>match x with
    | .tmp t=>pure (tmps.getD t undef)
    | .cell a t=>do loadVar t (← asAddr (tmps.getD a undef))):=by
    funext x
    cases x <;> rfl
  rw [this]
  rfl
theorem zai [BT] (hT:zN P T) {F:Fr} {C:Cx} {s:St} {tmps:Array Value} {stk:List (Array Value)} (hS:zB F C s tmps stk) :
    ∀{l:List ResultVar} {acc:List AV} {us:List Value} {K:List AV→Ans} {res:AV×List Obj},VRels C acc us→Zv T s l acc K=some res →
    ∃rs vs,K (acc++rs)=some res∧(l.mapM (znN tmps)).run P C.w = .ok vs C.w∧VRels C rs vs
  | [],acc,us,K,res,ha,h=>by
    rw [Zv] at h
    exact ⟨[],[],by rw [List.append_nil];exact h,by simp,by simp [VRels]⟩
  | .tmp t::r,acc,us,K,res,ha,h=>by
    rw [Zv] at h
    have ht:=hS.env t
    obtain ⟨rs,vs,h1,h2,h3⟩:=zai hT hS (ha.append (m:=[Zm s.env t]) (us:=[tmps.getD t undef]) (by rw [VRels];exact ⟨_,[],rfl,ht,by simp [VRels]⟩)) h
    refine ⟨Zm s.env t::rs,tmps.getD t undef::vs,by rw [List.append_assoc] at h1;exact h1,?_,by rw [VRels];exact ⟨_,_,rfl,ht,h3⟩⟩
    rw [List.mapM_cons]
    simp only [Sem.run_bind,znN,Sem.run_pure,Result.andThen_ok,h2]
  | .cell a t::r,acc,us,K,res,ha,h=>by
    rw [Zv] at h
    obtain ⟨x,u,h0,hl,hx⟩:=zvw hT hS.heap hS.H (hS.env a) h
    replace hl:=hl C.w (zq6.refl _ _)
    obtain ⟨rs,vs,h1,h2,h3⟩:=zai hT hS (ha.append (m:=[x]) (us:=[u]) (by rw [VRels];exact ⟨_,[],rfl,hx,by simp [VRels]⟩)) h0
    refine ⟨x::rs,u::vs,by rw [List.append_assoc] at h1;exact h1,?_,by rw [VRels];exact ⟨_,_,rfl,hx,h3⟩⟩
    have hl':(znN tmps (.cell a t)).run P C.w = .ok u C.w:=by
      unfold Instr.loadAt Instr.sureAddr at hl
      split at hl
      · rename_i p hp
        rw [znN,hp]
        simpa [asAddr] using hl
      · simp [stuck] at hl
    rw [List.mapM_cons]
    simp only [Sem.run_bind,hl',Sem.run_pure,Result.andThen_ok,h2]
theorem YP [BT] (hT:zN P T) {F:Fr} {C:Cx} {s:St} {tmps:Array Value} {stk:List (Array Value)} (hS:zB F C s tmps stk) {fn:Func} {K:List AV→Ans} {res:AV×List Obj} (h:Zv T s fn.results.toList [] K=some res) :
    ∃rs v,K rs=some res∧(results fn tmps).run P C.w = .ok v C.w∧VRel C (y2 rs) v:=by
  obtain ⟨rs,vs,h1,h2,h3⟩:=zai hT hS (acc:=[]) (us:=[]) (by simp [VRels]) h
  refine ⟨rs,if h:vs.length=1 then vs[0] else .tuple vs.toArray,h1,?_,?_⟩
  · rw [zWK,Array.mapM_eq_mapM_toList]
    simp only [Sem.run_bind,Sem.run_map,h2,Result.andThen_ok,Sem.run_pure]
    by_cases hv:vs.length=1
    · simp [hv]
    · simp [hv]
  · have hlen:=h3.length
    by_cases hv:vs.length=1
    · rw [dif_pos hv]
      obtain ⟨v,rfl⟩ : ∃v,vs=[v]:=by
        match vs,hv with
        | [v],_=>exact ⟨v,rfl⟩
      obtain ⟨x,rfl⟩ : ∃x,rs=[x]:=by
        match rs,hlen with
        | [x],_=>exact ⟨x,rfl⟩
      rw [VRels] at h3
      obtain ⟨v',_,e,hx,_⟩:=h3
      cases e
      exact hx
    · rw [dif_neg hv]
      have:y2 rs = .tup rs:=by
        unfold y2
        split
        · rename_i x
          exact absurd hlen (by simpa using hv)
        · rfl
      rw [this,VRel]
      exact ⟨_,rfl,by simpa using h3⟩
theorem zqN {C:Cx} : ∀{l:List AV} {vs:List Value} (n:Nat),VRels C l vs → ∀t,VRel C (Zm (ZL n l) (n+t)) ((vs[t]?).getD undef)
  | [],_,n,h,t=>by rw [ZL,zbs,VRel];trivial
  | x::r,_,n,h,t=>by
    rw [VRels] at h
    obtain ⟨v,vs',rfl,hv,hr⟩:=h
    rw [ZL,Zu]
    cases t with
    | zero=>rw [Nat.add_zero,if_pos rfl];exact hv
    | succ t =>
      rw [if_neg (by omega)]
      have:=zqN (n+1) hr t
      rw [show n+(t+1)=n+1+t by omega]
      simpa using this
theorem Jq {C:Cx} {l:List AV} {vs:Array Value} (h:VRels C l vs.toList) (k:Nat):Zq C (ZL 0 l) (vs++Array.replicate k undef):=by
  intro t
  have h1:=zqN 0 h t
  rw [Nat.zero_add] at h1
  by_cases ht:t<vs.size
  · have:(vs++Array.replicate k undef).getD t undef=(vs.toList[t]?).getD undef:=by
      rw [Array.getD_eq_getD_getElem?,Array.getElem?_append_left ht]
      simp
    rwa [this]
  · have hl:l.length≤t:=by have:=h.length;simp only [Array.length_toList] at this;omega
    have:Zm (ZL 0 l) t = .unk:=by
      clear h1 ht h
      have key : ∀(l:List AV) (n:Nat),n+l.length≤t→Zm (ZL n l) t = .unk:=by
        intro l
        induction l with
        | nil=>intro n _;rfl
        | cons x r ih =>
          intro n hn
          rw [ZL,Zu,if_neg (by simp at hn;omega)]
          exact ih (n+1) (by simp at hn;omega)
      exact key l 0 (by omega)
    rw [this,VRel]
    trivial
theorem zqP [BT] (hT:zN P T) (hE:zf P E) {inl:Nat→Ann→Code→(Ex→St→Ans)→St→Ans} (hI:qJ P inl) {F:Fr} {C:Cx} {s:St} {a:Act} {stk:List (Array Value)} (hS:zB F C s a.tmps stk)
    {g:Nat} {args:List AV} {us:Array Value} (hargs:VRels C args us.toList) {K:KV} {res:AV×List Obj} (h:ze9 T E inl g args s K=some res) :
    (∃w,(Go.callFunc g us).run P C.w = .ok (.enter g us) w∧w=C.w) ∧
    Calls P g us C.w fun
      | .returned v,w' => ∃r s' C',K r s'=some res∧C'.w=w'∧zB F C' s' a.tmps stk∧VRel C' r v
      | _,_=>False:=by
  unfold ze9 at h
  replace h:=zr h;obtain ⟨sp,hsp,h⟩:=h
  have hok:=hE g sp hsp
  cases sp with
  | pure F' =>
    obtain ⟨r,v,hK,hv,hc⟩:=zgR hS hok hargs h
    refine ⟨⟨C.w,hok.1.run us C.w,rfl⟩,(hc C.w (zq6.refl _ _)).mono ?_⟩
    rintro e w' ⟨rfl,hw'⟩
    exact ⟨r,s,C.at w',hK,rfl,YE hS hw',hv _⟩
  | func F' =>
    refine ⟨⟨C.w,hok.1.run us C.w,rfl⟩,(zCi hS hok hargs h).mono ?_⟩
    intro e w' hw'
    cases e with
    | returned v=>exact hw'
    | panicked ch=>exact hw'.elim
    | outgrown=>exact hw'.elim
  | iter st nx=>simp only at h;cases h
  | inline nt rs ann body =>
    obtain ⟨fn,hf,hb,hn,rfl,rfl,hann⟩:=hok
    refine ⟨⟨C.w,?_,rfl⟩,?_⟩
    · have hne:(fn.name == "runtime.NumGoroutine")=false:=by simpa using hn
      simp [Go.callFunc,hf,hb,hn]
    · simp only at h
      -- the callee's frame
      obtain ⟨F1,hF1⟩ : ∃F1:Fr,F1={ F.re C with base:=C.w.heap.size }:=⟨_,rfl⟩
      have hF1C:zK F1 C:=by rw [hF1];exact ⟨rfl,rfl,rfl,Nat.le_refl _,fun _ _ _=>rfl,fun _ h=>h,fun _ h => .inl h,fun i b hl hb => .inl ⟨i,hl,hb⟩⟩
      have hback : ∀C',zK F1 C'→zK F C':=fun C' h=>(zcP hS.frame).frame C' (by rw [hF1] at h;exact ⟨h.os,h.tape,h.output,h.size,h.keep,h.r0,h.rN,h.own⟩)
      have hb1:F1.base=C.w.heap.size:=by rw [hF1]
      have hw1:F.w0.heap.size≤C.w.heap.size:=hS.frame.size
      have hS':zB F1 C { env:=ZL 0 args,stk:=s.env::s.stk,H:=s.H,blk:=Nat.mul g 4096 } (us++Array.replicate (fn.ntmps - us.size) undef) (a.tmps::stk) :=
        ⟨hS.H,hS.heap,Jq hargs _,by rw [ZG];exact ⟨_,_,rfl,hS.env,hS.stk⟩,hF1C⟩
      refine (callsIn_wide (n:=0)).1 (callsIn_of_wp_marks hf hb trivial (wpIn_mono (hI (r:=none) (a:={ tmps:=us++Array.replicate (fn.ntmps - us.size) undef,defers:=[] }) h hann (Yf.none _) hS' (by simp;omega) ⟨by rw [hF1];exact Nat.le_refl _,trivial⟩) ?_))
      rintro e a' w' ⟨F2,e',s',C',hle,rfl,hK,rfl,hS'',hsz,hd⟩
      have fin : ∀{stk' env'},s'.stk=env'::stk'→(Zv T s' fn.results.toList [] fun vs=>Z4 (y2 vs) fun v=>K v ⟨env',stk',s'.H,s.blk⟩)=some res →
          ∀W,Priv F2.base C' W → ∃v,(results fn a'.tmps).run P W = .ok v W ∧ ∃r s'' C'',K r s''=some res∧C''.w=W∧zB F C'' s'' a.tmps stk∧VRel C'' r v:=by
        intro stk' env' hst hr W hW
        have hSF:zB F C' s' a'.tmps (a.tmps::stk):=⟨hS''.H,hS''.heap,hS''.env,hS''.stk,hback _ (hle.frame _ hS''.frame)⟩
        have hSW:zB F (C'.at W) s' a'.tmps (a.tmps::stk):=yi hSF (by rw [hle.base,hb1];exact hw1) hW
        obtain ⟨rs,v,h1,h2,h3⟩:=YP hT hSW hr
        rw [yn] at h1
        have hstk:=hSW.stk
        rw [hst,ZG] at hstk
        obtain ⟨t',ts',he,henv,hstk⟩:=hstk
        cases he
        exact ⟨v,h2,_,_,C'.at W,h1,rfl,⟨hSW.H,hSW.heap,henv,hstk,hSW.frame⟩,h3⟩
      cases e' with
      | norm =>
        simp only at hK
        split at hK
        · rename_i env' stk' hst
          exact yA _ F2 C' hd.2 hS''.frame (fun W hW=>fin hst hK W hW)
        · cases hK
      | ret =>
        simp only at hK
        split at hK
        · rename_i env' stk' hst
          exact yA _ F2 C' hd.2 hS''.frame (fun W hW=>fin hst hK W hW)
        · cases hK
      | exit i=>cases hK
      | goto l=>cases hK
theorem zVG {t g:Nat} {name:String} (h:methB P t name g=true) (n:Nat) (u:Value) (W:World):(method (n+1) t u name).run P W = .ok (g,u) W:=by
  unfold methB at h
  split at h
  · rename_i info d hinf hu
    split at h
    · rename_i m hm
      simp only [Bool.and_eq_true] at h
      obtain ⟨hpath,h⟩:=h
      split at h
      · rename_i fp hf
        obtain ⟨f,pr⟩:=fp
        simp only [Bool.and_eq_true] at h
        obtain ⟨hfg,h⟩:=h
        obtain rfl:=Nat.eq_of_beq_eq_true hfg
        have hp:m.path.toList=[]:=by simpa using hpath
        have hti:(typeInfo t).run P W = .ok info W:=by simp [typeInfo,hinf]
        unfold method
        simp only [Sem.run_bind,hti,Result.andThen_ok,hm,hp,follow,Sem.run_pure,hf,receiverAt,run_underlying hu]
        cases d <;> cases pr <;> first | (cases h;done) | simp [Place.get]
      · cases h
    · cases h
  · cases h
theorem zah [BT] (hT:zN P T) {C:Cx} {s:St} {a:Act} (he:Zq C s.env a.tmps) {c:Call} {g:Nat} {args:List AV} (h:w6 T s c=some (g,args)) :
    ∃us:Array Value,VRels C args us.toList ∧ ∀(o:Oper),o.op = .call c → ∀W,(execOp a.eval o).run P W=(Go.callFunc g us).run P W:=by
  unfold w6 at h
  split at h
  · rename_i f hc
    split at h
    · rename_i g' first cap hf
      cases h
      have hv:=zR (C:=C) he f
      rw [hf,VRel] at hv
      obtain ⟨a',b',hv,h1,h2⟩:=hv
      refine ⟨a'++c.args.map a.eval++b',?_,fun o ho W => ?_⟩
      · rw [Array.toList_append,Array.toList_append,Array.toList_map]
        exact (h1.append (qV he _)).append h2
      · simp only [execOp,ho,resolve,hc,Deferred.ofValue,hv,invoke]
        rfl
    · cases h
  · rename_i r name hc
    split at h
    · rename_i t v hr
      split at h
      · rename_i i hti
        split at h
        · rename_i g' hg
          cases h
          obtain ⟨d,info,z,hi⟩:=hT t i hti
          have hv:=zR (C:=C) he r
          rw [hr,VRel] at hv
          obtain ⟨u,hu,hvu⟩:=hv
          refine ⟨#[u]++c.args.map a.eval,?_,fun o ho W => ?_⟩
          · rw [Array.toList_append,Array.toList_map]
            show VRels C (v::c.args.toList.map (opd s.env)) (u::_)
            rw [VRels]
            exact ⟨u,_,rfl,hvu,qV he _⟩
          · obtain ⟨n,hn⟩ : ∃n,P.types.size+Made.depth=n+1:=⟨P.types.size+(Made.depth - 1),by unfold Made.depth;omega⟩
            have hm:=zVG (hi.meth name _ hg) n u W
            have e0:(#[Value.iface t u]++Array.map a.eval c.args)[0]? = some (Value.iface t u):=by
              rw [Array.getElem?_append_left (by simp)];rfl
            have e1:(Array.map a.eval c.args).extract 0 c.args.size=Array.map a.eval c.args:=by
              have:=Array.extract_size (xs:=Array.map a.eval c.args)
              rwa [Array.size_map] at this
            simp [execOp,ho,resolve,hc,invoke,hu,callMethod,e0,e1,hn,hm]
        · cases h
      · cases h
    · cases h
  · cases h
theorem zcA [BT] (hT:zN P T) (hE:zf P E) {inl:Nat→Ann→Code→(Ex→St→Ans)→St→Ans} (hI:qJ P inl) {F:Fr} {C:Cx} {s:St} {a:Act} {stk:List (Array Value)} (hS:zB F C s a.tmps stk)
    {o:Oper} {K:KV} {res:AV×List Obj} (h:opE T E inl o s K=some res) :
    ZE P o a C.w fun u w' => ∃r s' C',K r s'=some res∧C'.w=w'∧zB F C' s' a.tmps stk∧VRel C' r u∧Ze C C' (Zt s o):=by
  unfold ZE
  have loud:YD T o s K=some res→ZE P o a C.w fun u w' => ∃r s' C',K r s'=some res∧C'.w=w'∧zB F C' s' a.tmps stk∧VRel C' r u∧Ze C C' (Zt s o):=by
    intro h
    obtain ⟨r,s',C',nx,h1,h2,h3,h4,_,hft⟩:=zLJ hT hS h
    unfold ZE
    rw [h2]
    rcases h4 with ⟨v,rfl,hv⟩ | ⟨rfl,rfl⟩
    · exact ⟨_,_,_,h1,rfl,h3,hv,hft⟩
    · exact ⟨_,_,_,h1,rfl,h3,by rw [VRel];trivial,hft⟩
  have quiet : ∀{A},Zb T o s (fun v=>K v s)=some A→A=some res→ZE P o a C.w fun u w' => ∃r s' C',K r s'=some res∧C'.w=w'∧zB F C' s' a.tmps stk∧VRel C' r u∧Ze C C' (Zt s o):=by
    intro A h hA
    obtain ⟨r,v,h1,h2,h3⟩:=zje hT hS.heap hS.H hS.env h hA
    unfold ZE
    rw [h2 C.w (zii.refl _ _)]
    refine ⟨_,_,_,h1,rfl,hS,h3,?_⟩
    cases Zt s o with
    | none=>trivial
    | some l=>exact fun b hb _=>Z0.refl C b hb
  unfold opE at h
  split at h
  · rename_i A hA
    split at hA
    · cases hA
    · cases hA
    · exact quiet hA h
  · split at h
    · rename_i c ho
      have called:(za (w6 T s c) fun x=>ze9 T E inl x.1 x.2 s K)=some res→Zt s o=none →
          ZE P o a C.w fun u w' => ∃r s' C',K r s'=some res∧C'.w=w'∧zB F C' s' a.tmps stk∧VRel C' r u∧Ze C C' (Zt s o):=by
        intro h hfo
        replace h:=zr h;obtain ⟨⟨g,args⟩,hg,h⟩:=h
        obtain ⟨us,hus,hex⟩:=zah hT hS.env hg
        obtain ⟨⟨w,hr,rfl⟩,hcall⟩:=zqP hT hE hI hS hus h
        unfold ZE
        rw [hex o ho,hr]
        refine hcall.mono ?_
        intro e w' hw'
        cases e with
        | returned v =>
          obtain ⟨r,s',C',g1,g2,g3,g4⟩:=hw'
          exact ⟨v,rfl,r,s',C',g1,g2,g3,g4,by rw [hfo];trivial⟩
        | panicked ch=>exact hw'.elim
        | outgrown=>exact hw'.elim
      split at h
      · rename_i hcal
        exact called h (by unfold Zt ZI;rw [ho];simp only [cond_false];rw [hcal])
      · rename_i hcal
        exact called h (by unfold Zt ZI;rw [ho];simp only [cond_false];rw [hcal])
      · exact loud h
    · exact loud h
theorem z2i [BT] (hT:zN P T) (hE:zf P E) {inl:Nat→Ann→Code→(Ex→St→Ans)→St→Ans} (hI:qJ P inl) {F:Fr} {C:Cx} {s:St} {a:Act} {stk:List (Array Value)} (hS:zB F C s a.tmps stk)
    {o:Oper} {K:KV} {res:AV×List Obj} (h:opE T E inl o s K=some res) {Q:Exit→Act→World→Prop} {next:Act→World→Prop}
    (hn : ∀r s' C' u,K r s'=some res→zB F C' s' a.tmps stk→(VRel C' r u)→next (a.put o.dst u) C'.w) {rn:Option Nat}:o.wpIn (WF rn) 0 P a C.w next Q:=by
  refine Jl (yg ?_ (zcA hT hE hI hS h))
  rintro u w' ⟨r,s',C',h1,rfl,h3,h4,_⟩
  exact hn r s' C' u h1 h3 h4
theorem ZW [BT] {F:Fr} {C:Cx} {s:St} {a:Act} {stk:List (Array Value)} (hS:zB F C s a.tmps stk) {nt:Nat} (hsz:nt≤a.tmps.size) {dst:Option Nat} {v:AV} {u:Value} (hv:VRel C v u) {K:St→Ans} {res:AV×List Obj}
    (h:zcG nt dst v s K=some res) : ∃s',K s'=some res∧zB F C s' (a.put dst u).tmps stk∧nt≤(a.put dst u).tmps.size∧(a.put dst u).defers=a.defers:=by
  cases dst with
  | none=>exact ⟨s,h,hS,hsz,rfl⟩
  | some d =>
    obtain ⟨env,stk',H,blk⟩:=s
    simp only [zcG] at h
    replace h:=zI h;obtain ⟨hd,h⟩:=h
    rw [yn] at h
    have hd:d<nt:=Nat.lt_of_lt_of_le (Nat.lt_succ_self d) (Nat.le_of_ble_eq_true hd)
    exact ⟨_,h,⟨hS.H,hS.heap,Zq.put hS.env hv (by omega),hS.stk,hS.frame⟩,by simpa [Act.put] using hsz,rfl⟩
theorem YO [BT] {F:Fr} {C:Cx} {s:St} {a:Act} {stk:List (Array Value)} (hS:zB F C s a.tmps stk) {nt:Nat} (hsz:nt≤a.tmps.size) {all:Array Oper} {o:Oper} {run skip:St→Ans} {res:AV×List Obj}
    (h:Qm all nt o s run skip=some res) : ∃s',zB F C s' a.tmps stk ∧
      ((Region.wanted o (yielded all a.tmps)=true∧run s'=some res)∨(Region.wanted o (yielded all a.tmps)=false∧skip s'=some res)):=by
  unfold Qm at h
  cases hg:o.guard with
  | none =>
    rw [hg] at h
    exact ⟨s,hS,.inl ⟨by simp [Region.wanted,hg],h⟩⟩
  | some jw =>
    obtain ⟨j,want⟩:=jw
    rw [hg] at h
    simp only at h
    replace h:=zr h;obtain ⟨g,hgt,h⟩:=h
    split at h
    · rename_i b hb
      replace h:=zI h;obtain ⟨hlt,h⟩:=h
      have hlt:g<nt:=Nat.lt_of_lt_of_le (Nat.lt_succ_self g) (Nat.le_of_ble_eq_true hlt)
      have hv:=hS.env g
      rw [hb,VRel] at hv
      have hy:yielded all a.tmps j=some b:=by
        unfold zgA at hgt
        split at hgt
        · rename_i o' ho'
          have:a.tmps[g]? = some (.bool b):=by
            have hlt':g<a.tmps.size:=by omega
            rw [Array.getElem?_eq_getElem hlt']
            rw [Array.getD_eq_getD_getElem?,Array.getElem?_eq_getElem hlt'] at hv
            simpa using hv
          simp [yielded,ho',hgt,this]
        · cases hgt
      have hw:Region.wanted o (yielded all a.tmps)=(b == want):=by simp [Region.wanted,hg,hy]
      have hS':zB F C ⟨(g,.bool b)::s.env,s.stk,s.H,s.blk⟩ a.tmps stk:=by
        refine ⟨hS.H,hS.heap,fun t => ?_,hS.stk,hS.frame⟩
        show VRel C (Zm ((g,.bool b)::s.env) t) _
        rw [Zu]
        split
        · rename_i e;subst e;rw [← hb];exact hS.env _
        · exact hS.env t
      refine ⟨_,hS',?_⟩
      obtain ⟨env,stk',H,blk⟩:=s
      cases b <;> cases want <;> simp only [cond_true,cond_false] at h <;> rw [hw]
      · exact .inl ⟨rfl,h⟩
      · exact .inr ⟨rfl,h⟩
      · exact .inr ⟨rfl,h⟩
      · exact .inl ⟨rfl,h⟩
    · rename_i b hb
      replace h:=zI h;obtain ⟨hlt,h⟩:=h
      have hlt:g<nt:=Nat.lt_of_lt_of_le (Nat.lt_succ_self g) (Nat.le_of_ble_eq_true hlt)
      have hv:=hS.env g
      rw [hb,VRel] at hv
      obtain ⟨vs,hv,_⟩:=hv
      refine ⟨s,hS,.inr ⟨?_,h⟩⟩
      have hy:yielded all a.tmps j=none:=by
        unfold zgA at hgt
        split at hgt
        · rename_i o' ho'
          have:a.tmps[g]? = some (.tuple vs):=by
            have hlt':g<a.tmps.size:=by omega
            rw [Array.getElem?_eq_getElem hlt']
            rw [Array.getD_eq_getD_getElem?,Array.getElem?_eq_getElem hlt'] at hv
            simpa using hv
          simp [yielded,ho',hgt,this]
        · cases hgt
      simp [Region.wanted,hg,hy]
    · cases h
theorem zhX [BT] (hT:zN P T) (hE:zf P E) {inl:Nat→Ann→Code→(Ex→St→Ans)→St→Ans} (hI:qJ P inl) {F:Fr} {stk:List (Array Value)} {all:Array Oper} {nt:Nat} {K:St→Ans} {res:AV×List Obj} {Q:Exit→Act→World→Prop} {ds:List Deferred} {rn:Option Nat}
    (hQ : ∀s C a,K s=some res→zB F C s a.tmps stk→nt≤a.tmps.size→a.defers=ds→Q .normal a C.w) :
    ∀(l:List Oper) (n:Nat),all.toList.drop n=l → ∀{s:St} {C:Cx} {a:Act},zBU T E inl all nt l K s=some res→zB F C s a.tmps stk→nt≤a.tmps.size→a.defers=ds →
      wpOpsIn (WF rn) 0 P all Q (List.range' n l.length) a C.w
  | [],n,hl,s,C,a,h,hS,hsz,hd=>by
    rw [zBU] at h
    exact hQ s C a h hS hsz hd
  | o::r,n,hl,s,C,a,h,hS,hsz,hd=>by
    rw [zBU] at h
    have hlr:all.toList.drop (n+1)=r:=by rw [← List.tail_drop,hl];rfl
    have ho:all[n]? = some o:=by
      have:(all.toList.drop n)[0]? = some o:=by rw [hl];rfl
      simpa using this
    rw [List.length_cons,List.range'_succ,wpOpsIn,ho]
    dsimp only
    obtain ⟨s',hS',h⟩:=YO hS hsz h
    rcases h with ⟨hw,h⟩ | ⟨hw,h⟩
    · rw [if_pos hw]
      refine (z2i hT hE hI hS' h ?_)
      intro r' s'' C' u hK hS'' hv
      obtain ⟨s3,h3,hS3,hsz3,hd3⟩:=ZW hS'' hsz hv hK
      exact zhX hT hE hI hQ r (n+1) hlr h3 hS3 hsz3 (hd3.trans hd)
    · rw [if_neg (by rw [hw];decide)]
      refine ⟨fun f _=>zdf rn f,?_⟩
      obtain ⟨s3,h3,hS3,hsz3,hd3⟩:=ZW (v := .tup []) (u:=undef) hS' hsz (by rw [VRel];exact ⟨#[],rfl,by rw [VRels]⟩) h
      exact zhX hT hE hI hQ r (n+1) hlr h3 hS3 hsz3 (hd3.trans hd)
theorem zMa [BT] (hT:zN P T) (hE:zf P E) {F:Fr} {C:Cx} {s:St} {a:Act} {stk:List (Array Value)} (hS:zB F C s a.tmps stk)
    {o:Oper} {K:AV→Ans} {res:AV×List Obj} (h:opQ T E o s K=some res) :
    ∃r v,K r=some res∧VRel C r v ∧ ∀W,zii C (yE T s o) W→ZE P o a W fun u w'=>u=v∧Gq W w':=by
  unfold opQ at h
  split at h
  · rename_i A hA
    obtain ⟨r,v,h1,h2,h3⟩:=zje hT hS.heap hS.H hS.env hA h
    refine ⟨r,v,h1,h3,fun W hW => ?_⟩
    unfold ZE
    rw [h2 W hW]
    exact ⟨rfl,Gq.refl W⟩
  · split at h
    · rename_i c ho
      replace h:=zr h;obtain ⟨⟨g,args⟩,hg,h⟩:=h
      replace h:=zr h;obtain ⟨sp,hsp,h⟩:=h
      split at h
      · rename_i Fp
        obtain ⟨us,hus,hex⟩:=zah hT hS.env hg
        have hok:zM P g Fp:=hE g _ hsp
        obtain ⟨r,v,hK,hv,hc⟩:=zgR hS hok hus h
        refine ⟨r,v,hK,hv C,fun W hW => ?_⟩
        have hrd:yE T s o=some (AV.refsL args):=by unfold yE;rw [ho];simp only [hg]
        replace hW:=hW _ hrd
        unfold ZE
        rw [hex o ho,hok.1.run us W]
        refine (hc W hW).mono ?_
        rintro e w' ⟨rfl,hw'⟩
        exact ⟨v,rfl,rfl,hw'⟩
      · cases h
    · cases h
theorem JH [BT] (hT:zN P T) (hE:zf P E) {inl:Nat→Ann→Code→(Ex→St→Ans)→St→Ans} (hI:qJ P inl) {F:Fr} {C:Cx} {s:St} {a:Act} {stk:List (Array Value)} (hS:zB F C s a.tmps stk)
    {o:Oper} {K:Option (List Nat)→KV} {res:AV×List Obj} (h:opL T E inl o s K=some res) :
    ZE P o a C.w fun u w' => ∃foot r s' C',K foot r s'=some res∧C'.w=w'∧zB F C' s' a.tmps stk∧VRel C' r u∧Ze C C' foot:=by
  have plain:opE T E inl o s (K (Zt s o))=some res→ZE P o a C.w fun u w' => ∃foot r s' C',K foot r s'=some res∧C'.w=w'∧zB F C' s' a.tmps stk∧VRel C' r u∧Ze C C' foot:=fun h =>
    yg (fun u w' ⟨r,s',C',h1,h2,h3,h4,h5⟩=>⟨Zt s o,r,s',C',h1,h2,h3,h4,h5⟩) (zcA hT hE hI hS h)
  unfold opL at h
  split at h
  · rename_i c ho
    have called:(za (w6 T s c) fun x=>match Env.get E x.1 with
        | some (.func F)=>JI F s x.2 fun sel r s=>K (some sel) r s
        | _=>ze9 T E inl x.1 x.2 s (K none))=some res →
        ZE P o a C.w fun u w' => ∃foot r s' C',K foot r s'=some res∧C'.w=w'∧zB F C' s' a.tmps stk∧VRel C' r u∧Ze C C' foot:=by
      intro h
      replace h:=zr h;obtain ⟨⟨g,args⟩,hg,h⟩:=h
      obtain ⟨us,hus,hex⟩:=zah hT hS.env hg
      dsimp only at h
      split at h
      · rename_i Ff hsp
        have hok:zO P g Ff:=hE g _ hsp
        unfold ZE
        rw [hex o ho,hok.1.run us C.w]
        refine (zff hS hok hus h).mono ?_
        intro e w' hw'
        cases e with
        | returned v =>
          obtain ⟨sel,r,s',C',h1,h2,h3,h4,h5⟩:=hw'
          exact ⟨v,rfl,some sel,r,s',C',h1,h2,h3,h4,h5⟩
        | panicked ch=>exact hw'.elim
        | outgrown=>exact hw'.elim
      · obtain ⟨⟨w,hr,rfl⟩,hcall⟩:=zqP hT hE hI hS hus h
        unfold ZE
        rw [hex o ho,hr]
        refine hcall.mono ?_
        intro e w' hw'
        cases e with
        | returned v =>
          obtain ⟨r,s',C',h1,h2,h3,h4⟩:=hw'
          exact ⟨v,rfl,none,r,s',C',h1,h2,h3,h4,trivial⟩
        | panicked ch=>exact hw'.elim
        | outgrown=>exact hw'.elim
    split at h
    · exact called h
    · exact called h
    · exact plain h
  · exact plain h
theorem zfT (ms:List Nat) {i:Nat} : ∀{l:List Edge},Nat.testBit (maskOf ms l) i=true → ∃e ∈ l,Region.binds .any e=true∧(e.on=i∨Nat.testBit (getN ms e.on) i=true)
  | [],h=>by rw [maskOf] at h;simp at h
  | e::r,h=>by
    rw [maskOf] at h
    cases hb:Region.binds .any e with
    | false =>
      rw [hb,cond_false] at h
      obtain ⟨e',he,h'⟩:=zfT ms h
      exact ⟨e',List.mem_cons_of_mem _ he,h'⟩
    | true =>
      rw [hb,cond_true] at h
      have h:Nat.testBit ((1 <<< e.on ||| getN ms e.on) ||| maskOf ms r) i=true:=h
      rw [Nat.testBit_or,Nat.testBit_or,Bool.or_eq_true,Bool.or_eq_true] at h
      rcases h with (h | h) | h
      · rw [Nat.one_shiftLeft,Nat.testBit_two_pow] at h
        exact ⟨e,List.mem_cons_self ..,hb,.inl (by simpa using h)⟩
      · exact ⟨e,List.mem_cons_self ..,hb,.inr h⟩
      · obtain ⟨e',he,h'⟩:=zfT ms h
        exact ⟨e',List.mem_cons_of_mem _ he,h'⟩
theorem qZ (all:Array Oper) : ∀k,(YK all k).length=k
  | 0=>rfl
  | k+1=>by rw [YK,List.length_append,qZ all k];rfl
theorem zfn (all:Array Oper) : ∀(k j:Nat),j<k→getN (YK all k) j=match all[j]? with | some o=>maskOf (YK all j) o.after.toList | none=>0
  | 0,j,h=>by omega
  | k+1,j,h=>by
    rw [YK,zhy]
    by_cases hj:j<k
    · rw [List.getElem?_append_left (by rw [qZ];exact hj),← zhy,zfn all k j hj]
    · obtain rfl:j=k:=by omega
      rw [List.getElem?_append_right (by rw [qZ];omega),qZ,Nat.sub_self]
      rfl
theorem zjb (all:Array Oper) {k j i:Nat} (h:Nat.testBit (getN (YK all k) j) i=true):j<k:=by
  rcases Nat.lt_or_ge j k with h' | h'
  · exact h'
  · rw [zhy,List.getElem?_eq_none (by rw [qZ];exact h')] at h
    simp at h
theorem zdg (all:Array Oper):zG2 .any all (zfH (YK all all.size)):=by
  intro i j h
  unfold zfH at h
  have hj:=zjb all h
  rw [zfn all all.size j hj] at h
  rw [Array.getElem?_eq_getElem hj] at h ⊢
  obtain ⟨e,he,hb,hx⟩:=zfT _ h
  refine ⟨_,rfl,e,by simpa using he,hb,?_⟩
  rcases hx with hx | hx
  · exact .inl hx
  · have hlt:=zjb all hx
    refine .inr ⟨hlt,?_⟩
    unfold zfH
    rw [zfn all j e.on hlt] at hx
    rw [zfn all all.size e.on (by omega)]
    exact hx
theorem zSU {l f:List Nat} (h:zHa l f=true) : ∀i ∈ l,i ∉ f:=by
  induction l with
  | nil=>intro i hi;cases hi
  | cons a r ih =>
    rw [zHa,Bool.and_eq_true,Bool.not_eq_true'] at h
    intro i hi
    rcases List.mem_cons.1 hi with rfl | hi
    · exact zcQ h.1
    · exact ih h.2 i hi
structure z7R (C:Cx) (rd:Option (List Nat)) (e:Ent):Prop where
  some : ∀l,rd=some l→Qn e.B e.w0 C.w ∧ ∀b,e.B b → ∀i,zA C.H i→C.ρ i=Option.some b→i ∈ l
def Z2 (C:Cx):List (Nat×Option (List Nat))→List Ent→Prop
  | [],es=>es=[]
  | (k,rd)::r,es => ∃e es',es=e::es'∧e.k=k∧z7R C rd e∧Z2 C r es'
theorem Z2.foot {C C':Cx} {foot:Option (List Nat)} (hf:Ze C C' foot) {ms:List Nat} {i:Nat} : ∀{acc:List (Nat×Option (List Nat))} {es:List Ent},Z2 C acc es→zc3 ms i foot acc=true →
    Z2 C' (zdj foot acc) es ∧ ∀e ∈ es,zfH ms e.k i=false→Qn e.B e.w0 C.w→Qn e.B e.w0 C'.w
  | [],es,h,_=>by
    rw [Z2] at h
    subst h
    exact ⟨by rw [zdj,Z2],fun e he=>by cases he⟩
  | (k,rd)::r,es,h,hok=>by
    rw [Z2] at h
    obtain ⟨e,es',rfl,hk,he,hr⟩:=h
    rw [zc3,Bool.and_eq_true,Bool.or_eq_true] at hok
    obtain ⟨h1,h2⟩:=Z2.foot hf hr hok.2
    -- what is untouched
    have un:untouched foot rd=true→z7R C' rd e:=by
      intro hu
      refine ⟨fun l hl => ?_⟩
      subst hl
      obtain ⟨hkp,hP⟩:=he.some l rfl
      unfold untouched at hu
      split at hu
      · rename_i f l' e1
        cases e1
        have hd:=zSU hu
        have ff : ∀b,e.B b→C'.w.heap[b]? = C.w.heap[b]? ∧ b<C'.w.heap.size ∧ ∀i,zA C'.H i→C'.ρ i=some b→zA C.H i∧C.ρ i=some b:=fun b hb =>
          hf b (hkp b hb).1 (fun i hi hl hbi=>hd i (hP b hb i hl hbi) hi)
        refine ⟨fun b hb=>⟨(ff b hb).2.1,(ff b hb).1.trans (hkp b hb).2⟩,fun b hb i hl hbi => ?_⟩
        obtain ⟨g1,g2⟩:=(ff b hb).2.2 i hl hbi
        exact hP b hb i g1 g2
      · cases hu
    refine ⟨?_,?_⟩
    · rw [zdj,Z2]
      refine ⟨e,es',rfl,hk,?_,h1⟩
      cases hu:untouched foot rd with
      | true=>exact un hu
      | false=>exact ⟨fun l hl=>by cases hl⟩
    · intro e' he'
      rcases List.mem_cons.1 he' with rfl | he'
      · intro hn hkp
        rw [hk] at hn
        rw [hn] at hok
        rcases hok.1 with h0 | h0
        · cases h0
        · unfold untouched at h0
          split at h0
          · rename_i f l
            exact ((un (by unfold untouched;exact h0)).some l rfl).1
          · cases h0
      · exact h2 e' he'
theorem Z2.later {C:Cx} {W:World} (hW:Below C.w.heap.size C.w W) : ∀{acc:List (Nat×Option (List Nat))} {es:List Ent},Z2 C acc es→Z2 (C.at W) acc es
  | [],es,h=>h
  | (k,rd)::r,es,h=>by
    rw [Z2] at h ⊢
    obtain ⟨e,es',rfl,hk,he,hr⟩:=h
    exact ⟨e,es',rfl,hk,⟨fun l hl=>⟨(he.some l hl).1.gq hW,(he.some l hl).2⟩⟩,Z2.later hW hr⟩
theorem ziG {q:Nat→Bool} : ∀{l:List Nat} {j:Nat},zmx q l=some j→j ∈ l
  | [],j,h=>by cases h
  | i::r,j,h=>by
    rw [zmx] at h
    cases hq:q i with
    | true=>rw [hq,cond_true] at h;cases h;exact List.mem_cons_self ..
    | false=>rw [hq,cond_false] at h;exact List.mem_cons_of_mem _ (ziG h)
theorem zWp {β:Type} {x y:Option β} {res:β} (h:zhS x y=some res):x=some res∧y=some res:=by
  unfold zhS at h
  split at h
  · rename_i e;exact ⟨h,e ▸ h⟩
  · cases h
theorem zTu {β:Type} (x:Option β):zhS x x=x:=by unfold zhS;rw [if_pos rfl]
theorem zi9 {g:Nat→Ans} {res:AV×List Obj} : ∀{l:List Nat},zbw g l=some res → ∀i ∈ l,g i=some res
  | [],h,_,_=>by rw [zbw] at h;cases h
  | [a],h,i,hi=>by rw [zbw] at h;rw [List.mem_singleton.1 hi];exact h
  | a::b::r,h,i,hi=>by
    rw [zbw] at h
    · obtain ⟨h1,h2⟩:=zWp h
      rcases List.mem_cons.1 hi with rfl | hi
      · exact h1
      · exact zi9 h2 i hi
    · intro hh;cases hh
theorem zcO {α:Type} {c:Bool} {x:Option α} {r:α} (h:cond c x none=some r):c=true∧x=some r:=by
  cases c <;> simp_all
theorem jG [BT] (hT:zN P T) (hE:zf P E) {inl:Nat→Ann→Code→(Ex→St→Ans)→St→Ans} (hI:qJ P inl) {F:Fr} {stk:List (Array Value)} {all:Array Oper} {nt:Nat} {K:St→Ans} {res:AV×List Obj} {Q:Act→World→Prop} {ds:List Deferred}
    {q:Nat→Bool} (hsel:Region.noSelect all=true)
    (hQ : ∀s C a,K s=some res→zB F C s a.tmps stk→nt≤a.tmps.size→a.defers=ds→Q a C.w) :
    ∀(f:Nat) (listed:Array Bool) (acc:List (Nat×Option (List Nat))) (es:List Ent) {s:St} {C:Cx} {a:Act},JD .any all listed→Z2 C acc es →
      zmJ T E inl all q (YK all all.size) nt f listed acc K s=some res→zB F C s a.tmps stk→nt≤a.tmps.size→a.defers=ds →
      Yz P .any all (zfH (YK all all.size)) Q es f listed a C.w
  | 0,listed,acc,es,s,C,a,hcl,hes,h,hS,hsz,hd=>by
    rw [zmJ] at h
    split at h
    · rename_i hr
      intro w' hq
      exact ⟨hr,hQ s (C.at w') a h (YE hS hq) hsz hd⟩
    · cases h
  | f+1,listed,acc,es,s,C,a,hcl,hes,h,hS,hsz,hd=>by
    rw [zmJ] at h
    split at h
    · rename_i hr
      intro w' hq
      refine ⟨fun _=>hQ s (C.at w') a h (YE hS hq) hsz hd,fun i hi => ?_⟩
      rw [hr] at hi
      cases hi
    · rename_i i0 r0 hr
      split at h
      · rename_i j hj
        obtain ⟨hfree,h⟩:=zI h
        have hjr:j ∈ Region.ready .any all listed:=by rw [hr];exact ziG hj
        obtain ⟨_,o,ho,_⟩:=mem_ready.1 hjr
        replace h:=zr h;obtain ⟨o',ho',h⟩:=h
        rw [ho] at ho'
        cases ho'
        obtain ⟨s',hS',h⟩:=YO hS hsz h
        rcases h with ⟨hw,h⟩ | ⟨hw,h⟩
        · obtain ⟨r',v,hK,hv,hsees⟩:=zMa hT hE hS' h
          obtain ⟨s3,h3,hS3,hsz3,hd3⟩:=ZW hS' hsz hv hK
          cases hrd:yE T s' o with
          | none =>
            have:=jG hT hE hI hsel hQ f _ acc es (hcl.set hjr) hes (by rw [hrd] at h3;exact h3) hS3 hsz3 (hd3.trans hd)
            refine wX (zdg all) (B:=fun _=>False) (w0:=C.w) ho (Region.noSelect_spec hsel) f listed a C.w hcl (Region.free_spec ho hfree) hjr (.inl ⟨hw,fun W _=>hsees W (fun l hl=>by rw [hrd] at hl;cases hl)⟩) (fun b hb=>hb.elim) ?_
            exact more_ents this
          | some rd =>
          let B:Nat→Prop:=fun b=>C.R b ∨ ∃i ∈ rd,zA C.H i∧C.ρ i=some b
          have hB:Qn B C.w C.w:=by
            rintro b (hb | ⟨i,_,hl,hb⟩)
            · exact ⟨hS.heap.rlt b hb,rfl⟩
            · exact ⟨hS.heap.blk_lt hl hb,rfl⟩
          refine wX (zdg all) (B:=B) (w0:=C.w) ho (Region.noSelect_spec hsel) f listed a C.w hcl (Region.free_spec ho hfree) hjr (.inl ⟨hw,fun W hW=>hsees W (fun l hl b hb=>by
            rw [hrd] at hl
            cases hl
            exact (hW b hb).2)⟩) hB ?_
          refine jG hT hE hI hsel hQ f _ _ _ (hcl.set hjr) ?_ (by rw [hrd] at h3;exact h3) hS3 hsz3 (hd3.trans hd)
          unfold zgt
          rw [Z2]
          refine ⟨_,es,rfl,rfl,⟨fun l hl => ?_⟩,hes⟩
          cases hl
          refine ⟨hB,?_⟩
          rintro b (hb | ⟨k,hk,hlk,hbk⟩) i hl hbi
          · exact absurd hb (hS.heap.ro i b hl hbi)
          · rw [hS.heap.inj i k b hl hlk hbi hbk];exact hk
        · obtain ⟨s3,h3,hS3,hsz3,hd3⟩:=ZW (v := .tup []) (u:=undef) hS' hsz (by rw [VRel];exact ⟨#[],rfl,by rw [VRels]⟩) h
          have:=jG hT hE hI hsel hQ f _ acc es (hcl.set hjr) hes h3 hS3 hsz3 (hd3.trans hd)
          refine wX (zdg all) (B:=fun _=>False) (w0:=C.w) ho (Region.noSelect_spec hsel) f listed a C.w hcl (Region.free_spec ho hfree) hjr (.inr ⟨hw,rfl⟩) (fun b hb=>hb.elim) ?_
          exact more_ents this
      · intro w' hq
        refine ⟨fun h0=>(by rw [hr] at h0;cases h0),fun i hi => ?_⟩
        have hi':i ∈ i0::r0:=by rw [← hr];exact hi
        obtain ⟨_,o,ho,_⟩:=mem_ready.1 hi
        have h:=zi9 h i hi'
        have hSw:=YE hS hq
        have hesw:=hes.later hq
        generalize hC:C.at w'=C2 at hSw hesw
        have hw:w'=C2.w:=by rw [← hC];rfl
        clear hC hS hes hq
        subst hw
        rename_i C0 _
        clear C0
        obtain ⟨C,hC⟩ : ∃C,C=C2:=⟨_,rfl⟩
        subst hC
        replace h:=zr h;obtain ⟨o',ho',h⟩:=h
        rw [ho] at ho'
        cases ho'
        obtain ⟨s',hS',h⟩:=YO hSw hsz h
        unfold clOp
        simp only [ho]
        rcases h with ⟨hw,h⟩ | ⟨hw,h⟩
        · rw [if_pos hw]
          refine yg ?_ (JH hT hE hI hS' h)
          rintro u w'' ⟨foot,r',s'',C',hK,rfl,hS'',hv,hf⟩
          replace hK:=zI hK;obtain ⟨hacc,hK⟩:=hK
          obtain ⟨s3,h3,hS3,hsz3,hd3⟩:=ZW hS'' hsz hv hK
          obtain ⟨g1,g2⟩:=Z2.foot hf hesw hacc
          exact ⟨g2,jG hT hE hI hsel hQ f _ _ _ (hcl.set hi) g1 h3 hS3 hsz3 (hd3.trans hd)⟩
        · rw [if_neg (by rw [hw];decide)]
          obtain ⟨s3,h3,hS3,hsz3,hd3⟩:=ZW (v := .tup []) (u:=undef) hS' hsz (by rw [VRel];exact ⟨#[],rfl,by rw [VRels]⟩) h
          exact ⟨fun e _ _ hke=>hke,jG hT hE hI hsel hQ f _ acc es (hcl.set hi) hesw h3 hS3 hsz3 (hd3.trans hd)⟩
where
  more_ents {f:Nat} {listed:Array Bool} {a:Act} {w:World} {es:List Ent} {an:Nat→Nat→Bool} {k:Nat} {w0:World} {all:Array Oper} {Q:Act→World→Prop} (h:Yz P .any all an Q es f listed a w) :
      Yz P .any all an Q (⟨k,fun _=>False,w0⟩::es) f listed a w:=by
    induction f generalizing listed a w with
    | zero=>exact h
    | succ f ih =>
      intro w' hq
      refine ⟨(h w' hq).1,fun i hi=>zcl (fun a' w'' hk=>⟨fun e he => ?_,ih hk.2⟩) ((h w' hq).2 i hi)⟩
      rcases List.mem_cons.1 he with rfl | he
      · exact fun _ _ b hb=>hb.elim
      · exact hk.1 e he
end Go.AE
