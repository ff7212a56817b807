/- The abstract evaluator AE, proved: part 4. -/
import Derived.Test.YthfoooplgceaoaaGreatDoorAe3
import Derived.Maps.RangeRun
import Derived.Maps.AppendAt
import Derived.Sort.MapsRangeIn
import Derived.Sort.OwnSortedInts
import Derived.Lib.SlKeysI
import Derived.WalkKit
import Derived.OwnWalkIn
import Derived.TacticsInMore
import Derived.LoopNIn
import Derived.LoopIn
import Derived.RangeFuncBox
set_option linter.unusedVariables false
set_option linter.unusedSimpArgs false
namespace Go.AE
open Go.RowKit (Below)
open Go.ChangeMaps (setBlock)
open Go.MapKept (heap_set)
def keysOf {α:Type} (l:List (Int×α)):List Int:=(l.map Prod.fst).mergeSort fun a b=>decide (a≤b)
def zc1:(t:Ty)→t.T
  | .int _=>(0:Int)
  | .bool=>false
  | .str=>([]:List UInt8)
  | .unit=>()
  | .st f=>zc1 f
  | .pair a b=>(zc1 a,zc1 b)
  | .list e=>([]:List e.T)
def eachMap (t:Ty) (cap:List AV) (H:List Obj):Option (List (Int×t.T)) :=
  match cap with
  | [.ptr b 0]=>match zp H b with
    | .cells [.map i]=>match zp H i with
      | .mp k' t' l=>zG4 .i64 t k' t' l
      | _=>none
    | .cells [.nilm]=>some []
    | _=>none
  | _=>none
def eachStart (t:Ty) (cap:List AV) (H:List Obj):Option (List Int):=za (eachMap t cap H) fun l=>cond (Nat.ble l.length 1000000) (some (keysOf l)) none
def eachNx (t:Ty) (cap:List AV) (H:List Obj) (L:List Int):Option (Option (List AV×List Int)) :=
  za (eachMap t cap H) fun l=>match L with
    | []=>some none
    | k::r=>some (some ([.int .i64 k,enc t (JN k (zc1 t) l)],r))
def zeb (t:Ty) (cap:List AV) (H:List Obj) (L:List Int) (Ke:Ans) (Kg:List AV→List Int→Ans):Ans :=
  za (eachMap t cap H) fun l=>cond (zbU L) Ke (za L.head? fun k=>Kg [.int .i64 k,enc t (JN k (zc1 t) l)] L.tail)
theorem zNJ (t:Ty) (cap:List AV) (H:List Obj) (L:List Int) (Ke:Ans) (Kg:List AV→List Int→Ans):zeb t cap H L Ke Kg=za (eachNx t cap H L) fun o=>match o with
    | none=>Ke
    | some p=>Kg p.1 p.2:=by
  unfold zeb eachNx
  cases eachMap t cap H with
  | none=>rfl
  | some l=>cases L <;> rfl
def Jt (t:Ty) (cap:List AV) (H:List Obj) (K:List Int→Ans):Ans:=za (eachMap t cap H) fun l=>cond (Nat.ble l.length 1000000) (K (keysOf l)) none
theorem zMH (t:Ty) (cap:List AV) (H:List Obj) (K:List Int→Ans):Jt t cap H K=za (eachStart t cap H) K:=by
  unfold Jt eachStart
  cases eachMap t cap H with
  | none=>rfl
  | some l =>
    show cond _ _ _=za (cond _ _ _) K
    cases Nat.ble l.length 1000000 <;> rfl
theorem z1I [BT] {P:Program} {t:Ty} {g:Nat} (h:IterOk P (g - 100000) (eachStart t) (eachNx t)):zgz P g (.iter (Jt t) (zeb t)):=⟨_,_,h,zMH t,zNJ t⟩
def z7Y (w:World) (mo:Option Nat) (es:Array MapEntry):Prop :=
  match mo with
  | none=>es = #[]
  | some b => ∃ck,w.heap[b]? = some (.map es ck)∧MapKept.Stamped es ck
def WalkAt (w:World) (mo:Option Nat) (r:Nat) (es:Array MapEntry) (seen:Array Nat):Prop :=
  match mo with
  | none=>es = #[]∧w.heap[r]? = some (.mapIter none 0 #[] 0)
  | some b => ∃ck since c0,w.heap[b]? = some (.map es ck)∧MapKept.Stamped es ck∧w.heap[r]? = some (.mapIter (some b) since seen c0)∧(∀x ∈ es.toList,x.born<since)∧since≤c0∧since≤ck∧r≠b
theorem each_sees [BT] {t:Ty} {C:Cx} (hh:zY C) {cap:List AV} {us:List Value} (hv:VRels C cap us) {l:List (Int×t.T)} (h:eachMap t cap C.H=some l) :
    ∃b mo es x,us=[.pointer (some ⟨b,0,none⟩)]∧(∃j,zA C.H j∧C.ρ j=some b)∧C.w.cell? ⟨b,0,none⟩=some (.map mo)∧z7Y C.w mo es∧ZY .i64 t l es.toList ∧
      VRel C x (.map mo)∧zdb ⟨[],[],C.H,0⟩ .i64 t x=some l∧(∀m,mo=some m → ∃j,zA C.H j∧C.ρ j=some m):=by
  unfold eachMap at h
  split at h
  · rename_i bi
    rw [VRels] at hv
    obtain ⟨v,vs',rfl,h1,h2⟩:=hv
    rw [VRels] at h2
    subst h2
    rw [VRel] at h1
    obtain ⟨b,hb,rfl,hlb⟩:=h1
    split at h
    · rename_i i hg
      obtain ⟨b',c,e,fr,hb',hw,hfr,hcs,hone⟩:=qH hh hg
      obtain rfl:b=b':=Option.some.inj (hb.symm.trans hb')
      rw [VRels] at hcs
      obtain ⟨v,vs',hc,hm,hr⟩:=hcs
      rw [VRels] at hr
      subst hr
      split at h
      · rename_i k' t' l' hgi
        have hm0:=hm
        rw [VRel] at hm
        obtain ⟨mb,hmb,rfl,hlm⟩:=hm
        have hob:=hh.obj i
        rw [hgi] at hob
        obtain ⟨mb',es,ck,hmb',hwm,hmr,hst⟩:=hob
        obtain rfl:mb=mb':=Option.some.inj (hmb.symm.trans hmb')
        have hmo:zdb ⟨[],[],C.H,0⟩ .i64 t (.map i)=some l:=by
          unfold zdb
          simp only [hgi]
          exact h
        obtain ⟨rfl,he,hl⟩:=zJ4 h
        subst he
        simp only at hl
        subst hl
        refine ⟨b,some mb,es,.map i,rfl,⟨bi,hlb,hb⟩,?_,⟨ck,hwm,hst⟩,hmr,hm0,hmo,fun m e=>by cases e;exact ⟨i,hlm,hmb⟩⟩
        rw [cell_blk (blkOf_cells hw)]
        have:c.toList[0]? = some (.map (some mb)):=by rw [hc];rfl
        simpa using this
      · cases h
    · rename_i hg
      obtain ⟨b',c,e,fr,hb',hw,hfr,hcs,hone⟩:=qH hh hg
      obtain rfl:b=b':=Option.some.inj (hb.symm.trans hb')
      rw [VRels] at hcs
      obtain ⟨v,vs',hc,hm,hr⟩:=hcs
      rw [VRels] at hr
      subst hr
      have hm0:=hm
      rw [VRel] at hm
      subst hm
      cases h
      refine ⟨b,none,#[],.nilm,rfl,⟨bi,hlb,hb⟩,?_,rfl,by rw [ZY],hm0,rfl,fun m e=>by cases e⟩
      rw [cell_blk (blkOf_cells hw)]
      have:c.toList[0]? = some (.map none):=by rw [hc];rfl
      simpa using this
    · cases h
  · cases h
def keyI (v:Value):Int:=match v with | .int _ n=>n | _=>0
theorem mrel_keys {t:Ty} : ∀{l:List (Int×t.T)} {es:List MapEntry},ZY .i64 t l es→(∀e ∈ es,e.key = .int .i64 (keyI e.key))∧es.map (fun e=>keyI e.key)=l.map Prod.fst
  | [],_,h=>by rw [ZY] at h;subst h;exact ⟨fun e he=>by (cases he),rfl⟩
  | (n,x)::r,_,h=>by
    rw [ZY] at h
    obtain ⟨e,es',rfl,hk,hx,hr⟩:=h
    obtain ⟨h1,h2⟩:=mrel_keys hr
    refine ⟨fun y hy => ?_,by rw [List.map_cons,List.map_cons,h2,hk];rfl⟩
    rcases List.mem_cons.1 hy with rfl | hy
    · rw [hk];rfl
    · exact h1 y hy
theorem nodup_of_map {α β:Type} (f:α→β) {l:List α} (h:(l.map f).Nodup):l.Nodup:=by
  unfold List.Nodup at h ⊢
  rw [List.pairwise_map] at h
  exact h.imp fun hne e=>hne (by rw [e])
theorem visited_all {t:Ty} {l:List (Int×t.T)} {es:Array MapEntry} (hm:ZY .i64 t l es.toList) (hb:(es.toList.map (·.born)).Nodup) {seen:Array Nat} {vis:List MapEntry} (hvs:vis.map (·.born)=seen.toList) (hve : ∀e ∈ vis,e ∈ es.toList) (hnd:seen.toList.Nodup) (hall : ∀x ∈ es.toList,x.born ∈ seen) :
    vis.map (·.key)=(vis.map fun e=>keyI e.key).map (Value.int .i64)∧(vis.map fun e=>keyI e.key).mergeSort (fun x y=>decide (x≤y))=keysOf l∧vis.length=l.length:=by
  obtain ⟨hk,hks⟩:=mrel_keys hm
  have hp:vis.Perm es.toList:=by
    refine (List.perm_ext_iff_of_nodup (nodup_of_map (·.born) (by rw [hvs];exact hnd)) (nodup_of_map (·.born) hb)).2 fun x=>⟨hve x,fun hx => ?_⟩
    have h1:=hall x hx
    have h2:x.born ∈ vis.map (·.born):=by rw [hvs];simpa using h1
    obtain ⟨y,hy,he⟩:=List.mem_map.1 h2
    rw [← born_inj hb (hve y hy) hx he]
    exact hy
  refine ⟨?_,?_,?_⟩
  · rw [List.map_map]
    exact List.map_congr_left fun e he=>hk e (hve e he)
  · unfold keysOf
    rw [← hks]
    exact mergeSort_of_perm_i (hp.map _)
  · rw [hp.length_eq,hm.length]
theorem next_at {C:Cx} {t:Ty} {cap:List AV} {k:Int} {r:List Int} {o:Option (List AV×List Int)} (h:eachNx t cap C.H (k::r)=some o) : ∃l,eachMap t cap C.H=some l∧o=some ([.int .i64 k,enc t (JN k (zc1 t) l)],r):=by
  unfold eachNx at h
  cases hm:eachMap t cap C.H with
  | none=>rw [hm] at h;cases h
  | some l =>
    rw [hm] at h
    exact ⟨l,rfl,(Option.some.inj h).symm⟩
theorem next_end {C:Cx} {t:Ty} {cap:List AV} {o:Option (List AV×List Int)} (h:eachNx t cap C.H []=some o):eachNx t cap C.H []=some none:=by
  unfold eachNx at h ⊢
  cases hm:eachMap t cap C.H with
  | none=>rw [hm] at h;cases h
  | some l=>rfl
theorem lookup_each [BT] {P:Program} {T:Tab} (hT:zN P T) {C:Cx} (hh:zY C) {tl:Nat} {ty:Ty} {ei:TI} (hm:zfd T tl=some (.i64,ei,ty)) (hz:j6 ty ei.zero=some (zc1 ty)) {x:AV} {u:Value} (hx:VRel C x u) {l:List (Int×ty.T)} (hl:zdb ⟨[],[],C.H,0⟩ .i64 ty x=some l) (k:Int) :
    ∃y,(Instr.lookup tl u (.int .i64 k) false).run P C.w = .ok y C.w∧VRel C (enc ty (JN k (zc1 ty) l)) y:=by
  obtain ⟨r,y,h1,h2,h3⟩:=zmm (s:=⟨[],[],C.H,0⟩) (ok:=false) hT hh rfl hx (ix := .int .i64 k) (v := .int .i64 k) (by rw [VRel]) (K:=fun r=>some (r,[])) (res:=(enc ty (JN k (zc1 ty) l),[])) (by
    unfold zeN
    rw [hm,zc]
    show za (ziM .i64 (.int .i64 k)) _=_
    rw [show ziM .i64 (.int .i64 k)=some k from rfl,zc,hl,zc,hz,zc]
    rfl)
  cases h1
  exact ⟨y,h2,h3⟩
theorem ownsRow_kept {w w':World} {base:Nat} {e:TypeId} {size:Nat} {v:Value} {n:Nat} {xs:List Value} {row:Option Nat} (h:w.ownsRow base e size v n xs) (hg:w.grownBy w' row) (hr : ∀r,row=some r→r<base):w'.ownsRow base e size v n xs:=by
  refine ⟨h.1,?_⟩
  rcases h.2 with hn | ⟨g,cap,cur,hv,hb,hgb,rest⟩
  · exact .inl hn
  · exact .inr ⟨g,cap,cur,hv,hb,(hg.block g (Array.getElem?_eq_some_iff.1 hgb).1 (fun e=>by have:=hr g e.symm;omega)).trans hgb,rest⟩
theorem ownBlock_base {w:World} {base:Nat} {e:TypeId} {size:Nat} {v:Value} {n:Nat} {xs:List Value} (h:w.ownsRow base e size v n xs) : ∀r,v.ownBlock=some r→base≤r:=by
  intro r hr
  rcases h.2 with ⟨rfl,_⟩ | ⟨g,cap,cur,rfl,hb,_⟩
  · cases hr
  · cases hr;exact hb
section
variable {P:Program} {F:Fence} {n:Nat} (w:World) {ops:Array Oper} {rest:List Oper} {o:Oper} {a:Act} {Q:Exit→Act→World→Prop}
theorem wpListIn_range_m (hg:o.guard=none) (m:Operand) (t:TypeId) (hop:o.op=Op.range t m) (k e:TypeId) (ht:P.underlying t=some (.map k e)) (mo:Option Nat) (es:Array MapEntry) (hm:a.eval m = .map mo) (hmap:z7Y w mo es)
    (hK : ∀it,WalkAt (w.alloc it) mo w.heap.size es #[]→wpListIn F n P ops Q rest (a.put o.dst (.pointer (some ⟨w.heap.size,0,none⟩))) (w.alloc it)) :
    wpListIn F n P ops Q (o::rest) a w:=by
  refine wpListIn_plain hg fun K' hK' => ?_
  unfold Oper.wpIn
  refine ⟨by simp [Oper.about,hop],?_⟩
  rw [Oper.semAt_plain F _ _ (by rw [hop];intro c hc';cases hc')]
  cases mo with
  | none =>
    have hu:(underlying t).run P w = .ok (.map k e) w:=run_underlying ht w
    have hrun:(Instr.range t (.map none)).run P w = .ok (.pointer (some ⟨w.heap.size,0,none⟩)) (w.alloc (.mapIter none 0 #[] 0)):=by
      simp [Instr.range,Sem.run_bind,hu,Result.andThen,run_newObj_alloc]
    simp [execOp,hop,hm,hrun,Result.andThen]
    refine hK' _ _ (hK _ ⟨hmap,World.alloc_heap_new w _⟩)
  | some b =>
    obtain ⟨ck,hb,hst⟩:=hmap
    have hrun:=run_range_map w t k e b es ck ht hb
    simp [execOp,hop,hm,hrun,Result.andThen]
    have hlt:=(Array.getElem?_eq_some_iff.1 hb).1
    exact hK' _ _ (hK _ ⟨ck,ck,ck,(Below.heap_alloc _ _ _ hlt).trans hb,hst,World.alloc_heap_new w _,hst.1,Nat.le_refl _,Nat.le_refl _,by omega⟩)
theorem wpListIn_next_m (hg:o.guard=none) (it:Operand) (hop:o.op=Op.next it false) (mo:Option Nat) (r:Nat) (es:Array MapEntry) (seen:Array Nat) (hit:a.eval it = .pointer (some ⟨r,0,none⟩)) (hw:WalkAt w mo r es seen)
    (hDone:(∀x ∈ es.toList,x.born ∈ seen)→wpListIn F n P ops Q rest (a.put o.dst (.tuple #[.bool false])) w)
    (hMore : ∀e ∈ es.toList,e.born ∉ seen → ∀w',WalkAt w' mo r es (seen.push e.born)→w.grownBy w' (some r)→w'.heap.size=w.heap.size→(Instr.entry (.pointer (some ⟨r,0,none⟩))).run P w' = .ok (.tuple #[e.key,e.val]) w' →
      wpListIn F n P ops Q rest (a.put o.dst (.tuple #[.bool true,e.key,e.val])) w') :
    wpListIn F n P ops Q (o::rest) a w:=by
  refine wpListIn_plain hg fun K' hK' => ?_
  unfold Oper.wpIn
  refine ⟨by simp [Oper.about,hop],?_⟩
  rw [Oper.semAt_plain F _ _ (by rw [hop];intro c hc';cases hc')]
  cases mo with
  | none =>
    obtain ⟨rfl,hr⟩:=hw
    have hrun:(Instr.next (.pointer (some ⟨r,0,none⟩)) false o.type).run P w = .ok (.tuple #[.bool false]) w:=by
      simp [Instr.next,Sem.run_bind,getObj,Sem.run,hr,Result.andThen]
    simp [execOp,hop,hit,hrun,Result.andThen]
    exact hK' _ _ (hDone (by simp))
  | some b =>
    obtain ⟨ck,since,c0,hb,hst,hr,hold,hsc,hsk,hne⟩:=hw
    rcases run_next_at (P:=P) w o.type r b since c0 seen es ck hr hb hold hsc with ⟨h0,hrun⟩ | ⟨e,he,w1,hal,hrun⟩
    · simp [execOp,hop,hit,hrun,Result.andThen]
      refine hK' _ _ (hDone fun x hx => ?_)
      have hx':=all_seen es seen h0 x hx
      simpa using hx'
    · obtain ⟨hem,hes⟩:=mem_left he
      simp [execOp,hop,hit,hrun,Result.andThen]
      have hr1:w1.heap[r]? = some (.mapIter (some b) since seen c0):=by rcases hal with rfl | rfl <;> exact hr
      have hb1:w1.heap[b]? = some (.map es ck):=by rcases hal with rfl | rfl <;> exact hb
      have hset:=heap_set (o' := .mapIter (some b) since (seen.push e.born) ck) hr1
      have hb':(setBlock w1 r (.mapIter (some b) since (seen.push e.born) ck)).heap[b]? = some (.map es ck):=(hset.2 b (fun e1=>hne e1.symm)).trans hb1
      refine hK' _ _ (hMore e hem (by simpa using hes) _ ⟨ck,since,ck,hb',hst,hset.1,hold,hsk,hsk,hne⟩ ?_ ?_ (run_entry_at _ r b since seen es ck e hset.1 hb' hem hst.2.1))
      · rcases hal with rfl | rfl <;> exact ⟨rfl,rfl,rfl,by simp [setBlock],fun i _ hi=>hset.2 i (fun e1=>hi (by rw [e1]))⟩
      · rcases hal with rfl | rfl <;> simp [setBlock]
def walkLeft (w:World) (mo:Option Nat) (r:Nat):Nat :=
  match mo with
  | none=>0
  | some b=>match w.heap[b]?,w.heap[r]? with
    | some (.map es _),some (.mapIter _ _ seen _)=>(leftOf es seen).size
    | _,_=>0
theorem WalkAt.kept {w w':World} {mo:Option Nat} {r:Nat} {es:Array MapEntry} {seen:Array Nat} {row:Option Nat} (h:WalkAt w mo r es seen) (hg:w.grownBy w' row) (hm : ∀b,mo=some b→row≠some b) (hr:row≠some r):WalkAt w' mo r es seen:=by
  cases mo with
  | none =>
    obtain ⟨h1,h2⟩:=h
    exact ⟨h1,(hg.block r (Array.getElem?_eq_some_iff.1 h2).1 (fun e=>hr e.symm)).trans h2⟩
  | some b =>
    obtain ⟨ck,since,c0,hb,hst,h2,rest⟩:=h
    exact ⟨ck,since,c0,(hg.block b (Array.getElem?_eq_some_iff.1 hb).1 (fun e=>hm b rfl e.symm)).trans hb,hst,(hg.block r (Array.getElem?_eq_some_iff.1 h2).1 (fun e=>hr e.symm)).trans h2,rest⟩
theorem WalkAt.left_lt {w w':World} {mo:Option Nat} {r:Nat} {es:Array MapEntry} {seen:Array Nat} {e:MapEntry} (h:WalkAt w mo r es seen) (he:e ∈ es.toList) (hs:e.born ∉ seen) (h':WalkAt w' mo r es (seen.push e.born)):walkLeft w' mo r<walkLeft w mo r:=by
  cases mo with
  | none =>
    obtain ⟨rfl,_⟩:=h
    simp at he
  | some b =>
    obtain ⟨ck,since,c0,hb,hst,h2,_⟩:=h
    obtain ⟨ck',since',c0',hb',_,h2',_⟩:=h'
    simp only [walkLeft,hb,hb',h2,h2']
    refine left_shrinks es seen e ?_
    unfold leftOf
    simp [hs]
    simpa using he
theorem wpListIn_callv (hg:o.guard=none) (f:Operand) (args:Array Operand) (ats:Array TypeId) (hop:o.op=Op.call { callee := .value f,args:=args,argTypes:=ats }) {yv:Value} {vs:Array Value} {R:Ending→World→Prop} (hv:z7H P yv vs w R) (hf:a.eval f=yv) (hargs:args.map a.eval=vs)
    (hK : ∀e W',R e W' → ∃v,e = .returned v∧wpListIn Fence.wide 0 P ops Q rest (a.put o.dst v) W'):wpListIn Fence.wide 0 P ops Q (o::rest) a w:=by
  refine wpListIn_plain hg fun K' hK' => ?_
  obtain ⟨fn,cap,nx,rfl,hrun,hnx⟩:=hv
  unfold Oper.wpIn
  refine ⟨fun f _=>trivial,?_⟩
  rw [Oper.semAt_plain _ _ _ (by rw [hop];intro c hc';cases hc')]
  have hex:(execOp a.eval o).run P w = .ok nx w:=by
    simp [execOp,hop,resolve,hf,Deferred.ofValue,hargs,Result.andThen,hrun]
  rw [hex]
  cases nx with
  | enter f args =>
    rw [Oper.uponIn_enter]
    refine ⟨fun h=>(by cases h),CallsIn.mono hnx ?_⟩
    intro e W' hR
    obtain ⟨v,rfl,h⟩:=hK e W' hR
    exact hK' _ _ h
  | round l f tmps as c =>
    rw [Oper.uponIn_round]
    refine ⟨fun h=>(by cases h),RoundIn.mono hnx ?_⟩
    intro e W' hR
    obtain ⟨v,rfl,h⟩:=hK e W' hR
    exact hK' _ _ h
  | _=>exact hnx.elim
end
end Go.AE
namespace Go.AE
noncomputable def zh6 (x:Int):List Int→List Int
  | []=>[x]
  | y::r => @Bool.rec (fun _=>List Int) (x::y::r) (y::zh6 x r) (ltB y x)
noncomputable def zc8:List Int→List Int
  | []=>[]
  | x::r=>zh6 x (zc8 r)
theorem zlL (x:Int) : ∀l,(zh6 x l).Perm (x::l)
  | []=>by simp [zh6]
  | y::r=>by
    rw [zh6]
    cases ltB y x with
    | false=>exact List.Perm.refl _
    | true=>exact ((zlL x r).cons y).trans (List.Perm.swap x y r)
theorem zuM : ∀l,(zc8 l).Perm l
  | []=>by simp [zc8]
  | x::r=>by rw [zc8];exact (zlL x _).trans ((zuM r).cons x)
theorem z56 {x z:Int} {l:List Int} (h:z ∈ zh6 x l):z=x∨z ∈ l:=by
  have:=(zlL x l).mem_iff.1 h
  simpa using this
theorem zqQ (x:Int) : ∀l:List Int,l.Pairwise (fun a b=>a≤b)→(zh6 x l).Pairwise (fun a b=>a≤b)
  | [],_=>by simp [zh6]
  | y::r,h=>by
    rw [zh6]
    have hy:=List.pairwise_cons.1 h
    cases hb:ltB y x with
    | false =>
      rw [zIr,decide_eq_false_iff_not] at hb
      refine List.pairwise_cons.2 ⟨fun z hz => ?_,h⟩
      rcases List.mem_cons.1 hz with rfl | hz
      · omega
      · have:=hy.1 z hz;omega
    | true =>
      rw [zIr,decide_eq_true_eq] at hb
      refine List.pairwise_cons.2 ⟨fun z hz => ?_,zqQ x r hy.2⟩
      rcases z56 hz with rfl | hz
      · omega
      · exact hy.1 z hz
theorem zjt : ∀l:List Int,(zc8 l).Pairwise (fun a b=>a≤b)
  | []=>by simp [zc8]
  | x::r=>by rw [zc8];exact zqQ x _ (zjt r)
theorem z6C (l:List Int):l.mergeSort (fun a b=>decide (a≤b))=zc8 l:=by
  refine List.Perm.eq_of_pairwise (le:=fun a b:Int=>decide (a≤b)=true) ?_ ?_ ?_ ((List.mergeSort_perm _ _).trans (zuM l).symm)
  · intro a b _ _ h1 h2
    simp at h1 h2
    omega
  · exact List.pairwise_mergeSort (fun a b c h1 h2=>by simp at h1 h2 ⊢;omega) (fun a b=>by simp;omega) _
  · exact (zjt l).imp (fun h=>by simpa using h)
noncomputable def zhL (t:Ty) (cap:List AV) (H:List Obj) (K:List Int→Ans):Ans:=za (eachMap t cap H) fun l=>cond (Nat.ble l.length 1000000) (fL (zc8 (l.map Prod.fst)) K) none
theorem zGg:Jt=zhL:=by
  funext t cap H K
  unfold Jt zhL keysOf
  congr 1
  funext l
  rw [ze8,z6C]
end Go.AE
