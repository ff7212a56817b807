/- The abstract evaluator AE, proved: part 5. -/
import Derived.Test.YthfoooplgceaoaaGreatDoorAe4
import Derived.Lib.Repeat
import Derived.Shelf.Strings.Builder1
set_option linter.unusedVariables false
set_option linter.unusedSimpArgs false
namespace Go.AE
open Go.RowKit (Below)
variable {P:Program}
theorem ztx {C:Cx} {a:AV} {l:List Value} (h:VRels C [a] l) : ∃v,l=[v]∧VRel C a v:=by
  rw [VRels] at h
  obtain ⟨v,vs,rfl,hv,h⟩:=h
  rw [VRels] at h
  subst h
  exact ⟨v,rfl,hv⟩
theorem z3o {C:Cx} {a b:AV} {l:List Value} (h:VRels C [a,b] l) : ∃v u,l=[v,u]∧VRel C a v∧VRel C b u:=by
  rw [VRels] at h
  obtain ⟨v,vs,rfl,hv,h⟩:=h
  obtain ⟨u,rfl,hu⟩:=ztx h
  exact ⟨v,u,rfl,hv,hu⟩
theorem jZ {us:Array Value} {l:List Value} (h:us.toList=l):us=l.toArray:=by
  cases us;simp at h;subst h;rfl
theorem za7 {g:Nat} {fn:Func} (hf:P.funcs[g]? = some fn) (hb:fn.body.isSome=true) (hn:fn.name ≠ "runtime.NumGoroutine"):YQ P g:=⟨fn,hf,hb,hn⟩
theorem z02 [BT] {g:Nat} (he:YQ P g) {A Y:Type} {dec:List AV→Option A} {f:A→Option Y} {rend:A→Y→AV} (hcl : ∀a y,(rend a y).closed1=true)
    (h : ∀(C:Cx) (l:List AV) (us:Array Value) (a:A) (y:Y),dec l=some a→f a=some y→VRels C l us.toList → ∀W:World,Calls P g us W fun e w'=>e = .returned (y6 (rend a y))∧Below W.heap.size W w') :
    zM P g (fun l K=>za (dec l) fun a=>za (f a) fun y=>K (rend a y)):=by
  refine ⟨he,fun C args us K res hh hH hargs hF => ?_⟩
  obtain ⟨a,ha,hF⟩:=ZD hF
  obtain ⟨y,hy,hF⟩:=ZD hF
  exact ⟨rend a y,y6 (rend a y),hF,fun C'=>(Yd (hcl a y)).2 rfl,fun W _=>h C args us a y ha hy hargs W⟩
abbrev YX:=List UInt8×Int
abbrev zfg:=List UInt8
def qK (l:List AV):Option YX:=match l with
  | [AV.str a0,AV.int IntKind.i64 a1]=>some (a0,a1)
  | _=>none
theorem zgr (l:List AV) (a:YX) (h:qK l=some a):l=[AV.str a.1,AV.int IntKind.i64 a.2]:=by
  unfold qK at h
  split at h
  · cases h;rfl
  · cases h
def Ya (a:YX):Option zfg:=cond (decide (0≤a.2)&&decide (a.2≤9223372036854775807)&&Nat.ble (a.1.length*a.2.toNat) 140737488355328) (some (Lib.repeatL a.1 a.2.toNat)) none
def qE:YX→zfg→AV:=fun _ y => .str y
def zrz (a:YX) (K:AV→Ans):Ans:=za (Ya a) fun y=>K (qE a y)
def qz:List AV→(AV→Ans)→Ans:=fun l K=>za (qK l) fun a=>zrz a K
theorem zlZ [BT] {g:Nat} (he:YQ P g)
    (hc : ∀(s:ByteArray) (c:Nat) (w:World),c≤9223372036854775807→s.size*c≤140737488355328 →
      Calls P g #[.string s,.int .i64 c] w fun e w'=>e = .returned (.string ⟨(Lib.repeatL s.data.toList c).toArray⟩)∧Below w.heap.size w w'):zM P g qz:=by
  refine z02 (rend:=qE) he (fun _ _=>rfl) ?_
  rintro C l us ⟨s,c⟩ y hd hf hv W
  have:=zgr l _ hd
  subst this
  obtain ⟨v,u,hl,h1,h2⟩:=z3o hv
  have h1:v = .string ⟨s.toArray⟩:=by simpa only [VRel] using h1
  have h2:u = .int .i64 c:=by simpa only [VRel] using h2
  subst h1 h2
  rw [jZ hl]
  unfold Ya at hf
  replace hf:=zcO hf
  obtain ⟨hg,hf⟩:=hf
  cases hf
  simp only [Bool.and_eq_true,decide_eq_true_eq] at hg
  obtain ⟨⟨g1,g2⟩,g3⟩:=hg
  have g3:=Nat.le_of_ble_eq_true g3
  have e:((c.toNat:Nat):Int)=c:=by omega
  have:=hc ⟨s.toArray⟩ c.toNat W (by omega) (by simpa [ByteArray.size] using g3)
  rw [e] at this
  simpa [qE,y6,zbW] using this
end Go.AE
namespace Go.AE
open Go.Shelf Go.RowKit Go.Proofs
section
variable {P:Program} (w:World)
theorem zg9 : ∀(l:List Int) (a:Addr) (acc:ByteArray),(∀j x,l[j]? = some x→w.cell? (a.add j)=some (.int .u8 x)) →
    (loadBytes a acc l.length).run P w = .ok ⟨acc.data++(Zl l).toArray⟩ w
  | [],a,acc,_=>by simp [loadBytes,Zl]
  | x::l,a,acc,h=>by
    have h0:w.cell? a=some (.int .u8 x):=by
      have:=h 0 x rfl
      simpa [Addr.add] using this
    have ih:=zg9 l (a.add 1) (acc.push x.toNat.toUInt8) (fun j y hy=>by
      have:=h (j+1) y (by simpa using hy)
      have e:(a.add 1).add j=a.add (j+1):=by
        unfold Addr.add
        by_cases hj:j=0
        · subst hj;simp
        · simp [hj];omega
      rw [e];exact this)
    simp only [List.length_cons,loadBytes,Sem.run_bind,run_load,h0,Result.andThen]
    rw [ih]
    congr 1
    apply ByteArray.ext
    simp [ByteArray.push,Zl]
theorem zgQ (pt it ty e:TypeId) (hp:P.underlying pt=some (.pointer e)) (hc:P.cellsOf e=1) (g cells:Nat) (hsh:w.shape? g=some (e,cells)) (l:List Int) (h0:l≠[]) (hn:l.length≤cells) (h63:l.length≤9223372036854775807)
    (hcell : ∀j x,l[j]? = some x→w.cell? ((⟨g,0,none⟩:Addr).add j)=some (.int .u8 x)) :
    (Builtin.unsafeString_ #[pt,it] ty #[.pointer (some ⟨g,0,none⟩),.int .i64 l.length]).run P w = .ok (.string ⟨(Zl l).toArray⟩) (w.freeze ⟨g,0,none⟩ l.length):=by
  have hl:l.length≠0:=by simpa using h0
  have hlb:=zg9 (P:=P) w l ⟨g,0,none⟩ .empty hcell
  have hlies:=Lib.liesAt_bytes (P:=P) hc (cells / P.cellsOf e) l.length (by rw [hc];simpa using hn)
  have h63' : ¬(9223372036854775807:Int)<(l.length:Int):=by omega
  have hdef:Builtin.unsafeString_ #[pt,it] ty #[.pointer (some ⟨g,0,none⟩),.int .i64 l.length] =
      (do
        let n ← Go.asInt (.int .i64 l.length)
        if n<0 then runtimePanic (.error "unsafe.String: len out of range")
        if n>IntKind.i64.max then unsupported (.unsafePointer "String: a length above the largest int")
        if n=0 then pure (.string .empty)
        else if ← variablesAt ⟨g,0,none⟩ (← elemOf pt) n.toNat then do
          let s ← loadBytes ⟨g,0,none⟩ .empty n.toNat
          freeze ⟨g,0,none⟩ n.toNat
          pure (.string s)
        else unsupported (.unsafePointer "String: not so many bytes at ptr")):=rfl
  rw [hdef]
  have hmax:IntKind.i64.max=9223372036854775807:=rfl
  have hneg : ¬(l.length:Int)<0:=by omega
  simp [Go.asInt,asIntOf,hmax,h63',hneg,hl,variablesAt,hsh,elemOf,run_underlying hp,hlies,hlb]
end
section
variable {P:Program} {ρ:Ren}
set_option maxHeartbeats 1000000 in
set_option maxRecDepth 100000 in
theorem zgq (L:Lays.n169 P ρ) (X:Builder.Extra P ρ) (b g cap:Nat) (p:Value) (cur:Array Value) (T:TypeId) (fr:Nat×Nat) (l:List Int) (w:World) (h0:l≠[]) (hc0:cap≠0) (hle:l.length≤cur.size) (h63:l.length≤9223372036854775807)
    (hbk:w.heap[b]? = some (.cells #[p,.slice (some ⟨g,0,none⟩) l.length cap] T (0,0))) (hg:w.heap[g]? = some (.cells cur (ρ.t 5) fr)) (hcell : ∀(j:Nat) (x:Int),l[j]? = some x→cur[j]? = some (Value.int .u8 x)) :
    Calls P (ρ.f 169) #[.pointer (some ⟨b,0,none⟩)] w fun e w'=>e = .returned (.string ⟨(Zl l).toArray⟩)∧w'=w.drew.freeze ⟨g,0,none⟩ l.length:=by
  have c1:w.drew.cell? ⟨b,1,none⟩=some (.slice (some ⟨g,0,none⟩) l.length cap):=by
    have:w.drew.heap[b]? = some (.cells #[p,.slice (some ⟨g,0,none⟩) l.length cap] T (0,0)):=hbk
    rw [Lib.cell_of_heap this];rfl
  have hSD:(Builtin.unsafeSliceData_ #[(ρ.t 37)] (ρ.t 127) #[.slice (some ⟨g,0,none⟩) l.length cap]).run P w.drew = .ok (.pointer (some ⟨g,0,none⟩)) w.drew :=
    Lib.run_unsafeSliceData_row _ _ _ _ _ _ hc0
  have hUS:(Builtin.unsafeString_ #[(ρ.t 127),(ρ.t 3)] (ρ.t 9) #[.pointer (some ⟨g,0,none⟩),.int .i64 l.length]).run P w.drew = .ok (.string ⟨(Zl l).toArray⟩) (w.drew.freeze ⟨g,0,none⟩ l.length):=by
    have hg':w.drew.heap[g]? = some (.cells cur (ρ.t 5) fr):=hg
    refine zgQ w.drew (ρ.t 127) (ρ.t 3) (ρ.t 9) (ρ.t 5) L.t127 X.cellsByte g cur.size (by simp [World.shape?,hg']) l h0 hle h63 ?_
    intro j x hx
    have:(⟨g,0,none⟩:Addr).add j=⟨g,j,none⟩:=by
      unfold Addr.add
      by_cases hj:j=0
      · subst hj;simp
      · simp [hj]
    rw [this,Lib.cell_of_heap hg']
    exact hcell j x hx
  have mixed:=L.mixed
  have t72:=L.t72;have a72:=L.a72;have z72:=L.z72;have v72:=L.v72;have u72:=run_underlying L.t72
  have t70:=L.t70;have a70:=L.a70;have z70:=L.z70;have v70:=L.v70;have u70:=run_underlying L.t70
  have t37:=L.t37;have a37:=L.a37;have z37:=L.z37;have v37:=L.v37;have u37:=run_underlying L.t37
  have t127:=L.t127;have a127:=L.a127;have z127:=L.z127;have v127:=L.v127;have u127:=run_underlying L.t127
  have t3:=L.t3;have a3:=L.a3;have z3:=L.z3;have v3:=L.v3;have u3:=run_underlying L.t3
  have t9:=L.t9;have a9:=L.a9;have z9:=L.z9;have v9:=L.v9;have u9:=run_underlying L.t9
  have t5:=X.t5;have a5:=X.a5;have z5:=X.z5;have v5:=X.v5;have u5:=run_underlying X.t5
  go_enter L.f169,Body.n169_ntmps ρ
  go_wp2
  go_region_o
  all_goals (go_wp2;go_ret;exact ⟨rfl,rfl⟩)
theorem wJ (W:World) (q:Option Addr):(Builtin.unsafeString_ #[(ρ.t 127),(ρ.t 3)] (ρ.t 9) #[.pointer q,.int .i64 0]).run P W = .ok (.string .empty) W :=
  Lib.run_unsafeString_none W _ _ _ q
set_option maxHeartbeats 2000000 in
set_option maxRecDepth 100000 in
theorem zgJ (L:Lays.n169 P ρ) (X:Builder.Extra P ρ) (b:Nat) (p:Value) (T:TypeId) (w:World) (hbk:w.heap[b]? = some (.cells #[p,.slice none 0 0] T (0,0))) :
    Calls P (ρ.f 169) #[.pointer (some ⟨b,0,none⟩)] w fun e w'=>e = .returned (.string ⟨#[]⟩)∧w'=w.drew:=by
  have hUS:=wJ (P:=P) (ρ:=ρ)
  have c1:w.drew.cell? ⟨b,1,none⟩=some (.slice none 0 0):=by
    have:w.drew.heap[b]? = some (.cells #[p,.slice none 0 0] T (0,0)):=hbk
    rw [Lib.cell_of_heap this];rfl
  have hSD:(Builtin.unsafeSliceData_ #[(ρ.t 37)] (ρ.t 127) #[.slice none 0 0]).run P w.drew = .ok (.pointer none) w.drew:=rfl
  have mixed:=L.mixed
  have t72:=L.t72;have a72:=L.a72;have z72:=L.z72;have v72:=L.v72;have u72:=run_underlying L.t72
  have t70:=L.t70;have a70:=L.a70;have z70:=L.z70;have v70:=L.v70;have u70:=run_underlying L.t70
  have t37:=L.t37;have a37:=L.a37;have z37:=L.z37;have v37:=L.v37;have u37:=run_underlying L.t37
  have t127:=L.t127;have a127:=L.a127;have z127:=L.z127;have v127:=L.v127;have u127:=run_underlying L.t127
  have t3:=L.t3;have a3:=L.a3;have z3:=L.z3;have v3:=L.v3;have u3:=run_underlying L.t3
  have t9:=L.t9;have a9:=L.a9;have z9:=L.z9;have v9:=L.v9;have u9:=run_underlying L.t9
  have t5:=X.t5;have a5:=X.a5;have z5:=X.z5;have v5:=X.v5;have u5:=run_underlying X.t5
  go_enter L.f169,Body.n169_ntmps ρ
  go_wp2
  go_region_o
  all_goals (go_wp2;go_ret;exact ⟨rfl,rfl⟩)
set_option maxHeartbeats 2000000 in
set_option maxRecDepth 100000 in
theorem zfb (L:Lays.n169 P ρ) (X:Builder.Extra P ρ) (b g cap:Nat) (p:Value) (T:TypeId) (w:World) (hc0:cap≠0) (hbk:w.heap[b]? = some (.cells #[p,.slice (some ⟨g,0,none⟩) 0 cap] T (0,0))) :
    Calls P (ρ.f 169) #[.pointer (some ⟨b,0,none⟩)] w fun e w'=>e = .returned (.string ⟨#[]⟩)∧w'=w.drew:=by
  have hUS:=wJ (P:=P) (ρ:=ρ)
  have c1:w.drew.cell? ⟨b,1,none⟩=some (.slice (some ⟨g,0,none⟩) 0 cap):=by
    have:w.drew.heap[b]? = some (.cells #[p,.slice (some ⟨g,0,none⟩) 0 cap] T (0,0)):=hbk
    rw [Lib.cell_of_heap this];rfl
  have hSD:(Builtin.unsafeSliceData_ #[(ρ.t 37)] (ρ.t 127) #[.slice (some ⟨g,0,none⟩) 0 cap]).run P w.drew = .ok (.pointer (some ⟨g,0,none⟩)) w.drew :=
    Lib.run_unsafeSliceData_row _ _ _ _ _ _ hc0
  clear hc0
  have mixed:=L.mixed
  have t72:=L.t72;have a72:=L.a72;have z72:=L.z72;have v72:=L.v72;have u72:=run_underlying L.t72
  have t70:=L.t70;have a70:=L.a70;have z70:=L.z70;have v70:=L.v70;have u70:=run_underlying L.t70
  have t37:=L.t37;have a37:=L.a37;have z37:=L.z37;have v37:=L.v37;have u37:=run_underlying L.t37
  have t127:=L.t127;have a127:=L.a127;have z127:=L.z127;have v127:=L.v127;have u127:=run_underlying L.t127
  have t3:=L.t3;have a3:=L.a3;have z3:=L.z3;have v3:=L.v3;have u3:=run_underlying L.t3
  have t9:=L.t9;have a9:=L.a9;have z9:=L.z9;have v9:=L.v9;have u9:=run_underlying L.t9
  have t5:=X.t5;have a5:=X.a5;have z5:=X.z5;have v5:=X.v5;have u5:=run_underlying X.t5
  go_enter L.f169,Body.n169_ntmps ρ
  go_wp2
  go_region_o
  all_goals (go_wp2;go_ret;exact ⟨rfl,rfl⟩)
set_option maxHeartbeats 2000000 in
set_option maxRecDepth 100000 in
theorem zcM (L:Lays.n169 P ρ) (X:Builder.Extra P ρ) (b g:Nat) (p:Value) (T:TypeId) (cur:Array Value) (fr:Nat×Nat) (w:World) (hbk:w.heap[b]? = some (.cells #[p,.slice (some ⟨g,0,none⟩) 0 0] T (0,0))) (hg:w.heap[g]? = some (.cells cur (ρ.t 5) fr)) :
    Calls P (ρ.f 169) #[.pointer (some ⟨b,0,none⟩)] w fun e w'=>e = .returned (.string ⟨#[]⟩)∧(w'=w.drew.alloc (.view ⟨g,0,none⟩ (ρ.t 5))∨w'=(w.alloc (.view ⟨g,0,none⟩ (ρ.t 5))).drew):=by
  have hUS:=wJ (P:=P) (ρ:=ρ)
  have hlt:b<w.heap.size:=by
    rcases Nat.lt_or_ge b w.heap.size with h' | h'
    · exact h'
    · simp [Array.getElem?_eq_none h'] at hbk
  have c1:w.drew.cell? ⟨b,1,none⟩=some (.slice (some ⟨g,0,none⟩) 0 0):=by
    have:w.drew.heap[b]? = some (.cells #[p,.slice (some ⟨g,0,none⟩) 0 0] T (0,0)):=hbk
    rw [Lib.cell_of_heap this];rfl
  have hSD:(Builtin.unsafeSliceData_ #[(ρ.t 37)] (ρ.t 127) #[.slice (some ⟨g,0,none⟩) 0 0]).run P w.drew = .ok (.pointer (some ⟨w.drew.heap.size,0,none⟩)) (w.drew.alloc (.view ⟨g,0,none⟩ (ρ.t 5))) :=
    Lib.run_unsafeSliceData_zero w.drew _ _ (ρ.t 5) L.t127 ⟨g,0,none⟩ 0 ((ρ.t 5),cur.size) (by have hg':w.drew.heap[g]? = some (.cells cur (ρ.t 5) fr):=hg;simp [World.shape?,hg'])
  have c2:(w.drew.alloc (.view ⟨g,0,none⟩ (ρ.t 5))).cell? ⟨b,1,none⟩=some (.slice (some ⟨g,0,none⟩) 0 0):=by
    have:(w.drew.alloc (.view ⟨g,0,none⟩ (ρ.t 5))).heap[b]? = _:=(Lib.alloc_old w.drew _ b hlt).trans hbk
    rw [Lib.cell_of_heap this];rfl
  have c3:(w.alloc (.view ⟨g,0,none⟩ (ρ.t 5))).drew.cell? ⟨b,1,none⟩=some (.slice (some ⟨g,0,none⟩) 0 0):=c2
  have c0:w.cell? ⟨b,1,none⟩=some (.slice (some ⟨g,0,none⟩) 0 0):=c1
  have mixed:=L.mixed
  have t72:=L.t72;have a72:=L.a72;have z72:=L.z72;have v72:=L.v72;have u72:=run_underlying L.t72
  have t70:=L.t70;have a70:=L.a70;have z70:=L.z70;have v70:=L.v70;have u70:=run_underlying L.t70
  have t37:=L.t37;have a37:=L.a37;have z37:=L.z37;have v37:=L.v37;have u37:=run_underlying L.t37
  have t127:=L.t127;have a127:=L.a127;have z127:=L.z127;have v127:=L.v127;have u127:=run_underlying L.t127
  have t3:=L.t3;have a3:=L.a3;have z3:=L.z3;have v3:=L.v3;have u3:=run_underlying L.t3
  have t9:=L.t9;have a9:=L.a9;have z9:=L.z9;have v9:=L.v9;have u9:=run_underlying L.t9
  have t5:=X.t5;have a5:=X.a5;have z5:=X.z5;have v5:=X.v5;have u5:=run_underlying X.t5
  go_enter L.f169,Body.n169_ntmps ρ
  go_wp2
  go_region_o
  all_goals (go_wp2;go_ret;first | exact ⟨rfl,.inl rfl⟩ | exact ⟨rfl,.inr rfl⟩)
def zt3 (l:List AV) (H:List AE.Obj):Option (List Int):=match l,H with
  | [AV.ptr 0 0],[AE.Obj.bcells [AV.own 1],AE.Obj.arr (Ty.int IntKind.u8) o1]=>some o1
  | _,_=>none
theorem zC6 {l:List AV} {H:List AE.Obj} {a:List Int} (h:zt3 l H=some a):l=[.ptr 0 0]∧H=[.bcells [.own 1],.arr (.int .u8) a]:=by
  unfold zt3 at h
  split at h
  · cases h;exact ⟨rfl,rfl⟩
  · cases h
abbrev YZ:=List Int
abbrev zcw:=List Int
def zgu (l:List AV) (H:List AE.Obj):Option YZ:=zt3 l H
def zhF (a:YZ):Option zcw:=some a
def zhQ:YZ→(AV→List AE.Obj→Ans)→zcw→Ans:=fun _ K y=>K (.tup []) [.bcells [.own 1],.arr (.int .u8) y]
def zjg (a:YZ) (K:AV→List AE.Obj→Ans):Ans:=za (zhF a) fun y=>zhQ a K y
def qM:List AV→List AE.Obj→(AV→List AE.Obj→Ans)→Ans:=fun l H K=>za (zgu l H) fun a=>zjg a K
abbrev qx:=List Int
abbrev zfm:=List UInt8×List Int
def zkz (l:List AV) (H:List AE.Obj):Option qx:=zt3 l H
def zcL (a:qx):Option zfm:=cond (Nat.ble a.length 9223372036854775807) (some (Zl a,a)) none
def zqr:qx→(AV→List AE.Obj→Ans)→zfm→Ans:=fun _ K=>unP fun r o=>K (.str r) [.btold o,.dead]
def zru (a:qx) (K:AV→List AE.Obj→Ans):Ans:=za (zcL a) fun y=>zqr a K y
def zaY:List AV→List AE.Obj→(AV→List AE.Obj→Ans)→Ans:=fun l H K=>za (zkz l H) fun a=>zru a K
theorem zHe [BT] {C:Cx} (hh:zY C) {us:Array Value} {a:List Int} (hH:C.H=[.bcells [.own 1],.arr (.int .u8) a]) (hargs:VRels C [.ptr 0 0] us.toList) :
    ∃b v0 u,us = #[.pointer (some ⟨b,0,none⟩)]∧C.ρ 0=some b∧C.w.heap[b]? = some (.cells #[v0,u] BT.bld (0,0))∧VRel C (.own 1) u∧(∀x ∈ (#[v0,u]:Array Value).toList,x.oneCell'=true)∧(v0 = .pointer none∨v0 = .pointer (some ⟨b,0,none⟩)):=by
  obtain ⟨v,hl,h1⟩:=ztx hargs
  rw [VRel] at h1
  obtain ⟨b,hb,rfl,_⟩:=h1
  obtain ⟨b',c,v0,hb',hw,⟨vs,hc,hv⟩,hone,hv0⟩:=zda (cs:=[.own 1]) (i:=0) hh (by rw [hH];rfl)
  obtain rfl:b=b':=Option.some.inj (hb.symm.trans hb')
  obtain ⟨u,rfl,hu⟩:=ztx hv
  obtain rfl:c = #[v0,u]:=jZ hc
  exact ⟨b,v0,u,jZ hl,hb,hw,hu,hone,hv0⟩
theorem zg7 [BT] (L:Lays.n240 P ρ) (X:Builder.X72 P ρ) (h72:ρ.t 72=BT.bld) (he:YQ P (ρ.f 240)):zO P (ρ.f 240) qM:=by
  refine ⟨he,fun C args us K res Fr hh hF hargs hFf => ?_⟩
  obtain ⟨a,ha,hF1⟩:=ZD hFf
  clear hFf
  obtain ⟨rfl,hH⟩:=zC6 ha
  have hK:K (.tup []) C.H=some res:=by rw [hH];exact hF1
  obtain ⟨b,v0,u,rfl,hb,hw,hu,hone,hv0⟩:=zHe hh hH hargs
  rcases hv0 with rfl | rfl
  · refine (Any.Builder_copyCheck_fresh L X b C.w (Lib.cell_of_heap hw 0) (by simp [World.shape?,hw,h72]) (Lib.frozen_of_heap hw 0)).mono ?_
    rintro e w' ⟨rfl,rfl⟩
    have hg:zp C.H 0 = .bcells [.own 1]:=by rw [hH];rfl
    have hsame:Zc C.H 0 (.bcells [.own 1])=C.H:=by rw [hH];rfl
    have htn:World.Turned C.w (C.w.setCell ⟨b,0,none⟩ (.pointer (some ⟨b,0,none⟩))) b #[.pointer (some ⟨b,0,none⟩),u]:=by
      refine ⟨rfl,rfl,rfl,by simp [World.setCell],fun k hk=>zcg hk _,fun c e fr h => ?_⟩
      rw [hw] at h
      cases h
      exact ⟨(jY hw _).trans rfl,rfl⟩
    have hS:zB Fr C ⟨[],[],C.H,0⟩ #[] []:=⟨rfl,hh,fun t=>by rw [zbs,VRel];trivial,by rw [ZG],hF⟩
    have hsh:ZR (.bcells [.own 1]) (.bcells [.own 1]) := .bcells _ _
    have hln:zA C.H 0:=by unfold zA;rw [hg];simp
    have hup:=qY (C:=C) (n:=0) (o' := .bcells [.own 1]) hS hg hb hsh htn (by
      refine ⟨b,_,.pointer (some ⟨b,0,none⟩),rfl,(jY hw _).trans rfl,⟨[u],rfl,?_⟩,?_,.inr rfl⟩
      · have:VRels C [.own 1] [u]:=by rw [VRels];exact ⟨u,[],rfl,hu,by rw [VRels]⟩
        exact VRels.mono (zoz hg hsh htn C.R) (zbC hS hln hb htn) this
      · intro x hx
        simp at hx
        rcases hx with rfl | rfl
        · rfl
        · exact hone x (by simp))
    refine ⟨.tup [],_,?_,rfl,hup.heap,hup.frame,?_,fun j b' hj hbj=>⟨hbj,?_⟩⟩
    · show K (.tup []) (Zc C.H 0 (.bcells [.own 1]))=some res
      rw [hsame];exact hK
    · rw [VRel];exact ⟨#[],rfl,by rw [VRels]⟩
    · show zA (Zc C.H 0 (.bcells [.own 1])) j
      rw [hsame];exact Wn hj
  · refine (Any.Builder_copyCheck_used L X b C.w (Lib.cell_of_heap hw 0)).mono ?_
    rintro e w' ⟨rfl,rfl⟩
    exact ⟨.tup [],C,hK,rfl,hh,hF,by rw [VRel];exact ⟨#[],rfl,by rw [VRels]⟩,fun j b' hj hbj=>⟨hbj,Wn hj⟩⟩
theorem z3P [BT] {Fr:Fr} {C:Cx} (hh:zY C) (hF:zK Fr C) {a:List Int} (hH:C.H=[.bcells [.own 1],.arr (.int .u8) a]) {b:Nat} {v0 v:Value} (hb:C.ρ 0=some b) (hw0:C.w.heap[b]? = some (.cells #[v0,v] BT.bld (0,0)))
    (hone : ∀x ∈ (#[v0,v]:Array Value).toList,x.oneCell'=true) (hv0:v0 = .pointer none∨v0 = .pointer (some ⟨b,0,none⟩)) {w':World} (hos:w'.os=C.w.os) (htape:w'.tape=C.w.tape) (hout:w'.output=C.w.output)
    (hsz:C.w.heap.size≤w'.heap.size) (hkeep : ∀k,k<C.w.heap.size→C.ρ 1≠some k→w'.heap[k]? = C.w.heap[k]?)
    (hv:(a=[]∧v = .slice none 0 0∧C.ρ 1=none) ∨ ∃g cap cur fr,v = .slice (some ⟨g,0,none⟩) a.length cap∧a.length≤cap∧C.ρ 1=some g∧w'.heap[g]? = some (.cells cur BT.byte fr)∧(a=[]∨fr.1=0∧fr.2≠0∧a.length≤fr.2)∧a.length≤cur.size ∧ ∀(j:Nat) (x:Int),a[j]? = some x→cur[j]? = some (Value.int .u8 x)) :
    zY ⟨fun k=>C.R k∨C.ρ 1=some k,C.ρ,[.btold a,.dead],w'⟩∧zK Fr ⟨fun k=>C.R k∨C.ρ 1=some k,C.ρ,[.btold a,.dead],w'⟩:=by
  have hg0:zp C.H 0 = .bcells [.own 1]:=by rw [hH];rfl
  have hg1:zp C.H 1 = .arr (.int .u8) a:=by rw [hH];rfl
  have hl0:zA C.H 0:=by unfold zA;rw [hg0];simp
  have hl1:zA C.H 1:=by unfold zA;rw [hg1];simp
  have hdead : ∀i,i≠0→zp [AE.Obj.btold a,.dead] i = .dead:=by
    intro i hi
    match i,hi with
    | 1,_=>rfl
    | i+2,_=>rfl
  have hlv : ∀i,zA [AE.Obj.btold a,.dead] i→i=0:=fun i h=>Classical.byContradiction fun e=>h (hdead i e)
  have hne : ∀k,C.ρ 1=some k→k≠b:=fun k h e=>absurd (hh.inj 0 1 b hl0 hl1 hb (e ▸ h)) (by decide)
  refine ⟨⟨fun i => ?_,fun i j b hi hj _ _=>(hlv i hi).trans (hlv j hj).symm,fun i b' hi hb' => ?_,fun k hk => ?_⟩,
    ⟨hos.trans hF.os,htape.trans hF.tape,hout.trans hF.output,Nat.le_trans hF.size hsz,fun k hk hno => ?_,fun k hk => .inl (hF.r0 k hk),fun k hk => ?_,fun i b hi hb=>by rw [hlv i hi] at hb;exact hF.own 0 b hl0 hb⟩⟩
  · by_cases hi:i=0
    · subst hi
      refine ⟨b,v0,v,hb,(hkeep b (hh.blk_lt hl0 hb) fun e=>hne b e rfl).trans hw0,hone,hv0,?_⟩
      rcases hv with ⟨h1,h2,_⟩ | ⟨g,cap,cur,fr,h1,h2,h3,h4,h5⟩
      · exact .inl ⟨h1,h2⟩
      · exact .inr ⟨g,cap,cur,fr,h1,h2,.inr h3,h4,h5⟩
    · show yj _ (zp [AE.Obj.btold a,.dead] i) _
      rw [hdead i hi];trivial
  · rw [hlv i hi] at hb'
    rintro (h | h)
    · exact hh.ro 0 b' hl0 hb' h
    · exact hne b' h (Option.some.inj (hb'.symm.trans hb))
  · rcases hk with hk | hk
    · exact Nat.lt_of_lt_of_le (hh.rlt k hk) hsz
    · exact Nat.lt_of_lt_of_le (hh.blk_lt hl1 hk) hsz
  · refine (hkeep k (Nat.lt_of_lt_of_le hk hF.size) fun e => ?_).trans (hF.keep k hk hno)
    rcases hF.own 1 k hl1 e with h | h
    · exact hno h
    · omega
  · rcases hk with hk | hk
    · exact hF.rN k hk
    · exact .inr (hF.own 1 k hl1 hk)
theorem zkg [BT] (L:Lays.n169 P ρ) (X:Builder.Extra P ρ) (h5:ρ.t 5=BT.byte) (he:YQ P (ρ.f 169)):zO P (ρ.f 169) zaY:=by
  refine ⟨he,fun C args us K res Fr hh hF hargs hFf => ?_⟩
  obtain ⟨a,ha,hF1⟩:=ZD hFf
  clear hFf
  obtain ⟨rfl,hH⟩:=zC6 ha
  obtain ⟨y,hy,hFf⟩:=ZD hF1
  clear hF1
  unfold zcL at hy
  obtain ⟨h63,hy⟩:=zcO hy
  have h63:=Nat.le_of_ble_eq_true h63
  cases hy
  obtain ⟨b,v0,u,rfl,hb,hw,hu,hone,hv0⟩:=zHe hh hH hargs
  have hg0:zp C.H 0 = .bcells [.own 1]:=by rw [hH];rfl
  have hl0:zA C.H 0:=by unfold zA;rw [hg0];simp
  have hg1:zp C.H 1 = .arr (.int .u8) a:=by rw [hH];rfl
  have hl1:zA C.H 1:=by unfold zA;rw [hg1];simp
  have fin : ∀(s:List UInt8) (w':World),s=Zl a→w'.os=C.w.os→w'.tape=C.w.tape→w'.output=C.w.output→C.w.heap.size≤w'.heap.size→(∀k,k<C.w.heap.size→C.ρ 1≠some k→w'.heap[k]? = C.w.heap[k]?) →
      ((a=[]∧u = .slice none 0 0∧C.ρ 1=none) ∨ ∃g cap cur fr,u = .slice (some ⟨g,0,none⟩) a.length cap∧a.length≤cap∧C.ρ 1=some g∧w'.heap[g]? = some (.cells cur BT.byte fr)∧(a=[]∨fr.1=0∧fr.2≠0∧a.length≤fr.2)∧a.length≤cur.size ∧ ∀(j:Nat) (x:Int),a[j]? = some x→cur[j]? = some (Value.int .u8 x)) →
      ∃r C',K r C'.H=some res∧C'.w=w'∧zY C'∧zK Fr C'∧VRel C' r (.string ⟨s.toArray⟩)∧(∀j b,(zp C.H j).isBlk=true→C.ρ j=some b→C'.ρ j=some b∧zA C'.H j):=by
    rintro s w' rfl h1 h2 h3 h4 h5 h6
    obtain ⟨g1,g2⟩:=z3P hh hF hH hb hw hone hv0 h1 h2 h3 h4 h5 h6
    refine ⟨.str (Zl a),⟨fun k=>C.R k∨C.ρ 1=some k,C.ρ,[.btold a,.dead],w'⟩,hFf,rfl,g1,g2,by rw [VRel],fun j b' hj hbj=>⟨hbj,?_⟩⟩
    have:j=0:=by
      rw [hH] at hj
      match j,hj with
      | 0,_=>rfl
      | 1,hj=>cases hj
      | j+2,hj=>cases hj
    subst this
    exact fun e=>by cases e
  rw [VRel] at hu
  obtain ⟨t,l,hg,hu⟩:=hu
  rw [hg1] at hg
  cases hg
  rcases hu with ⟨hρ0,rfl,rfl⟩ | ⟨g,c,cap,hρ,hc,hcap,hcs,rfl⟩
  · refine (zgJ L X b v0 BT.bld C.w hw).mono ?_
    rintro e w' ⟨rfl,rfl⟩
    exact fin [] _ rfl rfl rfl rfl (Nat.le_refl _) (fun k _ _=>rfl) (.inl ⟨rfl,rfl,hρ0⟩)
  · obtain ⟨b',c',e',fr,hb',hw',hfr,hl,hel,hby⟩ : ∃b c e fr,C.ρ 1=some b∧C.w.heap[b]? = some (.cells c e fr)∧qX fr c.size∧a.length*1≤c.size ∧
        (∀(k:Nat) (x:Int),a[k]? = some x → ∃us,zJ C.R C.w (.int .u8) x us ∧ ∀j u,us[j]? = some u→c[k*1+j]? = some u)∧(Ty.int .u8 = .int .u8→e=BT.byte):=by
      rcases zeB hh hg1 with ⟨h,_⟩ | h
      · rw [hρ] at h;cases h
      · exact h
    obtain rfl:g=b':=Option.some.inj (hρ.symm.trans hb')
    obtain rfl:c'=c:=by rw [blkOf_cells hw'] at hc;exact Option.some.inj hc
    obtain rfl:e'=BT.byte:=hby rfl
    have hcell : ∀(j:Nat) (x:Int),a[j]? = some x→c'[j]? = some (Value.int .u8 x):=by
      intro j x hx
      obtain ⟨us,hd,hu⟩:=hel j x hx
      rw [zJ] at hd
      subst hd
      have:=hu 0 _ rfl
      simpa using this
    have hwB:=hw'
    rw [← h5] at hw'
    by_cases hc0:cap=0
    · subst hc0
      obtain rfl:a=[]:=List.eq_nil_of_length_eq_zero (by omega)
      refine (zcM L X b g v0 BT.bld c' fr C.w hw hw').mono ?_
      have hlt:=hh.blk_lt hl1 hρ
      rintro e w' ⟨rfl,rfl | rfl⟩
      · exact fin [] _ rfl rfl rfl rfl (by show C.w.heap.size≤(C.w.heap.push _).size;rw [Array.size_push];omega) (fun k hk _=>by
          show (C.w.drew.alloc _).heap[k]? = _
          exact Lib.alloc_old C.w.drew _ k hk) (.inr ⟨g,0,c',fr,rfl,Nat.le_refl _,hρ,(Lib.alloc_old C.w.drew _ g hlt).trans hwB,.inl rfl,Nat.zero_le _,fun j x hx=>by cases hx⟩)
      · exact fin [] _ rfl rfl rfl rfl (by show C.w.heap.size≤(C.w.heap.push _).size;rw [Array.size_push];omega) (fun k hk _=>by
          show (C.w.alloc _).heap[k]? = _
          exact Lib.alloc_old C.w _ k hk) (.inr ⟨g,0,c',fr,rfl,Nat.le_refl _,hρ,(Lib.alloc_old C.w _ g hlt).trans hwB,.inl rfl,Nat.zero_le _,fun j x hx=>by cases hx⟩)
    · by_cases h0:a=[]
      · subst h0
        refine (zfb L X b g cap v0 BT.bld C.w hc0 hw).mono ?_
        rintro e w' ⟨rfl,rfl⟩
        exact fin [] _ rfl rfl rfl rfl (Nat.le_refl _) (fun k _ _=>rfl) (.inr ⟨g,cap,c',fr,rfl,hcap,hρ,hwB,.inl rfl,Nat.zero_le _,fun j x hx=>by cases hx⟩)
      · refine (zgq L X b g cap v0 c' BT.bld fr a C.w h0 hc0 (by omega) h63 hw hw' hcell).mono ?_
        rintro e w' ⟨rfl,rfl⟩
        have hn:a.length≠0:=by simpa using h0
        have hfz:(C.w.drew.freeze ⟨g,0,none⟩ a.length).heap[g]? = some (.cells c' BT.byte (if fr.1 == fr.2 then (0,0+a.length) else (min fr.1 0,max fr.2 (0+a.length)))):=by
          unfold World.freeze;rw [if_neg hn]
          show (Array.modify C.w.heap _ _)[g]? = _
          rw [Array.getElem?_modify,if_pos rfl,hwB]
          rfl
        refine fin _ _ rfl ?_ ?_ ?_ ?_ ?_ (.inr ⟨g,cap,c',_,rfl,hcap,hρ,hfz,.inr ?_,by omega,hcell⟩)
        · unfold World.freeze;rw [if_neg hn];rfl
        · unfold World.freeze;rw [if_neg hn];rfl
        · unfold World.freeze;rw [if_neg hn];rfl
        · unfold World.freeze;rw [if_neg hn];show C.w.heap.size≤(Array.modify C.w.heap _ _).size;rw [Array.size_modify];exact Nat.le_refl _
        · intro k hk hne
          have hkg:g≠k:=fun e=>hne (e ▸ hρ)
          unfold World.freeze;rw [if_neg hn]
          show (Array.modify _ _ _)[k]? = _
          rw [Array.getElem?_modify,if_neg hkg];rfl
        · split
          · refine ⟨rfl,?_,?_⟩
            · show 0+a.length≠0;omega
            · show a.length≤0+a.length;omega
          · refine ⟨?_,?_,?_⟩
            · show min fr.1 0=0;omega
            · show max fr.2 (0+a.length)≠0;omega
            · show a.length≤max fr.2 (0+a.length);omega
abbrev Yg:=List Int
abbrev J3:=List UInt8×List Int
def jX (l:List AV) (H:List AE.Obj):Option Yg:=match l,H with
  | [AV.ptr 0 0],[AE.Obj.btold a]=>some a
  | _,_=>none
def j0 (a:Yg):Option J3:=cond (Nat.ble a.length 9223372036854775807) (some (Zl a,a)) none
def zfP:Yg→(AV→List AE.Obj→Ans)→J3→Ans:=fun _ K=>unP fun r o=>K (.str r) [.btold o]
def zhw (a:Yg) (K:AV→List AE.Obj→Ans):Ans:=za (j0 a) fun y=>zfP a K y
def w9:List AV→List AE.Obj→(AV→List AE.Obj→Ans)→Ans:=fun l H K=>za (jX l H) fun a=>zhw a K
theorem ze6 [BT] (L:Lays.n169 P ρ) (X:Builder.Extra P ρ) (h5:ρ.t 5=BT.byte) (he:YQ P (ρ.f 169)):zO P (ρ.f 169) w9:=by
  refine ⟨he,fun C args us K res Fr hh hF hargs hFf => ?_⟩
  obtain ⟨a,ha,hF1⟩:=ZD hFf
  clear hFf
  obtain ⟨rfl,hH⟩:args=[.ptr 0 0]∧C.H=[.btold a]:=by
    unfold jX at ha
    split at ha
    · rename_i e;cases ha;exact ⟨rfl,e⟩
    · cases ha
  obtain ⟨y,hy,hFf⟩:=ZD hF1
  clear hF1
  unfold j0 at hy
  obtain ⟨h63,hy⟩:=zcO hy
  have h63:=Nat.le_of_ble_eq_true h63
  cases hy
  have hg0:zp C.H 0 = .btold a:=by rw [hH];rfl
  have hl0:zA C.H 0:=by unfold zA;rw [hg0];simp
  obtain ⟨b,v0,v,hb,hw,hone,hv0,hv⟩:=zDc hh hg0
  obtain ⟨v1,hl,h1⟩:=ztx hargs
  rw [VRel] at h1
  obtain ⟨b',hb',rfl,_⟩:=h1
  obtain rfl:b=b':=Option.some.inj (hb.symm.trans hb')
  obtain rfl:us=_:=jZ hl
  have hdead : ∀i,i≠0→zp C.H i = .dead:=by
    rw [hH]
    intro i hi
    match i,hi with
    | i+1,_=>rfl
  have hlv : ∀i,zA C.H i→i=0:=fun i h=>Classical.byContradiction fun e=>h (hdead i e)
  have fin : ∀(s:List UInt8) (w':World),s=Zl a→w'.os=C.w.os→w'.tape=C.w.tape→w'.output=C.w.output→C.w.heap.size≤w'.heap.size→(∀k,k<C.w.heap.size→w'.heap[k]? = C.w.heap[k]?) →
      ∃r C',K r C'.H=some res∧C'.w=w'∧zY C'∧zK Fr C'∧VRel C' r (.string ⟨s.toArray⟩)∧(∀j b,(zp C.H j).isBlk=true→C.ρ j=some b→C'.ρ j=some b∧zA C'.H j):=by
    rintro s w' rfl h1 h2 h3 h4 h5
    have hR : ∀k,C.R k→C.R k∧w'.heap[k]? = C.w.heap[k]? := fun k hk=>⟨hk,h5 k (hh.rlt k hk)⟩
    refine ⟨.str (Zl a),⟨C.R,C.ρ,C.H,w'⟩,by show K _ C.H=_;rw [hH];exact hFf,rfl,⟨fun i => ?_,hh.inj,hh.ro,fun k hk=>Nat.lt_of_lt_of_le (hh.rlt k hk) h4⟩,
      ⟨h1.trans hF.os,h2.trans hF.tape,h3.trans hF.output,Nat.le_trans hF.size h4,fun k hk hno=>(h5 k (Nat.lt_of_lt_of_le hk hF.size)).trans (hF.keep k hk hno),hF.r0,hF.rN,hF.own⟩,by rw [VRel],fun j b' hj hbj=>⟨hbj,Wn hj⟩⟩
    by_cases hi:i=0
    · subst hi
      show yj _ (zp C.H 0) _
      rw [hg0]
      refine ⟨b,v0,v,hb,(h5 b (hh.blk_lt hl0 hb)).trans hw,hone,hv0,?_⟩
      rcases hv with hv | ⟨g,cap,cur,fr,g1,g2,g3,g4,g5⟩
      · exact .inl hv
      · exact .inr ⟨g,cap,cur,fr,g1,g2,g3,(h5 g (hh.rlt g g3)).trans g4,g5⟩
    · show yj _ (zp C.H i) _
      rw [hdead i hi];trivial
  rcases hv with ⟨rfl,rfl⟩ | ⟨g,cap,cur,fr,rfl,hcap,hgR,hwg,hfz,hsz,hcell⟩
  · refine (zgJ L X b v0 BT.bld C.w hw).mono ?_
    rintro e w' ⟨rfl,rfl⟩
    exact fin [] _ rfl rfl rfl rfl (Nat.le_refl _) fun k _=>rfl
  · have hwg':=hwg
    rw [← h5] at hwg'
    by_cases h0:a=[]
    · subst h0
      by_cases hc0:cap=0
      · subst hc0
        refine (zcM L X b g v0 BT.bld cur fr C.w hw hwg').mono ?_
        rintro e w' ⟨rfl,rfl | rfl⟩
        · exact fin [] _ rfl rfl rfl rfl (by show C.w.heap.size≤(C.w.heap.push _).size;rw [Array.size_push];omega) fun k hk=>by
            show (C.w.drew.alloc _).heap[k]? = _
            exact Lib.alloc_old C.w.drew _ k hk
        · exact fin [] _ rfl rfl rfl rfl (by show C.w.heap.size≤(C.w.heap.push _).size;rw [Array.size_push];omega) fun k hk=>by
            show (C.w.alloc _).heap[k]? = _
            exact Lib.alloc_old C.w _ k hk
      · refine (zfb L X b g cap v0 BT.bld C.w hc0 hw).mono ?_
        rintro e w' ⟨rfl,rfl⟩
        exact fin [] _ rfl rfl rfl rfl (Nat.le_refl _) fun k _=>rfl
    · have hn:a.length≠0:=by simpa using h0
      refine (zgq L X b g cap v0 cur BT.bld fr a C.w h0 (by omega) hsz h63 hw hwg' hcell).mono ?_
      rintro e w' ⟨rfl,rfl⟩
      rcases hfz with h | ⟨f1,f2,f3⟩
      · exact absurd h h0
      refine fin _ _ rfl ?_ ?_ ?_ ?_ ?_
      · unfold World.freeze;rw [if_neg hn];rfl
      · unfold World.freeze;rw [if_neg hn];rfl
      · unfold World.freeze;rw [if_neg hn];rfl
      · unfold World.freeze;rw [if_neg hn];show C.w.heap.size≤(Array.modify C.w.heap _ _).size;rw [Array.size_modify];exact Nat.le_refl _
      · intro k hk
        unfold World.freeze;rw [if_neg hn]
        show (Array.modify C.w.heap _ _)[k]? = _
        rw [Array.getElem?_modify]
        by_cases hkg:g=k
        · subst hkg
          rw [if_pos rfl,hwg]
          obtain ⟨lo,hi⟩:=fr
          simp only at f1 f2 f3
          subst f1
          have e1:((0:Nat) == hi)=false:=by rw [beq_eq_false_iff_ne];omega
          simp only [Option.map_some,e1,Nat.zero_add]
          rw [show max hi a.length=hi by omega]
          rfl
        · rw [if_neg hkg]
end
end Go.AE
