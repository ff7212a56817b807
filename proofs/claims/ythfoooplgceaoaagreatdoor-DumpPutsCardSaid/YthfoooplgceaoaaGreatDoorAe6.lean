/- The abstract evaluator AE, proved: part 6. -/
import Derived.Test.YthfoooplgceaoaaGreatDoorAe5
import Derived.Lib.Join
set_option linter.unusedVariables false
set_option linter.unusedSimpArgs false
namespace Go.AE
open Go.RowKit (Below)
variable {P:Program}
abbrev Wv:=List (List UInt8)×List UInt8
abbrev zjf:=List UInt8
def Jo (l:List AV):Option Wv:=match l with
  | [AV.ro Ty.str a0,AV.str a1]=>some (a0,a1)
  | _=>none
theorem zjh (l:List AV) (a:Wv) (h:Jo l=some a):l=[AV.ro Ty.str a.1,AV.str a.2]:=by
  unfold Jo at h
  split at h
  · cases h;rfl
  · cases h
def Y4 (a:Wv):Option zjf:=cond (Nat.ble a.1.length 140737488355328&&Nat.ble (Lib.join a.1 a.2).length 140737488355328) (some (Lib.join a.1 a.2)) none
def zq8:Wv→zjf→AV:=fun _ y => .str y
def zz0 (a:Wv) (K:AV→Ans):Ans:=za (Y4 a) fun y=>K (zq8 a y)
def Jm:List AV→(AV→Ans)→Ans:=fun l K=>za (Jo l) fun a=>zz0 a K
theorem zrL [BT] {g:Nat} (he:YQ P g)
    (hn : ∀(a:Option Addr) (c:Nat) (sep:ByteArray) (w:World),Calls P g #[.slice a 0 c,.string sep] w fun e w'=>e = .returned (.string ⟨#[]⟩)∧w'=w)
    (hc : ∀(bk o c:Nat) (xs:List ByteArray) (sep:ByteArray) (w:World),(∀(j:Nat) x,xs[j]? = some x→w.cell? ⟨bk,o+j,none⟩=some (.string x))→bk<w.heap.size→xs.length≤140737488355328→xs.length≤c →
      (Lib.join (xs.map (·.data.toList)) sep.data.toList).length≤140737488355328 →
      Calls P g #[.slice (some ⟨bk,o,none⟩) xs.length c,.string sep] w fun e w'=>e = .returned (.string ⟨(Lib.join (xs.map (·.data.toList)) sep.data.toList).toArray⟩)∧Below w.heap.size w w'):zM P g Jm:=by
  refine ⟨he,fun C args us K res hh hH hargs hF => ?_⟩
  obtain ⟨⟨l,sep⟩,ha,hF⟩:=ZD hF
  obtain ⟨y,hy,hF⟩:=ZD hF
  have:=zjh args _ ha
  subst this
  unfold Y4 at hy
  obtain ⟨hg,hy⟩:=zcO hy
  cases hy
  simp only [Bool.and_eq_true] at hg
  have g1:=Nat.le_of_ble_eq_true hg.1
  have g2:=Nat.le_of_ble_eq_true hg.2
  refine ⟨.str (Lib.join l sep),.string ⟨(Lib.join l sep).toArray⟩,hF,fun C'=>by rw [VRel],fun W hW => ?_⟩
  obtain ⟨v,u,hl,h1,h2⟩:=z3o hargs
  have h2:u = .string ⟨sep.toArray⟩:=by simpa only [VRel] using h2
  subst h2
  rw [jZ hl]
  rw [VRel,zJ] at h1
  obtain ⟨A,c,hv,hlc,hd⟩:=h1
  cases hv
  have key:l.map (fun x=>(ByteArray.mk x.toArray).data.toList)=l:=by
    conv=>rhs;rw [← List.map_id l]
    exact List.map_congr_left fun x _=>by simp
  by_cases h0:l=[]
  · subst h0
    refine (hn A c ⟨sep.toArray⟩ W).mono fun e w' ⟨h1,h2⟩=>⟨?_,h2 ▸ Below.refl _ _⟩
    rw [h1];rfl
  · rcases hd with h | ⟨b,o,rfl,hR,hd⟩
    · exact absurd h h0
    · have hcell : ∀(j:Nat) (x:ByteArray),(l.map fun x=>ByteArray.mk x.toArray)[j]? = some x→C.w.cell? ⟨b,o+j,none⟩=some (.string x):=by
        intro j x hj
        rw [List.getElem?_map] at hj
        cases hx:l[j]? with
        | none=>rw [hx] at hj;cases hj
        | some z =>
          rw [hx] at hj
          cases hj
          obtain ⟨us,h1,h2⟩:=hd j z hx
          rw [zJ] at h1
          subst h1
          have:=h2 0 _ rfl
          simpa [Ty.size] using this
      have hb:b<W.heap.size:=by
        cases l with
        | nil=>exact absurd rfl h0
        | cons z r =>
          have:=hcell 0 ⟨z.toArray⟩ rfl
          rw [← zav (hW b hR)] at this
          apply Decidable.byContradiction
          intro hge
          have hnone:W.heap[b]? = none:=Array.getElem?_eq_none (by omega)
          simp [World.cell?,hnone] at this
      have:=hc b o c (l.map fun x=>ByteArray.mk x.toArray) ⟨sep.toArray⟩ W (fun j x hj=>by rw [zav (hW b hR)];exact hcell j x hj) hb (by simpa using g1) (by simpa using hlc)
        (by rw [List.map_map];exact (congrArg (fun z=>(Lib.join z sep).length≤140737488355328) key).mpr g2)
      rw [List.map_map,List.length_map] at this
      have e:Lib.join (l.map ((fun x:ByteArray=>x.data.toList)∘fun x=>ByteArray.mk x.toArray)) (ByteArray.mk sep.toArray).data.toList=Lib.join l sep:=by
        have:l.map ((fun x:ByteArray=>x.data.toList)∘fun x=>ByteArray.mk x.toArray)=l:=key
        rw [this]
      rw [e] at this
      exact this
end Go.AE
