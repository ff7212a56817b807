/- What the functions that DumpGetsCardSaid reaches compute: part 16. -/
import Derived.Test.YthfoooplgceaoaaGreatDoorOwnDumpGetsCardSaid15
import Derived.Test.YthfoooplgceaoaaGreatDoorRows
import Derived.Test.YthfoooplgceaoaaGreatDoorCards
import Derived.Test.YthfoooplgceaoaaGreatDoorTie
import Derived.SevenTiedAt
import Derived.ProofKit
import Derived.LaidMore
import Derived.LaidHandle
import Derived.LaidLaws
import Derived.Handed
import Derived.Lay
import Derived.OpenShut
import Derived.Stop.Joined
set_option linter.unusedVariables false
set_option linter.unusedSimpArgs false
namespace Go.Proofs.YthfoooplgceaoaaGreatDoor
open Go Go.AE Go.Proofs.R9 Go.RowKit
theorem zQ5:ownKnob Tryz.prog.godebug=none:=by kernel_rfl
theorem zM6:laidOutB Tryz.prog=true:=by kernel_rfl
theorem zWk (x:zA3 [.list .str]) (hw:zIJ _ x) :
    ∃n H',fnE Tryz.tab YA zd 0 n 3 Tryz.f3.ntmps Tryz.f3.results.toList zJi zsw (zjQ _ x) [] (fun v H=>some (v,H))=some (.bool true,H'):=by
  obtain ⟨l,⟨⟩⟩:=x
  exact ⟨70,[],(z83 l _).trans ((z1Q l _).trans (by rw [zHN];rfl))⟩
set_option maxRecDepth 100000 in
theorem ztc (H:Type) (enc:TypeId×Value→H) (W:World) (base:Nat) (args:Array Value) (ds gs:List (DataW H)) (before:List MemPlace)
    (hval : ∀(j:Nat) t v,Tryz.f3.params[j]? = some t→args[j]? = some v→Value.okWide Tryz.prog W .any base t v)
    (hW:DataW.Whole enc Tryz.prog Tryz.f3.params.toList Rows.dumpGetsSpec.vars false W args.toList ds gs before) :
    Calls Tryz.prog 3 args W fun e W' => ∃v,e = .returned v∧Rows.dumpGetsSpec.post enc Tryz.prog Tryz.f3 false true false false W args v W' :=
  zMW (hint:=zd) (d:=0) mixed tabOk zbZ zM6 Tryz.func3 (zE (by kernel_rfl)) (by kernel_rfl) (tb:=4) (by kernel_rfl) (by kernel_rfl)
    (ys:=[.list .str]) (by kernel_rfl) z41 zWk (s:=Rows.dumpGetsSpec) rfl
    (fun ds h=>match ds,h with | [_],_=>rfl) hval hW
noncomputable def zXU (os:Os):World :=
  let w0:=World.holding Tryz.prog os ⟨#[],#[],[]⟩
  { w0 with heap:=w0.heap.modify ((Tryz.prog.globalNamed "errors.errorType").getD 0) fun
      | .cells _ t frozen => .cells #[.iface 299 (.agg #[typeHandle Tryz.prog 156])] t frozen
      | o=>o }
noncomputable def zjy (os:Os):World:=(zXU os).layVars Tryz.prog (Rows.dumpGetsRow.laid.filter fun x=>x.2.handleName?.isNone)
theorem zHE {P:Program} {w0:World} {laid:List (String×DataW Unit)} (args:Array Value) (hf:w0.layFits P laid []=true) (hi:w0.layIfaces P laid (w0.layVars P laid)=true) :
    laidMet P laid ((w0.layVars P laid).forCall (fun _ _=>0) ⟨#[],args,[]⟩).memory:=by
  have e1:(laid.filter fun x=>(laid.map (·.1)).contains x.1)=laid:=List.filter_eq_self.2 fun x hx=>List.contains_iff_mem.2 (List.mem_map.2 ⟨x,hx,rfl⟩)
  have e2:(laid.filter fun x => !(laid.map (·.1)).contains x.1)=[]:=List.filter_eq_nil_iff.2 fun x hx=>by rw [List.contains_iff_mem.2 (List.mem_map.2 ⟨x,hx,rfl⟩)];simp
  have h:laidMet P laid (w0.layVars P laid):=laidMet_layVars (w0:=w0) (laid.map (·.1)) [] (by rw [e1]) (by rw [e1];exact hf) (by rw [e1];exact hi) (by rw [e2];exact LaidIn.none)
  exact h.of_heap (by simp [World.memory,World.forCall,Input.heap])
theorem zrq (os:Os) (args:Array Value):laidMetH Tryz.prog Rows.dumpGetsRow.laid ((zjy os).forCall (fun _ _=>0) ⟨#[],args,[]⟩).memory :=
  laidMetH_of_parts (zHE args (by kernel_rfl) (by kernel_rfl)) (by kernel_rfl)
set_option maxRecDepth 100000 in
theorem zAy (os:Os) (started:os.Started) (H:Type) (enc:TypeId×Value→H) :
    ReturnsInHanded {} Tryz.checked os 3 .any (fun w args=>(Rows.dumpGetsSpec.pre enc Tryz.prog Tryz.f3 Rows.dumpGetsRow.domain false w args∧laidMetH Tryz.prog Rows.dumpGetsRow.laid w)∧sizedMet enc Tryz.prog Tryz.f3 (OpenSpec.ofChange Rows.dumpGetsSpec) false w args)
      (Rows.dumpGetsSpec.post enc Tryz.prog Tryz.f3 false true false false) :=
  returnsInHanded_of_change_and (C:=Tryz.checked) (X:=fun w _=>laidMetH Tryz.prog Rows.dumpGetsRow.laid w) (fun _ _ _ hh h=>h.of_heap hh) zQ5 started (by kernel_rfl) Tryz.func3
    (ChangeSpec.witness_shaped (enc:=enc) (C:=Tryz.checked) (os:=os) (X:=fun w _=>laidMetH Tryz.prog Rows.dumpGetsRow.laid w) false (zjy os) #[.slice none 0 0] 8 ((World.layVars_os _ _ _).trans rfl) (World.shaped_of_ZipB (by kernel_rfl) (by kernel_rfl)) (by kernel_rfl) (by kernel_rfl) (by kernel_rfl) (zrq os _))
    fun W base args ds gs before hval hW _ _ _ _=>ztc H enc W base args ds gs before hval hW
theorem zyI:Rows.DumpGetsSaid :=
  OpenClaim.holds_of_wide 3 Tryz.f3 rfl rfl rfl rfl rfl rfl rfl ⟨rfl,rfl,rfl,rfl,rfl⟩ rfl rfl rfl rfl rfl (by kernel_rfl) Tryz.func3 zId
    (of_decide_eq_true (by kernel_rfl)) (by unfold Func.isWrapper;first | (rw [if_pos (by decide +kernel)];kernel_rfl) | (rw [if_neg (by decide +kernel)];exact ⟨rfl,rfl⟩))
    (fun os started H enc _=>zAy os started H enc)
end Go.Proofs.YthfoooplgceaoaaGreatDoor
