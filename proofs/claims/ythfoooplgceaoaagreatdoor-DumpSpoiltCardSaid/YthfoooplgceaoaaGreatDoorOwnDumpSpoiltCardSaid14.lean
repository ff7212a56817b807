/- What the functions that DumpSpoiltCardSaid reaches compute: part 14. -/
import Derived.Test.YthfoooplgceaoaaGreatDoorOwnDumpSpoiltCardSaid13
import Derived.Test.YthfoooplgceaoaaGreatDoorRows
import Derived.Test.YthfoooplgceaoaaGreatDoorCards
import Derived.Test.YthfoooplgceaoaaGreatDoorTie
import Derived.SevenTiedAt
import Derived.ProofKit
import Derived.LaidMore
import Derived.LaidHandle
import Derived.LaidLaws
import Derived.Handed
import Derived.Lay
import Derived.OpenShut
import Derived.Stop.Joined
set_option linter.unusedVariables false
set_option linter.unusedSimpArgs false
namespace Go.Proofs.YthfoooplgceaoaaGreatDoor
open Go Go.AE Go.Proofs.R9 Go.RowKit
theorem zwq:ownKnob Tryz.prog.godebug=none:=by kernel_rfl
theorem zvs:laidOutB Tryz.prog=true:=by kernel_rfl
theorem zBU (x:ztA [.st (.pair (.pair (.int .i64) (.pair (.int .i64) (.pair (.int .i64) (.pair (.int .i64) (.pair (.int .i64) (.pair (.int .i64) (.int .i64))))))) (.pair (.list (.st (.pair (.int .i64) (.pair (.pair (.int .i64) (.int .i64)) (.pair .str (.pair (.pair (.pair (.int .i64) (.int .i64)) .str) (.pair (.pair (.int .i64) (.int .i64)) .str))))))) (.list .bool))),.st (.pair (.int .i64) (.pair (.int .i64) (.int .i64))),.st (.pair (.int .u8) (.pair (.int .u8) (.pair (.int .u8) (.int .u8))))]) (hw:zyl _ x) :
    ∃n H',fnE Tryz.tab Zp zf 0 n 4 Tryz.f4.ntmps Tryz.f4.results.toList zC6 zi4 (zjk _ x) [] (fun v H=>some (v,H))=some (.bool true,H'):=by
  obtain ⟨⟨⟨n,r,b,c,x,s,l⟩,ss,cs⟩,⟨a0,a1,a2⟩,⟨b0,b1,b2,b3⟩,⟨⟩⟩:=x
  exact ⟨70,[],(zPU (n,r,b,c,x,s,l,ss,cs,a0,a1,a2,b0,b1,b2,b3) _).trans ((zL7 (n,r,b,c,x,s,l,ss,cs,a0,a1,a2,b0,b1,b2,b3) _).trans (by rw [zqw];rfl))⟩
set_option maxRecDepth 100000 in
theorem zgX (H:Type) (enc:TypeId×Value→H) (W:World) (base:Nat) (args:Array Value) (ds gs:List (DataW H)) (before:List MemPlace)
    (hval : ∀(j:Nat) t v,Tryz.f4.params[j]? = some t→args[j]? = some v→Value.okWide Tryz.prog W .any base t v)
    (hW:DataW.Whole enc Tryz.prog Tryz.f4.params.toList Rows.dumpSpoiltSpec.vars false W args.toList ds gs before) :
    Calls Tryz.prog 4 args W fun e W' => ∃v,e = .returned v∧Rows.dumpSpoiltSpec.post enc Tryz.prog Tryz.f4 false true false false W args v W' :=
  zy5 (hint:=zf) (d:=0) mixed tabOk yc zvs Tryz.func4 (zI (by kernel_rfl)) (by kernel_rfl) (tb:=4) (by kernel_rfl) (by kernel_rfl)
    (ys:=[.st (.pair (.pair (.int .i64) (.pair (.int .i64) (.pair (.int .i64) (.pair (.int .i64) (.pair (.int .i64) (.pair (.int .i64) (.int .i64))))))) (.pair (.list (.st (.pair (.int .i64) (.pair (.pair (.int .i64) (.int .i64)) (.pair .str (.pair (.pair (.pair (.int .i64) (.int .i64)) .str) (.pair (.pair (.int .i64) (.int .i64)) .str))))))) (.list .bool))),.st (.pair (.int .i64) (.pair (.int .i64) (.int .i64))),.st (.pair (.int .u8) (.pair (.int .u8) (.pair (.int .u8) (.int .u8))))]) (by kernel_rfl) zLm zBU (s:=Rows.dumpSpoiltSpec) rfl
    (fun ds h=>match ds,h with | [_,_,_],_=>rfl) hval hW
noncomputable def zzx (os:Os):World :=
  let w0:=World.holding Tryz.prog os ⟨#[],#[],[]⟩
  { w0 with heap:=w0.heap.modify ((Tryz.prog.globalNamed "errors.errorType").getD 0) fun
      | .cells _ t frozen => .cells #[.iface 299 (.agg #[typeHandle Tryz.prog 156])] t frozen
      | o=>o }
noncomputable def zdp (os:Os):World:=(zzx os).layVars Tryz.prog (Rows.dumpSpoiltRow.laid.filter fun x=>x.2.handleName?.isNone)
theorem zom {P:Program} {w0:World} {laid:List (String×DataW Unit)} (args:Array Value) (hf:w0.layFits P laid []=true) (hi:w0.layIfaces P laid (w0.layVars P laid)=true) :
    laidMet P laid ((w0.layVars P laid).forCall (fun _ _=>0) ⟨#[],args,[]⟩).memory:=by
  have e1:(laid.filter fun x=>(laid.map (·.1)).contains x.1)=laid:=List.filter_eq_self.2 fun x hx=>List.contains_iff_mem.2 (List.mem_map.2 ⟨x,hx,rfl⟩)
  have e2:(laid.filter fun x => !(laid.map (·.1)).contains x.1)=[]:=List.filter_eq_nil_iff.2 fun x hx=>by rw [List.contains_iff_mem.2 (List.mem_map.2 ⟨x,hx,rfl⟩)];simp
  have h:laidMet P laid (w0.layVars P laid):=laidMet_layVars (w0:=w0) (laid.map (·.1)) [] (by rw [e1]) (by rw [e1];exact hf) (by rw [e1];exact hi) (by rw [e2];exact LaidIn.none)
  exact h.of_heap (by simp [World.memory,World.forCall,Input.heap])
theorem zgA (os:Os) (args:Array Value):laidMetH Tryz.prog Rows.dumpSpoiltRow.laid ((zdp os).forCall (fun _ _=>0) ⟨#[],args,[]⟩).memory :=
  laidMetH_of_parts (zom args (by kernel_rfl) (by kernel_rfl)) (by kernel_rfl)
set_option maxRecDepth 100000 in
theorem znw (os:Os) (started:os.Started) (H:Type) (enc:TypeId×Value→H) :
    ReturnsInHanded {} Tryz.checked os 4 .any (fun w args=>(Rows.dumpSpoiltSpec.pre enc Tryz.prog Tryz.f4 Rows.dumpSpoiltRow.domain false w args∧laidMetH Tryz.prog Rows.dumpSpoiltRow.laid w)∧sizedMet enc Tryz.prog Tryz.f4 (OpenSpec.ofChange Rows.dumpSpoiltSpec) false w args)
      (Rows.dumpSpoiltSpec.post enc Tryz.prog Tryz.f4 false true false false) :=
  returnsInHanded_of_change_and (C:=Tryz.checked) (X:=fun w _=>laidMetH Tryz.prog Rows.dumpSpoiltRow.laid w) (fun _ _ _ hh h=>h.of_heap hh) zwq started (by kernel_rfl) Tryz.func4
    (ChangeSpec.witness_shaped (enc:=enc) (C:=Tryz.checked) (os:=os) (X:=fun w _=>laidMetH Tryz.prog Rows.dumpSpoiltRow.laid w) false (zdp os) #[.agg #[.int .i64 0,.int .i64 0,.int .i64 0,.int .i64 0,.int .i64 0,.int .i64 0,.int .i64 0,.slice none 0 0,.slice none 0 0],.agg #[.int .i64 0,.int .i64 0,.int .i64 0],.agg #[.int .u8 0,.int .u8 0,.int .u8 0,.int .u8 0]] 8 ((World.layVars_os _ _ _).trans rfl) (World.shaped_of_ZipB (by kernel_rfl) (by kernel_rfl)) (by kernel_rfl) (by kernel_rfl) (by kernel_rfl) (zgA os _))
    fun W base args ds gs before hval hW _ _ _ _=>zgX H enc W base args ds gs before hval hW
theorem zmX:Rows.DumpSpoiltSaid :=
  OpenClaim.holds_of_wide 4 Tryz.f4 rfl rfl rfl rfl rfl rfl rfl ⟨rfl,rfl,rfl,rfl,rfl⟩ rfl rfl rfl rfl rfl (by kernel_rfl) Tryz.func4 zrv
    (of_decide_eq_true (by kernel_rfl)) (by unfold Func.isWrapper;first | (rw [if_pos (by decide +kernel)];kernel_rfl) | (rw [if_neg (by decide +kernel)];exact ⟨rfl,rfl⟩))
    (fun os started H enc _=>znw os started H enc)
end Go.Proofs.YthfoooplgceaoaaGreatDoor
