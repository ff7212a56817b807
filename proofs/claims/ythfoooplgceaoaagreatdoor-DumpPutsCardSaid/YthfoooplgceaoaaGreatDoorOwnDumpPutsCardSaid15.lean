/- What the functions that DumpPutsCardSaid reaches compute: part 15. -/
import Derived.Test.YthfoooplgceaoaaGreatDoorOwnDumpPutsCardSaid14
import Derived.Test.YthfoooplgceaoaaGreatDoorRows
import Derived.Test.YthfoooplgceaoaaGreatDoorCards
import Derived.Test.YthfoooplgceaoaaGreatDoorTie
import Derived.SevenTiedAt
import Derived.ProofKit
import Derived.LaidMore
import Derived.LaidHandle
import Derived.LaidLaws
import Derived.Handed
import Derived.Lay
import Derived.OpenShut
import Derived.Stop.Joined
set_option linter.unusedVariables false
set_option linter.unusedSimpArgs false
namespace Go.Proofs.YthfoooplgceaoaaGreatDoor
open Go Go.AE Go.Proofs.R9 Go.RowKit
theorem zNw:ownKnob Tryz.prog.godebug=none:=by kernel_rfl
theorem zKP:laidOutB Tryz.prog=true:=by kernel_rfl
theorem zS3 (x:zCa [.st (.pair (.pair (.int .i64) (.pair (.int .i64) (.pair (.int .i64) (.pair (.int .i64) (.pair (.int .i64) (.pair (.int .i64) (.int .i64))))))) (.pair (.list (.st (.pair (.int .i64) (.pair (.pair (.int .i64) (.int .i64)) (.pair .str (.pair (.pair (.pair (.int .i64) (.int .i64)) .str) (.pair (.pair (.int .i64) (.int .i64)) .str))))))) (.list .bool))),.st (.pair (.pair (.int .i64) (.pair (.int .i64) (.pair (.int .i64) (.pair (.int .i64) (.pair (.int .i64) (.pair (.int .i64) (.int .i64))))))) (.pair (.list (.st (.pair (.int .i64) (.pair (.pair (.int .i64) (.int .i64)) (.pair .str (.pair (.pair (.pair (.int .i64) (.int .i64)) .str) (.pair (.pair (.int .i64) (.int .i64)) .str))))))) (.list .bool)))]) (hw:zG3 _ x) :
    ∃n H',fnE Tryz.tab J2 zd 0 n 5 Tryz.f5.ntmps Tryz.f5.results.toList zJh zLd (zkY _ x) [] (fun v H=>some (v,H))=some (.bool true,H'):=by
  obtain ⟨⟨⟨n,r,b,c,x,s,l⟩,ss,cs⟩,⟨⟨n',r',b',c',x',s',l'⟩,ss',cs'⟩,⟨⟩⟩:=x
  exact ⟨70,[],(z5S (n,r,b,c,x,s,l,ss,cs,n',r',b',c',x',s',l',ss',cs') _).trans ((z3E (n,r,b,c,x,s,l,ss,cs,n',r',b',c',x',s',l',ss',cs') _).trans (by rw [zE2];rfl))⟩
set_option maxRecDepth 100000 in
theorem zrS (H:Type) (enc:TypeId×Value→H) (W:World) (base:Nat) (args:Array Value) (ds gs:List (DataW H)) (before:List MemPlace)
    (hval : ∀(j:Nat) t v,Tryz.f5.params[j]? = some t→args[j]? = some v→Value.okWide Tryz.prog W .any base t v)
    (hW:DataW.Whole enc Tryz.prog Tryz.f5.params.toList Rows.dumpPutsSpec.vars false W args.toList ds gs before) :
    Calls Tryz.prog 5 args W fun e W' => ∃v,e = .returned v∧Rows.dumpPutsSpec.post enc Tryz.prog Tryz.f5 false true false false W args v W' :=
  zLh (hint:=zd) (d:=0) mixed tabOk zh5 zKP Tryz.func5 (zC (by kernel_rfl)) (by kernel_rfl) (tb:=4) (by kernel_rfl) (by kernel_rfl)
    (ys:=[.st (.pair (.pair (.int .i64) (.pair (.int .i64) (.pair (.int .i64) (.pair (.int .i64) (.pair (.int .i64) (.pair (.int .i64) (.int .i64))))))) (.pair (.list (.st (.pair (.int .i64) (.pair (.pair (.int .i64) (.int .i64)) (.pair .str (.pair (.pair (.pair (.int .i64) (.int .i64)) .str) (.pair (.pair (.int .i64) (.int .i64)) .str))))))) (.list .bool))),.st (.pair (.pair (.int .i64) (.pair (.int .i64) (.pair (.int .i64) (.pair (.int .i64) (.pair (.int .i64) (.pair (.int .i64) (.int .i64))))))) (.pair (.list (.st (.pair (.int .i64) (.pair (.pair (.int .i64) (.int .i64)) (.pair .str (.pair (.pair (.pair (.int .i64) (.int .i64)) .str) (.pair (.pair (.int .i64) (.int .i64)) .str))))))) (.list .bool)))]) (by kernel_rfl) z1O zS3 (s:=Rows.dumpPutsSpec) rfl
    (fun ds h=>match ds,h with | [_,_],_=>rfl) hval hW
noncomputable def zS7 (os:Os):World :=
  let w0:=World.holding Tryz.prog os ⟨#[],#[],[]⟩
  { w0 with heap:=w0.heap.modify ((Tryz.prog.globalNamed "errors.errorType").getD 0) fun
      | .cells _ t frozen => .cells #[.iface 299 (.agg #[typeHandle Tryz.prog 156])] t frozen
      | o=>o }
noncomputable def zja (os:Os):World:=(zS7 os).layVars Tryz.prog (Rows.dumpPutsRow.laid.filter fun x=>x.2.handleName?.isNone)
theorem zDI {P:Program} {w0:World} {laid:List (String×DataW Unit)} (args:Array Value) (hf:w0.layFits P laid []=true) (hi:w0.layIfaces P laid (w0.layVars P laid)=true) :
    laidMet P laid ((w0.layVars P laid).forCall (fun _ _=>0) ⟨#[],args,[]⟩).memory:=by
  have e1:(laid.filter fun x=>(laid.map (·.1)).contains x.1)=laid:=List.filter_eq_self.2 fun x hx=>List.contains_iff_mem.2 (List.mem_map.2 ⟨x,hx,rfl⟩)
  have e2:(laid.filter fun x => !(laid.map (·.1)).contains x.1)=[]:=List.filter_eq_nil_iff.2 fun x hx=>by rw [List.contains_iff_mem.2 (List.mem_map.2 ⟨x,hx,rfl⟩)];simp
  have h:laidMet P laid (w0.layVars P laid):=laidMet_layVars (w0:=w0) (laid.map (·.1)) [] (by rw [e1]) (by rw [e1];exact hf) (by rw [e1];exact hi) (by rw [e2];exact LaidIn.none)
  exact h.of_heap (by simp [World.memory,World.forCall,Input.heap])
theorem zqs (os:Os) (args:Array Value):laidMetH Tryz.prog Rows.dumpPutsRow.laid ((zja os).forCall (fun _ _=>0) ⟨#[],args,[]⟩).memory :=
  laidMetH_of_parts (zDI args (by kernel_rfl) (by kernel_rfl)) (by kernel_rfl)
set_option maxRecDepth 100000 in
theorem zxL (os:Os) (started:os.Started) (H:Type) (enc:TypeId×Value→H) :
    ReturnsInHanded {} Tryz.checked os 5 .any (fun w args=>(Rows.dumpPutsSpec.pre enc Tryz.prog Tryz.f5 Rows.dumpPutsRow.domain false w args∧laidMetH Tryz.prog Rows.dumpPutsRow.laid w)∧sizedMet enc Tryz.prog Tryz.f5 (OpenSpec.ofChange Rows.dumpPutsSpec) false w args)
      (Rows.dumpPutsSpec.post enc Tryz.prog Tryz.f5 false true false false) :=
  returnsInHanded_of_change_and (C:=Tryz.checked) (X:=fun w _=>laidMetH Tryz.prog Rows.dumpPutsRow.laid w) (fun _ _ _ hh h=>h.of_heap hh) zNw started (by kernel_rfl) Tryz.func5
    (ChangeSpec.witness_shaped (enc:=enc) (C:=Tryz.checked) (os:=os) (X:=fun w _=>laidMetH Tryz.prog Rows.dumpPutsRow.laid w) false (zja os) #[.agg #[.int .i64 0,.int .i64 0,.int .i64 0,.int .i64 0,.int .i64 0,.int .i64 0,.int .i64 0,.slice none 0 0,.slice none 0 0],.agg #[.int .i64 0,.int .i64 0,.int .i64 0,.int .i64 0,.int .i64 0,.int .i64 0,.int .i64 0,.slice none 0 0,.slice none 0 0]] 8 ((World.layVars_os _ _ _).trans rfl) (World.shaped_of_ZipB (by kernel_rfl) (by kernel_rfl)) (by kernel_rfl) (by kernel_rfl) (by kernel_rfl) (zqs os _))
    fun W base args ds gs before hval hW _ _ _ _=>zrS H enc W base args ds gs before hval hW
theorem zyk:Rows.DumpPutsSaid :=
  OpenClaim.holds_of_wide 5 Tryz.f5 rfl rfl rfl rfl rfl rfl rfl ⟨rfl,rfl,rfl,rfl,rfl⟩ rfl rfl rfl rfl rfl (by kernel_rfl) Tryz.func5 zGw
    (of_decide_eq_true (by kernel_rfl)) (by unfold Func.isWrapper;first | (rw [if_pos (by decide +kernel)];kernel_rfl) | (rw [if_neg (by decide +kernel)];exact ⟨rfl,rfl⟩))
    (fun os started H enc _=>zxL os started H enc)
end Go.Proofs.YthfoooplgceaoaaGreatDoor
