/- Any image as lines, whether it may be, and whether two are the same, are as the chapter says, and what is put is got: DumpPuts returns true at every input. No condition but what is laid. The card. -/
import Derived.Test.YthfoooplgceaoaaGreatDoorOwnDumpPutsCardSaid15
import Derived.Test.YthfoooplgceaoaaGreatDoorCards
import Derived.Test.YthfoooplgceaoaaGreatDoorTie
import Derived.SevenTiedAt
set_option linter.unusedVariables false
set_option linter.unusedSimpArgs false
namespace Go.Proofs.YthfoooplgceaoaaGreatDoor
open Go Go.AE Go.Proofs.R9 Go.RowKit
theorem zyT:Rows.dumpPutsRow.wfByText (OpenSpec.ofChange Rows.dumpPutsSpec)=true:=by kernel_rfl
theorem zry:Tryz.prog.mainIs=some (true,"1190621364763a7eb493434c01d28aa7b2e4a04786bb9072c900a7d41198f335".toList):=by kernel_rfl
theorem zqt:true=Tryz.prog.looks []:=by kernel_rfl
theorem zsb:false=Rows.dumpPutsRow.goesBy Tryz.prog:=by kernel_rfl
theorem zBY : ∀f fn,Tryz.prog.funcNamed "solder/solderlaw43.DumpPuts" = some f→Tryz.prog.funcs[f]? = some fn→true=Tryz.prog.looks [] ∧ ∀(j:Nat) t,fn.params[j]? = some t→Tryz.prog.wantsStandIn t=false:=by
  intro f fn hf hfn
  obtain rfl:f=5:=Option.some.inj ((show Tryz.prog.funcNamed "solder/solderlaw43.DumpPuts" = some 5 by kernel_rfl).symm.trans hf) |>.symm
  obtain rfl:fn=Tryz.f5:=(Option.some.inj (Tryz.func5.symm.trans hfn)).symm
  exact ⟨zqt,fun j t ht=>by
    have hm:t ∈ Tryz.f5.params.toList:=Array.mem_toList_iff.2 (Array.mem_of_getElem? ht)
    have hall:(Tryz.f5.params.toList.all fun u => !Tryz.prog.wantsStandIn u)=true:=by kernel_rfl
    exact (show Tryz.prog.wantsStandIn t=false by simpa using List.all_eq_true.1 hall t hm)⟩
theorem dumpPutsCard_holds:Rows.DumpPutsCardSaid :=
  Claim7.holds_tied_plain_at .later [] [.data,.handle,.pinned] true (true,"1190621364763a7eb493434c01d28aa7b2e4a04786bb9072c900a7d41198f335") true
    zyk (fun _ h=>by cases h) zyT (fun _ h=>by cases h) dumpPuts_row_tie rfl ⟨rfl,rfl⟩ zry rfl
    zBY zsb
#print axioms dumpPutsCard_holds
end Go.Proofs.YthfoooplgceaoaaGreatDoor
