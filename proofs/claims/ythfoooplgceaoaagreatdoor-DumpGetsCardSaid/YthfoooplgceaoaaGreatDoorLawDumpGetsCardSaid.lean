/- The image that any lines say, or what is wrong, is as the chapter says, and what is got, put, is just these lines: DumpGets returns true at every input. No condition but what is laid. The card. -/
import Derived.Test.YthfoooplgceaoaaGreatDoorOwnDumpGetsCardSaid16
import Derived.Test.YthfoooplgceaoaaGreatDoorCards
import Derived.Test.YthfoooplgceaoaaGreatDoorTie
import Derived.SevenTiedAt
set_option linter.unusedVariables false
set_option linter.unusedSimpArgs false
namespace Go.Proofs.YthfoooplgceaoaaGreatDoor
open Go Go.AE Go.Proofs.R9 Go.RowKit
theorem zCF:Rows.dumpGetsRow.wfByText (OpenSpec.ofChange Rows.dumpGetsSpec)=true:=by kernel_rfl
theorem zs9:Tryz.prog.mainIs=some (true,"1190621364763a7eb493434c01d28aa7b2e4a04786bb9072c900a7d41198f335".toList):=by kernel_rfl
theorem zrp:true=Tryz.prog.looks []:=by kernel_rfl
theorem zrW:false=Rows.dumpGetsRow.goesBy Tryz.prog:=by kernel_rfl
theorem zCd : ∀f fn,Tryz.prog.funcNamed "solder/solderlaw43.DumpGets" = some f→Tryz.prog.funcs[f]? = some fn→true=Tryz.prog.looks [] ∧ ∀(j:Nat) t,fn.params[j]? = some t→Tryz.prog.wantsStandIn t=false:=by
  intro f fn hf hfn
  obtain rfl:f=3:=Option.some.inj ((show Tryz.prog.funcNamed "solder/solderlaw43.DumpGets" = some 3 by kernel_rfl).symm.trans hf) |>.symm
  obtain rfl:fn=Tryz.f3:=(Option.some.inj (Tryz.func3.symm.trans hfn)).symm
  exact ⟨zrp,fun j t ht=>by
    have hm:t ∈ Tryz.f3.params.toList:=Array.mem_toList_iff.2 (Array.mem_of_getElem? ht)
    have hall:(Tryz.f3.params.toList.all fun u => !Tryz.prog.wantsStandIn u)=true:=by kernel_rfl
    exact (show Tryz.prog.wantsStandIn t=false by simpa using List.all_eq_true.1 hall t hm)⟩
theorem dumpGetsCard_holds:Rows.DumpGetsCardSaid :=
  Claim7.holds_tied_plain_at .later [] [.data,.handle,.pinned] true (true,"1190621364763a7eb493434c01d28aa7b2e4a04786bb9072c900a7d41198f335") true
    zyI (fun _ h=>by cases h) zCF (fun _ h=>by cases h) dumpGets_row_tie rfl ⟨rfl,rfl⟩ zs9 rfl
    zCd zrW
#print axioms dumpGetsCard_holds
end Go.Proofs.YthfoooplgceaoaaGreatDoor
