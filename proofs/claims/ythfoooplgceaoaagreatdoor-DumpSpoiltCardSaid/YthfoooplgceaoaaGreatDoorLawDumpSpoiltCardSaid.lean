/- What is spoilt is no image: of an image's lines, if bytes of one within four in a row are turned, or one is left out, or two that are not the same change places, there is none: DumpSpoilt returns true at every input. No condition but what is laid. The card. -/
import Derived.Test.YthfoooplgceaoaaGreatDoorOwnDumpSpoiltCardSaid14
import Derived.Test.YthfoooplgceaoaaGreatDoorCards
import Derived.Test.YthfoooplgceaoaaGreatDoorTie
import Derived.SevenTiedAt
set_option linter.unusedVariables false
set_option linter.unusedSimpArgs false
namespace Go.Proofs.YthfoooplgceaoaaGreatDoor
open Go Go.AE Go.Proofs.R9 Go.RowKit
theorem zm8:Rows.dumpSpoiltRow.wfByText (OpenSpec.ofChange Rows.dumpSpoiltSpec)=true:=by kernel_rfl
theorem zhf:Tryz.prog.mainIs=some (true,"1190621364763a7eb493434c01d28aa7b2e4a04786bb9072c900a7d41198f335".toList):=by kernel_rfl
theorem zgy:true=Tryz.prog.looks []:=by kernel_rfl
theorem zhH:false=Rows.dumpSpoiltRow.goesBy Tryz.prog:=by kernel_rfl
theorem znR : ∀f fn,Tryz.prog.funcNamed "solder/solderlaw43.DumpSpoilt" = some f→Tryz.prog.funcs[f]? = some fn→true=Tryz.prog.looks [] ∧ ∀(j:Nat) t,fn.params[j]? = some t→Tryz.prog.wantsStandIn t=false:=by
  intro f fn hf hfn
  obtain rfl:f=4:=Option.some.inj ((show Tryz.prog.funcNamed "solder/solderlaw43.DumpSpoilt" = some 4 by kernel_rfl).symm.trans hf) |>.symm
  obtain rfl:fn=Tryz.f4:=(Option.some.inj (Tryz.func4.symm.trans hfn)).symm
  exact ⟨zgy,fun j t ht=>by
    have hm:t ∈ Tryz.f4.params.toList:=Array.mem_toList_iff.2 (Array.mem_of_getElem? ht)
    have hall:(Tryz.f4.params.toList.all fun u => !Tryz.prog.wantsStandIn u)=true:=by kernel_rfl
    exact (show Tryz.prog.wantsStandIn t=false by simpa using List.all_eq_true.1 hall t hm)⟩
theorem dumpSpoiltCard_holds:Rows.DumpSpoiltCardSaid :=
  Claim7.holds_tied_plain_at .later [] [.data,.handle,.pinned] true (true,"1190621364763a7eb493434c01d28aa7b2e4a04786bb9072c900a7d41198f335") true
    zmX (fun _ h=>by cases h) zm8 (fun _ h=>by cases h) dumpSpoilt_row_tie rfl ⟨rfl,rfl⟩ zhf rfl
    znR zhH
#print axioms dumpSpoiltCard_holds
end Go.Proofs.YthfoooplgceaoaaGreatDoor
