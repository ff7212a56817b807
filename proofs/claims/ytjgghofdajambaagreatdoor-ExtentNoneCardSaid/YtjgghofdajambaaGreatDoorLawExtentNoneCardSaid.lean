/- Over a disk that is none nothing is read or staged: ExtentNone returns true at every input. No condition but what is laid. The card. -/
import Derived.Test.YtjgghofdajambaaGreatDoorOwnExtentNoneCardSaid5
import Derived.Test.YtjgghofdajambaaGreatDoorCards
import Derived.Test.YtjgghofdajambaaGreatDoorTie
import Derived.SevenTiedAt
set_option linter.unusedVariables false
set_option linter.unusedSimpArgs false
namespace Go.Proofs.YtjgghofdajambaaGreatDoor
open Go Go.AE Go.Proofs.R7E Go.Proofs.R7 Go.RowKit
theorem extentNoneCard_holds : Rows.ExtentNoneCardSaid :=
  Claim7.holds_tied_plain_at .later [] [.handle] true (true, "608efcf2c1d02299f1ffb456ca080cf3b5b88818b12168bb4ec7188d1fcb9ed7") true
    extentNone_holds (fun _ h => by cases h) (by kernel_rfl) (fun _ h => by cases h) extentNone_row_tie rfl ⟨rfl, rfl⟩ (by kernel_rfl) rfl
    (fun f fn hf hfn => by
      obtain rfl : f = 5 := Option.some.inj ((show Tryz.prog.funcNamed "solder/solderlaw20.ExtentNone" = some 5 by kernel_rfl).symm.trans hf) |>.symm
      obtain rfl : fn = Tryz.f5 := (Option.some.inj (Tryz.func5.symm.trans hfn)).symm
      exact ⟨by kernel_rfl, fun j t ht => by
        have hm : t ∈ Tryz.f5.params.toList := Array.mem_toList_iff.2 (Array.mem_of_getElem? ht)
        have hall : (Tryz.f5.params.toList.all fun u => !Tryz.prog.wantsStandIn u) = true := by kernel_rfl
        exact (show Tryz.prog.wantsStandIn t = false by simpa using List.all_eq_true.1 hall t hm)⟩)
    (by kernel_rfl)
#print axioms extentNoneCard_holds
end Go.Proofs.YtjgghofdajambaaGreatDoor
