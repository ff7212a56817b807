/- What a node may know of itself, as a sector, or what is wrong, is as the chapter says: SuperPuts returns true at every input. No condition but what is laid. The card. -/
import Derived.Test.YtjgghofdajambaaGreatDoorOwnSuperPutsCardSaid5
import Derived.Test.YtjgghofdajambaaGreatDoorCards
import Derived.Test.YtjgghofdajambaaGreatDoorTie
import Derived.SevenTiedAt
set_option linter.unusedVariables false
set_option linter.unusedSimpArgs false
namespace Go.Proofs.YtjgghofdajambaaGreatDoor
open Go Go.AE Go.Proofs.R7 Go.RowKit
theorem superPutsCard_holds : Rows.SuperPutsCardSaid :=
  Claim7.holds_tied_plain_at .later [] [.handle] true (true, "608efcf2c1d02299f1ffb456ca080cf3b5b88818b12168bb4ec7188d1fcb9ed7") true
    superPuts_holds (fun _ h => by cases h) (by kernel_rfl) (fun _ h => by cases h) superPuts_row_tie rfl ⟨rfl, rfl⟩ (by kernel_rfl) rfl
    (fun f fn hf hfn => by
      obtain rfl : f = 6 := Option.some.inj ((show Tryz.prog.funcNamed "solder/solderlaw16.SuperPuts" = some 6 by kernel_rfl).symm.trans hf) |>.symm
      obtain rfl : fn = Tryz.f6 := (Option.some.inj (Tryz.func6.symm.trans hfn)).symm
      exact ⟨by kernel_rfl, fun j t ht => by
        have hm : t ∈ Tryz.f6.params.toList := Array.mem_toList_iff.2 (Array.mem_of_getElem? ht)
        have hall : (Tryz.f6.params.toList.all fun u => !Tryz.prog.wantsStandIn u) = true := by kernel_rfl
        exact (show Tryz.prog.wantsStandIn t = false by simpa using List.all_eq_true.1 hall t hm)⟩)
    (by kernel_rfl)
#print axioms superPutsCard_holds
end Go.Proofs.YtjgghofdajambaaGreatDoor
