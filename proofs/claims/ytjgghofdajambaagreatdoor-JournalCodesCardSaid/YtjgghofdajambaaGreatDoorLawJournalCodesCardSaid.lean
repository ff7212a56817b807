/- A journal is a sector, by the document: JournalCodes returns true at every input. No condition but what is laid. The card. -/
import Derived.Test.YtjgghofdajambaaGreatDoorOwnJournalCodesCardSaid7
import Derived.Test.YtjgghofdajambaaGreatDoorCards
import Derived.Test.YtjgghofdajambaaGreatDoorTie
import Derived.SevenTiedAt
set_option linter.unusedVariables false
set_option linter.unusedSimpArgs false
namespace Go.Proofs.YtjgghofdajambaaGreatDoor
open Go Go.AE Go.Proofs.R7J Go.Proofs.R7 Go.RowKit
theorem journalCodesCard_holds : Rows.JournalCodesCardSaid :=
  Claim7.holds_tied_plain_at .later [] [.handle] true (true, "608efcf2c1d02299f1ffb456ca080cf3b5b88818b12168bb4ec7188d1fcb9ed7") true
    journalCodes_holds (fun _ h => by cases h) (by kernel_rfl) (fun _ h => by cases h) journalCodes_row_tie rfl ⟨rfl, rfl⟩ (by kernel_rfl) rfl
    (fun f fn hf hfn => by
      obtain rfl : f = 8 := Option.some.inj ((show Tryz.prog.funcNamed "solder/solderlaw19.JournalCodes" = some 8 by kernel_rfl).symm.trans hf) |>.symm
      obtain rfl : fn = Tryz.f8 := (Option.some.inj (Tryz.func8.symm.trans hfn)).symm
      exact ⟨by kernel_rfl, fun j t ht => by
        have hm : t ∈ Tryz.f8.params.toList := Array.mem_toList_iff.2 (Array.mem_of_getElem? ht)
        have hall : (Tryz.f8.params.toList.all fun u => !Tryz.prog.wantsStandIn u) = true := by kernel_rfl
        exact (show Tryz.prog.wantsStandIn t = false by simpa using List.all_eq_true.1 hall t hm)⟩)
    (by kernel_rfl)
#print axioms journalCodesCard_holds
end Go.Proofs.YtjgghofdajambaaGreatDoor
