/- A store that is none keeps nothing: SideNone returns true at every input. No condition but what is laid. The card. -/
import Derived.Test.YtjgghofdajambaaGreatDoorOwnSideNoneCardSaid8
import Derived.Test.YtjgghofdajambaaGreatDoorCards
import Derived.Test.YtjgghofdajambaaGreatDoorTie
import Derived.SevenTiedAt
set_option linter.unusedVariables false
set_option linter.unusedSimpArgs false
namespace Go.Proofs.YtjgghofdajambaaGreatDoor
open Go Go.AE Go.Proofs.R7D Go.Proofs.R7 Go.RowKit
theorem sideNoneCardWf : Rows.sideNoneRow.wfByText (OpenSpec.ofChange Rows.sideNoneSpec) = true := by kernel_rfl
theorem sideNoneCardMain : Tryz.prog.mainIs = some (true, "608efcf2c1d02299f1ffb456ca080cf3b5b88818b12168bb4ec7188d1fcb9ed7".toList) := by kernel_rfl
theorem sideNoneCardLooks : true = Tryz.prog.looks [] := by kernel_rfl
theorem sideNoneCardGoes : false = Rows.sideNoneRow.goesBy Tryz.prog := by kernel_rfl
theorem sideNoneCardIn : ∀ f fn, Tryz.prog.funcNamed "solder/solderlaw22.SideNone" = some f → Tryz.prog.funcs[f]? = some fn → true = Tryz.prog.looks [] ∧ ∀ (j : Nat) t, fn.params[j]? = some t → Tryz.prog.wantsStandIn t = false := by
  intro f fn hf hfn
  obtain rfl : f = 13 := Option.some.inj ((show Tryz.prog.funcNamed "solder/solderlaw22.SideNone" = some 13 by kernel_rfl).symm.trans hf) |>.symm
  obtain rfl : fn = Tryz.f13 := (Option.some.inj (Tryz.func13.symm.trans hfn)).symm
  exact ⟨sideNoneCardLooks, fun j t ht => by
    have hm : t ∈ Tryz.f13.params.toList := Array.mem_toList_iff.2 (Array.mem_of_getElem? ht)
    have hall : (Tryz.f13.params.toList.all fun u => !Tryz.prog.wantsStandIn u) = true := by kernel_rfl
    exact (show Tryz.prog.wantsStandIn t = false by simpa using List.all_eq_true.1 hall t hm)⟩
theorem sideNoneCard_holds : Rows.SideNoneCardSaid :=
  Claim7.holds_tied_plain_at .later [] [.data, .handle, .pinned] true (true, "608efcf2c1d02299f1ffb456ca080cf3b5b88818b12168bb4ec7188d1fcb9ed7") true
    sideNone_holds (fun _ h => by cases h) sideNoneCardWf (fun _ h => by cases h) sideNone_row_tie rfl ⟨rfl, rfl⟩ sideNoneCardMain rfl
    sideNoneCardIn sideNoneCardGoes
#print axioms sideNoneCard_holds
end Go.Proofs.YtjgghofdajambaaGreatDoor
