/- What the functions that JournalCodesCardSaid reaches compute: part 4. -/
import Derived.Test.YtjgghofdajambaaGreatDoorOwnJournalCodesCardSaid3
set_option linter.unusedVariables false
set_option linter.unusedSimpArgs false
namespace Go.Proofs.R7
open Go Go.AE
set_option maxRecDepth 100000
def ilaw19_works : RunI := ⟨49, true, []⟩
theorem runlaw19_works (K : AV → List AE.Obj → Ans) : runQ Tryz.tab lo19 ilaw19_works Tryz.f49 [] [] K = K (.bool true) [] := by kernel_rfl
abbrev Alaw19_works := Unit
abbrev Ylaw19_works := Bool
def fnDlaw19_works (_ : Alaw19_works) : Option Ylaw19_works := some true
def decAlaw19_works (l : List AV) : Option Alaw19_works := match l with
  | [] => some ()
  | _ => none
def Flaw19_works : List AV → (AV → Ans) → Ans := fun l K => bindO (decAlaw19_works l) fun a => bindO (fnDlaw19_works a) fun y => K (.bool y)
theorem Flaw19_works_ok : PureOk Tryz.prog 49 Flaw19_works :=
  konstQP (i := ilaw19_works) mixed tabOk lo19_ok Tryz.func49 (by kernel_rfl) (by decide +kernel) (v := .bool true) rfl (fun l K res h => by
    cases l with
    | nil => exact ⟨rfl, h⟩
    | cons _ _ => cases h) runlaw19_works
end Go.Proofs.R7
