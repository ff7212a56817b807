/- What the functions that ExtentRowsCardSaid reaches compute: part 4. -/
import Derived.Test.YtjgghofdajambaaGreatDoorOwnExtentRowsCardSaid3
set_option linter.unusedVariables false
set_option linter.unusedSimpArgs false
namespace Go.Proofs.R7
open Go Go.AE
set_option maxRecDepth 100000
def ilaw20_works : RunI := ⟨34, true, []⟩
theorem runlaw20_works (K : AV → List AE.Obj → Ans) : runQ Tryz.tab lo20 ilaw20_works Tryz.f34 [] [] K = K (.bool true) [] := by kernel_rfl
abbrev Alaw20_works := Unit
abbrev Ylaw20_works := Bool
def fnDlaw20_works (_ : Alaw20_works) : Option Ylaw20_works := some true
def decAlaw20_works (l : List AV) : Option Alaw20_works := match l with
  | [] => some ()
  | _ => none
def Flaw20_works : List AV → (AV → Ans) → Ans := fun l K => bindO (decAlaw20_works l) fun a => bindO (fnDlaw20_works a) fun y => K (.bool y)
theorem Flaw20_works_ok : PureOk Tryz.prog 34 Flaw20_works :=
  konstQP (i := ilaw20_works) mixed tabOk lo20_ok Tryz.func34 (by kernel_rfl) (by decide +kernel) (v := .bool true) rfl (fun l K res h => by
    cases l with
    | nil => exact ⟨rfl, h⟩
    | cons _ _ => cases h) runlaw20_works
end Go.Proofs.R7
