/- What the functions that SideNoneCardSaid reaches compute: part 4. -/
import Derived.Test.YtjgghofdajambaaGreatDoorOwnSideNoneCardSaid3
set_option linter.unusedVariables false
set_option linter.unusedSimpArgs false
namespace Go.Proofs.R7
open Go Go.AE
set_option maxRecDepth 100000
def ilaw22_works : RunI := ⟨79, true, []⟩
theorem runlaw22_works (K : AV → List AE.Obj → Ans) : runQ Tryz.tab lo22 ilaw22_works Tryz.f79 [] [] K = K (.bool true) [] := by kernel_rfl
abbrev Alaw22_works := Unit
abbrev Ylaw22_works := Bool
def fnDlaw22_works (_ : Alaw22_works) : Option Ylaw22_works := some true
def decAlaw22_works (l : List AV) : Option Alaw22_works := match l with
  | [] => some ()
  | _ => none
def Flaw22_works : List AV → (AV → Ans) → Ans := fun l K => bindO (decAlaw22_works l) fun a => bindO (fnDlaw22_works a) fun y => K (.bool y)
theorem Flaw22_works_ok : PureOk Tryz.prog 79 Flaw22_works :=
  konstQP (i := ilaw22_works) mixed tabOk lo22_ok Tryz.func79 (by kernel_rfl) (by decide +kernel) (v := .bool true) rfl (fun l K res h => by
    cases l with
    | nil => exact ⟨rfl, h⟩
    | cons _ _ => cases h) runlaw22_works
end Go.Proofs.R7
