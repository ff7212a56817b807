/- What the functions that SideNoneCardSaid reaches compute: part 7. -/
import Derived.Test.YtjgghofdajambaaGreatDoorOwnSideNoneCardSaid6
set_option linter.unusedVariables false
set_option linter.unusedSimpArgs false
namespace Go.Proofs.YtjgghofdajambaaGreatDoor
open Go
set_option maxRecDepth 100000 in
theorem sideNoneFacts : joinedFacts Tryz.prog 13 Tryz.f13 Rows.sideNoneSpec Rows.sideNoneRow = true := by
  unfold joinedFacts
  exact (sideNoneBand (sideNoneBand (sideNoneBand (sideNoneBand (sideNoneBand (sideNoneBand (sideNoneBand (sideNoneBand (sideNoneBand (sideNoneBand (sideNoneBand (sideNoneBand (sideNoneBand (sideNoneBand (sideNoneBand (sideNoneBand (sideNoneBand (sideNoneBand (sideNoneBand (sideNoneBand (sideNoneBand (sideNoneBand (sideNoneBand (sideNoneBand (sideNoneBand (sideNoneBand (sideNoneBand (sideNoneBand (sideNoneBand (sideNoneBand (sideNoneBand sideNoneFact1 sideNoneFact2) sideNoneFact3) sideNoneFact4) sideNoneFact5) sideNoneFact6) sideNoneFact7) sideNoneFact8) sideNoneFact9) sideNoneFact10) sideNoneFact11) sideNoneFact12) sideNoneFact13) sideNoneFact14) sideNoneFact15) sideNoneFact16) sideNoneFact17) sideNoneFact18) sideNoneFact19) sideNoneFact20) sideNoneFact21) sideNoneFact22) sideNoneFact23) sideNoneFact24) sideNoneFact25) sideNoneFact26) sideNoneFact27) sideNoneFact28) sideNoneFact29) sideNoneFact30) sideNoneFact31) sideNoneFact32)
end Go.Proofs.YtjgghofdajambaaGreatDoor
