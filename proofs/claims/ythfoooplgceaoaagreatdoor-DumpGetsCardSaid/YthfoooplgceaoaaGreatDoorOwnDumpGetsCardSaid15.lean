/- What the functions that DumpGetsCardSaid reaches compute: part 15. -/
import Derived.Test.YthfoooplgceaoaaGreatDoorOwnDumpGetsCardSaid14
set_option linter.unusedVariables false
set_option linter.unusedSimpArgs false
namespace Go.Proofs.YthfoooplgceaoaaGreatDoor
open Go
set_option maxRecDepth 100000 in
theorem zId:joinedFacts Tryz.prog 3 Tryz.f3 Rows.dumpGetsSpec Rows.dumpGetsRow=true:=by
  unfold joinedFacts
  exact (zS (zS (zS (zS (zS (zS (zS (zS (zS (zS (zS (zS (zS (zS (zS (zS (zS (zS (zS (zS (zS (zS (zS (zS (zS (zS (zS (zS (zS (zS (zS zHU zGB) zGZ) zGa) zIp) zFQ) zHA) zFJ) zFd) zAf) zC3) zCM) zCO) zBv) zBM) zDT) zCT) zBj) zDS) zDe) zDB) zAH) zDp) zDA) zDK) zC0) zAK) zCX) zyL) zCR) zAF) zBi)
end Go.Proofs.YthfoooplgceaoaaGreatDoor
