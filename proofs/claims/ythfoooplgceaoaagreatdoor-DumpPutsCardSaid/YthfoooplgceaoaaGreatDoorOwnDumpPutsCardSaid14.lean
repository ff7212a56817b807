/- What the functions that DumpPutsCardSaid reaches compute: part 14. -/
import Derived.Test.YthfoooplgceaoaaGreatDoorOwnDumpPutsCardSaid13
set_option linter.unusedVariables false
set_option linter.unusedSimpArgs false
namespace Go.Proofs.YthfoooplgceaoaaGreatDoor
open Go
set_option maxRecDepth 100000 in
theorem zGw:joinedFacts Tryz.prog 5 Tryz.f5 Rows.dumpPutsSpec Rows.dumpPutsRow=true:=by
  unfold joinedFacts
  exact (zS (zS (zS (zS (zS (zS (zS (zS (zS (zS (zS (zS (zS (zS (zS (zS (zS (zS (zS (zS (zS (zS (zS (zS (zS (zS (zS (zS (zS (zS (zS zDL zFm) zDO) zFZ) zFI) zER) zEy) zDD) zGH) zBC) zCk) zBv) zxH) zzP) zCE) zCv) zB4) zAr) zzg) zxQ) zAo) zz3) zyt) zCx) zxK) zBi) zxO) zxj) zzl) zAJ) zxi) zBt)
end Go.Proofs.YthfoooplgceaoaaGreatDoor
