/- What the functions that DumpSpoiltCardSaid reaches compute: part 13. -/
import Derived.Test.YthfoooplgceaoaaGreatDoorOwnDumpSpoiltCardSaid12
set_option linter.unusedVariables false
set_option linter.unusedSimpArgs false
namespace Go.Proofs.YthfoooplgceaoaaGreatDoor
open Go
set_option maxRecDepth 100000 in
theorem zrv:joinedFacts Tryz.prog 4 Tryz.f4 Rows.dumpSpoiltSpec Rows.dumpSpoiltRow=true:=by
  unfold joinedFacts
  exact (zK (zK (zK (zK (zK (zK (zK (zK (zK (zK (zK (zK (zK (zK (zK (zK (zK (zK (zK (zK (zK (zK (zK (zK (zK (zK (zK (zK (zK (zK (zK zqh zqA) zpi) zqi) zqe) zpG) zrL) zoE) zoC) zm7) zm5) znD) znc) zmr) zmN) zmt) znp) zno) znM) zmn) znq) zmB) zmz) zmZ) zmq) zmM) zmy) znu) znx) zmp) znE) znf)
end Go.Proofs.YthfoooplgceaoaaGreatDoor
