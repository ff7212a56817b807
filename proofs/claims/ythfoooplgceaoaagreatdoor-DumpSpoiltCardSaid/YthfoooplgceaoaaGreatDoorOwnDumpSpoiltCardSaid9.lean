/- What the functions that DumpSpoiltCardSaid reaches compute: part 9. -/
import Derived.Test.YthfoooplgceaoaaGreatDoorOwnDumpSpoiltCardSaid8
set_option linter.unusedVariables false
set_option linter.unusedSimpArgs false
namespace Go.Proofs.R9
open Go Go.AE
set_option maxRecDepth 100000
theorem zWf:YB Tryz.tab zUh ⟨43,false,[]⟩ Tryz.f43 zVe zTT (fun v H=>some (v,H))=some (zUU,zUs):=by kernel_rfl
theorem zWl:YB Tryz.tab zVo ⟨18,false,[(0,[0,2,4,5,20,21])]⟩ Tryz.f18 zUW zU4 (fun v H=>some (v,H))=some (zUk,zUt):=by kernel_rfl
theorem zWp:YB Tryz.tab zUH ⟨9,false,[]⟩ Tryz.f9 zUy zTK (fun v H=>some (v,H))=some (zUQ,zTW):=by kernel_rfl
end Go.Proofs.R9
