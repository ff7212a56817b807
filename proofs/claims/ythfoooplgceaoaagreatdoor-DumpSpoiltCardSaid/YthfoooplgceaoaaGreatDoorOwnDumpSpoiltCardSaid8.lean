/- What the functions that DumpSpoiltCardSaid reaches compute: part 8. -/
import Derived.Test.YthfoooplgceaoaaGreatDoorOwnDumpSpoiltCardSaid7
set_option linter.unusedVariables false
set_option linter.unusedSimpArgs false
namespace Go.Proofs.R9
open Go Go.AE
set_option maxRecDepth 100000
theorem T9r:YB Tryz.tab To9 ⟨114,false,[(0,[8,28,29,30])]⟩ Tryz.f114 T9l T9h (fun v H=>some (v,H))=some (T9v,T9k):=by kernel_rfl
theorem zWh:YB Tryz.tab zTY ⟨78,false,[]⟩ Tryz.f78 zTF zTP (fun v H=>some (v,H))=some (zT2,zTD):=by kernel_rfl
theorem zWt:zdR Tryz.tab zTR ⟨116,false,[(0,[0,21,22,23])]⟩ Tryz.f116 zUL zU0 (fun v H=>some (v,H))=some (zUA,zUr):=by kernel_rfl
end Go.Proofs.R9
