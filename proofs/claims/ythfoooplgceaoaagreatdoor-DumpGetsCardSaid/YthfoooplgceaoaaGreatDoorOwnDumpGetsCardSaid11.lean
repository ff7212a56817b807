/- What the functions that DumpGetsCardSaid reaches compute: part 11. -/
import Derived.Test.YthfoooplgceaoaaGreatDoorOwnDumpGetsCardSaid10
set_option linter.unusedVariables false
set_option linter.unusedSimpArgs false
namespace Go.Proofs.R9
open Go Go.AE
set_option maxRecDepth 100000
theorem Zfq:YG Tryz.tab Zd7 ⟨43,false,[]⟩ Tryz.f43 ZcY Zdl (fun v H=>some (v,H))=some (ZcJ,Zd8):=by kernel_rfl
theorem ZfG:YG Tryz.tab ZcW ⟨18,false,[(0,[0,2,4,5,20,21])]⟩ Tryz.f18 Zct Zb2 (fun v H=>some (v,H))=some (ZcF,ZcC):=by kernel_rfl
theorem ZfE:YG Tryz.tab Zds ⟨9,false,[]⟩ Tryz.f9 Zce Zcn (fun v H=>some (v,H))=some (Zc8,ZdK):=by kernel_rfl
end Go.Proofs.R9
