/- What the functions that DumpPutsCardSaid reaches compute: part 10. -/
import Derived.Test.YthfoooplgceaoaaGreatDoorOwnDumpPutsCardSaid9
set_option linter.unusedVariables false
set_option linter.unusedSimpArgs false
namespace Go.Proofs.R9
open Go Go.AE
set_option maxRecDepth 100000
theorem Zc8:YL Tryz.tab Zbq ⟨43,false,[]⟩ Tryz.f43 z9A z97 (fun v H=>some (v,H))=some (ZbC,Zbc):=by kernel_rfl
theorem ZcS:YL Tryz.tab Zas ⟨18,false,[(0,[0,2,4,5,20,21])]⟩ Tryz.f18 Zbg z93 (fun v H=>some (v,H))=some (z94,ZaJ):=by kernel_rfl
theorem Zc5:YL Tryz.tab ZaG ⟨9,false,[]⟩ Tryz.f9 z9B z9U (fun v H=>some (v,H))=some (Zbz,Zah):=by kernel_rfl
end Go.Proofs.R9
