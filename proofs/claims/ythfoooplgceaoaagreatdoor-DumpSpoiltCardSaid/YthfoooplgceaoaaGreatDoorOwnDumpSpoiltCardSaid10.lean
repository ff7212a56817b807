/- What the functions that DumpSpoiltCardSaid reaches compute: part 10. -/
import Derived.Test.YthfoooplgceaoaaGreatDoorOwnDumpSpoiltCardSaid9
set_option linter.unusedVariables false
set_option linter.unusedSimpArgs false
namespace Go.Proofs.R9
open Go Go.AE
set_option maxRecDepth 100000
theorem zWr:YB Tryz.tab zUE ⟨7,false,[(0,[0,2,4,5,6,8,51,52,53])]⟩ Tryz.f7 zTG zUb (fun v H=>some (v,H))=some (zTM,zVn):=by kernel_rfl
theorem zWi:YB Tryz.tab zTz ⟨10,true,[(0,[2,3,5]),(2,[2,3,6])]⟩ Tryz.f10 zUB zUX (fun v H=>some (v,H))=some (zUY,zVc):=by kernel_rfl
theorem zWn:YB Tryz.tab zTO ⟨6,true,[]⟩ Tryz.f6 [] [] (fun v _=>some (v,[]))=some (.bool true,[]):=by kernel_rfl
end Go.Proofs.R9
