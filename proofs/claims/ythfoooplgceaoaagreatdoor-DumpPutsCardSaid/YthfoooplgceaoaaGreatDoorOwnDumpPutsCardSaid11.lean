/- What the functions that DumpPutsCardSaid reaches compute: part 11. -/
import Derived.Test.YthfoooplgceaoaaGreatDoorOwnDumpPutsCardSaid10
set_option linter.unusedVariables false
set_option linter.unusedSimpArgs false
namespace Go.Proofs.R9
open Go Go.AE
set_option maxRecDepth 100000
theorem Zc2:YL Tryz.tab Zak ⟨7,false,[(0,[0,2,4,5,6,8,51,52,53])]⟩ Tryz.f7 z9Q Zbv (fun v H=>some (v,H))=some (ZaQ,z99):=by kernel_rfl
theorem ZcY:YL Tryz.tab Za2 ⟨10,true,[(0,[2,3,5]),(2,[2,3,6])]⟩ Tryz.f10 z9Y Zaf (fun v H=>some (v,H))=some (Zaj,Zal):=by kernel_rfl
theorem ZcT:YL Tryz.tab z90 ⟨6,true,[]⟩ Tryz.f6 [] [] (fun v _=>some (v,[]))=some (.bool true,[]):=by kernel_rfl
end Go.Proofs.R9
