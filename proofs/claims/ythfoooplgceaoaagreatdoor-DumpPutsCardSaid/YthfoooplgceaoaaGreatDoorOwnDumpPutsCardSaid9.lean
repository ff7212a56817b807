/- What the functions that DumpPutsCardSaid reaches compute: part 9. -/
import Derived.Test.YthfoooplgceaoaaGreatDoorOwnDumpPutsCardSaid8
set_option linter.unusedVariables false
set_option linter.unusedSimpArgs false
namespace Go.Proofs.R9
open Go Go.AE
set_option maxRecDepth 100000
theorem T9r:YL Tryz.tab To9 ⟨114,false,[(0,[8,28,29,30])]⟩ Tryz.f114 T9l T9h (fun v H=>some (v,H))=some (T9v,T9k):=by kernel_rfl
theorem Zda:YL Tryz.tab Za9 ⟨78,false,[]⟩ Tryz.f78 Zbs Zbp (fun v H=>some (v,H))=some (Zab,ZaP):=by kernel_rfl
theorem Zc9:zfC Tryz.tab Zba ⟨116,false,[(0,[0,21,22,23])]⟩ Tryz.f116 Zao ZbG (fun v H=>some (v,H))=some (ZbB,Zbh):=by kernel_rfl
end Go.Proofs.R9
