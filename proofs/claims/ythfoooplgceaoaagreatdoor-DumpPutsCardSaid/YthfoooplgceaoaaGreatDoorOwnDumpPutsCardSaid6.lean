/- What the functions that DumpPutsCardSaid reaches compute: part 6. -/
import Derived.Test.YthfoooplgceaoaaGreatDoorOwnDumpPutsCardSaid5
set_option linter.unusedVariables false
set_option linter.unusedSimpArgs false
namespace Go.Proofs.R9
open Go Go.AE
set_option maxRecDepth 100000
theorem T0r:YL Tryz.tab To0 ⟨112,false,[(0,[7,9,26]),(2,[7,9,44,45])]⟩ Tryz.f112 T0l T0h (fun v H=>some (v,H))=some (T0v,T0k):=by kernel_rfl
theorem T1r:YL Tryz.tab To1 ⟨114,false,[(0,[8,28,29,30])]⟩ Tryz.f114 T1l T1h (fun v H=>some (v,H))=some (T1v,T1k):=by kernel_rfl
theorem T2r:zfC Tryz.tab To2 ⟨116,false,[(0,[0,21,22,23])]⟩ Tryz.f116 T2l T2h (fun v H=>some (v,H))=some (T2v,T2k):=by kernel_rfl
end Go.Proofs.R9
