/- What the functions that DumpGetsCardSaid reaches compute: part 10. -/
import Derived.Test.YthfoooplgceaoaaGreatDoorOwnDumpGetsCardSaid9
set_option linter.unusedVariables false
set_option linter.unusedSimpArgs false
namespace Go.Proofs.R9
open Go Go.AE
set_option maxRecDepth 100000
theorem T9r:YG Tryz.tab To9 ⟨114,false,[(0,[8,28,29,30])]⟩ Tryz.f114 T9l T9h (fun v H=>some (v,H))=some (T9v,T9k):=by kernel_rfl
theorem ZfB:YG Tryz.tab Zdf ⟨78,false,[]⟩ Tryz.f78 Zck Zc5 (fun v H=>some (v,H))=some (ZcI,Zcx):=by kernel_rfl
theorem ZfL:zfK Tryz.tab Zc3 ⟨116,false,[(0,[0,21,22,23])]⟩ Tryz.f116 Zcy Zc9 (fun v H=>some (v,H))=some (Zdp,Zdi):=by kernel_rfl
end Go.Proofs.R9
