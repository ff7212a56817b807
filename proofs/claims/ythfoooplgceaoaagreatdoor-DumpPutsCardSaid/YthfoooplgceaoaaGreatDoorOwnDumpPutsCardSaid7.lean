/- What the functions that DumpPutsCardSaid reaches compute: part 7. -/
import Derived.Test.YthfoooplgceaoaaGreatDoorOwnDumpPutsCardSaid6
set_option linter.unusedVariables false
set_option linter.unusedSimpArgs false
namespace Go.Proofs.R9
open Go Go.AE
set_option maxRecDepth 100000
theorem T3r:zfC Tryz.tab To3 ⟨116,false,[(0,[0,21,22,23])]⟩ Tryz.f116 T3l T3h (fun v H=>some (v,H))=some (T3v,T3k):=by kernel_rfl
theorem T4r:zfC Tryz.tab To4 ⟨116,false,[(0,[0,21,22,23])]⟩ Tryz.f116 T4l T4h (fun v H=>some (v,H))=some (T4v,T4k):=by kernel_rfl
theorem T5r:zfC Tryz.tab To5 ⟨116,false,[(0,[0,21,22,23])]⟩ Tryz.f116 T5l T5h (fun v H=>some (v,H))=some (T5v,T5k):=by kernel_rfl
end Go.Proofs.R9
