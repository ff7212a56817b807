/- What the functions that DumpSpoiltCardSaid reaches compute: part 6. -/
import Derived.Test.YthfoooplgceaoaaGreatDoorOwnDumpSpoiltCardSaid5
set_option linter.unusedVariables false
set_option linter.unusedSimpArgs false
namespace Go.Proofs.R9
open Go Go.AE
set_option maxRecDepth 100000
theorem T3r:zdR Tryz.tab To3 ⟨116,false,[(0,[0,21,22,23])]⟩ Tryz.f116 T3l T3h (fun v H=>some (v,H))=some (T3v,T3k):=by kernel_rfl
theorem T4r:zdR Tryz.tab To4 ⟨116,false,[(0,[0,21,22,23])]⟩ Tryz.f116 T4l T4h (fun v H=>some (v,H))=some (T4v,T4k):=by kernel_rfl
theorem T5r:zdR Tryz.tab To5 ⟨116,false,[(0,[0,21,22,23])]⟩ Tryz.f116 T5l T5h (fun v H=>some (v,H))=some (T5v,T5k):=by kernel_rfl
end Go.Proofs.R9
