/- What the functions that DumpPutsCardSaid reaches compute: part 8. -/
import Derived.Test.YthfoooplgceaoaaGreatDoorOwnDumpPutsCardSaid7
set_option linter.unusedVariables false
set_option linter.unusedSimpArgs false
namespace Go.Proofs.R9
open Go Go.AE
set_option maxRecDepth 100000
theorem T6r:zfC Tryz.tab To6 ⟨116,false,[(0,[0,21,22,23])]⟩ Tryz.f116 T6l T6h (fun v H=>some (v,H))=some (T6v,T6k):=by kernel_rfl
theorem T7r:YL Tryz.tab To7 ⟨125,false,[]⟩ Tryz.f125 T7l T7h (fun v H=>some (v,H))=some (T7v,T7k):=by kernel_rfl
theorem T8r:YL Tryz.tab To8 ⟨77,false,[(0,[5,8,10,13,79,80])]⟩ Tryz.f77 T8l T8h (fun v H=>some (v,H))=some (T8v,T8k):=by kernel_rfl
end Go.Proofs.R9
