/- What the functions that DumpGetsCardSaid reaches compute: part 12. -/
import Derived.Test.YthfoooplgceaoaaGreatDoorOwnDumpGetsCardSaid11
set_option linter.unusedVariables false
set_option linter.unusedSimpArgs false
namespace Go.Proofs.R9
open Go Go.AE
set_option maxRecDepth 100000
theorem Zfw:YG Tryz.tab ZcA ⟨7,false,[(0,[0,2,4,5,6,8,51,52,53])]⟩ Tryz.f7 Zdg Zdr (fun v H=>some (v,H))=some (ZdR,Zdq):=by kernel_rfl
theorem Zfz:YG Tryz.tab ZcU ⟨10,true,[(0,[2,3,5]),(2,[2,3,6])]⟩ Tryz.f10 Zdw Zcz (fun v H=>some (v,H))=some (Zc1,Zcw):=by kernel_rfl
theorem Zfu:YG Tryz.tab ZdV ⟨6,true,[]⟩ Tryz.f6 [] [] (fun v _=>some (v,[]))=some (.bool true,[]):=by kernel_rfl
end Go.Proofs.R9
