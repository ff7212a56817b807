/- What the functions that DumpGetsCardSaid reaches compute: part 14. -/
import Derived.Test.YthfoooplgceaoaaGreatDoorOwnDumpGetsCardSaid13
import Derived.Test.YthfoooplgceaoaaGreatDoorRows
import Derived.Test.YthfoooplgceaoaaGreatDoorChecked
import Derived.JoinedOf
import Derived.KernelRfl
set_option linter.unusedVariables false
set_option linter.unusedSimpArgs false
namespace Go.Proofs.YthfoooplgceaoaaGreatDoor
open Go
theorem zHU:(Rows.dumpGetsRow.wf (OpenSpec.ofChange Rows.dumpGetsSpec))=true:=by kernel_rfl
theorem zGB:(laidOutB Tryz.prog)=true:=by kernel_rfl
theorem zGZ:(mapsRowed Tryz.prog)=true:=by kernel_rfl
theorem zGa:(Tryz.f3.params.all (Tryz.prog.readableRec ·))=true:=by kernel_rfl
theorem zIp:(namedTie Tryz.prog Rows.dumpGetsRow.named Rows.dumpGetsSpec.vars)=true:=by kernel_rfl
theorem zFQ:((Rows.dumpGetsRow.stops == []))=true:=by kernel_rfl
theorem zHA:((Tryz.prog.stops == []))=true:=by kernel_rfl
theorem zFJ:((Rows.dumpGetsRow.knobs == []))=true:=by kernel_rfl
theorem zFd:((Tryz.prog.stopKnobs == []))=true:=by kernel_rfl
theorem zAf:((Rows.dumpGetsRow.inPlace == Tryz.prog.inPlace 3))=true:=by kernel_rfl
theorem zC3:((Rows.dumpGetsRow.unfollowed == Tryz.prog.unfollowed 3))=true:=by kernel_rfl
theorem zCM:((Rows.dumpGetsRow.recurses == Tryz.prog.recurses 3))=true:=by kernel_rfl
theorem zCO:((Rows.dumpGetsRow.named == Tryz.prog.varsNamed 3))=true:=by kernel_rfl
theorem zBv:((Rows.dumpGetsRow.maps == (Tryz.f3.params.toList++Rows.dumpGetsSpec.plain.varTypes Tryz.prog).any (Tryz.prog.mapsRec ·)))=true:=by kernel_rfl
theorem zBM:((Rows.dumpGetsRow.ifaces == (Tryz.f3.params.toList++Rows.dumpGetsSpec.plain.varTypes Tryz.prog).any (Tryz.prog.ifacesRec ·)))=true:=by kernel_rfl
theorem zDT:((Rows.dumpGetsRow.mapsOut == Tryz.prog.mapsAmong Tryz.f3.resultTypes.toList))=true:=by kernel_rfl
theorem zCT:((Rows.dumpGetsRow.loops == (Tryz.f3.params.toList++Rows.dumpGetsSpec.plain.varTypes Tryz.prog).any (Tryz.prog.loopsFrom ·)))=true:=by kernel_rfl
theorem zBj:((Rows.dumpGetsRow.wideKeys == (Tryz.f3.params.toList++Rows.dumpGetsSpec.plain.varTypes Tryz.prog++Tryz.f3.resultTypes.toList).any (Tryz.prog.wideKeysFrom ·)))=true:=by kernel_rfl
theorem zDS:(Rows.dumpGetsSpec.vars.all (Tryz.prog.varReadable ·))=true:=by kernel_rfl
theorem zDe:(Tryz.f3.resultTypes.all (fun t=>Tryz.prog.readableRec t&&decide (t<Tryz.prog.types.size)))=true:=by kernel_rfl
theorem zDB:((Rows.dumpGetsRow.ifacesOut == Tryz.f3.resultTypes.toList.any (Tryz.prog.ifacesRec ·)))=true:=by kernel_rfl
theorem zAH:((Rows.dumpGetsRow.loopsOut == Tryz.f3.resultTypes.toList.any (Tryz.prog.loopsFrom ·)))=true:=by kernel_rfl
theorem zDp:((Rows.dumpGetsRow.plainKeys == Tryz.prog.plainKeys))=true:=by kernel_rfl
theorem zDA:(Rows.dumpGetsRow.shortTexts.isNone)=true:=by kernel_rfl
theorem zDK:(Tryz.prog.stopsHeard)=true:=by kernel_rfl
theorem zC0:(Tryz.prog.mayEnter)=true:=by kernel_rfl
theorem zAK:((Rows.dumpGetsRow.lifted == Tryz.prog.liftsFinal))=true:=by kernel_rfl
theorem zCX:((Tryz.prog.make == some Rows.dumpGetsRow.make))=true:=by kernel_rfl
theorem zyL:((Rows.dumpGetsRow.kinds == (if Rows.dumpGetsRow.domain.isEmpty then [] else Tryz.f3.params.toList.map fun t=>match Tryz.prog.underlying t with | some (.int k)=>some k | _=>none)))=true:=by kernel_rfl
theorem zCR:((Rows.dumpGetsRow.pinned == Rows.dumpGetsRow.pinnedBy))=true:=by kernel_rfl
theorem zAF:((Rows.dumpGetsRow.veiled == (Tryz.f3.params.toList++Rows.dumpGetsSpec.plain.varTypes Tryz.prog++Tryz.f3.resultTypes.toList).any (Tryz.prog.veiledRec ·)))=true:=by kernel_rfl
theorem zBi:(Rows.dumpGetsRow.veiledFits Tryz.prog Tryz.f3.params.toList (Tryz.f3.params.toList++Rows.dumpGetsSpec.plain.varTypes Tryz.prog++Tryz.f3.resultTypes.toList))=true:=by kernel_rfl
theorem zS {a b:Bool} (ha:a=true) (hb:b=true):(a&&b)=true:=by rw [ha,hb];rfl
end Go.Proofs.YthfoooplgceaoaaGreatDoor
