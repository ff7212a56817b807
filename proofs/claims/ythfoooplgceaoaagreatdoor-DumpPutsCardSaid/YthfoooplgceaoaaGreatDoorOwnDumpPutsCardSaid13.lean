/- What the functions that DumpPutsCardSaid reaches compute: part 13. -/
import Derived.Test.YthfoooplgceaoaaGreatDoorOwnDumpPutsCardSaid12
import Derived.Test.YthfoooplgceaoaaGreatDoorRows
import Derived.Test.YthfoooplgceaoaaGreatDoorChecked
import Derived.JoinedOf
import Derived.KernelRfl
set_option linter.unusedVariables false
set_option linter.unusedSimpArgs false
namespace Go.Proofs.YthfoooplgceaoaaGreatDoor
open Go
theorem zDL:(Rows.dumpPutsRow.wf (OpenSpec.ofChange Rows.dumpPutsSpec))=true:=by kernel_rfl
theorem zFm:(laidOutB Tryz.prog)=true:=by kernel_rfl
theorem zDO:(mapsRowed Tryz.prog)=true:=by kernel_rfl
theorem zFZ:(Tryz.f5.params.all (Tryz.prog.readableRec ·))=true:=by kernel_rfl
theorem zFI:(namedTie Tryz.prog Rows.dumpPutsRow.named Rows.dumpPutsSpec.vars)=true:=by kernel_rfl
theorem zER:((Rows.dumpPutsRow.stops == []))=true:=by kernel_rfl
theorem zEy:((Tryz.prog.stops == []))=true:=by kernel_rfl
theorem zDD:((Rows.dumpPutsRow.knobs == []))=true:=by kernel_rfl
theorem zGH:((Tryz.prog.stopKnobs == []))=true:=by kernel_rfl
theorem zBC:((Rows.dumpPutsRow.inPlace == Tryz.prog.inPlace 5))=true:=by kernel_rfl
theorem zCk:((Rows.dumpPutsRow.unfollowed == Tryz.prog.unfollowed 5))=true:=by kernel_rfl
theorem zBv:((Rows.dumpPutsRow.recurses == Tryz.prog.recurses 5))=true:=by kernel_rfl
theorem zxH:((Rows.dumpPutsRow.named == Tryz.prog.varsNamed 5))=true:=by kernel_rfl
theorem zzP:((Rows.dumpPutsRow.maps == (Tryz.f5.params.toList++Rows.dumpPutsSpec.plain.varTypes Tryz.prog).any (Tryz.prog.mapsRec ·)))=true:=by kernel_rfl
theorem zCE:((Rows.dumpPutsRow.ifaces == (Tryz.f5.params.toList++Rows.dumpPutsSpec.plain.varTypes Tryz.prog).any (Tryz.prog.ifacesRec ·)))=true:=by kernel_rfl
theorem zCv:((Rows.dumpPutsRow.mapsOut == Tryz.prog.mapsAmong Tryz.f5.resultTypes.toList))=true:=by kernel_rfl
theorem zB4:((Rows.dumpPutsRow.loops == (Tryz.f5.params.toList++Rows.dumpPutsSpec.plain.varTypes Tryz.prog).any (Tryz.prog.loopsFrom ·)))=true:=by kernel_rfl
theorem zAr:((Rows.dumpPutsRow.wideKeys == (Tryz.f5.params.toList++Rows.dumpPutsSpec.plain.varTypes Tryz.prog++Tryz.f5.resultTypes.toList).any (Tryz.prog.wideKeysFrom ·)))=true:=by kernel_rfl
theorem zzg:(Rows.dumpPutsSpec.vars.all (Tryz.prog.varReadable ·))=true:=by kernel_rfl
theorem zxQ:(Tryz.f5.resultTypes.all (fun t=>Tryz.prog.readableRec t&&decide (t<Tryz.prog.types.size)))=true:=by kernel_rfl
theorem zAo:((Rows.dumpPutsRow.ifacesOut == Tryz.f5.resultTypes.toList.any (Tryz.prog.ifacesRec ·)))=true:=by kernel_rfl
theorem zz3:((Rows.dumpPutsRow.loopsOut == Tryz.f5.resultTypes.toList.any (Tryz.prog.loopsFrom ·)))=true:=by kernel_rfl
theorem zyt:((Rows.dumpPutsRow.plainKeys == Tryz.prog.plainKeys))=true:=by kernel_rfl
theorem zCx:(Rows.dumpPutsRow.shortTexts.isNone)=true:=by kernel_rfl
theorem zxK:(Tryz.prog.stopsHeard)=true:=by kernel_rfl
theorem zBi:(Tryz.prog.mayEnter)=true:=by kernel_rfl
theorem zxO:((Rows.dumpPutsRow.lifted == Tryz.prog.liftsFinal))=true:=by kernel_rfl
theorem zxj:((Tryz.prog.make == some Rows.dumpPutsRow.make))=true:=by kernel_rfl
theorem zzl:((Rows.dumpPutsRow.kinds == (if Rows.dumpPutsRow.domain.isEmpty then [] else Tryz.f5.params.toList.map fun t=>match Tryz.prog.underlying t with | some (.int k)=>some k | _=>none)))=true:=by kernel_rfl
theorem zAJ:((Rows.dumpPutsRow.pinned == Rows.dumpPutsRow.pinnedBy))=true:=by kernel_rfl
theorem zxi:((Rows.dumpPutsRow.veiled == (Tryz.f5.params.toList++Rows.dumpPutsSpec.plain.varTypes Tryz.prog++Tryz.f5.resultTypes.toList).any (Tryz.prog.veiledRec ·)))=true:=by kernel_rfl
theorem zBt:(Rows.dumpPutsRow.veiledFits Tryz.prog Tryz.f5.params.toList (Tryz.f5.params.toList++Rows.dumpPutsSpec.plain.varTypes Tryz.prog++Tryz.f5.resultTypes.toList))=true:=by kernel_rfl
theorem zS {a b:Bool} (ha:a=true) (hb:b=true):(a&&b)=true:=by rw [ha,hb];rfl
end Go.Proofs.YthfoooplgceaoaaGreatDoor
