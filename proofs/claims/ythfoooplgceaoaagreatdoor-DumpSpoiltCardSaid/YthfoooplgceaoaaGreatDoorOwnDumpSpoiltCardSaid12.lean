/- What the functions that DumpSpoiltCardSaid reaches compute: part 12. -/
import Derived.Test.YthfoooplgceaoaaGreatDoorOwnDumpSpoiltCardSaid11
import Derived.Test.YthfoooplgceaoaaGreatDoorRows
import Derived.Test.YthfoooplgceaoaaGreatDoorChecked
import Derived.JoinedOf
import Derived.KernelRfl
set_option linter.unusedVariables false
set_option linter.unusedSimpArgs false
namespace Go.Proofs.YthfoooplgceaoaaGreatDoor
open Go
theorem zqh:(Rows.dumpSpoiltRow.wf (OpenSpec.ofChange Rows.dumpSpoiltSpec))=true:=by kernel_rfl
theorem zqA:(laidOutB Tryz.prog)=true:=by kernel_rfl
theorem zpi:(mapsRowed Tryz.prog)=true:=by kernel_rfl
theorem zqi:(Tryz.f4.params.all (Tryz.prog.readableRec ·))=true:=by kernel_rfl
theorem zqe:(namedTie Tryz.prog Rows.dumpSpoiltRow.named Rows.dumpSpoiltSpec.vars)=true:=by kernel_rfl
theorem zpG:((Rows.dumpSpoiltRow.stops == []))=true:=by kernel_rfl
theorem zrL:((Tryz.prog.stops == []))=true:=by kernel_rfl
theorem zoE:((Rows.dumpSpoiltRow.knobs == []))=true:=by kernel_rfl
theorem zoC:((Tryz.prog.stopKnobs == []))=true:=by kernel_rfl
theorem zm7:((Rows.dumpSpoiltRow.inPlace == Tryz.prog.inPlace 4))=true:=by kernel_rfl
theorem zm5:((Rows.dumpSpoiltRow.unfollowed == Tryz.prog.unfollowed 4))=true:=by kernel_rfl
theorem znD:((Rows.dumpSpoiltRow.recurses == Tryz.prog.recurses 4))=true:=by kernel_rfl
theorem znc:((Rows.dumpSpoiltRow.named == Tryz.prog.varsNamed 4))=true:=by kernel_rfl
theorem zmr:((Rows.dumpSpoiltRow.maps == (Tryz.f4.params.toList++Rows.dumpSpoiltSpec.plain.varTypes Tryz.prog).any (Tryz.prog.mapsRec ·)))=true:=by kernel_rfl
theorem zmN:((Rows.dumpSpoiltRow.ifaces == (Tryz.f4.params.toList++Rows.dumpSpoiltSpec.plain.varTypes Tryz.prog).any (Tryz.prog.ifacesRec ·)))=true:=by kernel_rfl
theorem zmt:((Rows.dumpSpoiltRow.mapsOut == Tryz.prog.mapsAmong Tryz.f4.resultTypes.toList))=true:=by kernel_rfl
theorem znp:((Rows.dumpSpoiltRow.loops == (Tryz.f4.params.toList++Rows.dumpSpoiltSpec.plain.varTypes Tryz.prog).any (Tryz.prog.loopsFrom ·)))=true:=by kernel_rfl
theorem zno:((Rows.dumpSpoiltRow.wideKeys == (Tryz.f4.params.toList++Rows.dumpSpoiltSpec.plain.varTypes Tryz.prog++Tryz.f4.resultTypes.toList).any (Tryz.prog.wideKeysFrom ·)))=true:=by kernel_rfl
theorem znM:(Rows.dumpSpoiltSpec.vars.all (Tryz.prog.varReadable ·))=true:=by kernel_rfl
theorem zmn:(Tryz.f4.resultTypes.all (fun t=>Tryz.prog.readableRec t&&decide (t<Tryz.prog.types.size)))=true:=by kernel_rfl
theorem znq:((Rows.dumpSpoiltRow.ifacesOut == Tryz.f4.resultTypes.toList.any (Tryz.prog.ifacesRec ·)))=true:=by kernel_rfl
theorem zmB:((Rows.dumpSpoiltRow.loopsOut == Tryz.f4.resultTypes.toList.any (Tryz.prog.loopsFrom ·)))=true:=by kernel_rfl
theorem zmz:((Rows.dumpSpoiltRow.plainKeys == Tryz.prog.plainKeys))=true:=by kernel_rfl
theorem zmZ:(Rows.dumpSpoiltRow.shortTexts.isNone)=true:=by kernel_rfl
theorem zmq:(Tryz.prog.stopsHeard)=true:=by kernel_rfl
theorem zmM:(Tryz.prog.mayEnter)=true:=by kernel_rfl
theorem zmy:((Rows.dumpSpoiltRow.lifted == Tryz.prog.liftsFinal))=true:=by kernel_rfl
theorem znu:((Tryz.prog.make == some Rows.dumpSpoiltRow.make))=true:=by kernel_rfl
theorem znx:((Rows.dumpSpoiltRow.kinds == (if Rows.dumpSpoiltRow.domain.isEmpty then [] else Tryz.f4.params.toList.map fun t=>match Tryz.prog.underlying t with | some (.int k)=>some k | _=>none)))=true:=by kernel_rfl
theorem zmp:((Rows.dumpSpoiltRow.pinned == Rows.dumpSpoiltRow.pinnedBy))=true:=by kernel_rfl
theorem znE:((Rows.dumpSpoiltRow.veiled == (Tryz.f4.params.toList++Rows.dumpSpoiltSpec.plain.varTypes Tryz.prog++Tryz.f4.resultTypes.toList).any (Tryz.prog.veiledRec ·)))=true:=by kernel_rfl
theorem znf:(Rows.dumpSpoiltRow.veiledFits Tryz.prog Tryz.f4.params.toList (Tryz.f4.params.toList++Rows.dumpSpoiltSpec.plain.varTypes Tryz.prog++Tryz.f4.resultTypes.toList))=true:=by kernel_rfl
theorem zK {a b:Bool} (ha:a=true) (hb:b=true):(a&&b)=true:=by rw [ha,hb];rfl
end Go.Proofs.YthfoooplgceaoaaGreatDoor
