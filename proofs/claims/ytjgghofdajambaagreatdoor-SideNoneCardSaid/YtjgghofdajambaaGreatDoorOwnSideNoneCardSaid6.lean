/- What the functions that SideNoneCardSaid reaches compute: part 6. -/
import Derived.Test.YtjgghofdajambaaGreatDoorOwnSideNoneCardSaid5
import Derived.Test.YtjgghofdajambaaGreatDoorRows
import Derived.Test.YtjgghofdajambaaGreatDoorChecked
import Derived.JoinedOf
import Derived.KernelRfl
set_option linter.unusedVariables false
set_option linter.unusedSimpArgs false
namespace Go.Proofs.YtjgghofdajambaaGreatDoor
open Go
theorem sideNoneFact1 : (Rows.sideNoneRow.wf (OpenSpec.ofChange Rows.sideNoneSpec)) = true := by kernel_rfl
theorem sideNoneFact2 : (laidOutB Tryz.prog) = true := by kernel_rfl
theorem sideNoneFact3 : (mapsRowed Tryz.prog) = true := by kernel_rfl
theorem sideNoneFact4 : (Tryz.f13.params.all (Tryz.prog.readableRec ·)) = true := by kernel_rfl
theorem sideNoneFact5 : (namedTie Tryz.prog Rows.sideNoneRow.named Rows.sideNoneSpec.vars) = true := by kernel_rfl
theorem sideNoneFact6 : ((Rows.sideNoneRow.stops == [])) = true := by kernel_rfl
theorem sideNoneFact7 : ((Tryz.prog.stops == [])) = true := by kernel_rfl
theorem sideNoneFact8 : ((Rows.sideNoneRow.knobs == [])) = true := by kernel_rfl
theorem sideNoneFact9 : ((Tryz.prog.stopKnobs == [])) = true := by kernel_rfl
theorem sideNoneFact10 : ((Rows.sideNoneRow.inPlace == Tryz.prog.inPlace 13)) = true := by kernel_rfl
theorem sideNoneFact11 : ((Rows.sideNoneRow.unfollowed == Tryz.prog.unfollowed 13)) = true := by kernel_rfl
theorem sideNoneFact12 : ((Rows.sideNoneRow.recurses == Tryz.prog.recurses 13)) = true := by kernel_rfl
theorem sideNoneFact13 : ((Rows.sideNoneRow.named == Tryz.prog.varsNamed 13)) = true := by kernel_rfl
theorem sideNoneFact14 : ((Rows.sideNoneRow.maps == (Tryz.f13.params.toList ++ Rows.sideNoneSpec.plain.varTypes Tryz.prog).any (Tryz.prog.mapsRec ·))) = true := by kernel_rfl
theorem sideNoneFact15 : ((Rows.sideNoneRow.ifaces == (Tryz.f13.params.toList ++ Rows.sideNoneSpec.plain.varTypes Tryz.prog).any (Tryz.prog.ifacesRec ·))) = true := by kernel_rfl
theorem sideNoneFact16 : ((Rows.sideNoneRow.mapsOut == Tryz.prog.mapsAmong Tryz.f13.resultTypes.toList)) = true := by kernel_rfl
theorem sideNoneFact17 : ((Rows.sideNoneRow.loops == (Tryz.f13.params.toList ++ Rows.sideNoneSpec.plain.varTypes Tryz.prog).any (Tryz.prog.loopsFrom ·))) = true := by kernel_rfl
theorem sideNoneFact18 : ((Rows.sideNoneRow.wideKeys == (Tryz.f13.params.toList ++ Rows.sideNoneSpec.plain.varTypes Tryz.prog ++ Tryz.f13.resultTypes.toList).any (Tryz.prog.wideKeysFrom ·))) = true := by kernel_rfl
theorem sideNoneFact19 : (Rows.sideNoneSpec.vars.all (Tryz.prog.varReadable ·)) = true := by kernel_rfl
theorem sideNoneFact20 : (Tryz.f13.resultTypes.all (fun t => Tryz.prog.readableRec t && decide (t < Tryz.prog.types.size))) = true := by kernel_rfl
theorem sideNoneFact21 : ((Rows.sideNoneRow.ifacesOut == Tryz.f13.resultTypes.toList.any (Tryz.prog.ifacesRec ·))) = true := by kernel_rfl
theorem sideNoneFact22 : ((Rows.sideNoneRow.loopsOut == Tryz.f13.resultTypes.toList.any (Tryz.prog.loopsFrom ·))) = true := by kernel_rfl
theorem sideNoneFact23 : ((Rows.sideNoneRow.plainKeys == Tryz.prog.plainKeys)) = true := by kernel_rfl
theorem sideNoneFact24 : (Rows.sideNoneRow.shortTexts.isNone) = true := by kernel_rfl
theorem sideNoneFact25 : (Tryz.prog.stopsHeard) = true := by kernel_rfl
theorem sideNoneFact26 : (Tryz.prog.mayEnter) = true := by kernel_rfl
theorem sideNoneFact27 : ((Rows.sideNoneRow.lifted == Tryz.prog.liftsFinal)) = true := by kernel_rfl
theorem sideNoneFact28 : ((Tryz.prog.make == some Rows.sideNoneRow.make)) = true := by kernel_rfl
theorem sideNoneFact29 : ((Rows.sideNoneRow.kinds == (if Rows.sideNoneRow.domain.isEmpty then [] else Tryz.f13.params.toList.map fun t => match Tryz.prog.underlying t with | some (.int k) => some k | _ => none))) = true := by kernel_rfl
theorem sideNoneFact30 : ((Rows.sideNoneRow.pinned == Rows.sideNoneRow.pinnedBy)) = true := by kernel_rfl
theorem sideNoneFact31 : ((Rows.sideNoneRow.veiled == (Tryz.f13.params.toList ++ Rows.sideNoneSpec.plain.varTypes Tryz.prog ++ Tryz.f13.resultTypes.toList).any (Tryz.prog.veiledRec ·))) = true := by kernel_rfl
theorem sideNoneFact32 : (Rows.sideNoneRow.veiledFits Tryz.prog Tryz.f13.params.toList (Tryz.f13.params.toList ++ Rows.sideNoneSpec.plain.varTypes Tryz.prog ++ Tryz.f13.resultTypes.toList)) = true := by kernel_rfl
theorem sideNoneBand {a b : Bool} (ha : a = true) (hb : b = true) : (a && b) = true := by rw [ha, hb]; rfl
end Go.Proofs.YtjgghofdajambaaGreatDoor
