/-
  DERIVED. GIVEN WITH THE SEED: THE CARDS: each row of YthfoooplgceaoaaGreatDoorRows.lean that lists a variable, with what it lists TIED to the program's text (the seventh form; the later family's looks); each row that meets fmt, with fmt's text TOLD by the authors' own Lean function (tested against real Go, not proved from fmt's source: count such statements apart). THE CARD IS WHAT COUNTS. Prove the row's statement (the work); the ties are given (YthfoooplgceaoaaGreatDoorTie.lean); close each card by the builder's one call (the guide's Derived/Test/ToyasCard.lean, 'card_holds'). Laid BY PROGRAM, IN A SANDBOX (cutbox-door.mjs). By AI agents, Wed Nov 11 2026. No macro, syntax, notation, axiom, sorry.
-/
import Derived.Test.YthfoooplgceaoaaGreatDoorRows
import GoSem.ClaimSeven
namespace Go.Proofs.YthfoooplgceaoaaGreatDoor
namespace Rows

/-- THE TIED CARD OF 'solderlaw43.DumpGets'. -/
def dumpGetsCard : Claim7 := { stood := { row := dumpGetsRow, standIns := [], harness := (true, "1190621364763a7eb493434c01d28aa7b2e4a04786bb9072c900a7d41198f335"), looks := true }, kinds := [], alts := [], laidByText := true, laidKinds := [.data, .handle, .pinned], laidTests := true, laidLooks := .later }
def DumpGetsCardSaid : Prop := Claim7.holds Tryz.pinned (.plain (OpenSpec.ofChange dumpGetsSpec)) dumpGetsCard

/-- THE TIED CARD OF 'solderlaw43.DumpSpoilt'. -/
def dumpSpoiltCard : Claim7 := { stood := { row := dumpSpoiltRow, standIns := [], harness := (true, "1190621364763a7eb493434c01d28aa7b2e4a04786bb9072c900a7d41198f335"), looks := true }, kinds := [], alts := [], laidByText := true, laidKinds := [.data, .handle, .pinned], laidTests := true, laidLooks := .later }
def DumpSpoiltCardSaid : Prop := Claim7.holds Tryz.pinned (.plain (OpenSpec.ofChange dumpSpoiltSpec)) dumpSpoiltCard

/-- THE TIED CARD OF 'solderlaw43.DumpPuts'. -/
def dumpPutsCard : Claim7 := { stood := { row := dumpPutsRow, standIns := [], harness := (true, "1190621364763a7eb493434c01d28aa7b2e4a04786bb9072c900a7d41198f335"), looks := true }, kinds := [], alts := [], laidByText := true, laidKinds := [.data, .handle, .pinned], laidTests := true, laidLooks := .later }
def DumpPutsCardSaid : Prop := Claim7.holds Tryz.pinned (.plain (OpenSpec.ofChange dumpPutsSpec)) dumpPutsCard

/-- THE SECOND FORM's CARD OF 'solderlaw43.DumpGets'. -/
def dumpGetsUptoCard : Claim7 := { stood := { row := dumpGetsUptoRow, standIns := [], harness := (true, "1190621364763a7eb493434c01d28aa7b2e4a04786bb9072c900a7d41198f335"), looks := true }, kinds := [], alts := [], laidByText := true, laidKinds := [.data, .handle, .pinned], laidTests := true, laidLooks := .later }
def DumpGetsUptoCardSaid : Prop := Claim7.holds Tryz.pinned (.plain (OpenSpec.upto dumpGetsSpec)) dumpGetsUptoCard

/-- THE SECOND FORM's CARD OF 'solderlaw43.DumpSpoilt'. -/
def dumpSpoiltUptoCard : Claim7 := { stood := { row := dumpSpoiltUptoRow, standIns := [], harness := (true, "1190621364763a7eb493434c01d28aa7b2e4a04786bb9072c900a7d41198f335"), looks := true }, kinds := [], alts := [], laidByText := true, laidKinds := [.data, .handle, .pinned], laidTests := true, laidLooks := .later }
def DumpSpoiltUptoCardSaid : Prop := Claim7.holds Tryz.pinned (.plain (OpenSpec.upto dumpSpoiltSpec)) dumpSpoiltUptoCard

/-- THE SECOND FORM's CARD OF 'solderlaw43.DumpPuts'. -/
def dumpPutsUptoCard : Claim7 := { stood := { row := dumpPutsUptoRow, standIns := [], harness := (true, "1190621364763a7eb493434c01d28aa7b2e4a04786bb9072c900a7d41198f335"), looks := true }, kinds := [], alts := [], laidByText := true, laidKinds := [.data, .handle, .pinned], laidTests := true, laidLooks := .later }
def DumpPutsUptoCardSaid : Prop := Claim7.holds Tryz.pinned (.plain (OpenSpec.upto dumpPutsSpec)) dumpPutsUptoCard
end Rows
end Go.Proofs.YthfoooplgceaoaaGreatDoor
