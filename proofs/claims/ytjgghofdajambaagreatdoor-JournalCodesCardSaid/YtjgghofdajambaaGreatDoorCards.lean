/-
  DERIVED. GIVEN WITH THE SEED: THE CARDS: each row of YtjgghofdajambaaGreatDoorRows.lean that lists a variable, with what it lists TIED to the program's text (the seventh form; the later family's looks); each row that meets fmt, with fmt's text TOLD by the authors' own Lean function (tested against real Go, not proved from fmt's source: count such statements apart). THE CARD IS WHAT COUNTS. Prove the row's statement (the work); the ties are given (YtjgghofdajambaaGreatDoorTie.lean); close each card by the builder's one call (the guide's Derived/Test/ToyasCard.lean, 'card_holds'). Laid BY PROGRAM, IN A SANDBOX (cutbox-door.mjs). By AI agents, Wed Nov 11 2026. No macro, syntax, notation, axiom, sorry.
-/
import Derived.Test.YtjgghofdajambaaGreatDoorRows
import GoSem.ClaimSeven
namespace Go.Proofs.YtjgghofdajambaaGreatDoor
namespace Rows

/-- THE TIED CARD OF 'solderlaw14.WalRoom'. -/
def walRoomCard : Claim7 := { stood := { row := walRoomRow, standIns := [], harness := (true, "608efcf2c1d02299f1ffb456ca080cf3b5b88818b12168bb4ec7188d1fcb9ed7"), looks := true }, kinds := [], alts := [], laidByText := true, laidKinds := [.handle], laidTests := true, laidLooks := .later }
def WalRoomCardSaid : Prop := Claim7.holds Tryz.pinned (.plain (OpenSpec.ofChange walRoomSpec)) walRoomCard

/-- THE TIED CARD OF 'solderlaw20.ExtentRows'. -/
def extentRowsCard : Claim7 := { stood := { row := extentRowsRow, standIns := [], harness := (true, "608efcf2c1d02299f1ffb456ca080cf3b5b88818b12168bb4ec7188d1fcb9ed7"), looks := true }, kinds := [], alts := [], laidByText := true, laidKinds := [.handle], laidTests := true, laidLooks := .later }
def ExtentRowsCardSaid : Prop := Claim7.holds Tryz.pinned (.plain (OpenSpec.ofChange extentRowsSpec)) extentRowsCard

/-- THE TIED CARD OF 'solderlaw20.ExtentNone'. -/
def extentNoneCard : Claim7 := { stood := { row := extentNoneRow, standIns := [], harness := (true, "608efcf2c1d02299f1ffb456ca080cf3b5b88818b12168bb4ec7188d1fcb9ed7"), looks := true }, kinds := [], alts := [], laidByText := true, laidKinds := [.handle], laidTests := true, laidLooks := .later }
def ExtentNoneCardSaid : Prop := Claim7.holds Tryz.pinned (.plain (OpenSpec.ofChange extentNoneSpec)) extentNoneCard

/-- THE TIED CARD OF 'solderlaw16.SuperPuts'. -/
def superPutsCard : Claim7 := { stood := { row := superPutsRow, standIns := [], harness := (true, "608efcf2c1d02299f1ffb456ca080cf3b5b88818b12168bb4ec7188d1fcb9ed7"), looks := true }, kinds := [], alts := [], laidByText := true, laidKinds := [.handle], laidTests := true, laidLooks := .later }
def SuperPutsCardSaid : Prop := Claim7.holds Tryz.pinned (.plain (OpenSpec.ofChange superPutsSpec)) superPutsCard

/-- THE TIED CARD OF 'solderlaw16.SuperGets'. -/
def superGetsCard : Claim7 := { stood := { row := superGetsRow, standIns := [], harness := (true, "608efcf2c1d02299f1ffb456ca080cf3b5b88818b12168bb4ec7188d1fcb9ed7"), looks := true }, kinds := [], alts := [], laidByText := true, laidKinds := [.handle], laidTests := true, laidLooks := .later }
def SuperGetsCardSaid : Prop := Claim7.holds Tryz.pinned (.plain (OpenSpec.ofChange superGetsSpec)) superGetsCard

/-- THE TIED CARD OF 'solderlaw19.JournalCodes'. -/
def journalCodesCard : Claim7 := { stood := { row := journalCodesRow, standIns := [], harness := (true, "608efcf2c1d02299f1ffb456ca080cf3b5b88818b12168bb4ec7188d1fcb9ed7"), looks := true }, kinds := [], alts := [], laidByText := true, laidKinds := [.handle], laidTests := true, laidLooks := .later }
def JournalCodesCardSaid : Prop := Claim7.holds Tryz.pinned (.plain (OpenSpec.ofChange journalCodesSpec)) journalCodesCard

/-- THE TIED CARD OF 'solderlaw18.TableNone'. -/
def tableNoneCard : Claim7 := { stood := { row := tableNoneRow, standIns := [], harness := (true, "608efcf2c1d02299f1ffb456ca080cf3b5b88818b12168bb4ec7188d1fcb9ed7"), looks := true }, kinds := [], alts := [], laidByText := true, laidKinds := [.handle], laidTests := true, laidLooks := .later }
def TableNoneCardSaid : Prop := Claim7.holds Tryz.pinned (.plain (OpenSpec.ofChange tableNoneSpec)) tableNoneCard

/-- THE TIED CARD OF 'solderlaw16.SuperBack'. -/
def superBackCard : Claim7 := { stood := { row := superBackRow, standIns := [], harness := (true, "608efcf2c1d02299f1ffb456ca080cf3b5b88818b12168bb4ec7188d1fcb9ed7"), looks := true }, kinds := [], alts := [], laidByText := true, laidKinds := [.handle], laidTests := true, laidLooks := .later }
def SuperBackCardSaid : Prop := Claim7.holds Tryz.pinned (.plain (OpenSpec.ofChange superBackSpec)) superBackCard

/-- THE TIED CARD OF 'solderlaw19.JournalMarks'. -/
def journalMarksCard : Claim7 := { stood := { row := journalMarksRow, standIns := [], harness := (true, "608efcf2c1d02299f1ffb456ca080cf3b5b88818b12168bb4ec7188d1fcb9ed7"), looks := true }, kinds := [], alts := [], laidByText := true, laidKinds := [.handle], laidTests := true, laidLooks := .later }
def JournalMarksCardSaid : Prop := Claim7.holds Tryz.pinned (.plain (OpenSpec.ofChange journalMarksSpec)) journalMarksCard

/-- THE TIED CARD OF 'solderlaw18.TableDoes'. -/
def tableDoesCard : Claim7 := { stood := { row := tableDoesRow, standIns := [], harness := (true, "608efcf2c1d02299f1ffb456ca080cf3b5b88818b12168bb4ec7188d1fcb9ed7"), looks := true }, kinds := [], alts := [], laidByText := true, laidKinds := [.handle], laidTests := true, laidLooks := .later }
def TableDoesCardSaid : Prop := Claim7.holds Tryz.pinned (.plain (OpenSpec.ofChange tableDoesSpec)) tableDoesCard

/-- THE TIED CARD OF 'solderlaw22.SideNone'. -/
def sideNoneCard : Claim7 := { stood := { row := sideNoneRow, standIns := [], harness := (true, "608efcf2c1d02299f1ffb456ca080cf3b5b88818b12168bb4ec7188d1fcb9ed7"), looks := true }, kinds := [], alts := [], laidByText := true, laidKinds := [.data, .handle, .pinned], laidTests := true, laidLooks := .later }
def SideNoneCardSaid : Prop := Claim7.holds Tryz.pinned (.plain (OpenSpec.ofChange sideNoneSpec)) sideNoneCard

/-- THE TIED CARD OF 'solderlaw22.SideOnce'. -/
def sideOnceCard : Claim7 := { stood := { row := sideOnceRow, standIns := [], harness := (true, "608efcf2c1d02299f1ffb456ca080cf3b5b88818b12168bb4ec7188d1fcb9ed7"), looks := true }, kinds := [], alts := [], laidByText := true, laidKinds := [.data, .handle, .pinned], laidTests := true, laidLooks := .later }
def SideOnceCardSaid : Prop := Claim7.holds Tryz.pinned (.plain (OpenSpec.ofChange sideOnceSpec)) sideOnceCard

/-- THE SECOND FORM's CARD OF 'solderlaw14.WalRoom'. -/
def walRoomUptoCard : Claim7 := { stood := { row := walRoomUptoRow, standIns := [], harness := (true, "608efcf2c1d02299f1ffb456ca080cf3b5b88818b12168bb4ec7188d1fcb9ed7"), looks := true }, kinds := [], alts := [], laidByText := true, laidKinds := [.handle], laidTests := true, laidLooks := .later }
def WalRoomUptoCardSaid : Prop := Claim7.holds Tryz.pinned (.plain (OpenSpec.upto walRoomSpec)) walRoomUptoCard

/-- THE SECOND FORM's CARD OF 'solderlaw20.ExtentRows'. -/
def extentRowsUptoCard : Claim7 := { stood := { row := extentRowsUptoRow, standIns := [], harness := (true, "608efcf2c1d02299f1ffb456ca080cf3b5b88818b12168bb4ec7188d1fcb9ed7"), looks := true }, kinds := [], alts := [], laidByText := true, laidKinds := [.handle], laidTests := true, laidLooks := .later }
def ExtentRowsUptoCardSaid : Prop := Claim7.holds Tryz.pinned (.plain (OpenSpec.upto extentRowsSpec)) extentRowsUptoCard

/-- THE SECOND FORM's CARD OF 'solderlaw20.ExtentNone'. -/
def extentNoneUptoCard : Claim7 := { stood := { row := extentNoneUptoRow, standIns := [], harness := (true, "608efcf2c1d02299f1ffb456ca080cf3b5b88818b12168bb4ec7188d1fcb9ed7"), looks := true }, kinds := [], alts := [], laidByText := true, laidKinds := [.handle], laidTests := true, laidLooks := .later }
def ExtentNoneUptoCardSaid : Prop := Claim7.holds Tryz.pinned (.plain (OpenSpec.upto extentNoneSpec)) extentNoneUptoCard

/-- THE SECOND FORM's CARD OF 'solderlaw16.SuperPuts'. -/
def superPutsUptoCard : Claim7 := { stood := { row := superPutsUptoRow, standIns := [], harness := (true, "608efcf2c1d02299f1ffb456ca080cf3b5b88818b12168bb4ec7188d1fcb9ed7"), looks := true }, kinds := [], alts := [], laidByText := true, laidKinds := [.handle], laidTests := true, laidLooks := .later }
def SuperPutsUptoCardSaid : Prop := Claim7.holds Tryz.pinned (.plain (OpenSpec.upto superPutsSpec)) superPutsUptoCard

/-- THE SECOND FORM's CARD OF 'solderlaw16.SuperGets'. -/
def superGetsUptoCard : Claim7 := { stood := { row := superGetsUptoRow, standIns := [], harness := (true, "608efcf2c1d02299f1ffb456ca080cf3b5b88818b12168bb4ec7188d1fcb9ed7"), looks := true }, kinds := [], alts := [], laidByText := true, laidKinds := [.handle], laidTests := true, laidLooks := .later }
def SuperGetsUptoCardSaid : Prop := Claim7.holds Tryz.pinned (.plain (OpenSpec.upto superGetsSpec)) superGetsUptoCard

/-- THE SECOND FORM's CARD OF 'solderlaw19.JournalCodes'. -/
def journalCodesUptoCard : Claim7 := { stood := { row := journalCodesUptoRow, standIns := [], harness := (true, "608efcf2c1d02299f1ffb456ca080cf3b5b88818b12168bb4ec7188d1fcb9ed7"), looks := true }, kinds := [], alts := [], laidByText := true, laidKinds := [.handle], laidTests := true, laidLooks := .later }
def JournalCodesUptoCardSaid : Prop := Claim7.holds Tryz.pinned (.plain (OpenSpec.upto journalCodesSpec)) journalCodesUptoCard

/-- THE SECOND FORM's CARD OF 'solderlaw18.TableNone'. -/
def tableNoneUptoCard : Claim7 := { stood := { row := tableNoneUptoRow, standIns := [], harness := (true, "608efcf2c1d02299f1ffb456ca080cf3b5b88818b12168bb4ec7188d1fcb9ed7"), looks := true }, kinds := [], alts := [], laidByText := true, laidKinds := [.handle], laidTests := true, laidLooks := .later }
def TableNoneUptoCardSaid : Prop := Claim7.holds Tryz.pinned (.plain (OpenSpec.upto tableNoneSpec)) tableNoneUptoCard

/-- THE SECOND FORM's CARD OF 'solderlaw16.SuperBack'. -/
def superBackUptoCard : Claim7 := { stood := { row := superBackUptoRow, standIns := [], harness := (true, "608efcf2c1d02299f1ffb456ca080cf3b5b88818b12168bb4ec7188d1fcb9ed7"), looks := true }, kinds := [], alts := [], laidByText := true, laidKinds := [.handle], laidTests := true, laidLooks := .later }
def SuperBackUptoCardSaid : Prop := Claim7.holds Tryz.pinned (.plain (OpenSpec.upto superBackSpec)) superBackUptoCard

/-- THE SECOND FORM's CARD OF 'solderlaw19.JournalMarks'. -/
def journalMarksUptoCard : Claim7 := { stood := { row := journalMarksUptoRow, standIns := [], harness := (true, "608efcf2c1d02299f1ffb456ca080cf3b5b88818b12168bb4ec7188d1fcb9ed7"), looks := true }, kinds := [], alts := [], laidByText := true, laidKinds := [.handle], laidTests := true, laidLooks := .later }
def JournalMarksUptoCardSaid : Prop := Claim7.holds Tryz.pinned (.plain (OpenSpec.upto journalMarksSpec)) journalMarksUptoCard

/-- THE SECOND FORM's CARD OF 'solderlaw18.TableDoes'. -/
def tableDoesUptoCard : Claim7 := { stood := { row := tableDoesUptoRow, standIns := [], harness := (true, "608efcf2c1d02299f1ffb456ca080cf3b5b88818b12168bb4ec7188d1fcb9ed7"), looks := true }, kinds := [], alts := [], laidByText := true, laidKinds := [.handle], laidTests := true, laidLooks := .later }
def TableDoesUptoCardSaid : Prop := Claim7.holds Tryz.pinned (.plain (OpenSpec.upto tableDoesSpec)) tableDoesUptoCard

/-- THE SECOND FORM's CARD OF 'solderlaw22.SideNone'. -/
def sideNoneUptoCard : Claim7 := { stood := { row := sideNoneUptoRow, standIns := [], harness := (true, "608efcf2c1d02299f1ffb456ca080cf3b5b88818b12168bb4ec7188d1fcb9ed7"), looks := true }, kinds := [], alts := [], laidByText := true, laidKinds := [.data, .handle, .pinned], laidTests := true, laidLooks := .later }
def SideNoneUptoCardSaid : Prop := Claim7.holds Tryz.pinned (.plain (OpenSpec.upto sideNoneSpec)) sideNoneUptoCard

/-- THE SECOND FORM's CARD OF 'solderlaw22.SideOnce'. -/
def sideOnceUptoCard : Claim7 := { stood := { row := sideOnceUptoRow, standIns := [], harness := (true, "608efcf2c1d02299f1ffb456ca080cf3b5b88818b12168bb4ec7188d1fcb9ed7"), looks := true }, kinds := [], alts := [], laidByText := true, laidKinds := [.data, .handle, .pinned], laidTests := true, laidLooks := .later }
def SideOnceUptoCardSaid : Prop := Claim7.holds Tryz.pinned (.plain (OpenSpec.upto sideOnceSpec)) sideOnceUptoCard
end Rows
end Go.Proofs.YtjgghofdajambaaGreatDoor
