/-
  DERIVED. GIVEN WITH THE SEED: THE CARDS: each row of YtbhnbhhlmfdepaaDoorRows.lean that lists a variable, with what it lists TIED to the program's text (the seventh form; the later family's looks); each row that meets fmt, with fmt's text TOLD by the authors' own Lean function (tested against real Go, not proved from fmt's source: count such statements apart). THE CARD IS WHAT COUNTS. Prove the row's statement (the work); the ties are given (YtbhnbhhlmfdepaaDoorTie.lean); close each card by the builder's one call (the guide's Derived/Test/ToyasCard.lean, 'card_holds'). Laid BY PROGRAM, IN A SANDBOX (cutbox-door.mjs). By AI agents, Wed Nov 11 2026. No macro, syntax, notation, axiom, sorry.
-/
import Derived.Test.YtbhnbhhlmfdepaaDoorRows
import GoSem.ClaimSeven
namespace Go.Proofs.YtbhnbhhlmfdepaaDoor
namespace Rows

/-- THE TIED CARD OF 'solderlaw21.SlotPuts'. -/
def slotPutsCard : Claim7 := { stood := { row := slotPutsRow, standIns := [], harness := (true, "32ece68ce002c08a4214cab1deb9d587ca4f48670bb2681e7caed0fe8903e905"), looks := false }, kinds := [], alts := [], laidByText := true, laidKinds := [.data, .pinned], laidTests := true, laidLooks := .later }
def SlotPutsCardSaid : Prop := Claim7.holds Tryd.pinned (.plain (OpenSpec.ofChange slotPutsSpec)) slotPutsCard

/-- THE TIED CARD OF 'solderlaw21.SlotGets'. -/
def slotGetsCard : Claim7 := { stood := { row := slotGetsRow, standIns := [], harness := (true, "32ece68ce002c08a4214cab1deb9d587ca4f48670bb2681e7caed0fe8903e905"), looks := false }, kinds := [], alts := [], laidByText := true, laidKinds := [.data, .pinned], laidTests := true, laidLooks := .later }
def SlotGetsCardSaid : Prop := Claim7.holds Tryd.pinned (.plain (OpenSpec.ofChange slotGetsSpec)) slotGetsCard

/-- THE TIED CARD OF 'solderlaw21.SlotBack'. -/
def slotBackCard : Claim7 := { stood := { row := slotBackRow, standIns := [], harness := (true, "32ece68ce002c08a4214cab1deb9d587ca4f48670bb2681e7caed0fe8903e905"), looks := false }, kinds := [], alts := [], laidByText := true, laidKinds := [.data, .pinned], laidTests := true, laidLooks := .later }
def SlotBackCardSaid : Prop := Claim7.holds Tryd.pinned (.plain (OpenSpec.ofChange slotBackSpec)) slotBackCard

/-- THE SECOND FORM's CARD OF 'solderlaw21.SlotPuts'. -/
def slotPutsUptoCard : Claim7 := { stood := { row := slotPutsUptoRow, standIns := [], harness := (true, "32ece68ce002c08a4214cab1deb9d587ca4f48670bb2681e7caed0fe8903e905"), looks := false }, kinds := [], alts := [], laidByText := true, laidKinds := [.data, .pinned], laidTests := true, laidLooks := .later }
def SlotPutsUptoCardSaid : Prop := Claim7.holds Tryd.pinned (.plain (OpenSpec.upto slotPutsSpec)) slotPutsUptoCard

/-- THE SECOND FORM's CARD OF 'solderlaw21.SlotGets'. -/
def slotGetsUptoCard : Claim7 := { stood := { row := slotGetsUptoRow, standIns := [], harness := (true, "32ece68ce002c08a4214cab1deb9d587ca4f48670bb2681e7caed0fe8903e905"), looks := false }, kinds := [], alts := [], laidByText := true, laidKinds := [.data, .pinned], laidTests := true, laidLooks := .later }
def SlotGetsUptoCardSaid : Prop := Claim7.holds Tryd.pinned (.plain (OpenSpec.upto slotGetsSpec)) slotGetsUptoCard

/-- THE SECOND FORM's CARD OF 'solderlaw21.SlotBack'. -/
def slotBackUptoCard : Claim7 := { stood := { row := slotBackUptoRow, standIns := [], harness := (true, "32ece68ce002c08a4214cab1deb9d587ca4f48670bb2681e7caed0fe8903e905"), looks := false }, kinds := [], alts := [], laidByText := true, laidKinds := [.data, .pinned], laidTests := true, laidLooks := .later }
def SlotBackUptoCardSaid : Prop := Claim7.holds Tryd.pinned (.plain (OpenSpec.upto slotBackSpec)) slotBackUptoCard
end Rows
end Go.Proofs.YtbhnbhhlmfdepaaDoor
