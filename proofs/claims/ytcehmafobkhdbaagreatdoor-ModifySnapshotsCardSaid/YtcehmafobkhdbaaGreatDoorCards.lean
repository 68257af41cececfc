/-
  DERIVED. GIVEN WITH THE SEED: THE CARDS: each row of YtcehmafobkhdbaaGreatDoorRows.lean that lists a variable, with what it lists TIED to the program's text (the seventh form; the later family's looks); each row that meets fmt, with fmt's text TOLD by the authors' own Lean function (tested against real Go, not proved from fmt's source: count such statements apart). THE CARD IS WHAT COUNTS. Prove the row's statement (the work); the ties are given (YtcehmafobkhdbaaGreatDoorTie.lean); close each card by the builder's one call (the guide's Derived/Test/ToyasCard.lean, 'card_holds'). Laid BY PROGRAM, IN A SANDBOX (cutbox-door.mjs). By AI agents, Wed Nov 11 2026. No macro, syntax, notation, axiom, sorry.
-/
import Derived.Test.YtcehmafobkhdbaaGreatDoorRows
import GoSem.ClaimSeven
namespace Go.Proofs.YtcehmafobkhdbaaGreatDoor
namespace Rows

/-- THE TIED CARD OF 'bitemporallaw42.ModifyInserts'. -/
def modifyInsertsCard : Claim7 := { stood := { row := modifyInsertsRow, standIns := [], harness := (true, "301d2aeea026213890257609429df288d0b4c0e0ed0b1f8d40a8b26b5e3842c9"), looks := false }, kinds := [], alts := [], laidByText := true, laidKinds := [.data, .data, .data], laidTests := true, laidLooks := .later }
def ModifyInsertsCardSaid : Prop := Claim7.holds Tryz.pinned (.plain (OpenSpec.ofChange modifyInsertsSpec)) modifyInsertsCard

/-- THE TIED CARD OF 'bitemporallaw42.ModifyDeletes'. -/
def modifyDeletesCard : Claim7 := { stood := { row := modifyDeletesRow, standIns := [], harness := (true, "301d2aeea026213890257609429df288d0b4c0e0ed0b1f8d40a8b26b5e3842c9"), looks := false }, kinds := [], alts := [], laidByText := true, laidKinds := [.data, .data, .data], laidTests := true, laidLooks := .later }
def ModifyDeletesCardSaid : Prop := Claim7.holds Tryz.pinned (.plain (OpenSpec.ofChange modifyDeletesSpec)) modifyDeletesCard

/-- THE TIED CARD OF 'bitemporallaw42.ModifyUpdates'. -/
def modifyUpdatesCard : Claim7 := { stood := { row := modifyUpdatesRow, standIns := [], harness := (true, "301d2aeea026213890257609429df288d0b4c0e0ed0b1f8d40a8b26b5e3842c9"), looks := false }, kinds := [], alts := [], laidByText := true, laidKinds := [.data, .data, .data], laidTests := true, laidLooks := .later }
def ModifyUpdatesCardSaid : Prop := Claim7.holds Tryz.pinned (.plain (OpenSpec.ofChange modifyUpdatesSpec)) modifyUpdatesCard

/-- THE TIED CARD OF 'bitemporallaw42.ModifySnapshots'. -/
def modifySnapshotsCard : Claim7 := { stood := { row := modifySnapshotsRow, standIns := [], harness := (true, "301d2aeea026213890257609429df288d0b4c0e0ed0b1f8d40a8b26b5e3842c9"), looks := false }, kinds := [], alts := [], laidByText := true, laidKinds := [.data, .data, .data], laidTests := true, laidLooks := .later }
def ModifySnapshotsCardSaid : Prop := Claim7.holds Tryz.pinned (.plain (OpenSpec.ofChange modifySnapshotsSpec)) modifySnapshotsCard

/-- THE TIED CARD OF 'bitemporallaw42.ModifyParts'. -/
def modifyPartsCard : Claim7 := { stood := { row := modifyPartsRow, standIns := [], harness := (true, "301d2aeea026213890257609429df288d0b4c0e0ed0b1f8d40a8b26b5e3842c9"), looks := false }, kinds := [], alts := [], laidByText := true, laidKinds := [.data, .data, .data], laidTests := true, laidLooks := .later }
def ModifyPartsCardSaid : Prop := Claim7.holds Tryz.pinned (.plain (OpenSpec.ofChange modifyPartsSpec)) modifyPartsCard

/-- THE TIED CARD OF 'bitemporallaw42.ModifyDivided'. -/
def modifyDividedCard : Claim7 := { stood := { row := modifyDividedRow, standIns := [], harness := (true, "301d2aeea026213890257609429df288d0b4c0e0ed0b1f8d40a8b26b5e3842c9"), looks := false }, kinds := [], alts := [], laidByText := true, laidKinds := [.data, .data, .data], laidTests := true, laidLooks := .later }
def ModifyDividedCardSaid : Prop := Claim7.holds Tryz.pinned (.plain (OpenSpec.ofChange modifyDividedSpec)) modifyDividedCard

/-- THE SECOND FORM's CARD OF 'bitemporallaw42.ModifyInserts'. -/
def modifyInsertsUptoCard : Claim7 := { stood := { row := modifyInsertsUptoRow, standIns := [], harness := (true, "301d2aeea026213890257609429df288d0b4c0e0ed0b1f8d40a8b26b5e3842c9"), looks := false }, kinds := [], alts := [], laidByText := true, laidKinds := [.data, .data, .data], laidTests := true, laidLooks := .later }
def ModifyInsertsUptoCardSaid : Prop := Claim7.holds Tryz.pinned (.plain (OpenSpec.upto modifyInsertsSpec)) modifyInsertsUptoCard

/-- THE SECOND FORM's CARD OF 'bitemporallaw42.ModifyDeletes'. -/
def modifyDeletesUptoCard : Claim7 := { stood := { row := modifyDeletesUptoRow, standIns := [], harness := (true, "301d2aeea026213890257609429df288d0b4c0e0ed0b1f8d40a8b26b5e3842c9"), looks := false }, kinds := [], alts := [], laidByText := true, laidKinds := [.data, .data, .data], laidTests := true, laidLooks := .later }
def ModifyDeletesUptoCardSaid : Prop := Claim7.holds Tryz.pinned (.plain (OpenSpec.upto modifyDeletesSpec)) modifyDeletesUptoCard

/-- THE SECOND FORM's CARD OF 'bitemporallaw42.ModifyUpdates'. -/
def modifyUpdatesUptoCard : Claim7 := { stood := { row := modifyUpdatesUptoRow, standIns := [], harness := (true, "301d2aeea026213890257609429df288d0b4c0e0ed0b1f8d40a8b26b5e3842c9"), looks := false }, kinds := [], alts := [], laidByText := true, laidKinds := [.data, .data, .data], laidTests := true, laidLooks := .later }
def ModifyUpdatesUptoCardSaid : Prop := Claim7.holds Tryz.pinned (.plain (OpenSpec.upto modifyUpdatesSpec)) modifyUpdatesUptoCard

/-- THE SECOND FORM's CARD OF 'bitemporallaw42.ModifySnapshots'. -/
def modifySnapshotsUptoCard : Claim7 := { stood := { row := modifySnapshotsUptoRow, standIns := [], harness := (true, "301d2aeea026213890257609429df288d0b4c0e0ed0b1f8d40a8b26b5e3842c9"), looks := false }, kinds := [], alts := [], laidByText := true, laidKinds := [.data, .data, .data], laidTests := true, laidLooks := .later }
def ModifySnapshotsUptoCardSaid : Prop := Claim7.holds Tryz.pinned (.plain (OpenSpec.upto modifySnapshotsSpec)) modifySnapshotsUptoCard

/-- THE SECOND FORM's CARD OF 'bitemporallaw42.ModifyParts'. -/
def modifyPartsUptoCard : Claim7 := { stood := { row := modifyPartsUptoRow, standIns := [], harness := (true, "301d2aeea026213890257609429df288d0b4c0e0ed0b1f8d40a8b26b5e3842c9"), looks := false }, kinds := [], alts := [], laidByText := true, laidKinds := [.data, .data, .data], laidTests := true, laidLooks := .later }
def ModifyPartsUptoCardSaid : Prop := Claim7.holds Tryz.pinned (.plain (OpenSpec.upto modifyPartsSpec)) modifyPartsUptoCard

/-- THE SECOND FORM's CARD OF 'bitemporallaw42.ModifyDivided'. -/
def modifyDividedUptoCard : Claim7 := { stood := { row := modifyDividedUptoRow, standIns := [], harness := (true, "301d2aeea026213890257609429df288d0b4c0e0ed0b1f8d40a8b26b5e3842c9"), looks := false }, kinds := [], alts := [], laidByText := true, laidKinds := [.data, .data, .data], laidTests := true, laidLooks := .later }
def ModifyDividedUptoCardSaid : Prop := Claim7.holds Tryz.pinned (.plain (OpenSpec.upto modifyDividedSpec)) modifyDividedUptoCard
end Rows
end Go.Proofs.YtcehmafobkhdbaaGreatDoor
