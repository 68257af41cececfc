/-
  DERIVED. GIVEN WITH THE SEED: THE CARDS: each row of YtfccopdbgfdcdaaGreatDoorRows.lean that lists a variable, with what it lists TIED to the program's text (the seventh form; the later family's looks); each row that meets fmt, with fmt's text TOLD by the authors' own Lean function (tested against real Go, not proved from fmt's source: count such statements apart). THE CARD IS WHAT COUNTS. Prove the row's statement (the work); the ties are given (YtfccopdbgfdcdaaGreatDoorTie.lean); close each card by the builder's one call (the guide's Derived/Test/ToyasCard.lean, 'card_holds'). Laid BY PROGRAM, IN A SANDBOX (cutbox-door.mjs). By AI agents, Wed Nov 11 2026. No macro, syntax, notation, axiom, sorry.
-/
import Derived.Test.YtfccopdbgfdcdaaGreatDoorRows
import GoSem.ClaimSeven
namespace Go.Proofs.YtfccopdbgfdcdaaGreatDoor
namespace Rows

/-- THE TIED CARD OF 'bitemporallaw23.ProjectFilters'. -/
def projectFiltersCard : Claim7 := { stood := { row := projectFiltersRow, standIns := [], harness := (true, "138c0b3c08fcf7312f09c09baa272c364a391f6c45ae7fa9bfb9c26574f962c1"), looks := false }, kinds := [], alts := [], laidByText := true, laidKinds := [.data, .data, .data], laidTests := true, laidLooks := .later }
def ProjectFiltersCardSaid : Prop := Claim7.holds Tryz.pinned (.plain (OpenSpec.ofChange projectFiltersSpec)) projectFiltersCard

/-- THE TIED CARD OF 'bitemporallaw23.ProjectProjects'. -/
def projectProjectsCard : Claim7 := { stood := { row := projectProjectsRow, standIns := [], harness := (true, "138c0b3c08fcf7312f09c09baa272c364a391f6c45ae7fa9bfb9c26574f962c1"), looks := false }, kinds := [], alts := [], laidByText := true, laidKinds := [.data, .data, .data], laidTests := true, laidLooks := .later }
def ProjectProjectsCardSaid : Prop := Claim7.holds Tryz.pinned (.plain (OpenSpec.ofChange projectProjectsSpec)) projectProjectsCard

/-- THE TIED CARD OF 'bitemporallaw23.ProjectChooses'. -/
def projectChoosesCard : Claim7 := { stood := { row := projectChoosesRow, standIns := [], harness := (true, "138c0b3c08fcf7312f09c09baa272c364a391f6c45ae7fa9bfb9c26574f962c1"), looks := false }, kinds := [], alts := [], laidByText := true, laidKinds := [.data, .data, .data], laidTests := true, laidLooks := .later }
def ProjectChoosesCardSaid : Prop := Claim7.holds Tryz.pinned (.plain (OpenSpec.ofChange projectChoosesSpec)) projectChoosesCard

/-- THE TIED CARD OF 'bitemporallaw23.ProjectShifts'. -/
def projectShiftsCard : Claim7 := { stood := { row := projectShiftsRow, standIns := [], harness := (true, "138c0b3c08fcf7312f09c09baa272c364a391f6c45ae7fa9bfb9c26574f962c1"), looks := false }, kinds := [], alts := [], laidByText := true, laidKinds := [.data, .data, .data], laidTests := true, laidLooks := .later }
def ProjectShiftsCardSaid : Prop := Claim7.holds Tryz.pinned (.plain (OpenSpec.ofChange projectShiftsSpec)) projectShiftsCard

/-- THE TIED CARD OF 'bitemporallaw23.ProjectSnapshots'. -/
def projectSnapshotsCard : Claim7 := { stood := { row := projectSnapshotsRow, standIns := [], harness := (true, "138c0b3c08fcf7312f09c09baa272c364a391f6c45ae7fa9bfb9c26574f962c1"), looks := false }, kinds := [], alts := [], laidByText := true, laidKinds := [.data, .data, .data], laidTests := true, laidLooks := .later }
def ProjectSnapshotsCardSaid : Prop := Claim7.holds Tryz.pinned (.plain (OpenSpec.ofChange projectSnapshotsSpec)) projectSnapshotsCard

/-- THE TIED CARD OF 'bitemporallaw23.ProjectImages'. -/
def projectImagesCard : Claim7 := { stood := { row := projectImagesRow, standIns := [], harness := (true, "138c0b3c08fcf7312f09c09baa272c364a391f6c45ae7fa9bfb9c26574f962c1"), looks := false }, kinds := [], alts := [], laidByText := true, laidKinds := [.data, .data, .data], laidTests := true, laidLooks := .later }
def ProjectImagesCardSaid : Prop := Claim7.holds Tryz.pinned (.plain (OpenSpec.ofChange projectImagesSpec)) projectImagesCard

/-- THE TIED CARD OF 'bitemporallaw23.ProjectMoves'. -/
def projectMovesCard : Claim7 := { stood := { row := projectMovesRow, standIns := [], harness := (true, "138c0b3c08fcf7312f09c09baa272c364a391f6c45ae7fa9bfb9c26574f962c1"), looks := false }, kinds := [], alts := [], laidByText := true, laidKinds := [.data, .data, .data], laidTests := true, laidLooks := .later }
def ProjectMovesCardSaid : Prop := Claim7.holds Tryz.pinned (.plain (OpenSpec.ofChange projectMovesSpec)) projectMovesCard

/-- THE TIED CARD OF 'bitemporallaw23.ProjectPartition'. -/
def projectPartitionCard : Claim7 := { stood := { row := projectPartitionRow, standIns := [], harness := (true, "138c0b3c08fcf7312f09c09baa272c364a391f6c45ae7fa9bfb9c26574f962c1"), looks := false }, kinds := [], alts := [], laidByText := true, laidKinds := [.data, .data, .data], laidTests := true, laidLooks := .later }
def ProjectPartitionCardSaid : Prop := Claim7.holds Tryz.pinned (.plain (OpenSpec.ofChange projectPartitionSpec)) projectPartitionCard

/-- THE TIED CARD OF 'bitemporallaw23.ProjectSubstitutes'. -/
def projectSubstitutesCard : Claim7 := { stood := { row := projectSubstitutesRow, standIns := [], harness := (true, "138c0b3c08fcf7312f09c09baa272c364a391f6c45ae7fa9bfb9c26574f962c1"), looks := false }, kinds := [], alts := [], laidByText := true, laidKinds := [.data, .data, .data], laidTests := true, laidLooks := .later }
def ProjectSubstitutesCardSaid : Prop := Claim7.holds Tryz.pinned (.plain (OpenSpec.ofChange projectSubstitutesSpec)) projectSubstitutesCard

/-- THE SECOND FORM's CARD OF 'bitemporallaw23.ProjectFilters'. -/
def projectFiltersUptoCard : Claim7 := { stood := { row := projectFiltersUptoRow, standIns := [], harness := (true, "138c0b3c08fcf7312f09c09baa272c364a391f6c45ae7fa9bfb9c26574f962c1"), looks := false }, kinds := [], alts := [], laidByText := true, laidKinds := [.data, .data, .data], laidTests := true, laidLooks := .later }
def ProjectFiltersUptoCardSaid : Prop := Claim7.holds Tryz.pinned (.plain (OpenSpec.upto projectFiltersSpec)) projectFiltersUptoCard

/-- THE SECOND FORM's CARD OF 'bitemporallaw23.ProjectProjects'. -/
def projectProjectsUptoCard : Claim7 := { stood := { row := projectProjectsUptoRow, standIns := [], harness := (true, "138c0b3c08fcf7312f09c09baa272c364a391f6c45ae7fa9bfb9c26574f962c1"), looks := false }, kinds := [], alts := [], laidByText := true, laidKinds := [.data, .data, .data], laidTests := true, laidLooks := .later }
def ProjectProjectsUptoCardSaid : Prop := Claim7.holds Tryz.pinned (.plain (OpenSpec.upto projectProjectsSpec)) projectProjectsUptoCard

/-- THE SECOND FORM's CARD OF 'bitemporallaw23.ProjectChooses'. -/
def projectChoosesUptoCard : Claim7 := { stood := { row := projectChoosesUptoRow, standIns := [], harness := (true, "138c0b3c08fcf7312f09c09baa272c364a391f6c45ae7fa9bfb9c26574f962c1"), looks := false }, kinds := [], alts := [], laidByText := true, laidKinds := [.data, .data, .data], laidTests := true, laidLooks := .later }
def ProjectChoosesUptoCardSaid : Prop := Claim7.holds Tryz.pinned (.plain (OpenSpec.upto projectChoosesSpec)) projectChoosesUptoCard

/-- THE SECOND FORM's CARD OF 'bitemporallaw23.ProjectShifts'. -/
def projectShiftsUptoCard : Claim7 := { stood := { row := projectShiftsUptoRow, standIns := [], harness := (true, "138c0b3c08fcf7312f09c09baa272c364a391f6c45ae7fa9bfb9c26574f962c1"), looks := false }, kinds := [], alts := [], laidByText := true, laidKinds := [.data, .data, .data], laidTests := true, laidLooks := .later }
def ProjectShiftsUptoCardSaid : Prop := Claim7.holds Tryz.pinned (.plain (OpenSpec.upto projectShiftsSpec)) projectShiftsUptoCard

/-- THE SECOND FORM's CARD OF 'bitemporallaw23.ProjectSnapshots'. -/
def projectSnapshotsUptoCard : Claim7 := { stood := { row := projectSnapshotsUptoRow, standIns := [], harness := (true, "138c0b3c08fcf7312f09c09baa272c364a391f6c45ae7fa9bfb9c26574f962c1"), looks := false }, kinds := [], alts := [], laidByText := true, laidKinds := [.data, .data, .data], laidTests := true, laidLooks := .later }
def ProjectSnapshotsUptoCardSaid : Prop := Claim7.holds Tryz.pinned (.plain (OpenSpec.upto projectSnapshotsSpec)) projectSnapshotsUptoCard

/-- THE SECOND FORM's CARD OF 'bitemporallaw23.ProjectImages'. -/
def projectImagesUptoCard : Claim7 := { stood := { row := projectImagesUptoRow, standIns := [], harness := (true, "138c0b3c08fcf7312f09c09baa272c364a391f6c45ae7fa9bfb9c26574f962c1"), looks := false }, kinds := [], alts := [], laidByText := true, laidKinds := [.data, .data, .data], laidTests := true, laidLooks := .later }
def ProjectImagesUptoCardSaid : Prop := Claim7.holds Tryz.pinned (.plain (OpenSpec.upto projectImagesSpec)) projectImagesUptoCard

/-- THE SECOND FORM's CARD OF 'bitemporallaw23.ProjectMoves'. -/
def projectMovesUptoCard : Claim7 := { stood := { row := projectMovesUptoRow, standIns := [], harness := (true, "138c0b3c08fcf7312f09c09baa272c364a391f6c45ae7fa9bfb9c26574f962c1"), looks := false }, kinds := [], alts := [], laidByText := true, laidKinds := [.data, .data, .data], laidTests := true, laidLooks := .later }
def ProjectMovesUptoCardSaid : Prop := Claim7.holds Tryz.pinned (.plain (OpenSpec.upto projectMovesSpec)) projectMovesUptoCard

/-- THE SECOND FORM's CARD OF 'bitemporallaw23.ProjectPartition'. -/
def projectPartitionUptoCard : Claim7 := { stood := { row := projectPartitionUptoRow, standIns := [], harness := (true, "138c0b3c08fcf7312f09c09baa272c364a391f6c45ae7fa9bfb9c26574f962c1"), looks := false }, kinds := [], alts := [], laidByText := true, laidKinds := [.data, .data, .data], laidTests := true, laidLooks := .later }
def ProjectPartitionUptoCardSaid : Prop := Claim7.holds Tryz.pinned (.plain (OpenSpec.upto projectPartitionSpec)) projectPartitionUptoCard

/-- THE SECOND FORM's CARD OF 'bitemporallaw23.ProjectSubstitutes'. -/
def projectSubstitutesUptoCard : Claim7 := { stood := { row := projectSubstitutesUptoRow, standIns := [], harness := (true, "138c0b3c08fcf7312f09c09baa272c364a391f6c45ae7fa9bfb9c26574f962c1"), looks := false }, kinds := [], alts := [], laidByText := true, laidKinds := [.data, .data, .data], laidTests := true, laidLooks := .later }
def ProjectSubstitutesUptoCardSaid : Prop := Claim7.holds Tryz.pinned (.plain (OpenSpec.upto projectSubstitutesSpec)) projectSubstitutesUptoCard
end Rows
end Go.Proofs.YtfccopdbgfdcdaaGreatDoor
