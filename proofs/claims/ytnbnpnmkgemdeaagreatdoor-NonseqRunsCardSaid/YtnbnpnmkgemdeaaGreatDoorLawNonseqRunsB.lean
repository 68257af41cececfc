/- The law NonseqRuns returns true for every argument. No condition. -/
import Derived.Test.YtnbnpnmkgemdeaaGreatDoorLawNonseqRunsA
import Derived.Test.YtnbnpnmkgemdeaaGreatDoorLawNonseqRunsD
set_option linter.unusedSimpArgs false
set_option linter.unusedVariables false
namespace Go.Proofs.YtnbnpnmkgemdeaaGreatDoor.nonseqRuns
open Go.ChangeShapes Go.WideShapes Go.ChangeAt Go.RowKit
theorem step (os : Os) (started : os.Started) (H : Type) (enc : TypeId × Value → H) :
    ReturnsInHanded Rows.nonseqRunsRow.assume Tryz.pinned.checked os 8 .any (Rows.nonseqRunsRow.pre enc Tryz.pinned.checked.prog Tryz.f8 (OpenSpec.ofChange Rows.nonseqRunsSpec)) (Rows.nonseqRunsSpec.post enc Tryz.pinned.checked.prog Tryz.f8 Rows.nonseqRunsRow.apart Rows.nonseqRunsRow.fresh Rows.nonseqRunsRow.handsOn Rows.nonseqRunsRow.again) := by
  rw [OpenClaim.pre_eq_preRow]
  exact lifted os started H enc
end Go.Proofs.YtnbnpnmkgemdeaaGreatDoor.nonseqRuns
