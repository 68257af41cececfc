/- The law NonseqMatches returns true for every argument. No condition. -/
import Derived.Test.YtnbnpnmkgemdeaaGreatDoorLawNonseqMatchesA
import Derived.Test.YtnbnpnmkgemdeaaGreatDoorKAA
import Derived.Test.YtnbnpnmkgemdeaaGreatDoorKBD
import Derived.Test.YtnbnpnmkgemdeaaGreatDoorRows
import Derived.Test.YtnbnpnmkgemdeaaGreatDoorTie
import Derived.Test.YtnbnpnmkgemdeaaGreatDoorCards
import Derived.ProofKit
import Derived.LaidMore
import Derived.OpenShut
import Derived.Stop.Joined
import Derived.SevenTiedAt
import Derived.Lib.LaidTab
import Derived.Lib.ItoaNum
set_option linter.unusedSimpArgs false
set_option linter.unusedVariables false
namespace Go.Proofs.YtnbnpnmkgemdeaaGreatDoor.nonseqMatches
open Go.ChangeShapes Go.WideShapes Go.ChangeAt Go.RowKit
theorem step (os : Os) (started : os.Started) (H : Type) (enc : TypeId × Value → H) :
    ReturnsInHanded Rows.nonseqMatchesRow.assume Tryz.pinned.checked os 9 .any (Rows.nonseqMatchesRow.pre enc Tryz.pinned.checked.prog Tryz.f9 (OpenSpec.ofChange Rows.nonseqMatchesSpec)) (Rows.nonseqMatchesSpec.post enc Tryz.pinned.checked.prog Tryz.f9 Rows.nonseqMatchesRow.apart Rows.nonseqMatchesRow.fresh Rows.nonseqMatchesRow.handsOn Rows.nonseqMatchesRow.again) := by
  rw [OpenClaim.pre_eq_preRow]
  exact lifted os started H enc
theorem closedF : joinedFacts Tryz.pinned.checked.prog 9 Tryz.f9 Rows.nonseqMatchesSpec Rows.nonseqMatchesRow = true := by kernel_rfl
end Go.Proofs.YtnbnpnmkgemdeaaGreatDoor.nonseqMatches
