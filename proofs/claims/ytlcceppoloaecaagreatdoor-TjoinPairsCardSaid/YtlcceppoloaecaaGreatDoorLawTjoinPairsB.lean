/- The law TjoinPairs returns true for every argument. No condition. -/
import Derived.Test.YtlcceppoloaecaaGreatDoorLawTjoinPairsA
import Derived.Test.YtlcceppoloaecaaGreatDoorKAA
import Derived.Test.YtlcceppoloaecaaGreatDoorKBR
import Derived.Test.YtlcceppoloaecaaGreatDoorRows
import Derived.Test.YtlcceppoloaecaaGreatDoorTie
import Derived.Test.YtlcceppoloaecaaGreatDoorCards
import Derived.ProofKit
import Derived.LaidMore
import Derived.OpenShut
import Derived.Stop.Joined
import Derived.SevenTiedAt
import Derived.Lib.LaidTab
import Derived.Lib.ItoaNum
set_option linter.unusedSimpArgs false
set_option linter.unusedVariables false
namespace Go.Proofs.YtlcceppoloaecaaGreatDoor.tjoinPairs
open Go.ChangeShapes Go.WideShapes Go.ChangeAt Go.RowKit
theorem step (os : Os) (started : os.Started) (H : Type) (enc : TypeId × Value → H) :
    ReturnsInHanded Rows.tjoinPairsRow.assume Tryz.pinned.checked os 3 .any (Rows.tjoinPairsRow.pre enc Tryz.pinned.checked.prog Tryz.f3 (OpenSpec.ofChange Rows.tjoinPairsSpec)) (Rows.tjoinPairsSpec.post enc Tryz.pinned.checked.prog Tryz.f3 Rows.tjoinPairsRow.apart Rows.tjoinPairsRow.fresh Rows.tjoinPairsRow.handsOn Rows.tjoinPairsRow.again) := by
  rw [OpenClaim.pre_eq_preRow]
  exact lifted os started H enc
theorem closedF : joinedFacts Tryz.pinned.checked.prog 3 Tryz.f3 Rows.tjoinPairsSpec Rows.tjoinPairsRow = true := by kernel_rfl
end Go.Proofs.YtlcceppoloaecaaGreatDoor.tjoinPairs
