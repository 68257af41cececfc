/- The law TjoinHalves returns true for every argument. No condition. -/
import Derived.Test.YtlcceppoloaecaaGreatDoorLawTjoinHalvesA
import Derived.Test.YtlcceppoloaecaaGreatDoorKBW
import Derived.Test.YtlcceppoloaecaaGreatDoorRows
import Derived.Test.YtlcceppoloaecaaGreatDoorTie
import Derived.Test.YtlcceppoloaecaaGreatDoorCards
import Derived.LaidMore
import Derived.Stop.Joined
import Derived.SevenTiedAt
import Derived.Lib.LaidTab
import Derived.Lib.ItoaNum
set_option linter.unusedSimpArgs false
set_option linter.unusedVariables false
namespace Go.Proofs.YtlcceppoloaecaaGreatDoor.tjoinHalves
open Go.ChangeShapes Go.WideShapes Go.ChangeAt Go.RowKit
theorem step (os : Os) (started : os.Started) (H : Type) (enc : TypeId × Value → H) :
    ReturnsInHanded Rows.tjoinHalvesRow.assume Tryz.pinned.checked os 7 .any (Rows.tjoinHalvesRow.pre enc Tryz.pinned.checked.prog Tryz.f7 (OpenSpec.ofChange Rows.tjoinHalvesSpec)) (Rows.tjoinHalvesSpec.post enc Tryz.pinned.checked.prog Tryz.f7 Rows.tjoinHalvesRow.apart Rows.tjoinHalvesRow.fresh Rows.tjoinHalvesRow.handsOn Rows.tjoinHalvesRow.again) := by
  rw [OpenClaim.pre_eq_preRow]
  exact lifted os started H enc
theorem closedF : joinedFacts Tryz.pinned.checked.prog 7 Tryz.f7 Rows.tjoinHalvesSpec Rows.tjoinHalvesRow = true := by kernel_rfl
end Go.Proofs.YtlcceppoloaecaaGreatDoor.tjoinHalves
