/- The law TjoinJoins returns true for every argument. No condition. -/
import Derived.Test.YtlcceppoloaecaaGreatDoorLawTjoinJoinsA
import Derived.Test.YtlcceppoloaecaaGreatDoorLawTjoinJoinsD
import Derived.Test.YtlcceppoloaecaaGreatDoorKZA
import Derived.Test.YtlcceppoloaecaaGreatDoorRows
import Derived.Test.YtlcceppoloaecaaGreatDoorTie
import Derived.Test.YtlcceppoloaecaaGreatDoorCards
import Derived.LaidMore
import Derived.Stop.Joined
import Derived.SevenTiedAt
import Derived.Lib.LaidTab
import Derived.Lib.ItoaNum
set_option linter.unusedSimpArgs false
set_option linter.unusedVariables false
namespace Go.Proofs.YtlcceppoloaecaaGreatDoor.tjoinJoins
open Go.ChangeShapes Go.WideShapes Go.ChangeAt Go.RowKit
theorem step (os : Os) (started : os.Started) (H : Type) (enc : TypeId × Value → H) :
    ReturnsInHanded Rows.tjoinJoinsRow.assume Tryz.pinned.checked os 4 .any (Rows.tjoinJoinsRow.pre enc Tryz.pinned.checked.prog Tryz.f4 (OpenSpec.ofChange Rows.tjoinJoinsSpec)) (Rows.tjoinJoinsSpec.post enc Tryz.pinned.checked.prog Tryz.f4 Rows.tjoinJoinsRow.apart Rows.tjoinJoinsRow.fresh Rows.tjoinJoinsRow.handsOn Rows.tjoinJoinsRow.again) := by
  rw [OpenClaim.pre_eq_preRow]
  exact lifted os started H enc
end Go.Proofs.YtlcceppoloaecaaGreatDoor.tjoinJoins
