/- The law TjoinSnapshots returns true for every argument. No condition. -/
import Derived.Test.YtlcceppoloaecaaGreatDoorLawTjoinSnapshotsA
import Derived.Test.YtlcceppoloaecaaGreatDoorLawTjoinSnapshotsD
import Derived.Test.YtlcceppoloaecaaGreatDoorKXA
import Derived.Test.YtlcceppoloaecaaGreatDoorRows
import Derived.Test.YtlcceppoloaecaaGreatDoorTie
import Derived.Test.YtlcceppoloaecaaGreatDoorCards
import Derived.LaidMore
import Derived.Stop.Joined
import Derived.SevenTiedAt
import Derived.Lib.LaidTab
import Derived.Lib.ItoaNum
set_option linter.unusedSimpArgs false
set_option linter.unusedVariables false
namespace Go.Proofs.YtlcceppoloaecaaGreatDoor.tjoinSnapshots
open Go.ChangeShapes Go.WideShapes Go.ChangeAt Go.RowKit
theorem step (os : Os) (started : os.Started) (H : Type) (enc : TypeId × Value → H) :
    ReturnsInHanded Rows.tjoinSnapshotsRow.assume Tryz.pinned.checked os 6 .any (Rows.tjoinSnapshotsRow.pre enc Tryz.pinned.checked.prog Tryz.f6 (OpenSpec.ofChange Rows.tjoinSnapshotsSpec)) (Rows.tjoinSnapshotsSpec.post enc Tryz.pinned.checked.prog Tryz.f6 Rows.tjoinSnapshotsRow.apart Rows.tjoinSnapshotsRow.fresh Rows.tjoinSnapshotsRow.handsOn Rows.tjoinSnapshotsRow.again) := by
  rw [OpenClaim.pre_eq_preRow]
  exact lifted os started H enc
end Go.Proofs.YtlcceppoloaecaaGreatDoor.tjoinSnapshots
