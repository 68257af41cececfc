/- Facts of the row that the kernel computes. No condition. -/
import Derived.Test.YtlcceppoloaecaaGreatDoorRows
import Derived.Test.YtlcceppoloaecaaGreatDoorTie
import Derived.Stop.Joined
import Derived.SevenTiedAt
namespace Go.Proofs.YtlcceppoloaecaaGreatDoor.tjoinSnapshots
open Go.ChangeShapes Go.WideShapes
theorem closedF : joinedFacts Tryz.pinned.checked.prog 6 Tryz.f6 Rows.tjoinSnapshotsSpec Rows.tjoinSnapshotsRow = true := by kernel_rfl
end Go.Proofs.YtlcceppoloaecaaGreatDoor.tjoinSnapshots
