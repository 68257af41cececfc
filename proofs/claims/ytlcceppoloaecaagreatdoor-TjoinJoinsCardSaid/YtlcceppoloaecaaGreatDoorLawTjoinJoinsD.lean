/- Facts of the row that the kernel computes. No condition. -/
import Derived.Test.YtlcceppoloaecaaGreatDoorRows
import Derived.Test.YtlcceppoloaecaaGreatDoorTie
import Derived.Stop.Joined
import Derived.SevenTiedAt
namespace Go.Proofs.YtlcceppoloaecaaGreatDoor.tjoinJoins
open Go.ChangeShapes Go.WideShapes
theorem closedF : joinedFacts Tryz.pinned.checked.prog 4 Tryz.f4 Rows.tjoinJoinsSpec Rows.tjoinJoinsRow = true := by kernel_rfl
end Go.Proofs.YtlcceppoloaecaaGreatDoor.tjoinJoins
