/- Facts of the row that the kernel computes. No condition. -/
import Derived.Test.YtlcceppoloaecaaGreatDoorRows
import Derived.Test.YtlcceppoloaecaaGreatDoorTie
import Derived.Stop.Joined
import Derived.SevenTiedAt
namespace Go.Proofs.YtlcceppoloaecaaGreatDoor.tjoinSemi
open Go.ChangeShapes Go.WideShapes
theorem closedF : joinedFacts Tryz.pinned.checked.prog 5 Tryz.f5 Rows.tjoinSemiSpec Rows.tjoinSemiRow = true := by kernel_rfl
end Go.Proofs.YtlcceppoloaecaaGreatDoor.tjoinSemi
