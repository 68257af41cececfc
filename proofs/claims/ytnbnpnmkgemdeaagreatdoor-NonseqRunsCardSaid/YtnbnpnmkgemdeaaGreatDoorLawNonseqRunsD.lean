/- Facts of the row that the kernel computes. No condition. -/
import Derived.Test.YtnbnpnmkgemdeaaGreatDoorRows
import Derived.Test.YtnbnpnmkgemdeaaGreatDoorTie
import Derived.Stop.Joined
import Derived.SevenTiedAt
namespace Go.Proofs.YtnbnpnmkgemdeaaGreatDoor.nonseqRuns
open Go.ChangeShapes Go.WideShapes
theorem closedF : joinedFacts Tryz.pinned.checked.prog 8 Tryz.f8 Rows.nonseqRunsSpec Rows.nonseqRunsRow = true := by kernel_rfl
end Go.Proofs.YtnbnpnmkgemdeaaGreatDoor.nonseqRuns
