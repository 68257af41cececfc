/- The law ConstraintTables returns true for every argument. No condition. -/
import Derived.Test.YtdkmoemdipgikaaGreatDoorLawConstraintTablesA
import Derived.Test.YtdkmoemdipgikaaGreatDoorKBR
import Derived.Test.YtdkmoemdipgikaaGreatDoorRows
import Derived.Test.YtdkmoemdipgikaaGreatDoorTie
import Derived.Test.YtdkmoemdipgikaaGreatDoorCards
import Derived.LaidMore
import Derived.Stop.Joined
import Derived.SevenTiedAt
import Derived.Lib.LaidTab
import Derived.Lib.ItoaNum
set_option linter.unusedSimpArgs false
set_option linter.unusedVariables false
namespace Go.Proofs.YtdkmoemdipgikaaGreatDoor.constraintTables
open Go.ChangeShapes Go.WideShapes Go.ChangeAt Go.RowKit
theorem step (os : Os) (started : os.Started) (H : Type) (enc : TypeId × Value → H) :
    ReturnsInHanded Rows.constraintTablesRow.assume Tryz.pinned.checked os 3 .any (Rows.constraintTablesRow.pre enc Tryz.pinned.checked.prog Tryz.f3 (OpenSpec.ofChange Rows.constraintTablesSpec)) (Rows.constraintTablesSpec.post enc Tryz.pinned.checked.prog Tryz.f3 Rows.constraintTablesRow.apart Rows.constraintTablesRow.fresh Rows.constraintTablesRow.handsOn Rows.constraintTablesRow.again) := by
  rw [OpenClaim.pre_eq_preRow]
  exact lifted os started H enc
theorem closedF : joinedFacts Tryz.pinned.checked.prog 3 Tryz.f3 Rows.constraintTablesSpec Rows.constraintTablesRow = true := by kernel_rfl
end Go.Proofs.YtdkmoemdipgikaaGreatDoor.constraintTables
