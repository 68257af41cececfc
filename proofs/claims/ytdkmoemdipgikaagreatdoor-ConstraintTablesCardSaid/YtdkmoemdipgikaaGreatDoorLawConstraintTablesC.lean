/- The law ConstraintTables returns true for every argument. No condition. -/
import Derived.Test.YtdkmoemdipgikaaGreatDoorLawConstraintTablesA
import Derived.Test.YtdkmoemdipgikaaGreatDoorLawConstraintTablesB
import Derived.Test.YtdkmoemdipgikaaGreatDoorKBR
import Derived.Test.YtdkmoemdipgikaaGreatDoorRows
import Derived.Test.YtdkmoemdipgikaaGreatDoorTie
import Derived.Test.YtdkmoemdipgikaaGreatDoorCards
import Derived.LaidMore
import Derived.Stop.Joined
import Derived.SevenTiedAt
import Derived.Lib.LaidTab
import Derived.Lib.ItoaNum
set_option linter.unusedSimpArgs false
set_option linter.unusedVariables false
namespace Go.Proofs.YtdkmoemdipgikaaGreatDoor.constraintTables
open Go.ChangeShapes Go.WideShapes Go.ChangeAt Go.RowKit
theorem over:Rows.ConstraintTablesSaid :=
 OpenClaim.holds_of_wide (p := Tryz.pinned) (s := Rows.constraintTablesSpec) (c := Rows.constraintTablesRow) 3 Tryz.f3 rfl rfl rfl rfl rfl rfl rfl ⟨rfl,rfl,rfl,rfl,rfl⟩ rfl rfl rfl rfl rfl (by kernel_rfl) Tryz.func3 closedF
  (amZ (by kernel_rfl)) (by unfold Func.isWrapper;first|(rw[if_pos (by decide +kernel)];kernel_rfl)|(rw[if_neg (by decide +kernel)];exact⟨rfl,rfl⟩))
  (fun os started H enc _=>step os started H enc)
end Go.Proofs.YtdkmoemdipgikaaGreatDoor.constraintTables
