/- The law TjoinExchange returns true for every argument. No condition. -/
import Derived.Test.YtlcceppoloaecaaGreatDoorLawTjoinExchangeA
import Derived.Test.YtlcceppoloaecaaGreatDoorXBN
import Derived.Test.YtlcceppoloaecaaGreatDoorRows
import Derived.Test.YtlcceppoloaecaaGreatDoorTie
import Derived.Test.YtlcceppoloaecaaGreatDoorCards
import Derived.LaidMore
import Derived.Stop.Joined
import Derived.SevenTiedAt
import Derived.Lib.LaidTab
import Derived.Lib.ItoaNum
set_option linter.unusedSimpArgs false
set_option linter.unusedVariables false
namespace Go.Proofs.YtlcceppoloaecaaGreatDoor.tjoinExchange
open Go.ChangeShapes Go.WideShapes Go.ChangeAt Go.RowKit
theorem step (os : Os) (started : os.Started) (H : Type) (enc : TypeId × Value → H) :
    ReturnsInHanded Rows.tjoinExchangeRow.assume Tryz.pinned.checked os 9 .any (Rows.tjoinExchangeRow.pre enc Tryz.pinned.checked.prog Tryz.f9 (OpenSpec.ofChange Rows.tjoinExchangeSpec)) (Rows.tjoinExchangeSpec.post enc Tryz.pinned.checked.prog Tryz.f9 Rows.tjoinExchangeRow.apart Rows.tjoinExchangeRow.fresh Rows.tjoinExchangeRow.handsOn Rows.tjoinExchangeRow.again) := by
  rw [OpenClaim.pre_eq_preRow]
  exact lifted os started H enc
theorem closedF : joinedFacts Tryz.pinned.checked.prog 9 Tryz.f9 Rows.tjoinExchangeSpec Rows.tjoinExchangeRow = true := by kernel_rfl
end Go.Proofs.YtlcceppoloaecaaGreatDoor.tjoinExchange
