/- The law TjoinSemi returns true for every argument. No condition. -/
import Derived.Test.YtlcceppoloaecaaGreatDoorLawTjoinSemiA
import Derived.Test.YtlcceppoloaecaaGreatDoorLawTjoinSemiD
import Derived.Test.YtlcceppoloaecaaGreatDoorKYA
import Derived.Test.YtlcceppoloaecaaGreatDoorRows
import Derived.Test.YtlcceppoloaecaaGreatDoorTie
import Derived.Test.YtlcceppoloaecaaGreatDoorCards
import Derived.LaidMore
import Derived.Stop.Joined
import Derived.SevenTiedAt
import Derived.Lib.LaidTab
import Derived.Lib.ItoaNum
set_option linter.unusedSimpArgs false
set_option linter.unusedVariables false
namespace Go.Proofs.YtlcceppoloaecaaGreatDoor.tjoinSemi
open Go.ChangeShapes Go.WideShapes Go.ChangeAt Go.RowKit
theorem step (os : Os) (started : os.Started) (H : Type) (enc : TypeId × Value → H) :
    ReturnsInHanded Rows.tjoinSemiRow.assume Tryz.pinned.checked os 5 .any (Rows.tjoinSemiRow.pre enc Tryz.pinned.checked.prog Tryz.f5 (OpenSpec.ofChange Rows.tjoinSemiSpec)) (Rows.tjoinSemiSpec.post enc Tryz.pinned.checked.prog Tryz.f5 Rows.tjoinSemiRow.apart Rows.tjoinSemiRow.fresh Rows.tjoinSemiRow.handsOn Rows.tjoinSemiRow.again) := by
  rw [OpenClaim.pre_eq_preRow]
  exact lifted os started H enc
end Go.Proofs.YtlcceppoloaecaaGreatDoor.tjoinSemi
