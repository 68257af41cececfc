/- The law TjoinRelations returns true for every argument. No condition. -/
import Derived.Test.YtlcceppoloaecaaGreatDoorLawTjoinRelationsA
import Derived.Test.YtlcceppoloaecaaGreatDoorKAA
import Derived.Test.YtlcceppoloaecaaGreatDoorKXA
import Derived.Test.YtlcceppoloaecaaGreatDoorRows
import Derived.Test.YtlcceppoloaecaaGreatDoorTie
import Derived.Test.YtlcceppoloaecaaGreatDoorCards
import Derived.ProofKit
import Derived.LaidMore
import Derived.OpenShut
import Derived.Stop.Joined
import Derived.SevenTiedAt
import Derived.Lib.LaidTab
import Derived.Lib.ItoaNum
set_option linter.unusedSimpArgs false
set_option linter.unusedVariables false
namespace Go.Proofs.YtlcceppoloaecaaGreatDoor.tjoinRelations
open Go.ChangeShapes Go.WideShapes Go.ChangeAt Go.RowKit
theorem step (os : Os) (started : os.Started) (H : Type) (enc : TypeId × Value → H) :
    ReturnsInHanded Rows.tjoinRelationsRow.assume Tryz.pinned.checked os 8 .any (Rows.tjoinRelationsRow.pre enc Tryz.pinned.checked.prog Tryz.f8 (OpenSpec.ofChange Rows.tjoinRelationsSpec)) (Rows.tjoinRelationsSpec.post enc Tryz.pinned.checked.prog Tryz.f8 Rows.tjoinRelationsRow.apart Rows.tjoinRelationsRow.fresh Rows.tjoinRelationsRow.handsOn Rows.tjoinRelationsRow.again) := by
  rw [OpenClaim.pre_eq_preRow]
  exact lifted os started H enc
theorem closedF : joinedFacts Tryz.pinned.checked.prog 8 Tryz.f8 Rows.tjoinRelationsSpec Rows.tjoinRelationsRow = true := by kernel_rfl
end Go.Proofs.YtlcceppoloaecaaGreatDoor.tjoinRelations
