/- Parts. No condition. -/
import Derived.Test.YtlcceppoloaecaaGreatDoorKAL
import Derived.Test.YtlcceppoloaecaaGreatDoorKAM
set_option linter.unusedSimpArgs false
set_option linter.unusedVariables false
namespace Go.Proofs.YtlcceppoloaecaaGreatDoor.St
open Go.RowKit
