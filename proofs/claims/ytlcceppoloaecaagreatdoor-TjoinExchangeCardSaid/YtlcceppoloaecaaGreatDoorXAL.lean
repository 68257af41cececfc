/- Parts. No condition. -/
import Derived.Test.YtlcceppoloaecaaGreatDoorXAJ
import Derived.Test.YtlcceppoloaecaaGreatDoorXAK
set_option linter.unusedSimpArgs false
set_option linter.unusedVariables false
namespace Go.Proofs.YtlcceppoloaecaaGreatDoor.St
open Go.RowKit
