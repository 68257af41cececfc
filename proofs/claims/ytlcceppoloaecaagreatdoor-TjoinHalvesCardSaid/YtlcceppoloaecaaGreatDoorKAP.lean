/- Parts. No condition. -/
import Derived.Test.YtlcceppoloaecaaGreatDoorKAN
import Derived.Test.YtlcceppoloaecaaGreatDoorKAO
set_option linter.unusedSimpArgs false
set_option linter.unusedVariables false
namespace Go.Proofs.YtlcceppoloaecaaGreatDoor.St
open Go.RowKit
