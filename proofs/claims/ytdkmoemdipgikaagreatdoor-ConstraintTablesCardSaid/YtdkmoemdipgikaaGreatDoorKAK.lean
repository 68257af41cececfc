/- Parts. No condition. -/
import Derived.Test.YtdkmoemdipgikaaGreatDoorKAI
import Derived.Test.YtdkmoemdipgikaaGreatDoorKAJ
set_option linter.unusedSimpArgs false
set_option linter.unusedVariables false
namespace Go.Proofs.YtdkmoemdipgikaaGreatDoor.St
open Go.RowKit
