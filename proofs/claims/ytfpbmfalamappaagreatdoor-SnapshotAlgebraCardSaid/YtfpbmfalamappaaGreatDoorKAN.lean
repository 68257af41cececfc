/- Parts of the proof, joined. No condition. -/
import Derived.Test.YtfpbmfalamappaaGreatDoorKAL
import Derived.Test.YtfpbmfalamappaaGreatDoorKAM
set_option linter.unusedSimpArgs false
set_option linter.unusedVariables false
namespace Go.Proofs.YtfpbmfalamappaaGreatDoor.St
open Go.RowKit
end Go.Proofs.YtfpbmfalamappaaGreatDoor.St
