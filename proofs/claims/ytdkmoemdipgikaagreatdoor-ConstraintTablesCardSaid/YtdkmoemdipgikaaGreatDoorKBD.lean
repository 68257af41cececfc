/- Parts. No condition. -/
import Derived.Test.YtdkmoemdipgikaaGreatDoorKAY
set_option linter.unusedSimpArgs false
set_option linter.unusedVariables false
namespace Go.Proofs.YtdkmoemdipgikaaGreatDoor.St
open Go.RowKit
theorem N1 (l:List (Int×Int))(n:Int):(B_ l n).length≤l.length:=by
 have:=FX l n l.length;rwa[FB l n (Nat.le_refl _)]at this
