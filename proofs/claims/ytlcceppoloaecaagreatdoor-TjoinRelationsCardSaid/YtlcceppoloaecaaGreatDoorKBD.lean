/- Parts of the proof, joined. No condition. -/
import Derived.Test.YtlcceppoloaecaaGreatDoorKAU
import Derived.Test.YtlcceppoloaecaaGreatDoorKAR
set_option linter.unusedSimpArgs false
set_option linter.unusedVariables false
namespace Go.Proofs.YtlcceppoloaecaaGreatDoor.St
open Go.RowKit Go.Shelf Go.Lib Go.Sort

def FO : Type := { p : Int × Int // 0 ≤ p.1 ∧ p.1 ≤ 1099511627776 }
instance : Inhabited FO := ⟨⟨(0, 0), by decide⟩⟩
end Go.Proofs.YtlcceppoloaecaaGreatDoor.St
