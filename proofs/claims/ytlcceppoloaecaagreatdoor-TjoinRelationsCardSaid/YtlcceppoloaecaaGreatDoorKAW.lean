/- Parts of the proof, joined. No condition. -/
import Derived.Test.YtlcceppoloaecaaGreatDoorKAV
set_option linter.unusedSimpArgs false
set_option linter.unusedVariables false
namespace Go.Proofs.YtlcceppoloaecaaGreatDoor.St
open Go.RowKit
def vB (l : List (Int × Int)) (n : Int) (k : Nat) : List (Int × Int) := ((qW l).take k).foldl (dI n) []
theorem Cy (l : List (Int × Int)) (n : Int) {k : Nat} (h : l.length ≤ k) : vB l n k = Gv l n := by
  unfold vB Gv; rw [List.take_of_length_le (by rw [Ej]; exact h)]
theorem xz {l : List (Int × Int)} {n : Int} {k : Nat} {x y : Int} (hx : l[k]? = some (x, y)) : vB l n (k + 1) = dI n (vB l n k) ((x, ((l[k + 1]?).map (·.1)).getD 1099511627776), y) := by
  unfold vB; exact dB (Ev l k (x, y) hx)
end Go.Proofs.YtlcceppoloaecaaGreatDoor.St
