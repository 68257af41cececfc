/- Parts. No condition. -/
import Derived.Test.YtlcceppoloaecaaGreatDoorKAX
set_option linter.unusedSimpArgs false
set_option linter.unusedVariables false
namespace Go.Proofs.YtlcceppoloaecaaGreatDoor.St
open Go.RowKit
def AD (l:List (Int×Int))(n:Int)(k:Nat):List (Int×Int):=((kC l).take k).foldl (cE n) []
theorem II (l:List (Int×Int))(n:Int){k:Nat}(h:l.length≤k):AD l n k=DI l n:=by
 unfold AD DI;rw[List.take_of_length_le (by rw[Nu];exact h)]
theorem Bd {l:List (Int×Int)}{n:Int}{k:Nat}{x y:Int}(hx:l[k]?=some (x,y)):AD l n (k+1)=cE n (AD l n k) ((x,((l[k+1]?).map (·.1)).getD 1099511627776),y):=by
 unfold AD;exact ib (NA l k (x,y) hx)
theorem IV (l:List (Int×Int))(n:Int)(k:Nat):(AD l n k).length≤k:=by
 unfold AD;have h1:=EH n ((kC l).take k) [];have h2:((kC l).take k).length≤k:=List.length_take_le _ _;simp at h1;simp at h2;omega
