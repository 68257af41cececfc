/- Parts. No condition. -/
import Derived.Test.YtlcceppoloaecaaGreatDoorKAV
set_option linter.unusedSimpArgs false
set_option linter.unusedVariables false
namespace Go.Proofs.YtlcceppoloaecaaGreatDoor.St
open Go.RowKit
def HB (l:List (Int×Int))(n:Int)(k:Nat):List (Int×Int):=((mc l).take k).foldl (cF n) []
theorem Ic (l:List (Int×Int))(n:Int){k:Nat}(h:l.length≤k):HB l n k=Is l n:=by
 unfold HB Is;rw[List.take_of_length_le (by rw[JI];exact h)]
theorem Dn {l:List (Int×Int)}{n:Int}{k:Nat}{x y:Int}(hx:l[k]?=some (x,y)):HB l n (k+1)=cF n (HB l n k) ((x,((l[k+1]?).map (·.1)).getD 1099511627776),y):=by
 unfold HB;exact gH (IZ l k (x,y) hx)
theorem H_ (l:List (Int×Int))(n:Int)(k:Nat):(HB l n k).length≤k:=by
 unfold HB;have h1:=An n ((mc l).take k) [];have h2:((mc l).take k).length≤k:=List.length_take_le _ _;simp at h1;simp at h2;omega
