/- Parts. No condition. -/
import Derived.Test.YtlcceppoloaecaaGreatDoorXAT
set_option linter.unusedSimpArgs false
set_option linter.unusedVariables false
namespace Go.Proofs.YtlcceppoloaecaaGreatDoor.St
open Go.RowKit
def Bo (l:List (Int×Int))(n:Int)(k:Nat):List (Int×Int):=((kS l).take k).foldl (cF n) []
theorem Kp (l:List (Int×Int))(n:Int){k:Nat}(h:l.length≤k):Bo l n k=EM l n:=by
 unfold Bo EM;rw[List.take_of_length_le (by rw[M9];exact h)]
theorem EZ {l:List (Int×Int)}{n:Int}{k:Nat}{x y:Int}(hx:l[k]?=some (x,y)):Bo l n (k+1)=cF n (Bo l n k) ((x,((l[k+1]?).map (·.1)).getD 1099511627776),y):=by
 unfold Bo;exact iC (Ox l k (x,y) hx)
theorem KN (l:List (Int×Int))(n:Int)(k:Nat):(Bo l n k).length≤k:=by
 unfold Bo;have h1:=DL n ((kS l).take k) [];have h2:((kS l).take k).length≤k:=List.length_take_le _ _;simp at h1;simp at h2;omega
