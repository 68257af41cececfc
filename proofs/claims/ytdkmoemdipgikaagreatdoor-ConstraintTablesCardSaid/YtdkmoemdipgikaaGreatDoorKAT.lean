/- Parts. No condition. -/
import Derived.Test.YtdkmoemdipgikaaGreatDoorKAS
set_option linter.unusedSimpArgs false
set_option linter.unusedVariables false
namespace Go.Proofs.YtdkmoemdipgikaaGreatDoor.St
open Go.RowKit
def xJ (l:List (Int×Int))(n:Int)(k:Nat):List (Int×Int):=((mi l).take k).foldl (cW n) []
theorem FB (l:List (Int×Int))(n:Int){k:Nat}(h:l.length≤k):xJ l n k=B_ l n:=by
 unfold xJ B_;rw[List.take_of_length_le (by rw[IW];exact h)]
theorem yc {l:List (Int×Int)}{n:Int}{k:Nat}{x y:Int}(hx:l[k]?=some (x,y)):xJ l n (k+1)=cW n (xJ l n k) ((x,((l[k+1]?).map (·.1)).getD 1099511627776),y):=by
 unfold xJ;exact fW (Jy l k (x,y) hx)
theorem FX (l:List (Int×Int))(n:Int)(k:Nat):(xJ l n k).length≤k:=by
 unfold xJ;have h1:=Af n ((mi l).take k) [];have h2:((mi l).take k).length≤k:=List.length_take_le _ _;simp at h1;simp at h2;omega
