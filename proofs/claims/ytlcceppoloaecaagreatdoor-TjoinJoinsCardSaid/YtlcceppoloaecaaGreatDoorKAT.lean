/- Parts. No condition. -/
import Derived.Test.YtlcceppoloaecaaGreatDoorKAS
set_option linter.unusedSimpArgs false
set_option linter.unusedVariables false
namespace Go.Proofs.YtlcceppoloaecaaGreatDoor.St
open Go.RowKit
def ins (n:Int):List Int→List Int
 |[]=>[n]
 |x::r=>if x<n then x::ins n r else if n<x then n::x::r else x::r
def mid (n:Int):Option Int→List Int
 |none=>[n]
 |some y=>if n<y then [n]else []
theorem tq (n:Int):∀ l:List Int,(ins n l).length≤l.length+1
 |[]=>by simp[ins]
 |x::r=>by
  have:=tq n r;unfold ins;split
  ·simp;omega
  ·split<;>simp
theorem ru {α:Type}{l:List α}{k:Nat}{x:α}(hx:l[k]?=some x):l.take k++[x]=l.take (k+1):=by rw[List.take_add_one,hx];rfl
