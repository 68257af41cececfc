/- Parts. No condition. -/
import Derived.Test.YtdkmoemdipgikaaGreatDoorKAP
set_option linter.unusedSimpArgs false
set_option linter.unusedVariables false
namespace Go.Proofs.YtdkmoemdipgikaaGreatDoor.St
open Go.RowKit
def ins (n:Int):List Int→List Int
 |[]=>[n]
 |x::r=>if x<n then x::ins n r else if n<x then n::x::r else x::r
theorem rA (n:Int):∀ l:List Int,(ins n l).length≤l.length+1
 |[]=>by simp[ins]
 |x::r=>by
  have:=rA n r;unfold ins;split
  ·simp;omega
  ·split<;>simp
theorem qU {α:Type}{l:List α}{k:Nat}{x:α}(hx:l[k]?=some x):l.take k++[x]=l.take (k+1):=by rw[List.take_add_one,hx];rfl
