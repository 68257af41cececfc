/- Parts of the proof, joined. No condition. -/
import Derived.Test.YtcehmafobkhdbaaGreatDoorKAA
import Derived.RowKit
set_option linter.unusedSimpArgs false
set_option linter.unusedVariables false
namespace Go.Proofs.YtcehmafobkhdbaaGreatDoor.St
def aO (p:Int × Int):Bool:=decide (0<=p.1)&&decide (p.1<p.2)&&decide (p.2<=1099511627776)
def a_ (p:Int × Int) (t:Int):Bool:=aO p&&decide (p.1<=t)&&decide (t<p.2)
def gI (p q:Int × Int):Int:=if p=q then 0 else if p.1<q.1\/(p.1=q.1/\p.2<q.2) then -1 else 1
def yD (p q:Int × Int):Bool:=decide (p.1<q.1)&&decide (q.1<1099511627776) && !(q.2==p.2)
def fu:Int × Int->List (Int × Int)->Bool
 | _,[]=>true
 | p,q::r=>yD p q&&fu q r
def dN:List (Int × Int)->Bool
 | []=>false
 | p::r=>p.1==0&&fu p r
def vV (l:List (Int × Int)) (t:Int):Int:=if 0<=t/\t<1099511627776 then l.foldl (fun n s=>if s.1<=t then s.2 else n) 0 else 0
theorem yA : ∀ (l:List (Int × Int)) (p q:Int × Int),fu p (l++[q])=(fu p l&&yD ((p::l).getLast (by simp)) q)
 | [],p,q=>by simp [fu]
 | a::l,p,q=>by
  have:=yA l a q
  simp only [List.cons_append,fu,this,Bool.and_assoc]
  rfl
end Go.Proofs.YtcehmafobkhdbaaGreatDoor.St
