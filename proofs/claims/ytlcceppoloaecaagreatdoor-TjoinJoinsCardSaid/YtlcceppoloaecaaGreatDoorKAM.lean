/- Parts. No condition. -/
import Derived.Test.YtlcceppoloaecaaGreatDoorKAA
import Derived.RowKit
set_option linter.unusedSimpArgs false
set_option linter.unusedVariables false
namespace Go.Proofs.YtlcceppoloaecaaGreatDoor.St
def aK (p:Int×Int):Bool:=decide (0<=p.1)&&decide (p.1<p.2)&&decide (p.2<=1099511627776)
def aS (p:Int×Int)(t:Int):Bool:=aK p&&decide (p.1<=t)&&decide (t<p.2)
def fQ (p q:Int×Int):Int:=if p=q then 0 else if p.1<q.1\/(p.1=q.1/\p.2<q.2)then -1 else 1
def sH (p q:Int×Int):Bool:=decide (p.1<q.1)&&decide (q.1<1099511627776) && !(q.2==p.2)
def di:Int×Int->List (Int×Int)->Bool
 |_,[]=>true
 |p,q::r=>sH p q&&di q r
def cI:List (Int×Int)->Bool
 |[]=>false
 |p::r=>p.1==0&&di p r
def se (l:List (Int×Int))(t:Int):Int:=if 0<=t/\t<1099511627776 then l.foldl (λn s=>if s.1<=t then s.2 else n) 0 else 0
theorem n9:∀ (l:List (Int×Int)) (p q:Int×Int),di p (l++[q])=(di p l&&sH ((p::l).getLast m5) q)
 |[],p,q=>by simp[di]
 |a::l,p,q=>by
  have:=n9 l a q;simp only[List.cons_append,di,this,Bool.and_assoc];rfl
