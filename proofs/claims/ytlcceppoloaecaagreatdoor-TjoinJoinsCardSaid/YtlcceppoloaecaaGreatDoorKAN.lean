/- Parts of the proof, joined. No condition. -/
import Derived.Test.YtlcceppoloaecaaGreatDoorKAA
import Derived.RowKit
set_option linter.unusedSimpArgs false
set_option linter.unusedVariables false
namespace Go.Proofs.YtlcceppoloaecaaGreatDoor.St
def a_ (p:Int × Int):Bool:=decide (0<=p.1)&&decide (p.1<p.2)&&decide (p.2<=1099511627776)
def bC (p:Int × Int) (t:Int):Bool:=a_ p&&decide (p.1<=t)&&decide (t<p.2)
def g_ (p q:Int × Int):Int:=if p=q then 0 else if p.1<q.1\/(p.1=q.1/\p.2<q.2) then -1 else 1
def Ap (p q:Int × Int):Bool:=decide (p.1<q.1)&&decide (q.1<1099511627776) && !(q.2==p.2)
def f_:Int × Int->List (Int × Int)->Bool
 | _,[]=>true
 | p,q::r=>Ap p q&&f_ q r
def eD:List (Int × Int)->Bool
 | []=>false
 | p::r=>p.1==0&&f_ p r
def y7 (l:List (Int × Int)) (t:Int):Int:=if 0<=t/\t<1099511627776 then l.foldl (fun n s=>if s.1<=t then s.2 else n) 0 else 0
theorem BZ : ∀ (l:List (Int × Int)) (p q:Int × Int),f_ p (l++[q])=(f_ p l&&Ap ((p::l).getLast (by simp)) q)
 | [],p,q=>by simp [f_]
 | a::l,p,q=>by
  have:=BZ l a q
  simp only [List.cons_append,f_,this,Bool.and_assoc]
  rfl
end Go.Proofs.YtlcceppoloaecaaGreatDoor.St
