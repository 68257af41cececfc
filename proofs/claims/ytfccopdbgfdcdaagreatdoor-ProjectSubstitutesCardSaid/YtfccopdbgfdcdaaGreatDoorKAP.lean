/- Parts of the proof, joined. No condition. -/
import Derived.Test.YtfccopdbgfdcdaaGreatDoorKAA
import Derived.RowKit
set_option linter.unusedSimpArgs false
set_option linter.unusedVariables false
namespace Go.Proofs.YtfccopdbgfdcdaaGreatDoor.St
def aH (p:Int × Int):Bool:=decide (0<=p.1)&&decide (p.1<p.2)&&decide (p.2<=1099511627776)
def aV (p:Int × Int) (t:Int):Bool:=aH p&&decide (p.1<=t)&&decide (t<p.2)
def fB (p q:Int × Int):Int:=if p=q then 0 else if p.1<q.1\/(p.1=q.1/\p.2<q.2) then -1 else 1
def xe (p q:Int × Int):Bool:=decide (p.1<q.1)&&decide (q.1<1099511627776) && !(q.2==p.2)
def dZ:Int × Int->List (Int × Int)->Bool
 | _,[]=>true
 | p,q::r=>xe p q&&dZ q r
def dx:List (Int × Int)->Bool
 | []=>false
 | p::r=>p.1==0&&dZ p r
def u_ (l:List (Int × Int)) (t:Int):Int:=if 0<=t/\t<1099511627776 then l.foldl (fun n s=>if s.1<=t then s.2 else n) 0 else 0
theorem yh : ∀ (l:List (Int × Int)) (p q:Int × Int),dZ p (l++[q])=(dZ p l&&xe ((p::l).getLast (by simp)) q)
 | [],p,q=>by simp [dZ]
 | a::l,p,q=>by
  have:=yh l a q
  simp only [List.cons_append,dZ,this,Bool.and_assoc]
  rfl
end Go.Proofs.YtfccopdbgfdcdaaGreatDoor.St
