/- Parts of the proof, joined. No condition. -/
import Derived.RowKit
set_option linter.unusedSimpArgs false
set_option linter.unusedVariables false
namespace Go.Proofs.YtfccopdbgfdcdaaGreatDoor.St
def pvalid (p:Int × Int):Bool:=decide (0≤p.1)&&decide (p.1<p.2)&&decide (p.2≤1099511627776)
def pcontains (p:Int × Int) (t:Int):Bool:=pvalid p&&decide (p.1≤t)&&decide (t<p.2)
def pcompare (p q:Int × Int):Int:=if p=q then 0 else if p.1<q.1∨(p.1=q.1∧p.2<q.2) then -1 else 1
def stepOk (p q:Int × Int):Bool:=decide (p.1<q.1)&&decide (q.1<1099511627776) && !(q.2==p.2)
def validFrom:Int × Int→List (Int × Int)→Bool
 | _,[]=>true
 | p,q::r=>stepOk p q&&validFrom q r
def svalid:List (Int × Int)→Bool
 | []=>false
 | p::r=>p.1==0&&validFrom p r
def rat (l:List (Int × Int)) (t:Int):Int:=if 0≤t∧t<1099511627776 then l.foldl (fun n s=>if s.1≤t then s.2 else n) 0 else 0
theorem validFrom_snoc : ∀ (l:List (Int × Int)) (p q:Int × Int),validFrom p (l++[q])=(validFrom p l&&stepOk ((p::l).getLast (by simp)) q)
 | [],p,q=>by simp [validFrom]
 | a::l,p,q=>by
  have:=validFrom_snoc l a q
  simp only [List.cons_append,validFrom,this,Bool.and_assoc]
  rfl
end Go.Proofs.YtfccopdbgfdcdaaGreatDoor.St
