/- Parts of the proof, joined. No condition. -/
import Derived.Test.YtlcceppoloaecaaGreatDoorKAA
import Derived.RowKit
set_option linter.unusedSimpArgs false
set_option linter.unusedVariables false
namespace Go.Proofs.YtlcceppoloaecaaGreatDoor.St
def bQ (p:Int × Int):Bool:=decide (0<=p.1)&&decide (p.1<p.2)&&decide (p.2<=1099511627776)
def bU (p q:Int × Int):Int:=if p=q then 0 else if p.1<q.1\/(p.1=q.1/\p.2<q.2) then -1 else 1
end Go.Proofs.YtlcceppoloaecaaGreatDoor.St
