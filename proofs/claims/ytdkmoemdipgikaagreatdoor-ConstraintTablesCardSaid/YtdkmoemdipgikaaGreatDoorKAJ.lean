/- Parts. No condition. -/
import Derived.Test.YtdkmoemdipgikaaGreatDoorKAA
import Derived.RowKit
set_option linter.unusedSimpArgs false
set_option linter.unusedVariables false
namespace Go.Proofs.YtdkmoemdipgikaaGreatDoor.St
def be (p:Int×Int):Bool:=decide (0<=p.1)&&decide (p.1<p.2)&&decide (p.2<=1099511627776)
def aI (p:Int×Int)(t:Int):Bool:=be p&&decide (p.1<=t)&&decide (t<p.2)
