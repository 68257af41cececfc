/- Parts of the proof, joined. No condition. -/
import Derived.Test.YtnbnpnmkgemdeaaGreatDoorKAA
import Derived.Test.YtnbnpnmkgemdeaaGreatDoorKAR
import Derived.Test.YtnbnpnmkgemdeaaGreatDoorKAJ
import Derived.Test.YtnbnpnmkgemdeaaGreatDoorKAX
set_option linter.unusedSimpArgs false
set_option linter.unusedVariables false
namespace Go.Proofs.YtnbnpnmkgemdeaaGreatDoor
open Go.RowKit Go.MapKept
set_option maxRecDepth 100000
set_option maxHeartbeats 8000000
def Ch (a_s:ByteArray):Option (Val):=(qP (⟨(2:Int),(0:Int),a_s⟩:Val)).bind fun r_1=>some r_1
def qi (a_b:Bool):Option (Val):=bif a_b then some (⟨(3:Int),(1:Int),ByteArray.empty⟩:Val) else
 some (⟨(3:Int),(0:Int),ByteArray.empty⟩:Val)
def uK (a_a:Val) (a_b:Val) (a_is:Bool):Option (Int):=bif (decide (a_a.kind=(0:Int))) then some (1:Int) else
 bif (decide (a_a.kind≠a_b.kind)) then some (1:Int) else
 bif a_is then some (2:Int) else
 some (0:Int)
def Oo (a_a:Val) (a_b:Val):Option (Int):=(Ae a_a a_b).bind fun r_1=>(uK a_a a_b (decide (r_1=(0:Int)))).bind fun r_2=>some r_2
def sF (a_a:Val) (a_b:Val):Option (Int):=(Ae a_a a_b).bind fun r_1=>(uK a_a a_b (decide (r_1<(0:Int)))).bind fun r_2=>some r_2
def BL (a_a:Int):Option (Int):=bif (decide (a_a=(2:Int))) then some (0:Int) else
 bif (decide (a_a=(0:Int))) then some (2:Int) else
 some (1:Int)
def Ct (a_a:Int) (a_b:Int):Option (Int):=bif (decide (a_a=(0:Int))) then some (0:Int) else
 bif (decide (a_b=(0:Int))) then some (0:Int) else
 bif (decide (a_a=(2:Int))) then bif (decide (a_b=(2:Int))) then some (2:Int) else
 some (1:Int) else
 some (1:Int)
def Li (a_a:Int) (a_b:Int):Option (Int):=bif (decide (a_a=(2:Int))) then some (2:Int) else
 bif (decide (a_b=(2:Int))) then some (2:Int) else
 bif (decide (a_a=(0:Int))) then bif (decide (a_b=(0:Int))) then some (0:Int) else
 some (1:Int) else
 some (1:Int)
def dN (a_v:Val):Option (Int):=(qi true).bind fun r_1=>bif (cB [.c (.int .i64 a_v.kind), .c (.int .i64 a_v.int), .c (.str a_v.text)] [.c (.int .i64 r_1.kind), .c (.int .i64 r_1.int), .c (.str r_1.text)]) then some (2:Int) else
 (qi false).bind fun r_3=>bif (cB [.c (.int .i64 a_v.kind), .c (.int .i64 a_v.int), .c (.str a_v.text)] [.c (.int .i64 r_3.kind), .c (.int .i64 r_3.int), .c (.str r_3.text)]) then some (0:Int) else
 some (1:Int)
def Ap (a_t:Int):Option (Val):=bif (decide (a_t=(2:Int))) then (qi (decide (a_t=(2:Int)))).bind fun r_2=>some r_2 else
 bif (decide (a_t=(0:Int))) then (qi (decide (a_t=(2:Int)))).bind fun r_4=>some r_4 else
 (dK ).bind fun r_5=>some r_5
end Go.Proofs.YtnbnpnmkgemdeaaGreatDoor
