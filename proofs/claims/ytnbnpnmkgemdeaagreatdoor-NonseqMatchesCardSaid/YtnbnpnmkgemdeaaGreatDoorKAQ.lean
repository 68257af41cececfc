/- Parts of the proof, joined. No condition. -/
import Derived.Test.YtnbnpnmkgemdeaaGreatDoorKAA
import Derived.Test.YtnbnpnmkgemdeaaGreatDoorKAJ
import Derived.Test.YtnbnpnmkgemdeaaGreatDoorKAF
set_option linter.unusedSimpArgs false
set_option linter.unusedVariables false
namespace Go.Proofs.YtnbnpnmkgemdeaaGreatDoor
open Go.RowKit Go.MapKept
set_option maxRecDepth 100000
set_option maxHeartbeats 8000000
abbrev bH (x:Int):Int:=IntKind.i64.wrap (Int.fdiv (IntKind.u64.wrap x) (2 ^ (min (Int.toNat (1:Int)) (IntKind.bits .u64))))
def d_ {α:Type} (a_a:Int) (a_b:Int) (a_n:Int) (n:Nat):((List α) × Int)->Option (Step ((List α) × Int) (List α)):=fun s=>match s with
 | (c_1,i_2)=>bif (decide (i_2<a_n)) then bif (decide (0<=(IntKind.i64.wrap (a_b+i_2)))) then (bif (decide ((IntKind.i64.wrap (a_b+i_2))<((n:Nat):Int))) then ((au c_1 (IntKind.i64.wrap (a_b+i_2))).bind fun x_4=>bif (decide (0<=(IntKind.i64.wrap (a_a+i_2)))) then (bif (decide ((IntKind.i64.wrap (a_a+i_2))<((n:Nat):Int))) then ((au c_1 (IntKind.i64.wrap (a_a+i_2))).bind fun x_5=>bif (decide (0<=(IntKind.i64.wrap (a_a+i_2)))) then (bif (decide ((IntKind.i64.wrap (a_a+i_2))<((n:Nat):Int))) then (bif (decide ((0+(IntKind.i64.wrap (a_a+i_2)).toNat)<c_1.length)) then (bif (decide (0<=(IntKind.i64.wrap (a_b+i_2)))) then (bif (decide ((IntKind.i64.wrap (a_b+i_2))<((n:Nat):Int))) then (bif (decide ((0+(IntKind.i64.wrap (a_b+i_2)).toNat)<(c_1.set (0+(IntKind.i64.wrap (a_a+i_2)).toNat) x_4).length)) then (some (.next (((c_1.set (0+(IntKind.i64.wrap (a_a+i_2)).toNat) x_4).set (0+(IntKind.i64.wrap (a_b+i_2)).toNat) x_5),(IntKind.i64.wrap (i_2+(1:Int)))))) else none) else none) else none) else none) else none) else none) else none) else none) else none) else none else
 some (.exit (c_1,i_2))
def oF {α:Type} : Sum ((List α) × Int) (List α)->Option ((List α))
 | .inl (c_1,i_2)=>some c_1
 | .inr q=>some q
def iO {α:Type} (n:Nat) (a_data:(List α)) (a_a:Int) (a_b:Int) (a_n:Int) (a_cmp:α->α->Option (Int)):Option (List α):=(ah (d_ a_a a_b a_n n) fuel (a_data,(0:Int))).bind (oF)
def fF {α:Type} (a_m:Int) (a_cmp:α->α->Option (Int)) (n:Nat):((List α) × Int × Int)->Option (Step ((List α) × Int × Int) (List α)):=fun s=>match s with
 | (c_1,i_2,j_3)=>bif (decide (i_2≠j_3)) then bif (decide (j_3<i_2)) then (iO n c_1 (IntKind.i64.wrap (a_m-i_2)) a_m j_3 a_cmp).bind fun c_6=>some (.next (c_6,(IntKind.i64.wrap (i_2-j_3)),j_3)) else
 (iO n c_1 (IntKind.i64.wrap (a_m-i_2)) (IntKind.i64.wrap ((IntKind.i64.wrap (a_m+j_3))-i_2)) i_2 a_cmp).bind fun c_7=>some (.next (c_7,i_2,(IntKind.i64.wrap (j_3-i_2)))) else
 some (.exit (c_1,i_2,j_3))
def qE {α:Type} (a_m:Int) (a_cmp:α->α->Option (Int)) (n:Nat):Sum ((List α) × Int × Int) (List α)->Option ((List α))
 | .inl (c_1,i_2,j_3)=>(iO n c_1 (IntKind.i64.wrap (a_m-i_2)) a_m i_2 a_cmp).bind fun c_8=>some c_8
 | .inr q=>some q
def nY {α:Type} (n:Nat) (a_data:(List α)) (a_a:Int) (a_m:Int) (a_b:Int) (a_cmp:α->α->Option (Int)):Option (List α):=(ah (fF a_m a_cmp n) fuel (a_data,(IntKind.i64.wrap (a_m-a_a)),(IntKind.i64.wrap (a_b-a_m)))).bind (qE a_m a_cmp n)
def dQ {α:Type} (a_a:Int) (a_cmp:α->α->Option (Int)) (n:Nat):((List α) × Int)->Option (Step ((List α) × Int) (List α)):=fun s=>match s with
 | (c_4,j_5)=>bif (decide (a_a<j_5)) then bif (decide (0<=j_5)) then (bif (decide (j_5<((n:Nat):Int))) then ((au c_4 j_5).bind fun x_7=>bif (decide (0<=(IntKind.i64.wrap (j_5-(1:Int))))) then (bif (decide ((IntKind.i64.wrap (j_5-(1:Int)))<((n:Nat):Int))) then ((au c_4 (IntKind.i64.wrap (j_5-(1:Int)))).bind fun x_8=>(a_cmp x_7 x_8).bind fun r_9=>bif (decide (r_9<(0:Int))) then bif (decide (0<=(IntKind.i64.wrap (j_5-(1:Int))))) then (bif (decide ((IntKind.i64.wrap (j_5-(1:Int)))<((n:Nat):Int))) then (bif (decide (0<=j_5)) then (bif (decide (j_5<((n:Nat):Int))) then (bif (decide (0<=j_5)) then (bif (decide (j_5<((n:Nat):Int))) then (bif (decide ((0+j_5.toNat)<c_4.length)) then (bif (decide (0<=(IntKind.i64.wrap (j_5-(1:Int))))) then (bif (decide ((IntKind.i64.wrap (j_5-(1:Int)))<((n:Nat):Int))) then (bif (decide ((0+(IntKind.i64.wrap (j_5-(1:Int))).toNat)<(c_4.set (0+j_5.toNat) x_8).length)) then (some (.next (((c_4.set (0+j_5.toNat) x_8).set (0+(IntKind.i64.wrap (j_5-(1:Int))).toNat) x_7),(IntKind.i64.wrap (j_5-(1:Int)))))) else none) else none) else none) else none) else none) else none) else none) else none) else none) else none else
 some (.exit (c_4,j_5))) else none) else none) else none) else none else
 some (.exit (c_4,j_5))
def jf {α:Type} (i_2:Int):Sum ((List α) × Int) (List α)->Option (Step ((List α) × Int) (List α))
 | .inl (c_4,j_5)=>some (.next (c_4,(IntKind.i64.wrap (i_2+(1:Int)))))
 | .inr q=>some (.ret q)
def dU {α:Type} (a_a:Int) (a_b:Int) (a_cmp:α->α->Option (Int)) (n:Nat):((List α) × Int)->Option (Step ((List α) × Int) (List α)):=fun s=>match s with
 | (c_1,i_2)=>bif (decide (i_2<a_b)) then (ah (dQ a_a a_cmp n) fuel (c_1,i_2)).bind (jf i_2) else
 some (.exit (c_1,i_2))
def rW {α:Type} : Sum ((List α) × Int) (List α)->Option ((List α))
 | .inl (c_1,i_2)=>some c_1
 | .inr q=>some q
def pJ {α:Type} (n:Nat) (a_data:(List α)) (a_a:Int) (a_b:Int) (a_cmp:α->α->Option (Int)):Option (List α):=(ah (dU a_a a_b a_cmp n) fuel (a_data,(IntKind.i64.wrap (a_a+(1:Int))))).bind (rW)
def mJ {α:Type} (n:Nat) (i_2:Int):((List α) × Int)->Option (Step ((List α) × Int) (List α)):=fun s=>match s with
 | (c_9,k_10)=>bif (decide (k_10<(IntKind.i64.wrap (i_2-(1:Int))))) then bif (decide (0<=(IntKind.i64.wrap (k_10+(1:Int))))) then (bif (decide ((IntKind.i64.wrap (k_10+(1:Int)))<((n:Nat):Int))) then ((au c_9 (IntKind.i64.wrap (k_10+(1:Int)))).bind fun x_12=>bif (decide (0<=k_10)) then (bif (decide (k_10<((n:Nat):Int))) then ((au c_9 k_10).bind fun x_13=>bif (decide (0<=k_10)) then (bif (decide (k_10<((n:Nat):Int))) then (bif (decide ((0+k_10.toNat)<c_9.length)) then (bif (decide (0<=(IntKind.i64.wrap (k_10+(1:Int))))) then (bif (decide ((IntKind.i64.wrap (k_10+(1:Int)))<((n:Nat):Int))) then (bif (decide ((0+(IntKind.i64.wrap (k_10+(1:Int))).toNat)<(c_9.set (0+k_10.toNat) x_12).length)) then (some (.next (((c_9.set (0+k_10.toNat) x_12).set (0+(IntKind.i64.wrap (k_10+(1:Int))).toNat) x_13),(IntKind.i64.wrap (k_10+(1:Int)))))) else none) else none) else none) else none) else none) else none) else none) else none) else none) else none else
 some (.exit (c_9,k_10))
def Cb {α:Type} : Sum ((List α) × Int) (List α)->Option ((List α))
 | .inl (c_9,k_10)=>some c_9
 | .inr q=>some q
def oU {α:Type} (a_data:List α) (a_a:Int) (a_cmp:α->α->Option (Int)) (n:Nat):(Int × Int)->Option (Step (Int × Int) (List α)):=fun s=>match s with
 | (i_2,j_3)=>bif (decide (i_2<j_3)) then bif (decide (0<=(bH (IntKind.i64.wrap (i_2+j_3))))) then (bif (decide ((bH (IntKind.i64.wrap (i_2+j_3)))<((n:Nat):Int))) then ((au a_data (bH (IntKind.i64.wrap (i_2+j_3)))).bind fun x_5=>bif (decide (0<=a_a)) then (bif (decide (a_a<((n:Nat):Int))) then ((au a_data a_a).bind fun x_6=>(a_cmp x_5 x_6).bind fun r_7=>bif (decide (r_7<(0:Int))) then some (.next ((IntKind.i64.wrap ((bH (IntKind.i64.wrap (i_2+j_3)))+(1:Int))),j_3)) else
 some (.next (i_2,(bH (IntKind.i64.wrap (i_2+j_3)))))) else none) else none) else none) else none else
 some (.exit (i_2,j_3))
def sS {α:Type} (a_data:List α) (a_a:Int) (n:Nat):Sum (Int × Int) (List α)->Option ((List α))
 | .inl (i_2,j_3)=>(ah (mJ n i_2) fuel (a_data,a_a)).bind (Cb)
 | .inr q=>some q
def mG {α:Type} (n:Nat) (i_15:Int):((List α) × Int)->Option (Step ((List α) × Int) (List α)):=fun s=>match s with
 | (c_22,k_23)=>bif (decide (i_15<k_23)) then bif (decide (0<=(IntKind.i64.wrap (k_23-(1:Int))))) then (bif (decide ((IntKind.i64.wrap (k_23-(1:Int)))<((n:Nat):Int))) then ((au c_22 (IntKind.i64.wrap (k_23-(1:Int)))).bind fun x_25=>bif (decide (0<=k_23)) then (bif (decide (k_23<((n:Nat):Int))) then ((au c_22 k_23).bind fun x_26=>bif (decide (0<=k_23)) then (bif (decide (k_23<((n:Nat):Int))) then (bif (decide ((0+k_23.toNat)<c_22.length)) then (bif (decide (0<=(IntKind.i64.wrap (k_23-(1:Int))))) then (bif (decide ((IntKind.i64.wrap (k_23-(1:Int)))<((n:Nat):Int))) then (bif (decide ((0+(IntKind.i64.wrap (k_23-(1:Int))).toNat)<(c_22.set (0+k_23.toNat) x_25).length)) then (some (.next (((c_22.set (0+k_23.toNat) x_25).set (0+(IntKind.i64.wrap (k_23-(1:Int))).toNat) x_26),(IntKind.i64.wrap (k_23-(1:Int)))))) else none) else none) else none) else none) else none) else none) else none) else none) else none) else none else
 some (.exit (c_22,k_23))
def BH {α:Type} : Sum ((List α) × Int) (List α)->Option ((List α))
 | .inl (c_22,k_23)=>some c_22
 | .inr q=>some q
def pz {α:Type} (a_data:List α) (a_m:Int) (a_cmp:α->α->Option (Int)) (n:Nat):(Int × Int)->Option (Step (Int × Int) (List α)):=fun s=>match s with
 | (i_15,j_16)=>bif (decide (i_15<j_16)) then bif (decide (0<=a_m)) then (bif (decide (a_m<((n:Nat):Int))) then ((au a_data a_m).bind fun x_18=>bif (decide (0<=(bH (IntKind.i64.wrap (i_15+j_16))))) then (bif (decide ((bH (IntKind.i64.wrap (i_15+j_16)))<((n:Nat):Int))) then ((au a_data (bH (IntKind.i64.wrap (i_15+j_16)))).bind fun x_19=>(a_cmp x_18 x_19).bind fun r_20=>bif (!(decide (r_20<(0:Int)))) then some (.next ((IntKind.i64.wrap ((bH (IntKind.i64.wrap (i_15+j_16)))+(1:Int))),j_16)) else
 some (.next (i_15,(bH (IntKind.i64.wrap (i_15+j_16)))))) else none) else none) else none) else none else
 some (.exit (i_15,j_16))
def sI {α:Type} (a_data:List α) (a_m:Int) (n:Nat):Sum (Int × Int) (List α)->Option ((List α))
 | .inl (i_15,j_16)=>(ah (mG n i_15) fuel (a_data,a_m)).bind (BH)
 | .inr q=>some q
def kV {α:Type} (a_data:List α) (a_a:Int) (a_m:Int) (a_b:Int) (a_cmp:α->α->Option (Int)) (n:Nat):(Int × Int)->Option (Step (Int × Int) (List α)):=fun s=>match s with
 | (start_28,r_29)=>bif (decide (start_28<r_29)) then bif (decide (0<=(IntKind.i64.wrap ((IntKind.i64.wrap ((IntKind.i64.wrap ((bH (IntKind.i64.wrap (a_a+a_b)))+a_m))-(1:Int)))-(bH (IntKind.i64.wrap (start_28+r_29))))))) then (bif (decide ((IntKind.i64.wrap ((IntKind.i64.wrap ((IntKind.i64.wrap ((bH (IntKind.i64.wrap (a_a+a_b)))+a_m))-(1:Int)))-(bH (IntKind.i64.wrap (start_28+r_29)))))<((n:Nat):Int))) then ((au a_data (IntKind.i64.wrap ((IntKind.i64.wrap ((IntKind.i64.wrap ((bH (IntKind.i64.wrap (a_a+a_b)))+a_m))-(1:Int)))-(bH (IntKind.i64.wrap (start_28+r_29)))))).bind fun x_31=>bif (decide (0<=(bH (IntKind.i64.wrap (start_28+r_29))))) then (bif (decide ((bH (IntKind.i64.wrap (start_28+r_29)))<((n:Nat):Int))) then ((au a_data (bH (IntKind.i64.wrap (start_28+r_29)))).bind fun x_32=>(a_cmp x_31 x_32).bind fun r_33=>bif (!(decide (r_33<(0:Int)))) then some (.next ((IntKind.i64.wrap ((bH (IntKind.i64.wrap (start_28+r_29)))+(1:Int))),r_29)) else
 some (.next (start_28,(bH (IntKind.i64.wrap (start_28+r_29)))))) else none) else none) else none) else none else
 some (.exit (start_28,r_29))
def kR {α:Type} (a_data:List α) (a_a:Int) (a_m:Int) (a_b:Int) (a_cmp:α->α->Option (Int)) (n:Nat) (rec:Nat->List α->Int->Int->Int->(α->α->Option Int)->Option (List α)):Sum (Int × Int) (List α)->Option ((List α))
 | .inl (start_28,r_29)=>bif (decide (start_28<a_m)) then bif (decide (a_m<(IntKind.i64.wrap ((IntKind.i64.wrap ((bH (IntKind.i64.wrap (a_a+a_b)))+a_m))-start_28)))) then (nY n a_data start_28 a_m (IntKind.i64.wrap ((IntKind.i64.wrap ((bH (IntKind.i64.wrap (a_a+a_b)))+a_m))-start_28)) a_cmp).bind fun c_37=>bif (decide (a_a<start_28)) then bif (decide (start_28<(bH (IntKind.i64.wrap (a_a+a_b))))) then (rec n c_37 a_a start_28 (bH (IntKind.i64.wrap (a_a+a_b))) a_cmp).bind fun c_40=>bif (decide ((bH (IntKind.i64.wrap (a_a+a_b)))<(IntKind.i64.wrap ((IntKind.i64.wrap ((bH (IntKind.i64.wrap (a_a+a_b)))+a_m))-start_28)))) then bif (decide ((IntKind.i64.wrap ((IntKind.i64.wrap ((bH (IntKind.i64.wrap (a_a+a_b)))+a_m))-start_28))<a_b)) then (rec n c_40 (bH (IntKind.i64.wrap (a_a+a_b))) (IntKind.i64.wrap ((IntKind.i64.wrap ((bH (IntKind.i64.wrap (a_a+a_b)))+a_m))-start_28)) a_b a_cmp).bind fun c_43=>some c_43 else
 some c_40 else
 some c_40 else
 bif (decide ((bH (IntKind.i64.wrap (a_a+a_b)))<(IntKind.i64.wrap ((IntKind.i64.wrap ((bH (IntKind.i64.wrap (a_a+a_b)))+a_m))-start_28)))) then bif (decide ((IntKind.i64.wrap ((IntKind.i64.wrap ((bH (IntKind.i64.wrap (a_a+a_b)))+a_m))-start_28))<a_b)) then (rec n c_37 (bH (IntKind.i64.wrap (a_a+a_b))) (IntKind.i64.wrap ((IntKind.i64.wrap ((bH (IntKind.i64.wrap (a_a+a_b)))+a_m))-start_28)) a_b a_cmp).bind fun c_46=>some c_46 else
 some c_37 else
 some c_37 else
 bif (decide ((bH (IntKind.i64.wrap (a_a+a_b)))<(IntKind.i64.wrap ((IntKind.i64.wrap ((bH (IntKind.i64.wrap (a_a+a_b)))+a_m))-start_28)))) then bif (decide ((IntKind.i64.wrap ((IntKind.i64.wrap ((bH (IntKind.i64.wrap (a_a+a_b)))+a_m))-start_28))<a_b)) then (rec n c_37 (bH (IntKind.i64.wrap (a_a+a_b))) (IntKind.i64.wrap ((IntKind.i64.wrap ((bH (IntKind.i64.wrap (a_a+a_b)))+a_m))-start_28)) a_b a_cmp).bind fun c_49=>some c_49 else
 some c_37 else
 some c_37 else
 bif (decide (a_a<start_28)) then bif (decide (start_28<(bH (IntKind.i64.wrap (a_a+a_b))))) then (rec n a_data a_a start_28 (bH (IntKind.i64.wrap (a_a+a_b))) a_cmp).bind fun c_52=>bif (decide ((bH (IntKind.i64.wrap (a_a+a_b)))<(IntKind.i64.wrap ((IntKind.i64.wrap ((bH (IntKind.i64.wrap (a_a+a_b)))+a_m))-start_28)))) then bif (decide ((IntKind.i64.wrap ((IntKind.i64.wrap ((bH (IntKind.i64.wrap (a_a+a_b)))+a_m))-start_28))<a_b)) then (rec n c_52 (bH (IntKind.i64.wrap (a_a+a_b))) (IntKind.i64.wrap ((IntKind.i64.wrap ((bH (IntKind.i64.wrap (a_a+a_b)))+a_m))-start_28)) a_b a_cmp).bind fun c_55=>some c_55 else
 some c_52 else
 some c_52 else
 bif (decide ((bH (IntKind.i64.wrap (a_a+a_b)))<(IntKind.i64.wrap ((IntKind.i64.wrap ((bH (IntKind.i64.wrap (a_a+a_b)))+a_m))-start_28)))) then bif (decide ((IntKind.i64.wrap ((IntKind.i64.wrap ((bH (IntKind.i64.wrap (a_a+a_b)))+a_m))-start_28))<a_b)) then (rec n a_data (bH (IntKind.i64.wrap (a_a+a_b))) (IntKind.i64.wrap ((IntKind.i64.wrap ((bH (IntKind.i64.wrap (a_a+a_b)))+a_m))-start_28)) a_b a_cmp).bind fun c_58=>some c_58 else
 some a_data else
 some a_data else
 bif (decide ((bH (IntKind.i64.wrap (a_a+a_b)))<(IntKind.i64.wrap ((IntKind.i64.wrap ((bH (IntKind.i64.wrap (a_a+a_b)))+a_m))-start_28)))) then bif (decide ((IntKind.i64.wrap ((IntKind.i64.wrap ((bH (IntKind.i64.wrap (a_a+a_b)))+a_m))-start_28))<a_b)) then (rec n a_data (bH (IntKind.i64.wrap (a_a+a_b))) (IntKind.i64.wrap ((IntKind.i64.wrap ((bH (IntKind.i64.wrap (a_a+a_b)))+a_m))-start_28)) a_b a_cmp).bind fun c_61=>some c_61 else
 some a_data else
 some a_data else
 bif (decide (a_a<start_28)) then bif (decide (start_28<(bH (IntKind.i64.wrap (a_a+a_b))))) then (rec n a_data a_a start_28 (bH (IntKind.i64.wrap (a_a+a_b))) a_cmp).bind fun c_64=>bif (decide ((bH (IntKind.i64.wrap (a_a+a_b)))<(IntKind.i64.wrap ((IntKind.i64.wrap ((bH (IntKind.i64.wrap (a_a+a_b)))+a_m))-start_28)))) then bif (decide ((IntKind.i64.wrap ((IntKind.i64.wrap ((bH (IntKind.i64.wrap (a_a+a_b)))+a_m))-start_28))<a_b)) then (rec n c_64 (bH (IntKind.i64.wrap (a_a+a_b))) (IntKind.i64.wrap ((IntKind.i64.wrap ((bH (IntKind.i64.wrap (a_a+a_b)))+a_m))-start_28)) a_b a_cmp).bind fun c_67=>some c_67 else
 some c_64 else
 some c_64 else
 bif (decide ((bH (IntKind.i64.wrap (a_a+a_b)))<(IntKind.i64.wrap ((IntKind.i64.wrap ((bH (IntKind.i64.wrap (a_a+a_b)))+a_m))-start_28)))) then bif (decide ((IntKind.i64.wrap ((IntKind.i64.wrap ((bH (IntKind.i64.wrap (a_a+a_b)))+a_m))-start_28))<a_b)) then (rec n a_data (bH (IntKind.i64.wrap (a_a+a_b))) (IntKind.i64.wrap ((IntKind.i64.wrap ((bH (IntKind.i64.wrap (a_a+a_b)))+a_m))-start_28)) a_b a_cmp).bind fun c_70=>some c_70 else
 some a_data else
 some a_data else
 bif (decide ((bH (IntKind.i64.wrap (a_a+a_b)))<(IntKind.i64.wrap ((IntKind.i64.wrap ((bH (IntKind.i64.wrap (a_a+a_b)))+a_m))-start_28)))) then bif (decide ((IntKind.i64.wrap ((IntKind.i64.wrap ((bH (IntKind.i64.wrap (a_a+a_b)))+a_m))-start_28))<a_b)) then (rec n a_data (bH (IntKind.i64.wrap (a_a+a_b))) (IntKind.i64.wrap ((IntKind.i64.wrap ((bH (IntKind.i64.wrap (a_a+a_b)))+a_m))-start_28)) a_b a_cmp).bind fun c_73=>some c_73 else
 some a_data else
 some a_data
 | .inr q=>some q
def yf {α:Type} (a_data:List α) (a_a:Int) (a_m:Int) (a_b:Int) (a_cmp:α->α->Option (Int)) (n:Nat):(Int × Int)->Option (Step (Int × Int) (List α)):=fun s=>match s with
 | (start_74,r_75)=>bif (decide (start_74<r_75)) then bif (decide (0<=(IntKind.i64.wrap ((IntKind.i64.wrap ((IntKind.i64.wrap ((bH (IntKind.i64.wrap (a_a+a_b)))+a_m))-(1:Int)))-(bH (IntKind.i64.wrap (start_74+r_75))))))) then (bif (decide ((IntKind.i64.wrap ((IntKind.i64.wrap ((IntKind.i64.wrap ((bH (IntKind.i64.wrap (a_a+a_b)))+a_m))-(1:Int)))-(bH (IntKind.i64.wrap (start_74+r_75)))))<((n:Nat):Int))) then ((au a_data (IntKind.i64.wrap ((IntKind.i64.wrap ((IntKind.i64.wrap ((bH (IntKind.i64.wrap (a_a+a_b)))+a_m))-(1:Int)))-(bH (IntKind.i64.wrap (start_74+r_75)))))).bind fun x_77=>bif (decide (0<=(bH (IntKind.i64.wrap (start_74+r_75))))) then (bif (decide ((bH (IntKind.i64.wrap (start_74+r_75)))<((n:Nat):Int))) then ((au a_data (bH (IntKind.i64.wrap (start_74+r_75)))).bind fun x_78=>(a_cmp x_77 x_78).bind fun r_79=>bif (!(decide (r_79<(0:Int)))) then some (.next ((IntKind.i64.wrap ((bH (IntKind.i64.wrap (start_74+r_75)))+(1:Int))),r_75)) else
 some (.next (start_74,(bH (IntKind.i64.wrap (start_74+r_75)))))) else none) else none) else none) else none else
 some (.exit (start_74,r_75))
def tQ {α:Type} (a_data:List α) (a_a:Int) (a_m:Int) (a_b:Int) (a_cmp:α->α->Option (Int)) (n:Nat) (rec:Nat->List α->Int->Int->Int->(α->α->Option Int)->Option (List α)):Sum (Int × Int) (List α)->Option ((List α))
 | .inl (start_74,r_75)=>bif (decide (start_74<a_m)) then bif (decide (a_m<(IntKind.i64.wrap ((IntKind.i64.wrap ((bH (IntKind.i64.wrap (a_a+a_b)))+a_m))-start_74)))) then (nY n a_data start_74 a_m (IntKind.i64.wrap ((IntKind.i64.wrap ((bH (IntKind.i64.wrap (a_a+a_b)))+a_m))-start_74)) a_cmp).bind fun c_83=>bif (decide (a_a<start_74)) then bif (decide (start_74<(bH (IntKind.i64.wrap (a_a+a_b))))) then (rec n c_83 a_a start_74 (bH (IntKind.i64.wrap (a_a+a_b))) a_cmp).bind fun c_86=>bif (decide ((bH (IntKind.i64.wrap (a_a+a_b)))<(IntKind.i64.wrap ((IntKind.i64.wrap ((bH (IntKind.i64.wrap (a_a+a_b)))+a_m))-start_74)))) then bif (decide ((IntKind.i64.wrap ((IntKind.i64.wrap ((bH (IntKind.i64.wrap (a_a+a_b)))+a_m))-start_74))<a_b)) then (rec n c_86 (bH (IntKind.i64.wrap (a_a+a_b))) (IntKind.i64.wrap ((IntKind.i64.wrap ((bH (IntKind.i64.wrap (a_a+a_b)))+a_m))-start_74)) a_b a_cmp).bind fun c_89=>some c_89 else
 some c_86 else
 some c_86 else
 bif (decide ((bH (IntKind.i64.wrap (a_a+a_b)))<(IntKind.i64.wrap ((IntKind.i64.wrap ((bH (IntKind.i64.wrap (a_a+a_b)))+a_m))-start_74)))) then bif (decide ((IntKind.i64.wrap ((IntKind.i64.wrap ((bH (IntKind.i64.wrap (a_a+a_b)))+a_m))-start_74))<a_b)) then (rec n c_83 (bH (IntKind.i64.wrap (a_a+a_b))) (IntKind.i64.wrap ((IntKind.i64.wrap ((bH (IntKind.i64.wrap (a_a+a_b)))+a_m))-start_74)) a_b a_cmp).bind fun c_92=>some c_92 else
 some c_83 else
 some c_83 else
 bif (decide ((bH (IntKind.i64.wrap (a_a+a_b)))<(IntKind.i64.wrap ((IntKind.i64.wrap ((bH (IntKind.i64.wrap (a_a+a_b)))+a_m))-start_74)))) then bif (decide ((IntKind.i64.wrap ((IntKind.i64.wrap ((bH (IntKind.i64.wrap (a_a+a_b)))+a_m))-start_74))<a_b)) then (rec n c_83 (bH (IntKind.i64.wrap (a_a+a_b))) (IntKind.i64.wrap ((IntKind.i64.wrap ((bH (IntKind.i64.wrap (a_a+a_b)))+a_m))-start_74)) a_b a_cmp).bind fun c_95=>some c_95 else
 some c_83 else
 some c_83 else
 bif (decide (a_a<start_74)) then bif (decide (start_74<(bH (IntKind.i64.wrap (a_a+a_b))))) then (rec n a_data a_a start_74 (bH (IntKind.i64.wrap (a_a+a_b))) a_cmp).bind fun c_98=>bif (decide ((bH (IntKind.i64.wrap (a_a+a_b)))<(IntKind.i64.wrap ((IntKind.i64.wrap ((bH (IntKind.i64.wrap (a_a+a_b)))+a_m))-start_74)))) then bif (decide ((IntKind.i64.wrap ((IntKind.i64.wrap ((bH (IntKind.i64.wrap (a_a+a_b)))+a_m))-start_74))<a_b)) then (rec n c_98 (bH (IntKind.i64.wrap (a_a+a_b))) (IntKind.i64.wrap ((IntKind.i64.wrap ((bH (IntKind.i64.wrap (a_a+a_b)))+a_m))-start_74)) a_b a_cmp).bind fun c_101=>some c_101 else
 some c_98 else
 some c_98 else
 bif (decide ((bH (IntKind.i64.wrap (a_a+a_b)))<(IntKind.i64.wrap ((IntKind.i64.wrap ((bH (IntKind.i64.wrap (a_a+a_b)))+a_m))-start_74)))) then bif (decide ((IntKind.i64.wrap ((IntKind.i64.wrap ((bH (IntKind.i64.wrap (a_a+a_b)))+a_m))-start_74))<a_b)) then (rec n a_data (bH (IntKind.i64.wrap (a_a+a_b))) (IntKind.i64.wrap ((IntKind.i64.wrap ((bH (IntKind.i64.wrap (a_a+a_b)))+a_m))-start_74)) a_b a_cmp).bind fun c_104=>some c_104 else
 some a_data else
 some a_data else
 bif (decide ((bH (IntKind.i64.wrap (a_a+a_b)))<(IntKind.i64.wrap ((IntKind.i64.wrap ((bH (IntKind.i64.wrap (a_a+a_b)))+a_m))-start_74)))) then bif (decide ((IntKind.i64.wrap ((IntKind.i64.wrap ((bH (IntKind.i64.wrap (a_a+a_b)))+a_m))-start_74))<a_b)) then (rec n a_data (bH (IntKind.i64.wrap (a_a+a_b))) (IntKind.i64.wrap ((IntKind.i64.wrap ((bH (IntKind.i64.wrap (a_a+a_b)))+a_m))-start_74)) a_b a_cmp).bind fun c_107=>some c_107 else
 some a_data else
 some a_data else
 bif (decide (a_a<start_74)) then bif (decide (start_74<(bH (IntKind.i64.wrap (a_a+a_b))))) then (rec n a_data a_a start_74 (bH (IntKind.i64.wrap (a_a+a_b))) a_cmp).bind fun c_110=>bif (decide ((bH (IntKind.i64.wrap (a_a+a_b)))<(IntKind.i64.wrap ((IntKind.i64.wrap ((bH (IntKind.i64.wrap (a_a+a_b)))+a_m))-start_74)))) then bif (decide ((IntKind.i64.wrap ((IntKind.i64.wrap ((bH (IntKind.i64.wrap (a_a+a_b)))+a_m))-start_74))<a_b)) then (rec n c_110 (bH (IntKind.i64.wrap (a_a+a_b))) (IntKind.i64.wrap ((IntKind.i64.wrap ((bH (IntKind.i64.wrap (a_a+a_b)))+a_m))-start_74)) a_b a_cmp).bind fun c_113=>some c_113 else
 some c_110 else
 some c_110 else
 bif (decide ((bH (IntKind.i64.wrap (a_a+a_b)))<(IntKind.i64.wrap ((IntKind.i64.wrap ((bH (IntKind.i64.wrap (a_a+a_b)))+a_m))-start_74)))) then bif (decide ((IntKind.i64.wrap ((IntKind.i64.wrap ((bH (IntKind.i64.wrap (a_a+a_b)))+a_m))-start_74))<a_b)) then (rec n a_data (bH (IntKind.i64.wrap (a_a+a_b))) (IntKind.i64.wrap ((IntKind.i64.wrap ((bH (IntKind.i64.wrap (a_a+a_b)))+a_m))-start_74)) a_b a_cmp).bind fun c_116=>some c_116 else
 some a_data else
 some a_data else
 bif (decide ((bH (IntKind.i64.wrap (a_a+a_b)))<(IntKind.i64.wrap ((IntKind.i64.wrap ((bH (IntKind.i64.wrap (a_a+a_b)))+a_m))-start_74)))) then bif (decide ((IntKind.i64.wrap ((IntKind.i64.wrap ((bH (IntKind.i64.wrap (a_a+a_b)))+a_m))-start_74))<a_b)) then (rec n a_data (bH (IntKind.i64.wrap (a_a+a_b))) (IntKind.i64.wrap ((IntKind.i64.wrap ((bH (IntKind.i64.wrap (a_a+a_b)))+a_m))-start_74)) a_b a_cmp).bind fun c_119=>some c_119 else
 some a_data else
 some a_data
 | .inr q=>some q
def rH {α:Type} (rec:Nat->List α->Int->Int->Int->(α->α->Option Int)->Option (List α)) (n:Nat) (a_data:(List α)) (a_a:Int) (a_m:Int) (a_b:Int) (a_cmp:α->α->Option (Int)):Option (List α):=bif (decide ((IntKind.i64.wrap (a_m-a_a))=(1:Int))) then (ah (oU a_data a_a a_cmp n) fuel (a_m,a_b)).bind (sS a_data a_a n) else
 bif (decide ((IntKind.i64.wrap (a_b-a_m))=(1:Int))) then (ah (pz a_data a_m a_cmp n) fuel (a_a,a_m)).bind (sI a_data a_m n) else
 bif (decide ((bH (IntKind.i64.wrap (a_a+a_b)))<a_m)) then (ah (kV a_data a_a a_m a_b a_cmp n) fuel ((IntKind.i64.wrap ((IntKind.i64.wrap ((bH (IntKind.i64.wrap (a_a+a_b)))+a_m))-a_b)),(bH (IntKind.i64.wrap (a_a+a_b))))).bind (kR a_data a_a a_m a_b a_cmp n rec) else
 (ah (yf a_data a_a a_m a_b a_cmp n) fuel (a_a,a_m)).bind (tQ a_data a_a a_m a_b a_cmp n rec)
def CB {α:Type} : Nat->Nat->List α->Int->Int->Int->(α->α->Option Int)->Option (List α)
 | 0,_,_,_,_,_,_=>none
 | q+1,n,X,a,m,b,cmp=>rH (CB q) n X a m b cmp
def iP {α:Type} (a_n:Int) (a_cmp:α->α->Option (Int)) (n:Nat) (blockSize_8:Int):((List α) × Int × Int)->Option (Step ((List α) × Int × Int) (List α)):=fun s=>match s with
 | (c_10,a_11,b_12)=>bif (decide (b_12<=a_n)) then (CB fuel n c_10 a_11 (IntKind.i64.wrap (a_11+blockSize_8)) b_12 a_cmp).bind fun c_14=>some (.next (c_14,b_12,(IntKind.i64.wrap (b_12+(IntKind.i64.wrap ((2:Int)*blockSize_8)))))) else
 some (.exit (c_10,a_11,b_12))
def qH {α:Type} (a_n:Int) (a_cmp:α->α->Option (Int)) (n:Nat) (blockSize_8:Int):Sum ((List α) × Int × Int) (List α)->Option (Step ((List α) × Int) (List α))
 | .inl (c_10,a_11,b_12)=>bif (decide ((IntKind.i64.wrap (a_11+blockSize_8))<a_n)) then (CB fuel n c_10 a_11 (IntKind.i64.wrap (a_11+blockSize_8)) a_n a_cmp).bind fun c_16=>some (.next (c_16,(IntKind.i64.wrap (blockSize_8*(2:Int))))) else
 some (.next (c_10,(IntKind.i64.wrap (blockSize_8*(2:Int)))))
 | .inr q=>some (.ret q)
def iQ {α:Type} (a_n:Int) (a_cmp:α->α->Option (Int)) (n:Nat):((List α) × Int)->Option (Step ((List α) × Int) (List α)):=fun s=>match s with
 | (c_7,blockSize_8)=>bif (decide (blockSize_8<a_n)) then (ah (iP a_n a_cmp n blockSize_8) fuel (c_7,(0:Int),(IntKind.i64.wrap ((2:Int)*blockSize_8)))).bind (qH a_n a_cmp n blockSize_8) else
 some (.exit (c_7,blockSize_8))
def wI {α:Type} : Sum ((List α) × Int) (List α)->Option ((List α))
 | .inl (c_7,blockSize_8)=>some c_7
 | .inr q=>some q
def iK {α:Type} (a_n:Int) (a_cmp:α->α->Option (Int)) (n:Nat):((List α) × Int × Int)->Option (Step ((List α) × Int × Int) (List α)):=fun s=>match s with
 | (c_1,a_2,b_3)=>bif (decide (b_3<=a_n)) then (pJ n c_1 a_2 b_3 a_cmp).bind fun c_5=>some (.next (c_5,b_3,(IntKind.i64.wrap (b_3+(20:Int))))) else
 some (.exit (c_1,a_2,b_3))
def qM {α:Type} (a_n:Int) (a_cmp:α->α->Option (Int)) (n:Nat):Sum ((List α) × Int × Int) (List α)->Option ((List α))
 | .inl (c_1,a_2,b_3)=>(pJ n c_1 a_2 a_n a_cmp).bind fun c_6=>(ah (iQ a_n a_cmp n) fuel (c_6,(20:Int))).bind (wI)
 | .inr q=>some q
def xh {α:Type} (n:Nat) (a_data:(List α)) (a_n:Int) (a_cmp:α->α->Option (Int)):Option (List α):=(ah (iK a_n a_cmp n) fuel (a_data,(0:Int),(20:Int))).bind (qM a_n a_cmp n)
def yD {α:Type} (n:Nat) (a_x:(List α)) (a_cmp:α->α->Option (Int)):Option (List α):=(xh n a_x ((n:Nat):Int) a_cmp).bind fun c_1=>some c_1
section
variable {α:Type} {lt:α->α->Bool} {S:α->Prop}
structure xG (lt:α->α->Bool) (S:α->Prop):Prop where
 irr : ∀ x,S x->lt x x=false
 tr : ∀ x y z,S x->S y->S z->lt x y=true->lt y z=true->lt x z=true
 tot : ∀ x y,S x->S y->lt x y=false->lt y x=false->x=y
theorem xG.mono {S':α->Prop} (h:xG lt S) (k : ∀ x,S' x->S x):xG lt S' :=
 ⟨fun x hx=>h.irr x (k x hx),fun x y z hx hy hz=>h.tr x y z (k x hx) (k y hy) (k z hz),fun x y hx hy=>h.tot x y (k x hx) (k y hy)⟩
def dS (lt:α->α->Bool) (l:List α):Prop:=l.Pairwise fun a b=>lt b a=false
theorem xG.le_tr (h:xG lt S) {x y z:α} (sx:S x) (sy:S y) (sz:S z) (h1:lt y x=false) (h2:lt z y=false):lt z x=false:=by
 cases h3:lt z x with
 | false=>rfl
 | true =>
  cases h4:lt x y with
  | true=>rw [h.tr z x y sz sx sy h3 h4] at h2;cases h2
  | false=>have:=h.tot x y sx sy h4 h1;subst this;rw [h3] at h2;cases h2
theorem xG.le_of (h:xG lt S) {x y:α} (sx:S x) (sy:S y) (h1:lt x y=true):lt y x=false:=by
 cases h2:lt y x with
 | false=>rfl
 | true=>have:=h.tr x y x sx sy sx h1 h2;rw [h.irr x sx] at this;cases this
theorem J4 (h:xG lt S) {L:List α} {x y:α} (hS : ∀ z∈L++[x],S z) (ha:dS lt (L++[x])) (hy:y∈L++[x]):lt x y=false:=by
 rcases Zq.1 hy with hy|hy
 ·exact (List.pairwise_append.1 ha).2.2 y hy x (by simp)
 ·simp at hy;subst hy;exact h.irr y (hS y (by simp))
theorem Jt (h:xG lt S) {L:List α} {x y:α} (hS : ∀ z∈x::L,S z) (ha:dS lt (x::L)) (hy:y∈x::L):lt y x=false:=by
 rcases Zf.1 hy with rfl|hy
 ·exact h.irr y (hS y (by simp))
 ·exact (List.pairwise_cons.1 ha).1 y hy
theorem MF (h:xG lt S) {A B:List α} (hA : ∀ z∈A,S z) (hB : ∀ z∈B,S z) (a:dS lt A) (b:dS lt B) (hg:A=[]\/B=[] \/ ∃ A' x y B',A=A'++[x]/\B=y::B'/\lt y x=false) : ∀ x∈A, ∀ y∈B,lt y x=false:=by
 intro u hu v hv
 rcases hg with rfl|rfl|⟨A',x,y,B',rfl,rfl,hxy⟩
 ·simp at hu
 ·simp at hv
 ·have s1:=hA u hu;have s2:=hA x (by simp);have s3:=hB y (by simp);have s4:=hB v hv
  exact h.le_tr s1 s2 s4 (J4 h hA a hu) (h.le_tr s2 s3 s4 hxy (Jt h hB b hv))
theorem Bl (h:xG lt S) {L1 L2:List α} {x:α} (sx:S x) (hS : ∀ z∈L1++L2,S z) (ha:dS lt (L1++L2)) (h1:L1=[] \/ ∃ L y,L1=L++[y]/\lt x y=false) (h2:L2=[] \/ ∃ z L,L2=z::L/\lt z x=false):dS lt (L1++x::L2):=by
 have hp:=List.pairwise_append.1 ha
 refine List.pairwise_append.2 ⟨hp.1,List.pairwise_cons.2 ⟨fun v hv=>?_,hp.2.1⟩,fun u hu v hv=>?_⟩
 ·rcases h2 with rfl|⟨z,L,rfl,hz⟩
  ·simp at hv
  ·exact h.le_tr sx (hS z (by simp)) (hS v (by simp at hv ⊢;exact .inr hv)) hz (Jt h (fun w hw=>hS w (by simp at hw ⊢;exact .inr hw)) hp.2.1 hv)
 ·rcases Zf.1 hv with rfl|hv
  ·rcases h1 with rfl|⟨L,y,rfl,hy⟩
   ·simp at hu
   ·exact h.le_tr (hS u (by simp at hu ⊢;rcases hu with hu|hu;exact .inl hu;exact .inr (.inl hu))) (hS y (by simp)) sx (J4 h (fun w hw=>hS w (List.mem_append_left _ hw)) hp.1 hu) hy
  ·exact hp.2.2 u hu v hv
theorem Kv (h:xG lt S) {A1 A2 B1 B2 M1 M2:List α} (hS : ∀ z∈(A1++A2)++(B1++B2),S z) (hA:dS lt (A1++A2)) (hB:dS lt (B1++B2)) (h1:A1=[]\/B2=[] \/ ∃ A' x y B',A1=A'++[x]/\B2=y::B'/\lt y x=false) (h2:B1=[]\/A2=[] \/ ∃ A' x y B',B1=A'++[x]/\A2=y::B'/\lt y x=false)
  (m1:dS lt M1) (m2:dS lt M2) (p1:M1.Perm (A1++B1)) (p2:M2.Perm (A2++B2)):dS lt (M1++M2):=by
 have pa:=List.pairwise_append.1 hA
 have pb:=List.pairwise_append.1 hB
 have g1:=MF h (fun z hz=>hS z (by simp [hz])) (fun z hz=>hS z (by simp [hz])) pa.1 pb.2.1 h1
 have g2:=MF h (fun z hz=>hS z (by simp [hz])) (fun z hz=>hS z (by simp [hz])) pb.1 pa.2.1 h2
 refine List.pairwise_append.2 ⟨m1,m2,fun x hx y hy=>?_⟩
 rcases Zq.1 (p1.mem_iff.1 hx) with hx|hx<;>rcases Zq.1 (p2.mem_iff.1 hy) with hy|hy
 ·exact pa.2.2 x hx y hy
 ·exact g1 x hx y hy
 ·exact g2 x hx y hy
 ·exact pb.2.2 x hx y hy
theorem II {A1 A2 B1 B2 M1 M2:List α} (p1:M1.Perm (A1++B1)) (p2:M2.Perm (A2++B2)):(M1++M2).Perm ((A1++A2)++(B1++B2)):=by
 refine (p1.append p2).trans ?_
 rw [Zp,Zp]
 refine List.Perm.append_left A1 ?_
 rw [<- Zp, <- Zp]
 exact List.Perm.append_right B2 List.perm_append_comm
theorem Mr {β:Type} (f:α->β) (U V T:List α) (x y:α):(((U++x::(V++y::T)).map f).set U.length (f y)).set (U.length+1+V.length) (f x)=(U++y::(V++x::T)).map f:=by
 rw [Zb,Y9,List.set_append_right _ _ (by simp)]
 simp only [Y_,Nat.sub_self,List.set_cons_zero]
 rw [List.set_append_right _ _ (by simp;omega)]
 simp only [Y_]
 rw [show U.length+1+V.length-U.length=V.length+1 by omega,List.set_cons_succ,Zb,List.set_append_right _ _ (by simp)]
 simp
theorem get_at (U:List α) (x:α) (T:List α):(U++x::T)[U.length]?=some x:=by simp
theorem Bj (U V T:List α) (x y:α):(U++x::(V++y::T))[U.length+1+V.length]?=some y:=by
 rw [Y5 (by omega),show U.length+1+V.length-U.length=V.length+1 by omega,List.getElem?_cons_succ,Y5 (by omega)]
 simp
end
section
variable {α:Type}
theorem Px (a b:Nat) (h:a+b<=4611686018427387904):IntKind.i64.wrap ((a:Int)+(b:Int))=((a+b:Nat):Int):=by rw [bV (by omega)];omega
theorem NH (a b:Nat) (h:b<=a) (h2:a<=4611686018427387904):IntKind.i64.wrap ((a:Int)-(b:Int))=((a-b:Nat):Int):=by rw [bV (by omega)];omega
theorem EY {i n:Nat} (h:i<n):decide ((i:Int)<((n:Nat):Int))=true:=Y2 (by omega)
theorem JU (i:Nat):decide ((0:Int)<=(i:Int))=true:=Y2 (by omega)
theorem M5 (i:Nat):0+((i:Int)).toNat=i:=by omega
theorem NU {n:Nat} {c:List α} {a b k i:Nat} {x y:α} (hn:c.length=n) (hn2:n<=1000000000) (hk:i<k) (ha:c[a+i]?=some x) (hb:c[b+i]?=some y):d_ (a:Int) (b:Int) (k:Int) n (c,(i:Int))=some (.next ((c.set (a+i) y).set (b+i) x,((i+1:Nat):Int))):=by
 have h1:=(YY.1 ha).1
 have h2:=(YY.1 hb).1
 unfold d_
 dsimp only
 rw [Px a i (by omega),Px b i (by omega),wrapN (by omega)]
 simp only [EY hk,JU,EY (show a+i<n by omega),EY (show b+i<n by omega),Y0,gn_ ha,gn_ hb,YX,M5,List.length_set,Y2 (show a+i<c.length by omega),Y2 (show b+i<c.length by omega)]
theorem Og {n:Nat} {c:List α} {a b:Int} {k i:Nat} (hk : ¬ i<k):d_ a b (k:Int) n (c,(i:Int))=some (.exit (c,(i:Int))):=by
 unfold d_
 dsimp only
 rw [Y1 (by omega),YZ]
theorem FD {n:Nat} (hn2:n<=1000000000) (a b k:Nat) : ∀ (U W P V Q:List α) (N i:Nat),U.length=W.length->P.length=a+i->P.length+U.length+V.length=b+i->i+U.length=k->(P++(U++(V++(W++Q)))).length=n->U.length<N->ah (d_ (a:Int) (b:Int) (k:Int) n) N (P++(U++(V++(W++Q))),(i:Int))=some (.inl (P++(W++(V++(U++Q))),((k:Nat):Int)))
 | U,W,P,V,Q,0,i,_,_,_,_,_,h=>by omega
 | [],W,P,V,Q,N+1,i,hl,hp,hb,hi,hn,_=>by
  have hW:W=[]:=ZA.1 hl.symm
  subst hW
  rw [ah,Og (by simp at hi;omega)]
  simp only [Zu,Nat.add_zero] at hi
  subst hi
  rfl
 | u::U,[],P,V,Q,N+1,i,hl,_,_,_,_,_=>by simp at hl
 | u::U,w::W,P,V,Q,N+1,i,hl,hp,hb,hi,hn,hN=>by
  simp only [Zk] at hl hb hi hN
  have e:P++(u::U++(V++(w::W++Q)))=P++u::((U++V)++w::(W++Q)):=by simp
  rw [ah,e,NU (x:=u) (y:=w) (by rw [<- e];exact hn) hn2 (by omega) (by rw [<- hp];exact get_at _ _ _) (by have:=Bj P (U++V) (W++Q) u w;rwa [show P.length+1+(U++V).length=b+i by simp;omega] at this)]
  have s2:=Mr (f:=fun x:α=>x) P (U++V) (W++Q) u w
  rw [List.map_id',List.map_id',show P.length+1+(U++V).length=b+i by simp;omega,hp] at s2
  rw [s2]
  have e2:P++w::((U++V)++u::(W++Q))=(P++[w])++(U++((V++[u])++(W++Q))):=by simp
  show ah _ N (P++w::((U++V)++u::(W++Q)),((i+1:Nat):Int))=_
  rw [e2,FD hn2 a b k U W (P++[w]) (V++[u]) Q N (i+1) (by omega) (by simp;omega) (by simp;omega) (by omega) (by rw [<- hn];simp only [Y6,Zk,Zu];omega) (by omega)]
  simp
theorem oG {n:Nat} (hn2:n<=1000000000) {P U V W Q:List α} (cmp:α->α->Option Int) (hl:U.length=W.length) (hn:(P++(U++(V++(W++Q)))).length=n):iO n (P++(U++(V++(W++Q)))) (P.length:Int) ((P.length+U.length+V.length:Nat):Int) (U.length:Int) cmp=some (P++(W++(V++(U++Q)))):=by
 unfold iO
 have:=FD hn2 P.length (P.length+U.length+V.length) U.length U W P V Q fuel 0 hl (by omega) (by omega) (by omega) hn (by simp at hn;unfold fuel;omega)
 rw [show ((0:Nat):Int)=0 from rfl] at this
 rw [this];rfl
theorem uu {n:Nat} (hn2:n<=1000000000) (cmp:α->α->Option Int) (m:Nat) : ∀ (N:Nat) (P A B Q:List α),P.length+A.length=m->0<A.length->0<B.length->(P++(A++(B++Q))).length=n->A.length+B.length<N -> ∃ P' A' B' Q',ah (fF (m:Int) cmp n) N (P++(A++(B++Q)),(A.length:Int),(B.length:Int))=some (.inl (P'++(A'++(B'++Q')),(A'.length:Int),(B'.length:Int)))/\A'.length=B'.length/\P'.length+A'.length=m/\P'++(B'++(A'++Q'))=P++(B++(A++Q))/\(P'++(A'++(B'++Q'))).length=n
 | 0,P,A,B,Q,_,_,_,_,h=>by omega
 | N+1,P,A,B,Q,hm,hA,hB,hn,hN=>by
  have hn':=hn
  simp only [Y6] at hn'
  rw [ah]
  by_cases h0:A.length=B.length
  ·have hb:fF (m:Int) cmp n (P++(A++(B++Q)),(A.length:Int),(B.length:Int))=some (.exit (P++(A++(B++Q)),(A.length:Int),(B.length:Int))):=by
    unfold fF
    dsimp only
    rw [Y1 (by omega),YZ]
   rw [hb]
   exact ⟨P,A,B,Q,rfl,h0,hm,rfl,hn⟩
  ·by_cases h1:B.length<A.length
   ·have hs:=oG hn2 (P:=P) (U:=A.take B.length) (V:=A.drop B.length) (W:=B) (Q:=Q) cmp (by rw [ZL];omega) (by rw [<- hn];simp;omega)
    have eA:A.take B.length++(A.drop B.length++(B++Q))=A++(B++Q):=by rw [<- Zp,List.take_append_drop]
    rw [eA] at hs
    have hb:fF (m:Int) cmp n (P++(A++(B++Q)),(A.length:Int),(B.length:Int))=some (.next (P++(B++(A.drop B.length++(A.take B.length++Q))),((A.length-B.length:Nat):Int),(B.length:Int))):=by
     unfold fF
     dsimp only
     rw [Y2 (show (A.length:Int)≠(B.length:Int) by omega),Y0,Y2 (show (B.length:Int)<(A.length:Int) by omega),Y0,NH m A.length (by omega) (by omega),NH A.length B.length (by omega) (by omega),show m-A.length=P.length by omega]
     rw [ZL,List.length_drop,Nat.min_eq_left (by omega),show P.length+B.length+(A.length-B.length)=m by omega] at hs
     rw [hs];rfl
    rw [hb]
    obtain ⟨P',A',B',Q',k1,k2,k3,k4,k5⟩:=uu hn2 cmp m N (P++B) (A.drop B.length) (A.take B.length) Q (by simp;omega) (by simp;omega) (by simp;omega) (by rw [<- hn];simp;omega) (by simp;omega)
    refine ⟨P',A',B',Q',?_,k2,k3,?_,k5⟩
    ·rw [<- k1]
     simp only [List.length_drop,ZL,Nat.min_eq_left (Nat.le_of_lt h1),Zp]
    ·rw [k4]
     simp only [Zp]
     rw [<- Zp (A.take B.length),List.take_append_drop]
   ·have hs:=oG hn2 (P:=P) (U:=A) (V:=B.take (B.length-A.length)) (W:=B.drop (B.length-A.length)) (Q:=Q) cmp (by rw [List.length_drop];omega) (by rw [<- hn];simp;omega)
    have eB:B.take (B.length-A.length)++(B.drop (B.length-A.length)++Q)=B++Q:=by rw [<- Zp,List.take_append_drop]
    rw [eB] at hs
    have hb:fF (m:Int) cmp n (P++(A++(B++Q)),(A.length:Int),(B.length:Int))=some (.next (P++(B.drop (B.length-A.length)++(B.take (B.length-A.length)++(A++Q))),(A.length:Int),((B.length-A.length:Nat):Int))):=by
     unfold fF
     dsimp only
     rw [Y2 (show (A.length:Int)≠(B.length:Int) by omega),Y0,Y1 (show ¬ (B.length:Int)<(A.length:Int) by omega),YZ,NH m A.length (by omega) (by omega),Px m B.length (by omega),NH (m+B.length) A.length (by omega) (by omega),NH B.length A.length (by omega) (by omega),show m-A.length=P.length by omega]
     rw [ZL,Nat.min_eq_left (by omega),show P.length+A.length+(B.length-A.length)=m+B.length-A.length by omega] at hs
     rw [hs];rfl
    rw [hb]
    obtain ⟨P',A',B',Q',k1,k2,k3,k4,k5⟩:=uu hn2 cmp m N P (B.drop (B.length-A.length)) (B.take (B.length-A.length)) (A++Q) (by simp;omega) (by simp;omega) (by simp;omega) (by rw [<- hn];simp;omega) (by simp;omega)
    refine ⟨P',A',B',Q',?_,k2,k3,?_,k5⟩
    ·rw [<- k1]
     simp only [List.length_drop,ZL,Nat.min_eq_left (Nat.sub_le _ _),show B.length-(B.length-A.length)=A.length by omega]
    ·rw [k4]
     simp only [<- Zp]
     rw [Zp P,List.take_append_drop]
theorem K_ {n:Nat} (hn2:n<=1000000000) {P A B Q:List α} (cmp:α->α->Option Int) (hA:0<A.length) (hB:0<B.length) (hn:(P++(A++(B++Q))).length=n):nY n (P++(A++(B++Q))) (P.length:Int) ((P.length+A.length:Nat):Int) ((P.length+A.length+B.length:Nat):Int) cmp=some (P++(B++(A++Q))):=by
 have hn':=hn
 simp only [Y6] at hn'
 unfold nY
 rw [NH (P.length+A.length) P.length (by omega) (by omega),NH (P.length+A.length+B.length) (P.length+A.length) (by omega) (by omega),show P.length+A.length-P.length=A.length by omega,show P.length+A.length+B.length-(P.length+A.length)=B.length by omega]
 obtain ⟨P',A',B',Q',k1,k2,k3,k4,k5⟩:=uu hn2 cmp (P.length+A.length) fuel P A B Q rfl hA hB hn (by unfold fuel;omega)
 rw [k1,YX]
 unfold qE
 dsimp only
 have k5':=k5
 simp only [Y6] at k5'
 have hs:=oG hn2 (P:=P') (U:=A') (V:=[]) (W:=B') (Q:=Q') cmp k2 k5
 rw [Y3,Y3,Zu,Nat.add_zero,k3] at hs
 rw [NH (P.length+A.length) A'.length (by omega) (by omega),show P.length+A.length-A'.length=P'.length by omega,hs,k4];rfl
end
section
variable {α:Type} {lt:α->α->Bool} {S:α->Prop} {cmp:α->α->Option Int}
theorem u64_in {x:Int} (h0:0<=x) (h:x<=4611686018427387904):IntKind.u64.wrap x=x:=by
 simp only [IntKind.wrap,IntKind.bits,IntKind.signed]
 simp
 omega
theorem zB {i j:Nat} (h:i+j<=4611686018427387904):bH (IntKind.i64.wrap ((i:Int)+(j:Int)))=(((i+j)/2:Nat):Int):=by
 rw [Px i j h]
 show IntKind.i64.wrap (Int.fdiv (IntKind.u64.wrap ((i+j:Nat):Int)) 2)=_
 rw [u64_in (by omega) (by omega),Int.fdiv_eq_ediv_of_nonneg _ (by omega),bV (by omega)]
 omega
def nH (cmp:α->α->Option Int) (lt:α->α->Bool) (S:α->Prop):Prop := ∀ x y,S x->S y -> ∃ r,cmp x y=some r/\decide (r<0)=lt x y
theorem Vv (a:Nat) (h:1<=a) (h2:a<=4611686018427387904):IntKind.i64.wrap ((a:Int)-1)=((a-1:Nat):Int):=by rw [bV (by omega)];omega
theorem ES (h:xG lt S) (hc:nH cmp lt S) {n:Nat} (hn2:n<=1000000000) (P Q:List α) (x:α) (sx:S x) : ∀ (k:Nat) (L1 L2:List α) (N:Nat),L1.length=k->(∀ z∈L1++L2,S z)->dS lt (L1++L2)->(L2=[] \/ ∃ z L,L2=z::L/\lt z x=false)->(P++((L1++x::L2)++Q)).length=n->k<N ->
  ∃ M j,ah (dQ (P.length:Int) cmp n) N (P++((L1++x::L2)++Q),((P.length+k:Nat):Int))=some (.inl (P++(M++Q),j))/\dS lt M/\M.Perm (x::(L1++L2))
 | k,L1,L2,0,_,_,_,_,_,hN=>by omega
 | 0,L1,L2,N+1,hk,hS,ha,h2,hn,hN=>by
  have:L1=[]:=ZA.1 hk
  subst this
  rw [ah]
  have hb:dQ (P.length:Int) cmp n (P++(([]++x::L2)++Q),((P.length+0:Nat):Int))=some (.exit (P++(([]++x::L2)++Q),((P.length+0:Nat):Int))):=by
   unfold dQ
   dsimp only
   rw [Y1 (by omega),YZ]
  rw [hb]
  refine ⟨x::L2,_,rfl,?_, .refl _⟩
  have:=Bl h (L1:=[]) (L2:=L2) sx hS ha (.inl rfl) h2
  exact this
 | k+1,L1,L2,N+1,hk,hS,ha,h2,hn,hN=>by
  obtain ⟨L,y,rfl⟩ : ∃ L y,L1=L++[y]:=by
   rcases List.eq_nil_or_concat L1 with e|⟨L,y,e⟩
   ·subst e;simp at hk
   ·exact ⟨L,y,by simpa using e⟩
  have hL:L.length=k:=by simp at hk;exact hk
  have hn':=hn
  simp only [Y6,Zk,Zu] at hn'
  have sy:S y:=hS y (by simp)
  have e1:P++((L++[y])++x::L2++Q)=(P++L)++y::([]++x::(L2++Q)):=by simp
  have g1:(P++((L++[y])++x::L2++Q))[P.length+k]?=some y:=by rw [e1, <- hL, <- Y6];exact get_at _ _ _
  have g2:(P++((L++[y])++x::L2++Q))[P.length+(k+1)]?=some x:=by
   have:=Bj (P++L) [] (L2++Q) y x
   rw [<- e1] at this
   rwa [show (P++L).length+1+([]:List α).length=P.length+(k+1) by simp;omega] at this
  obtain ⟨r,hr,hr2⟩:=hc x y sx sy
  rw [ah]
  cases hxy:lt x y with
  | false =>
   have hb:dQ (P.length:Int) cmp n (P++((L++[y])++x::L2++Q),((P.length+(k+1):Nat):Int))=some (.exit (P++((L++[y])++x::L2++Q),((P.length+(k+1):Nat):Int))):=by
    unfold dQ
    dsimp only
    rw [Vv _ (by omega) (by omega),show P.length+(k+1)-1=P.length+k by omega]
    simp only [Y2 (show (P.length:Int)<((P.length+(k+1):Nat):Int) by omega),JU,EY (show P.length+(k+1)<n by omega),EY (show P.length+k<n by omega),Y0,gn_ g1,gn_ g2,YX,hr,hr2,hxy,YZ]
   rw [hb]
   refine ⟨(L++[y])++x::L2,_,rfl,Bl h sx hS ha (.inr ⟨L,y,rfl,hxy⟩) h2,List.perm_middle⟩
  | true =>
   have hb:dQ (P.length:Int) cmp n (P++((L++[y])++x::L2++Q),((P.length+(k+1):Nat):Int))=some (.next (P++((L++x::(y::L2))++Q),((P.length+k:Nat):Int))):=by
    unfold dQ
    dsimp only
    rw [Vv _ (by omega) (by omega),show P.length+(k+1)-1=P.length+k by omega]
    simp only [Y2 (show (P.length:Int)<((P.length+(k+1):Nat):Int) by omega),JU,EY (show P.length+(k+1)<n by omega),EY (show P.length+k<n by omega),Y0,gn_ g1,gn_ g2,YX,hr,hr2,hxy,M5,List.length_set,Y2 (show P.length+(k+1)<(P++((L++[y])++x::L2++Q)).length by omega),Y2 (show P.length+k<(P++((L++[y])++x::L2++Q)).length by omega)]
    have s2:=Mr (f:=fun z:α=>z) (P++L) [] (L2++Q) y x
    rw [List.map_id',List.map_id', <- e1,show (P++L).length=P.length+k by simp;omega,Zu,show P.length+k+1+0=P.length+(k+1) by omega] at s2
    rw [List.set_comm _ _ (by omega),s2]
    simp
   rw [hb]
   obtain ⟨M,j,k1,k2,k3⟩:=ES h hc hn2 P Q x sx k L (y::L2) N hL (fun z hz=>hS z (by simp at hz ⊢;rcases hz with hz|hz|hz<;>simp [hz])) (by simpa using ha) (.inr ⟨y,L2,rfl,h.le_of sx sy hxy⟩) (by rw [<- hn];simp) (by omega)
   exact ⟨M,j,k1,k2,k3.trans (by simp)⟩
theorem Fp (h:xG lt S) (hc:nH cmp lt S) {n:Nat} (hn2:n<=1000000000) (P Q:List α) (b:Nat) : ∀ (R M:List α) (N:Nat),P.length+M.length+R.length=b->(∀ z∈M++R,S z)->dS lt M->(P++(M++(R++Q))).length=n->R.length<N ->
  ∃ M',ah (dU (P.length:Int) (b:Int) cmp n) N (P++(M++(R++Q)),((P.length+M.length:Nat):Int))=some (.inl (P++(M'++Q),(b:Int)))/\dS lt M'/\M'.Perm (M++R)
 | R,M,0,_,_,_,_,hN=>by omega
 | [],M,N+1,hb,hS,ha,hn,hN=>by
  simp only [Zu,Nat.add_zero] at hb
  subst hb
  rw [ah]
  have hB:dU (P.length:Int) ((P.length+M.length:Nat):Int) cmp n (P++(M++([]++Q)),((P.length+M.length:Nat):Int))=some (.exit (P++(M++([]++Q)),((P.length+M.length:Nat):Int))):=by
   unfold dU
   dsimp only
   rw [Y1 (by omega),YZ]
  rw [hB]
  exact ⟨M,rfl,ha,by simp⟩
 | x::R,M,N+1,hb,hS,ha,hn,hN=>by
  have hn':=hn
  simp only [Y6,Zk] at hn' hb
  obtain ⟨M1,j,k1,k2,k3⟩:=ES h hc hn2 P (R++Q) x (hS x (by simp)) M.length M [] fuel rfl (fun z hz=>hS z (by simp at hz ⊢;exact .inl hz)) (by simpa using ha) (.inl rfl) (by rw [<- hn];simp) (by unfold fuel;omega)
  have hl:M1.length=M.length+1:=by rw [k3.length_eq];simp
  have e1:P++((M++x::[])++(R++Q))=P++(M++(x::R++Q)):=by simp
  rw [e1] at k1
  rw [ah]
  have hB:dU (P.length:Int) (b:Int) cmp n (P++(M++(x::R++Q)),((P.length+M.length:Nat):Int))=some (.next (P++(M1++(R++Q)),((P.length+M1.length:Nat):Int))):=by
   unfold dU
   dsimp only
   rw [Y2 (show ((P.length+M.length:Nat):Int)<(b:Int) by omega),Y0,k1,YX]
   unfold jf
   dsimp only
   rw [wrapN (by omega),hl,Nat.add_assoc]
  rw [hB]
  obtain ⟨M',q1,q2,q3⟩:=Fp h hc hn2 P Q b R M1 N (by omega) (fun z hz=>by
   rcases Zq.1 hz with hz|hz
   ·have:=k3.mem_iff.1 hz;simp at this;rcases this with rfl|hz
    ·exact hS z (by simp)
    ·exact hS z (by simp [hz])
   ·exact hS z (by simp [hz])) k2 (by rw [<- hn];simp [hl];omega) (by simp at hN;omega)
  refine ⟨M',q1,q2,q3.trans ?_⟩
  refine (k3.append_right R).trans ?_
  simp only [Zy,List.cons_append]
  exact (List.perm_middle (a:=x) (l₁:=M) (l₂:=R)).symm
theorem zW (h:xG lt S) (hc:nH cmp lt S) {n:Nat} (hn2:n<=1000000000) {P M Q:List α} (hS : ∀ z∈M,S z) (hn:(P++(M++Q)).length=n) : ∃ M',pJ n (P++(M++Q)) (P.length:Int) ((P.length+M.length:Nat):Int) cmp=some (P++(M'++Q))/\dS lt M'/\M'.Perm M:=by
 have hn':=hn
 simp only [Y6] at hn'
 unfold pJ
 rw [show IntKind.i64.wrap ((P.length:Int)+1)=((P.length+1:Nat):Int) from wrapN (by omega)]
 match M,hS,hn,hn' with
 | [],hS,hn,hn' =>
  refine ⟨[],?_,List.Pairwise.nil, .refl _⟩
  have hf:fuel=(fuel-1)+1:=rfl
  rw [hf,ah]
  have hB:dU (P.length:Int) ((P.length+([]:List α).length:Nat):Int) cmp n (P++([]++Q),((P.length+1:Nat):Int))=some (.exit (P++([]++Q),((P.length+1:Nat):Int))):=by
   unfold dU
   dsimp only
   rw [Y1 (by simp only [Zu];omega),YZ]
  rw [hB];rfl
 | x::M,hS,hn,hn' =>
  simp only [Zk] at hn'
  obtain ⟨M',q1,q2,q3⟩:=Fp h hc hn2 P Q (P.length+(x::M).length) M [x] fuel (by simp;omega) (by simpa using hS) (by simp [dS]) (by rw [<- hn];simp) (by unfold fuel;omega)
  refine ⟨M',?_,q2,by simpa using q3⟩
  have e:P++([x]++(M++Q))=P++(x::M++Q):=by simp
  rw [e,show P.length+[x].length=P.length+1 from rfl] at q1
  rw [q1];rfl
end
section
variable {α:Type} {lt:α->α->Bool} {S:α->Prop} {cmp:α->α->Option Int}
theorem xx {β:Type} {body:Int × Int->Option (Step (Int × Int) β)} (lo hi:Nat) (p:Nat->Bool) (hB : ∀ i j:Nat,lo<=i->i<j->j<=hi->body ((i:Int),(j:Int))=some (.next (bif p ((i+j)/2) then ((((i+j)/2+1:Nat):Int),(j:Int)) else ((i:Int),(((i+j)/2:Nat):Int))))) (hE : ∀ i:Nat,body ((i:Int),(i:Int))=some (.exit ((i:Int),(i:Int)))) :
  ∀ (N i j:Nat),lo<=i->i<=j->j<=hi->j-i<N->(i=lo\/p (i-1)=true)->(j=hi\/p j=false) -> ∃ s:Nat,ah body N ((i:Int),(j:Int))=some (.inl ((s:Int),(s:Int)))/\lo<=s/\s<=hi/\(s=lo\/p (s-1)=true)/\(s=hi\/p s=false)
 | 0,i,j,_,_,_,h,_,_=>by omega
 | N+1,i,j,h1,h2,h3,hN,hi1,hj1=>by
  rw [ah]
  by_cases he:i=j
  ·subst he
   rw [hE]
   exact ⟨i,rfl,h1,h3,hi1,hj1⟩
  ·rw [hB i j h1 (by omega) h3]
   cases hp:p ((i+j)/2) with
   | true =>
    rw [Y0]
    exact xx lo hi p hB hE N ((i+j)/2+1) j (by omega) (by omega) h3 (by omega) (.inr (by rw [Nat.add_sub_cancel];exact hp)) hj1
   | false =>
    rw [YZ]
    exact xx lo hi p hB hE N i ((i+j)/2) h1 (by omega) (by omega) (by omega) hi1 (.inr hp)
theorem Pw {n:Nat} (hn2:n<=1000000000) (x:α) (Q:List α) (i:Nat) : ∀ (B P:List α) (N:Nat),P.length+B.length+1=i->(P++x::(B++Q)).length=n->B.length<N -> ∃ k,ah (mJ n (i:Int)) N (P++x::(B++Q),(P.length:Int))=some (.inl (P++(B++x::Q),k))
 | B,P,0,_,_,hN=>by omega
 | [],P,N+1,hi,hn,hN=>by
  simp only [Zu,Nat.add_zero] at hi
  have hn':=hn
  simp only [Y6,Zk] at hn'
  subst hi
  rw [ah]
  have hb:mJ n ((P.length+1:Nat):Int) (P++x::([]++Q),(P.length:Int))=some (.exit (P++x::([]++Q),(P.length:Int))):=by
   unfold mJ
   dsimp only
   rw [Vv _ (by omega) (by omega),Y1 (by omega),YZ]
  rw [hb]
  exact ⟨_,rfl⟩
 | y::B,P,N+1,hi,hn,hN=>by
  simp only [Zk] at hi hN
  have hn':=hn
  simp only [Y6,Zk] at hn'
  have g1:(P++x::(y::B++Q))[P.length]?=some x:=get_at _ _ _
  have g2:(P++x::(y::B++Q))[P.length+1]?=some y:=Bj P [] (B++Q) x y
  rw [ah]
  have hb:mJ n (i:Int) (P++x::(y::B++Q),(P.length:Int))=some (.next ((P++[y])++x::(B++Q),(((P++[y]).length:Nat):Int))):=by
   unfold mJ
   dsimp only
   rw [Vv _ (by omega) (by omega),wrapN (by omega)]
   have s2:=Mr (f:=fun z:α=>z) P [] (B++Q) x y
   rw [List.map_id',List.map_id',Zu,Nat.add_zero] at s2
   have s3:((P++x::(y::B++Q)).set P.length y).set (P.length+1) x=P++y::x::(B++Q):=s2
   simp only [Y2 (show (P.length:Int)<((i-1:Nat):Int) by omega),JU,EY (show P.length+1<n by omega),EY (show P.length<n by omega),Y0,gn_ g1,gn_ g2,YX,M5,List.length_set,Y2 (show P.length+1<(P++x::(y::B++Q)).length by rw [hn];omega),Y2 (show P.length<(P++x::(y::B++Q)).length by rw [hn];omega),s3]
   simp
  rw [hb]
  obtain ⟨k,hk⟩:=Pw hn2 x Q i B (P++[y]) N (by simp;omega) (by rw [<- hn];simp only [Y6,Zk,Zu];omega) (by omega)
  exact ⟨k,by show ah _ N _=_;rw [hk];simp⟩
theorem QS {n:Nat} (hn2:n<=1000000000) (x:α) (P:List α) : ∀ (l:Nat) (A Q:List α) (N:Nat),A.length=l->(P++(A++x::Q)).length=n->l<N -> ∃ k,ah (mG n (P.length:Int)) N (P++(A++x::Q),((P.length+l:Nat):Int))=some (.inl (P++x::(A++Q),k))
 | l,A,Q,0,_,_,hN=>by omega
 | 0,A,Q,N+1,hl,hn,hN=>by
  have:A=[]:=ZA.1 hl
  subst this
  rw [ah]
  have hb:mG n (P.length:Int) (P++([]++x::Q),((P.length+0:Nat):Int))=some (.exit (P++([]++x::Q),((P.length+0:Nat):Int))):=by
   unfold mG
   dsimp only
   rw [Y1 (by omega),YZ]
  rw [hb]
  exact ⟨_,rfl⟩
 | l+1,A,Q,N+1,hl,hn,hN=>by
  obtain ⟨L,y,rfl⟩ : ∃ L y,A=L++[y]:=by
   rcases List.eq_nil_or_concat A with e|⟨L,y,e⟩
   ·subst e;simp at hl
   ·exact ⟨L,y,by simpa using e⟩
  have hL:L.length=l:=by simp at hl;exact hl
  have hn':=hn
  simp only [Y6,Zk,Zu] at hn'
  have e1:P++((L++[y])++x::Q)=(P++L)++y::([]++x::Q):=by simp
  have g1:(P++((L++[y])++x::Q))[P.length+l]?=some y:=by rw [e1, <- hL, <- Y6];exact get_at _ _ _
  have g2:(P++((L++[y])++x::Q))[P.length+(l+1)]?=some x:=by
   have:=Bj (P++L) [] Q y x
   rw [<- e1] at this
   rwa [show (P++L).length+1+([]:List α).length=P.length+(l+1) by simp;omega] at this
  rw [ah]
  have hb:mG n (P.length:Int) (P++((L++[y])++x::Q),((P.length+(l+1):Nat):Int))=some (.next (P++(L++x::(y::Q)),((P.length+l:Nat):Int))):=by
   unfold mG
   dsimp only
   rw [Vv _ (by omega) (by omega),show P.length+(l+1)-1=P.length+l by omega]
   have s2:=Mr (f:=fun z:α=>z) (P++L) [] Q y x
   rw [List.map_id',List.map_id', <- e1,show (P++L).length=P.length+l by simp;omega,Zu,show P.length+l+1+0=P.length+(l+1) by omega,List.set_comm _ _ (by omega)] at s2
   simp only [Y2 (show (P.length:Int)<((P.length+(l+1):Nat):Int) by omega),JU,EY (show P.length+(l+1)<n by omega),EY (show P.length+l<n by omega),Y0,gn_ g1,gn_ g2,YX,M5,List.length_set,Y2 (show P.length+(l+1)<(P++((L++[y])++x::Q)).length by rw [hn];omega),Y2 (show P.length+l<(P++((L++[y])++x::Q)).length by rw [hn];omega),s2]
   simp
  rw [hb]
  obtain ⟨k,hk⟩:=QS hn2 x P l L (y::Q) N hL (by rw [<- hn];simp) (by omega)
  exact ⟨k,by show ah _ N _=_;rw [hk];simp⟩
theorem sD {l:List α} {s:Nat} (h:s<=l.length) : ∃ a b,l=a++b/\a.length=s:=⟨l.take s,l.drop s,(List.take_append_drop _ _).symm,by rw [ZL];omega⟩
theorem Bb {A:List α} (h:0<A.length) : ∃ L y,A=L++[y]:=by
 rcases List.eq_nil_or_concat A with e|⟨L,y,e⟩
 ·subst e;simp at h
 ·exact ⟨L,y,by simpa using e⟩
theorem AO {A:List α} (h:0<A.length) : ∃ y L,A=y::L:=match A,h with|y::L,_=>⟨y,L,rfl⟩
def Xj (lt:α->α->Bool) (D:List α) (x:α) (i:Nat):Bool:=match D[i]? with|some y=>lt y x|none=>false
def Xc (lt:α->α->Bool) (D:List α) (x:α) (i:Nat):Bool:=match D[i]? with|some y => !lt x y|none=>false
def WX (lt:α->α->Bool) (D:List α) (p i:Nat):Bool:=match D[p-i]?,D[i]? with|some x,some y => !lt x y|_,_=>false
theorem R8 (h:xG lt S) (hc:nH cmp lt S) {n:Nat} (hn2:n<=1000000000) {P Q B:List α} {x:α} (sx:S x) (sB : ∀ z∈B,S z) (hB:dS lt B) (hn:(P++x::(B++Q)).length=n) :
  ∃ M,((ah (oU (P++x::(B++Q)) (P.length:Int) cmp n) fuel (((P.length+1:Nat):Int),((P.length+1+B.length:Nat):Int))).bind (sS (P++x::(B++Q)) (P.length:Int) n))=some (P++(M++Q))/\dS lt M/\M.Perm (x::B):=by
 have hn':=hn
 simp only [Y6,Zk] at hn'
 have gx:(P++x::(B++Q))[P.length]?=some x:=get_at _ _ _
 have gB : ∀ i y,B[i]?=some y->(P++x::(B++Q))[P.length+1+i]?=some y:=by
  intro i y hy
  have hi:=(YY.1 hy).1
  rw [Y5 (by omega),show P.length+1+i-P.length=i+1 by omega,List.getElem?_cons_succ,Zc hi]
  exact hy
 obtain ⟨s,hs,s1,s2,s3,s4⟩:=xx (body:=oU (P++x::(B++Q)) (P.length:Int) cmp n) (P.length+1) (P.length+1+B.length) (Xj lt (P++x::(B++Q)) x) (by
  intro i j hi hij hj
  obtain ⟨y,hy⟩:=gol_ (l:=B) (i:=(i+j)/2-(P.length+1)) (by omega)
  have gy:=gB _ _ hy
  rw [show P.length+1+((i+j)/2-(P.length+1))=(i+j)/2 by omega] at gy
  obtain ⟨r,hr,hr2⟩:=hc y x (sB y (Y4 hy)) sx
  unfold oU
  dsimp only
  rw [zB (by omega),wrapN (by omega)]
  simp only [EY hij,JU,EY (show (i+j)/2<n by omega),EY (show P.length<n by omega),Y0,gn_ gy,gn_ gx,YX,hr,hr2]
  unfold Xj
  rw [gy]
  dsimp only
  cases lt y x<;>rfl) (by
  intro i
  unfold oU
  dsimp only
  rw [Y1 (by omega),YZ]) fuel (P.length+1) (P.length+1+B.length) (Ze _) (by omega) (Ze _) (by unfold fuel;omega) (.inl rfl) (.inl rfl)
 rw [hs,YX]
 obtain ⟨B1,B2,rfl,hB1⟩:=sD (l:=B) (s:=s-(P.length+1)) (by omega)
 unfold sS
 dsimp only
 have e1:P++x::(B1++B2++Q)=P++x::(B1++(B2++Q)):=by simp
 rw [e1]
 obtain ⟨k,hk⟩:=Pw hn2 x (B2++Q) s B1 P fuel (by omega) (by rw [<- e1];exact hn) (by simp at hn';unfold fuel;omega)
 rw [hk]
 refine ⟨B1++x::B2,by show some (P++(B1++x::(B2++Q)))=_;simp,Bl h sx sB hB ?_ ?_,List.perm_middle⟩
 ·by_cases h0:0<B1.length
  ·obtain ⟨L,y,rfl⟩:=Bb h0
   refine .inr ⟨L,y,rfl,?_⟩
   have sy:=sB y (by simp)
   rcases s3 with e|e
   ·simp at hB1;omega
   ·have gy:=gB (s-1-(P.length+1)) y (by
     have:(L++[y]).length=s-(P.length+1):=hB1
     simp at this
     rw [Zp,Y5 (by omega),show s-1-(P.length+1)-L.length=0 by omega];rfl)
    rw [show P.length+1+(s-1-(P.length+1))=s-1 by simp at hB1;omega] at gy
    unfold Xj at e
    rw [gy] at e
    exact h.le_of sy sx e
  ·exact .inl (ZA.1 (by omega))
 ·by_cases h0:0<B2.length
  ·obtain ⟨z,L,rfl⟩:=AO h0
   refine .inr ⟨z,L,rfl,?_⟩
   rcases s4 with e|e
   ·simp at e;omega
   ·have gz:=gB (s-(P.length+1)) z (by rw [<- hB1];exact get_at _ _ _)
    rw [show P.length+1+(s-(P.length+1))=s by omega] at gz
    unfold Xj at e
    rw [gz] at e
    exact e
  ·exact .inl (ZA.1 (by omega))
theorem Td (h:xG lt S) (hc:nH cmp lt S) {n:Nat} (hn2:n<=1000000000) {P Q A:List α} {x:α} (sx:S x) (sA : ∀ z∈A,S z) (hA:dS lt A) (hn:(P++(A++x::Q)).length=n) :
  ∃ M,((ah (pz (P++(A++x::Q)) ((P.length+A.length:Nat):Int) cmp n) fuel ((P.length:Int),((P.length+A.length:Nat):Int))).bind (sI (P++(A++x::Q)) ((P.length+A.length:Nat):Int) n))=some (P++(M++Q))/\dS lt M/\M.Perm (A++[x]):=by
 have hn':=hn
 simp only [Y6,Zk] at hn'
 have gx:(P++(A++x::Q))[P.length+A.length]?=some x:=by rw [<- Zp, <- Y6];exact get_at _ _ _
 have gA : ∀ i y,A[i]?=some y->(P++(A++x::Q))[P.length+i]?=some y:=by
  intro i y hy
  have hi:=(YY.1 hy).1
  rw [Y5 (by omega),show P.length+i-P.length=i by omega,Zc hi]
  exact hy
 obtain ⟨s,hs,s1,s2,s3,s4⟩:=xx (body:=pz (P++(A++x::Q)) ((P.length+A.length:Nat):Int) cmp n) P.length (P.length+A.length) (Xc lt (P++(A++x::Q)) x) (by
  intro i j hi hij hj
  obtain ⟨y,hy⟩:=gol_ (l:=A) (i:=(i+j)/2-P.length) (by omega)
  have gy:=gA _ _ hy
  rw [show P.length+((i+j)/2-P.length)=(i+j)/2 by omega] at gy
  obtain ⟨r,hr,hr2⟩:=hc x y sx (sA y (Y4 hy))
  unfold pz
  dsimp only
  rw [zB (by omega),wrapN (by omega)]
  simp only [EY hij,JU,EY (show (i+j)/2<n by omega),EY (show P.length+A.length<n by omega),Y0,gn_ gy,gn_ gx,YX,hr,hr2]
  unfold Xc
  rw [gy]
  dsimp only
  cases lt x y<;>rfl) (by
  intro i
  unfold pz
  dsimp only
  rw [Y1 (by omega),YZ]) fuel P.length (P.length+A.length) (Ze _) (by omega) (Ze _) (by unfold fuel;omega) (.inl rfl) (.inl rfl)
 rw [hs,YX]
 obtain ⟨A1,A2,rfl,hA1⟩:=sD (l:=A) (s:=s-P.length) (by omega)
 unfold sI
 dsimp only
 have e1:P++(A1++A2++x::Q)=(P++A1)++(A2++x::Q):=by simp
 have hlA:(P++A1).length=s:=by simp;omega
 rw [e1, <- hlA]
 have hl2:P.length+(A1++A2).length=(P++A1).length+A2.length:=by simp;omega
 rw [hl2]
 obtain ⟨k,hk⟩:=QS hn2 x (P++A1) A2.length A2 Q fuel rfl (by rw [<- e1];exact hn) (by simp at hn';unfold fuel;omega)
 rw [hk]
 refine ⟨A1++x::A2,by show some ((P++A1)++x::(A2++Q))=_;simp,Bl h sx sA hA ?_ ?_,?_⟩
 ·by_cases h0:0<A1.length
  ·obtain ⟨L,y,rfl⟩:=Bb h0
   refine .inr ⟨L,y,rfl,?_⟩
   rcases s3 with e|e
   ·simp at hA1;omega
   ·have gy:=gA (s-1-P.length) y (by
     have:(L++[y]).length=s-P.length:=hA1
     simp at this
     rw [Zp,Y5 (by omega),show s-1-P.length-L.length=0 by omega];rfl)
    rw [show P.length+(s-1-P.length)=s-1 by simp at hA1;omega] at gy
    unfold Xc at e
    rw [gy] at e
    simpa using e
  ·exact .inl (ZA.1 (by omega))
 ·by_cases h0:0<A2.length
  ·obtain ⟨z,L,rfl⟩:=AO h0
   refine .inr ⟨z,L,rfl,?_⟩
   have sz:=sA z (by simp)
   rcases s4 with e|e
   ·simp at e hA1;omega
   ·have gz:=gA (s-P.length) z (by rw [<- hA1];exact get_at _ _ _)
    rw [show P.length+(s-P.length)=s by omega] at gz
    unfold Xc at e
    rw [gz] at e
    exact h.le_of sx sz (by simpa using e)
  ·exact .inl (ZA.1 (by omega))
 ·rw [Zp]
  refine List.Perm.append_left A1 ?_
  exact (List.perm_append_comm (l₁:=[x]) (l₂:=A2))
end
end Go.Proofs.YtnbnpnmkgemdeaaGreatDoor
