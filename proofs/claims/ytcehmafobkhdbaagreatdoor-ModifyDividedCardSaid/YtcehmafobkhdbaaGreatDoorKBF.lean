/- Parts of the proof, joined. No condition. -/
import Derived.Test.YtcehmafobkhdbaaGreatDoorKBE
set_option linter.unusedSimpArgs false
set_option linter.unusedVariables false
namespace Go.Proofs.YtcehmafobkhdbaaGreatDoor
open Go.RowKit Go.MapKept
set_option maxRecDepth 100000
set_option maxHeartbeats 8000000
abbrev bT (x:Int):Int:=IntKind.i64.wrap (Int.fdiv (IntKind.u64.wrap x) (2 ^ (min (Int.toNat (1:Int)) (IntKind.bits .u64))))
def gN {α:Type} (a_a:Int) (a_b:Int) (a_n:Int) (n:Nat):((List α) × Int)->Option (Step ((List α) × Int) (List α)):=fun s=>match s with
 | (c_1,i_2)=>bif (decide (i_2<a_n)) then bif (decide (0<=(IntKind.i64.wrap (a_b+i_2)))) then (bif (decide ((IntKind.i64.wrap (a_b+i_2))<((n:Nat):Int))) then ((aH c_1 (IntKind.i64.wrap (a_b+i_2))).bind fun x_4=>bif (decide (0<=(IntKind.i64.wrap (a_a+i_2)))) then (bif (decide ((IntKind.i64.wrap (a_a+i_2))<((n:Nat):Int))) then ((aH c_1 (IntKind.i64.wrap (a_a+i_2))).bind fun x_5=>bif (decide (0<=(IntKind.i64.wrap (a_a+i_2)))) then (bif (decide ((IntKind.i64.wrap (a_a+i_2))<((n:Nat):Int))) then (bif (decide ((0+(IntKind.i64.wrap (a_a+i_2)).toNat)<c_1.length)) then (bif (decide (0<=(IntKind.i64.wrap (a_b+i_2)))) then (bif (decide ((IntKind.i64.wrap (a_b+i_2))<((n:Nat):Int))) then (bif (decide ((0+(IntKind.i64.wrap (a_b+i_2)).toNat)<(c_1.set (0+(IntKind.i64.wrap (a_a+i_2)).toNat) x_4).length)) then (some (.next (((c_1.set (0+(IntKind.i64.wrap (a_a+i_2)).toNat) x_4).set (0+(IntKind.i64.wrap (a_b+i_2)).toNat) x_5),(IntKind.i64.wrap (i_2+(1:Int)))))) else none) else none) else none) else none) else none) else none) else none) else none) else none) else none else
 some (.exit (c_1,i_2))
def tO {α:Type} : Sum ((List α) × Int) (List α)->Option ((List α))
 | .inl (c_1,i_2)=>some c_1
 | .inr q=>some q
def lI {α:Type} (n:Nat) (a_data:(List α)) (a_a:Int) (a_b:Int) (a_n:Int) (a_cmp:α->α->Option (Int)):Option (List α):=(ax (gN a_a a_b a_n n) fuel (a_data,(0:Int))).bind (tO)
def iV {α:Type} (a_m:Int) (a_cmp:α->α->Option (Int)) (n:Nat):((List α) × Int × Int)->Option (Step ((List α) × Int × Int) (List α)):=fun s=>match s with
 | (c_1,i_2,j_3)=>bif (decide (i_2≠j_3)) then bif (decide (j_3<i_2)) then (lI n c_1 (IntKind.i64.wrap (a_m-i_2)) a_m j_3 a_cmp).bind fun c_6=>some (.next (c_6,(IntKind.i64.wrap (i_2-j_3)),j_3)) else
 (lI n c_1 (IntKind.i64.wrap (a_m-i_2)) (IntKind.i64.wrap ((IntKind.i64.wrap (a_m+j_3))-i_2)) i_2 a_cmp).bind fun c_7=>some (.next (c_7,i_2,(IntKind.i64.wrap (j_3-i_2)))) else
 some (.exit (c_1,i_2,j_3))
def wD {α:Type} (a_m:Int) (a_cmp:α->α->Option (Int)) (n:Nat):Sum ((List α) × Int × Int) (List α)->Option ((List α))
 | .inl (c_1,i_2,j_3)=>(lI n c_1 (IntKind.i64.wrap (a_m-i_2)) a_m i_2 a_cmp).bind fun c_8=>some c_8
 | .inr q=>some q
def sU {α:Type} (n:Nat) (a_data:(List α)) (a_a:Int) (a_m:Int) (a_b:Int) (a_cmp:α->α->Option (Int)):Option (List α):=(ax (iV a_m a_cmp n) fuel (a_data,(IntKind.i64.wrap (a_m-a_a)),(IntKind.i64.wrap (a_b-a_m)))).bind (wD a_m a_cmp n)
def gq {α:Type} (a_a:Int) (a_cmp:α->α->Option (Int)) (n:Nat):((List α) × Int)->Option (Step ((List α) × Int) (List α)):=fun s=>match s with
 | (c_4,j_5)=>bif (decide (a_a<j_5)) then bif (decide (0<=j_5)) then (bif (decide (j_5<((n:Nat):Int))) then ((aH c_4 j_5).bind fun x_7=>bif (decide (0<=(IntKind.i64.wrap (j_5-(1:Int))))) then (bif (decide ((IntKind.i64.wrap (j_5-(1:Int)))<((n:Nat):Int))) then ((aH c_4 (IntKind.i64.wrap (j_5-(1:Int)))).bind fun x_8=>(a_cmp x_7 x_8).bind fun r_9=>bif (decide (r_9<(0:Int))) then bif (decide (0<=(IntKind.i64.wrap (j_5-(1:Int))))) then (bif (decide ((IntKind.i64.wrap (j_5-(1:Int)))<((n:Nat):Int))) then (bif (decide (0<=j_5)) then (bif (decide (j_5<((n:Nat):Int))) then (bif (decide (0<=j_5)) then (bif (decide (j_5<((n:Nat):Int))) then (bif (decide ((0+j_5.toNat)<c_4.length)) then (bif (decide (0<=(IntKind.i64.wrap (j_5-(1:Int))))) then (bif (decide ((IntKind.i64.wrap (j_5-(1:Int)))<((n:Nat):Int))) then (bif (decide ((0+(IntKind.i64.wrap (j_5-(1:Int))).toNat)<(c_4.set (0+j_5.toNat) x_8).length)) then (some (.next (((c_4.set (0+j_5.toNat) x_8).set (0+(IntKind.i64.wrap (j_5-(1:Int))).toNat) x_7),(IntKind.i64.wrap (j_5-(1:Int)))))) else none) else none) else none) else none) else none) else none) else none) else none) else none) else none else
 some (.exit (c_4,j_5))) else none) else none) else none) else none else
 some (.exit (c_4,j_5))
def lX {α:Type} (i_2:Int):Sum ((List α) × Int) (List α)->Option (Step ((List α) × Int) (List α))
 | .inl (c_4,j_5)=>some (.next (c_4,(IntKind.i64.wrap (i_2+(1:Int)))))
 | .inr q=>some (.ret q)
def gm {α:Type} (a_a:Int) (a_b:Int) (a_cmp:α->α->Option (Int)) (n:Nat):((List α) × Int)->Option (Step ((List α) × Int) (List α)):=fun s=>match s with
 | (c_1,i_2)=>bif (decide (i_2<a_b)) then (ax (gq a_a a_cmp n) fuel (c_1,i_2)).bind (lX i_2) else
 some (.exit (c_1,i_2))
def yf {α:Type} : Sum ((List α) × Int) (List α)->Option ((List α))
 | .inl (c_1,i_2)=>some c_1
 | .inr q=>some q
def uE {α:Type} (n:Nat) (a_data:(List α)) (a_a:Int) (a_b:Int) (a_cmp:α->α->Option (Int)):Option (List α):=(ax (gm a_a a_b a_cmp n) fuel (a_data,(IntKind.i64.wrap (a_a+(1:Int))))).bind (yf)
def rq {α:Type} (n:Nat) (i_2:Int):((List α) × Int)->Option (Step ((List α) × Int) (List α)):=fun s=>match s with
 | (c_9,k_10)=>bif (decide (k_10<(IntKind.i64.wrap (i_2-(1:Int))))) then bif (decide (0<=(IntKind.i64.wrap (k_10+(1:Int))))) then (bif (decide ((IntKind.i64.wrap (k_10+(1:Int)))<((n:Nat):Int))) then ((aH c_9 (IntKind.i64.wrap (k_10+(1:Int)))).bind fun x_12=>bif (decide (0<=k_10)) then (bif (decide (k_10<((n:Nat):Int))) then ((aH c_9 k_10).bind fun x_13=>bif (decide (0<=k_10)) then (bif (decide (k_10<((n:Nat):Int))) then (bif (decide ((0+k_10.toNat)<c_9.length)) then (bif (decide (0<=(IntKind.i64.wrap (k_10+(1:Int))))) then (bif (decide ((IntKind.i64.wrap (k_10+(1:Int)))<((n:Nat):Int))) then (bif (decide ((0+(IntKind.i64.wrap (k_10+(1:Int))).toNat)<(c_9.set (0+k_10.toNat) x_12).length)) then (some (.next (((c_9.set (0+k_10.toNat) x_12).set (0+(IntKind.i64.wrap (k_10+(1:Int))).toNat) x_13),(IntKind.i64.wrap (k_10+(1:Int)))))) else none) else none) else none) else none) else none) else none) else none) else none) else none) else none else
 some (.exit (c_9,k_10))
def JE {α:Type} : Sum ((List α) × Int) (List α)->Option ((List α))
 | .inl (c_9,k_10)=>some c_9
 | .inr q=>some q
def uq {α:Type} (a_data:List α) (a_a:Int) (a_cmp:α->α->Option (Int)) (n:Nat):(Int × Int)->Option (Step (Int × Int) (List α)):=fun s=>match s with
 | (i_2,j_3)=>bif (decide (i_2<j_3)) then bif (decide (0<=(bT (IntKind.i64.wrap (i_2+j_3))))) then (bif (decide ((bT (IntKind.i64.wrap (i_2+j_3)))<((n:Nat):Int))) then ((aH a_data (bT (IntKind.i64.wrap (i_2+j_3)))).bind fun x_5=>bif (decide (0<=a_a)) then (bif (decide (a_a<((n:Nat):Int))) then ((aH a_data a_a).bind fun x_6=>(a_cmp x_5 x_6).bind fun r_7=>bif (decide (r_7<(0:Int))) then some (.next ((IntKind.i64.wrap ((bT (IntKind.i64.wrap (i_2+j_3)))+(1:Int))),j_3)) else
 some (.next (i_2,(bT (IntKind.i64.wrap (i_2+j_3)))))) else none) else none) else none) else none else
 some (.exit (i_2,j_3))
def zB {α:Type} (a_data:List α) (a_a:Int) (n:Nat):Sum (Int × Int) (List α)->Option ((List α))
 | .inl (i_2,j_3)=>(ax (rq n i_2) fuel (a_data,a_a)).bind (JE)
 | .inr q=>some q
def q9 {α:Type} (n:Nat) (i_15:Int):((List α) × Int)->Option (Step ((List α) × Int) (List α)):=fun s=>match s with
 | (c_22,k_23)=>bif (decide (i_15<k_23)) then bif (decide (0<=(IntKind.i64.wrap (k_23-(1:Int))))) then (bif (decide ((IntKind.i64.wrap (k_23-(1:Int)))<((n:Nat):Int))) then ((aH c_22 (IntKind.i64.wrap (k_23-(1:Int)))).bind fun x_25=>bif (decide (0<=k_23)) then (bif (decide (k_23<((n:Nat):Int))) then ((aH c_22 k_23).bind fun x_26=>bif (decide (0<=k_23)) then (bif (decide (k_23<((n:Nat):Int))) then (bif (decide ((0+k_23.toNat)<c_22.length)) then (bif (decide (0<=(IntKind.i64.wrap (k_23-(1:Int))))) then (bif (decide ((IntKind.i64.wrap (k_23-(1:Int)))<((n:Nat):Int))) then (bif (decide ((0+(IntKind.i64.wrap (k_23-(1:Int))).toNat)<(c_22.set (0+k_23.toNat) x_25).length)) then (some (.next (((c_22.set (0+k_23.toNat) x_25).set (0+(IntKind.i64.wrap (k_23-(1:Int))).toNat) x_26),(IntKind.i64.wrap (k_23-(1:Int)))))) else none) else none) else none) else none) else none) else none) else none) else none) else none) else none else
 some (.exit (c_22,k_23))
def JG {α:Type} : Sum ((List α) × Int) (List α)->Option ((List α))
 | .inl (c_22,k_23)=>some c_22
 | .inr q=>some q
def ve {α:Type} (a_data:List α) (a_m:Int) (a_cmp:α->α->Option (Int)) (n:Nat):(Int × Int)->Option (Step (Int × Int) (List α)):=fun s=>match s with
 | (i_15,j_16)=>bif (decide (i_15<j_16)) then bif (decide (0<=a_m)) then (bif (decide (a_m<((n:Nat):Int))) then ((aH a_data a_m).bind fun x_18=>bif (decide (0<=(bT (IntKind.i64.wrap (i_15+j_16))))) then (bif (decide ((bT (IntKind.i64.wrap (i_15+j_16)))<((n:Nat):Int))) then ((aH a_data (bT (IntKind.i64.wrap (i_15+j_16)))).bind fun x_19=>(a_cmp x_18 x_19).bind fun r_20=>bif (!(decide (r_20<(0:Int)))) then some (.next ((IntKind.i64.wrap ((bT (IntKind.i64.wrap (i_15+j_16)))+(1:Int))),j_16)) else
 some (.next (i_15,(bT (IntKind.i64.wrap (i_15+j_16)))))) else none) else none) else none) else none else
 some (.exit (i_15,j_16))
def zk {α:Type} (a_data:List α) (a_m:Int) (n:Nat):Sum (Int × Int) (List α)->Option ((List α))
 | .inl (i_15,j_16)=>(ax (q9 n i_15) fuel (a_data,a_m)).bind (JG)
 | .inr q=>some q
def oQ {α:Type} (a_data:List α) (a_a:Int) (a_m:Int) (a_b:Int) (a_cmp:α->α->Option (Int)) (n:Nat):(Int × Int)->Option (Step (Int × Int) (List α)):=fun s=>match s with
 | (start_28,r_29)=>bif (decide (start_28<r_29)) then bif (decide (0<=(IntKind.i64.wrap ((IntKind.i64.wrap ((IntKind.i64.wrap ((bT (IntKind.i64.wrap (a_a+a_b)))+a_m))-(1:Int)))-(bT (IntKind.i64.wrap (start_28+r_29))))))) then (bif (decide ((IntKind.i64.wrap ((IntKind.i64.wrap ((IntKind.i64.wrap ((bT (IntKind.i64.wrap (a_a+a_b)))+a_m))-(1:Int)))-(bT (IntKind.i64.wrap (start_28+r_29)))))<((n:Nat):Int))) then ((aH a_data (IntKind.i64.wrap ((IntKind.i64.wrap ((IntKind.i64.wrap ((bT (IntKind.i64.wrap (a_a+a_b)))+a_m))-(1:Int)))-(bT (IntKind.i64.wrap (start_28+r_29)))))).bind fun x_31=>bif (decide (0<=(bT (IntKind.i64.wrap (start_28+r_29))))) then (bif (decide ((bT (IntKind.i64.wrap (start_28+r_29)))<((n:Nat):Int))) then ((aH a_data (bT (IntKind.i64.wrap (start_28+r_29)))).bind fun x_32=>(a_cmp x_31 x_32).bind fun r_33=>bif (!(decide (r_33<(0:Int)))) then some (.next ((IntKind.i64.wrap ((bT (IntKind.i64.wrap (start_28+r_29)))+(1:Int))),r_29)) else
 some (.next (start_28,(bT (IntKind.i64.wrap (start_28+r_29)))))) else none) else none) else none) else none else
 some (.exit (start_28,r_29))
def pg {α:Type} (a_data:List α) (a_a:Int) (a_m:Int) (a_b:Int) (a_cmp:α->α->Option (Int)) (n:Nat) (rec:Nat->List α->Int->Int->Int->(α->α->Option Int)->Option (List α)):Sum (Int × Int) (List α)->Option ((List α))
 | .inl (start_28,r_29)=>bif (decide (start_28<a_m)) then bif (decide (a_m<(IntKind.i64.wrap ((IntKind.i64.wrap ((bT (IntKind.i64.wrap (a_a+a_b)))+a_m))-start_28)))) then (sU n a_data start_28 a_m (IntKind.i64.wrap ((IntKind.i64.wrap ((bT (IntKind.i64.wrap (a_a+a_b)))+a_m))-start_28)) a_cmp).bind fun c_37=>bif (decide (a_a<start_28)) then bif (decide (start_28<(bT (IntKind.i64.wrap (a_a+a_b))))) then (rec n c_37 a_a start_28 (bT (IntKind.i64.wrap (a_a+a_b))) a_cmp).bind fun c_40=>bif (decide ((bT (IntKind.i64.wrap (a_a+a_b)))<(IntKind.i64.wrap ((IntKind.i64.wrap ((bT (IntKind.i64.wrap (a_a+a_b)))+a_m))-start_28)))) then bif (decide ((IntKind.i64.wrap ((IntKind.i64.wrap ((bT (IntKind.i64.wrap (a_a+a_b)))+a_m))-start_28))<a_b)) then (rec n c_40 (bT (IntKind.i64.wrap (a_a+a_b))) (IntKind.i64.wrap ((IntKind.i64.wrap ((bT (IntKind.i64.wrap (a_a+a_b)))+a_m))-start_28)) a_b a_cmp).bind fun c_43=>some c_43 else
 some c_40 else
 some c_40 else
 bif (decide ((bT (IntKind.i64.wrap (a_a+a_b)))<(IntKind.i64.wrap ((IntKind.i64.wrap ((bT (IntKind.i64.wrap (a_a+a_b)))+a_m))-start_28)))) then bif (decide ((IntKind.i64.wrap ((IntKind.i64.wrap ((bT (IntKind.i64.wrap (a_a+a_b)))+a_m))-start_28))<a_b)) then (rec n c_37 (bT (IntKind.i64.wrap (a_a+a_b))) (IntKind.i64.wrap ((IntKind.i64.wrap ((bT (IntKind.i64.wrap (a_a+a_b)))+a_m))-start_28)) a_b a_cmp).bind fun c_46=>some c_46 else
 some c_37 else
 some c_37 else
 bif (decide ((bT (IntKind.i64.wrap (a_a+a_b)))<(IntKind.i64.wrap ((IntKind.i64.wrap ((bT (IntKind.i64.wrap (a_a+a_b)))+a_m))-start_28)))) then bif (decide ((IntKind.i64.wrap ((IntKind.i64.wrap ((bT (IntKind.i64.wrap (a_a+a_b)))+a_m))-start_28))<a_b)) then (rec n c_37 (bT (IntKind.i64.wrap (a_a+a_b))) (IntKind.i64.wrap ((IntKind.i64.wrap ((bT (IntKind.i64.wrap (a_a+a_b)))+a_m))-start_28)) a_b a_cmp).bind fun c_49=>some c_49 else
 some c_37 else
 some c_37 else
 bif (decide (a_a<start_28)) then bif (decide (start_28<(bT (IntKind.i64.wrap (a_a+a_b))))) then (rec n a_data a_a start_28 (bT (IntKind.i64.wrap (a_a+a_b))) a_cmp).bind fun c_52=>bif (decide ((bT (IntKind.i64.wrap (a_a+a_b)))<(IntKind.i64.wrap ((IntKind.i64.wrap ((bT (IntKind.i64.wrap (a_a+a_b)))+a_m))-start_28)))) then bif (decide ((IntKind.i64.wrap ((IntKind.i64.wrap ((bT (IntKind.i64.wrap (a_a+a_b)))+a_m))-start_28))<a_b)) then (rec n c_52 (bT (IntKind.i64.wrap (a_a+a_b))) (IntKind.i64.wrap ((IntKind.i64.wrap ((bT (IntKind.i64.wrap (a_a+a_b)))+a_m))-start_28)) a_b a_cmp).bind fun c_55=>some c_55 else
 some c_52 else
 some c_52 else
 bif (decide ((bT (IntKind.i64.wrap (a_a+a_b)))<(IntKind.i64.wrap ((IntKind.i64.wrap ((bT (IntKind.i64.wrap (a_a+a_b)))+a_m))-start_28)))) then bif (decide ((IntKind.i64.wrap ((IntKind.i64.wrap ((bT (IntKind.i64.wrap (a_a+a_b)))+a_m))-start_28))<a_b)) then (rec n a_data (bT (IntKind.i64.wrap (a_a+a_b))) (IntKind.i64.wrap ((IntKind.i64.wrap ((bT (IntKind.i64.wrap (a_a+a_b)))+a_m))-start_28)) a_b a_cmp).bind fun c_58=>some c_58 else
 some a_data else
 some a_data else
 bif (decide ((bT (IntKind.i64.wrap (a_a+a_b)))<(IntKind.i64.wrap ((IntKind.i64.wrap ((bT (IntKind.i64.wrap (a_a+a_b)))+a_m))-start_28)))) then bif (decide ((IntKind.i64.wrap ((IntKind.i64.wrap ((bT (IntKind.i64.wrap (a_a+a_b)))+a_m))-start_28))<a_b)) then (rec n a_data (bT (IntKind.i64.wrap (a_a+a_b))) (IntKind.i64.wrap ((IntKind.i64.wrap ((bT (IntKind.i64.wrap (a_a+a_b)))+a_m))-start_28)) a_b a_cmp).bind fun c_61=>some c_61 else
 some a_data else
 some a_data else
 bif (decide (a_a<start_28)) then bif (decide (start_28<(bT (IntKind.i64.wrap (a_a+a_b))))) then (rec n a_data a_a start_28 (bT (IntKind.i64.wrap (a_a+a_b))) a_cmp).bind fun c_64=>bif (decide ((bT (IntKind.i64.wrap (a_a+a_b)))<(IntKind.i64.wrap ((IntKind.i64.wrap ((bT (IntKind.i64.wrap (a_a+a_b)))+a_m))-start_28)))) then bif (decide ((IntKind.i64.wrap ((IntKind.i64.wrap ((bT (IntKind.i64.wrap (a_a+a_b)))+a_m))-start_28))<a_b)) then (rec n c_64 (bT (IntKind.i64.wrap (a_a+a_b))) (IntKind.i64.wrap ((IntKind.i64.wrap ((bT (IntKind.i64.wrap (a_a+a_b)))+a_m))-start_28)) a_b a_cmp).bind fun c_67=>some c_67 else
 some c_64 else
 some c_64 else
 bif (decide ((bT (IntKind.i64.wrap (a_a+a_b)))<(IntKind.i64.wrap ((IntKind.i64.wrap ((bT (IntKind.i64.wrap (a_a+a_b)))+a_m))-start_28)))) then bif (decide ((IntKind.i64.wrap ((IntKind.i64.wrap ((bT (IntKind.i64.wrap (a_a+a_b)))+a_m))-start_28))<a_b)) then (rec n a_data (bT (IntKind.i64.wrap (a_a+a_b))) (IntKind.i64.wrap ((IntKind.i64.wrap ((bT (IntKind.i64.wrap (a_a+a_b)))+a_m))-start_28)) a_b a_cmp).bind fun c_70=>some c_70 else
 some a_data else
 some a_data else
 bif (decide ((bT (IntKind.i64.wrap (a_a+a_b)))<(IntKind.i64.wrap ((IntKind.i64.wrap ((bT (IntKind.i64.wrap (a_a+a_b)))+a_m))-start_28)))) then bif (decide ((IntKind.i64.wrap ((IntKind.i64.wrap ((bT (IntKind.i64.wrap (a_a+a_b)))+a_m))-start_28))<a_b)) then (rec n a_data (bT (IntKind.i64.wrap (a_a+a_b))) (IntKind.i64.wrap ((IntKind.i64.wrap ((bT (IntKind.i64.wrap (a_a+a_b)))+a_m))-start_28)) a_b a_cmp).bind fun c_73=>some c_73 else
 some a_data else
 some a_data
 | .inr q=>some q
def Dz {α:Type} (a_data:List α) (a_a:Int) (a_m:Int) (a_b:Int) (a_cmp:α->α->Option (Int)) (n:Nat):(Int × Int)->Option (Step (Int × Int) (List α)):=fun s=>match s with
 | (start_74,r_75)=>bif (decide (start_74<r_75)) then bif (decide (0<=(IntKind.i64.wrap ((IntKind.i64.wrap ((IntKind.i64.wrap ((bT (IntKind.i64.wrap (a_a+a_b)))+a_m))-(1:Int)))-(bT (IntKind.i64.wrap (start_74+r_75))))))) then (bif (decide ((IntKind.i64.wrap ((IntKind.i64.wrap ((IntKind.i64.wrap ((bT (IntKind.i64.wrap (a_a+a_b)))+a_m))-(1:Int)))-(bT (IntKind.i64.wrap (start_74+r_75)))))<((n:Nat):Int))) then ((aH a_data (IntKind.i64.wrap ((IntKind.i64.wrap ((IntKind.i64.wrap ((bT (IntKind.i64.wrap (a_a+a_b)))+a_m))-(1:Int)))-(bT (IntKind.i64.wrap (start_74+r_75)))))).bind fun x_77=>bif (decide (0<=(bT (IntKind.i64.wrap (start_74+r_75))))) then (bif (decide ((bT (IntKind.i64.wrap (start_74+r_75)))<((n:Nat):Int))) then ((aH a_data (bT (IntKind.i64.wrap (start_74+r_75)))).bind fun x_78=>(a_cmp x_77 x_78).bind fun r_79=>bif (!(decide (r_79<(0:Int)))) then some (.next ((IntKind.i64.wrap ((bT (IntKind.i64.wrap (start_74+r_75)))+(1:Int))),r_75)) else
 some (.next (start_74,(bT (IntKind.i64.wrap (start_74+r_75)))))) else none) else none) else none) else none else
 some (.exit (start_74,r_75))
def yU {α:Type} (a_data:List α) (a_a:Int) (a_m:Int) (a_b:Int) (a_cmp:α->α->Option (Int)) (n:Nat) (rec:Nat->List α->Int->Int->Int->(α->α->Option Int)->Option (List α)):Sum (Int × Int) (List α)->Option ((List α))
 | .inl (start_74,r_75)=>bif (decide (start_74<a_m)) then bif (decide (a_m<(IntKind.i64.wrap ((IntKind.i64.wrap ((bT (IntKind.i64.wrap (a_a+a_b)))+a_m))-start_74)))) then (sU n a_data start_74 a_m (IntKind.i64.wrap ((IntKind.i64.wrap ((bT (IntKind.i64.wrap (a_a+a_b)))+a_m))-start_74)) a_cmp).bind fun c_83=>bif (decide (a_a<start_74)) then bif (decide (start_74<(bT (IntKind.i64.wrap (a_a+a_b))))) then (rec n c_83 a_a start_74 (bT (IntKind.i64.wrap (a_a+a_b))) a_cmp).bind fun c_86=>bif (decide ((bT (IntKind.i64.wrap (a_a+a_b)))<(IntKind.i64.wrap ((IntKind.i64.wrap ((bT (IntKind.i64.wrap (a_a+a_b)))+a_m))-start_74)))) then bif (decide ((IntKind.i64.wrap ((IntKind.i64.wrap ((bT (IntKind.i64.wrap (a_a+a_b)))+a_m))-start_74))<a_b)) then (rec n c_86 (bT (IntKind.i64.wrap (a_a+a_b))) (IntKind.i64.wrap ((IntKind.i64.wrap ((bT (IntKind.i64.wrap (a_a+a_b)))+a_m))-start_74)) a_b a_cmp).bind fun c_89=>some c_89 else
 some c_86 else
 some c_86 else
 bif (decide ((bT (IntKind.i64.wrap (a_a+a_b)))<(IntKind.i64.wrap ((IntKind.i64.wrap ((bT (IntKind.i64.wrap (a_a+a_b)))+a_m))-start_74)))) then bif (decide ((IntKind.i64.wrap ((IntKind.i64.wrap ((bT (IntKind.i64.wrap (a_a+a_b)))+a_m))-start_74))<a_b)) then (rec n c_83 (bT (IntKind.i64.wrap (a_a+a_b))) (IntKind.i64.wrap ((IntKind.i64.wrap ((bT (IntKind.i64.wrap (a_a+a_b)))+a_m))-start_74)) a_b a_cmp).bind fun c_92=>some c_92 else
 some c_83 else
 some c_83 else
 bif (decide ((bT (IntKind.i64.wrap (a_a+a_b)))<(IntKind.i64.wrap ((IntKind.i64.wrap ((bT (IntKind.i64.wrap (a_a+a_b)))+a_m))-start_74)))) then bif (decide ((IntKind.i64.wrap ((IntKind.i64.wrap ((bT (IntKind.i64.wrap (a_a+a_b)))+a_m))-start_74))<a_b)) then (rec n c_83 (bT (IntKind.i64.wrap (a_a+a_b))) (IntKind.i64.wrap ((IntKind.i64.wrap ((bT (IntKind.i64.wrap (a_a+a_b)))+a_m))-start_74)) a_b a_cmp).bind fun c_95=>some c_95 else
 some c_83 else
 some c_83 else
 bif (decide (a_a<start_74)) then bif (decide (start_74<(bT (IntKind.i64.wrap (a_a+a_b))))) then (rec n a_data a_a start_74 (bT (IntKind.i64.wrap (a_a+a_b))) a_cmp).bind fun c_98=>bif (decide ((bT (IntKind.i64.wrap (a_a+a_b)))<(IntKind.i64.wrap ((IntKind.i64.wrap ((bT (IntKind.i64.wrap (a_a+a_b)))+a_m))-start_74)))) then bif (decide ((IntKind.i64.wrap ((IntKind.i64.wrap ((bT (IntKind.i64.wrap (a_a+a_b)))+a_m))-start_74))<a_b)) then (rec n c_98 (bT (IntKind.i64.wrap (a_a+a_b))) (IntKind.i64.wrap ((IntKind.i64.wrap ((bT (IntKind.i64.wrap (a_a+a_b)))+a_m))-start_74)) a_b a_cmp).bind fun c_101=>some c_101 else
 some c_98 else
 some c_98 else
 bif (decide ((bT (IntKind.i64.wrap (a_a+a_b)))<(IntKind.i64.wrap ((IntKind.i64.wrap ((bT (IntKind.i64.wrap (a_a+a_b)))+a_m))-start_74)))) then bif (decide ((IntKind.i64.wrap ((IntKind.i64.wrap ((bT (IntKind.i64.wrap (a_a+a_b)))+a_m))-start_74))<a_b)) then (rec n a_data (bT (IntKind.i64.wrap (a_a+a_b))) (IntKind.i64.wrap ((IntKind.i64.wrap ((bT (IntKind.i64.wrap (a_a+a_b)))+a_m))-start_74)) a_b a_cmp).bind fun c_104=>some c_104 else
 some a_data else
 some a_data else
 bif (decide ((bT (IntKind.i64.wrap (a_a+a_b)))<(IntKind.i64.wrap ((IntKind.i64.wrap ((bT (IntKind.i64.wrap (a_a+a_b)))+a_m))-start_74)))) then bif (decide ((IntKind.i64.wrap ((IntKind.i64.wrap ((bT (IntKind.i64.wrap (a_a+a_b)))+a_m))-start_74))<a_b)) then (rec n a_data (bT (IntKind.i64.wrap (a_a+a_b))) (IntKind.i64.wrap ((IntKind.i64.wrap ((bT (IntKind.i64.wrap (a_a+a_b)))+a_m))-start_74)) a_b a_cmp).bind fun c_107=>some c_107 else
 some a_data else
 some a_data else
 bif (decide (a_a<start_74)) then bif (decide (start_74<(bT (IntKind.i64.wrap (a_a+a_b))))) then (rec n a_data a_a start_74 (bT (IntKind.i64.wrap (a_a+a_b))) a_cmp).bind fun c_110=>bif (decide ((bT (IntKind.i64.wrap (a_a+a_b)))<(IntKind.i64.wrap ((IntKind.i64.wrap ((bT (IntKind.i64.wrap (a_a+a_b)))+a_m))-start_74)))) then bif (decide ((IntKind.i64.wrap ((IntKind.i64.wrap ((bT (IntKind.i64.wrap (a_a+a_b)))+a_m))-start_74))<a_b)) then (rec n c_110 (bT (IntKind.i64.wrap (a_a+a_b))) (IntKind.i64.wrap ((IntKind.i64.wrap ((bT (IntKind.i64.wrap (a_a+a_b)))+a_m))-start_74)) a_b a_cmp).bind fun c_113=>some c_113 else
 some c_110 else
 some c_110 else
 bif (decide ((bT (IntKind.i64.wrap (a_a+a_b)))<(IntKind.i64.wrap ((IntKind.i64.wrap ((bT (IntKind.i64.wrap (a_a+a_b)))+a_m))-start_74)))) then bif (decide ((IntKind.i64.wrap ((IntKind.i64.wrap ((bT (IntKind.i64.wrap (a_a+a_b)))+a_m))-start_74))<a_b)) then (rec n a_data (bT (IntKind.i64.wrap (a_a+a_b))) (IntKind.i64.wrap ((IntKind.i64.wrap ((bT (IntKind.i64.wrap (a_a+a_b)))+a_m))-start_74)) a_b a_cmp).bind fun c_116=>some c_116 else
 some a_data else
 some a_data else
 bif (decide ((bT (IntKind.i64.wrap (a_a+a_b)))<(IntKind.i64.wrap ((IntKind.i64.wrap ((bT (IntKind.i64.wrap (a_a+a_b)))+a_m))-start_74)))) then bif (decide ((IntKind.i64.wrap ((IntKind.i64.wrap ((bT (IntKind.i64.wrap (a_a+a_b)))+a_m))-start_74))<a_b)) then (rec n a_data (bT (IntKind.i64.wrap (a_a+a_b))) (IntKind.i64.wrap ((IntKind.i64.wrap ((bT (IntKind.i64.wrap (a_a+a_b)))+a_m))-start_74)) a_b a_cmp).bind fun c_119=>some c_119 else
 some a_data else
 some a_data
 | .inr q=>some q
def xN {α:Type} (rec:Nat->List α->Int->Int->Int->(α->α->Option Int)->Option (List α)) (n:Nat) (a_data:(List α)) (a_a:Int) (a_m:Int) (a_b:Int) (a_cmp:α->α->Option (Int)):Option (List α):=bif (decide ((IntKind.i64.wrap (a_m-a_a))=(1:Int))) then (ax (uq a_data a_a a_cmp n) fuel (a_m,a_b)).bind (zB a_data a_a n) else
 bif (decide ((IntKind.i64.wrap (a_b-a_m))=(1:Int))) then (ax (ve a_data a_m a_cmp n) fuel (a_a,a_m)).bind (zk a_data a_m n) else
 bif (decide ((bT (IntKind.i64.wrap (a_a+a_b)))<a_m)) then (ax (oQ a_data a_a a_m a_b a_cmp n) fuel ((IntKind.i64.wrap ((IntKind.i64.wrap ((bT (IntKind.i64.wrap (a_a+a_b)))+a_m))-a_b)),(bT (IntKind.i64.wrap (a_a+a_b))))).bind (pg a_data a_a a_m a_b a_cmp n rec) else
 (ax (Dz a_data a_a a_m a_b a_cmp n) fuel (a_a,a_m)).bind (yU a_data a_a a_m a_b a_cmp n rec)
def HY {α:Type} : Nat->Nat->List α->Int->Int->Int->(α->α->Option Int)->Option (List α)
 | 0,_,_,_,_,_,_=>none
 | q+1,n,X,a,m,b,cmp=>xN (HY q) n X a m b cmp
def lG {α:Type} (a_n:Int) (a_cmp:α->α->Option (Int)) (n:Nat) (blockSize_8:Int):((List α) × Int × Int)->Option (Step ((List α) × Int × Int) (List α)):=fun s=>match s with
 | (c_10,a_11,b_12)=>bif (decide (b_12<=a_n)) then (HY fuel n c_10 a_11 (IntKind.i64.wrap (a_11+blockSize_8)) b_12 a_cmp).bind fun c_14=>some (.next (c_14,b_12,(IntKind.i64.wrap (b_12+(IntKind.i64.wrap ((2:Int)*blockSize_8)))))) else
 some (.exit (c_10,a_11,b_12))
def vR {α:Type} (a_n:Int) (a_cmp:α->α->Option (Int)) (n:Nat) (blockSize_8:Int):Sum ((List α) × Int × Int) (List α)->Option (Step ((List α) × Int) (List α))
 | .inl (c_10,a_11,b_12)=>bif (decide ((IntKind.i64.wrap (a_11+blockSize_8))<a_n)) then (HY fuel n c_10 a_11 (IntKind.i64.wrap (a_11+blockSize_8)) a_n a_cmp).bind fun c_16=>some (.next (c_16,(IntKind.i64.wrap (blockSize_8*(2:Int))))) else
 some (.next (c_10,(IntKind.i64.wrap (blockSize_8*(2:Int)))))
 | .inr q=>some (.ret q)
def lJ {α:Type} (a_n:Int) (a_cmp:α->α->Option (Int)) (n:Nat):((List α) × Int)->Option (Step ((List α) × Int) (List α)):=fun s=>match s with
 | (c_7,blockSize_8)=>bif (decide (blockSize_8<a_n)) then (ax (lG a_n a_cmp n blockSize_8) fuel (c_7,(0:Int),(IntKind.i64.wrap ((2:Int)*blockSize_8)))).bind (vR a_n a_cmp n blockSize_8) else
 some (.exit (c_7,blockSize_8))
def BF {α:Type} : Sum ((List α) × Int) (List α)->Option ((List α))
 | .inl (c_7,blockSize_8)=>some c_7
 | .inr q=>some q
def lQ {α:Type} (a_n:Int) (a_cmp:α->α->Option (Int)) (n:Nat):((List α) × Int × Int)->Option (Step ((List α) × Int × Int) (List α)):=fun s=>match s with
 | (c_1,a_2,b_3)=>bif (decide (b_3<=a_n)) then (uE n c_1 a_2 b_3 a_cmp).bind fun c_5=>some (.next (c_5,b_3,(IntKind.i64.wrap (b_3+(20:Int))))) else
 some (.exit (c_1,a_2,b_3))
def v_ {α:Type} (a_n:Int) (a_cmp:α->α->Option (Int)) (n:Nat):Sum ((List α) × Int × Int) (List α)->Option ((List α))
 | .inl (c_1,a_2,b_3)=>(uE n c_1 a_2 a_n a_cmp).bind fun c_6=>(ax (lJ a_n a_cmp n) fuel (c_6,(20:Int))).bind (BF)
 | .inr q=>some q
def D7 {α:Type} (n:Nat) (a_data:(List α)) (a_n:Int) (a_cmp:α->α->Option (Int)):Option (List α):=(ax (lQ a_n a_cmp n) fuel (a_data,(0:Int),(20:Int))).bind (v_ a_n a_cmp n)
def Dl {α:Type} (n:Nat) (a_x:(List α)) (a_cmp:α->α->Option (Int)):Option (List α):=(D7 n a_x ((n:Nat):Int) a_cmp).bind fun c_1=>some c_1
set_option maxHeartbeats 8000000
theorem qD {n:Nat}  {a_data:(List aa)} {a_a:Int} {a_b:Int} {a_n:Int} {a_cmp:aa->aa->Option (Int)} {v:Nat} {r:List aa} {F_a_cmp:FuncId} {caps_a_cmp:List AC} (hf_a_cmp : ∀ (y0:aa) (y1:aa) (r:Int),a_cmp y0 y1=some r->Pure Tryz.prog F_a_cmp ([.agg (ae y0), .agg (ae y1)]++caps_a_cmp.map .one) (.val (.one (.int .i64 r)))) (H:lI n a_data a_a a_b a_n a_cmp=some r):Run Tryz.prog 223 [dC ae 2 v a_data] [.one (.sl 0 v 0 n), .one (.c (.int .i64 a_a)), .one (.c (.int .i64 a_b)), .one (.c (.int .i64 a_n)), .one (.c (.fn F_a_cmp caps_a_cmp))] [dC ae 2 v r] (.tup []):=by
 unfold lI at H
 refine bN ay Tryz.func223 rfl rfl Tryz.ntmps223 (by simp) ?_
 simp only [kP]
 refine AJ ?_
 refine alM_ (fun s:(List aa) × Int=>match s with|(c_1,i_2)=>[(0, .one (.sl 0 v 0 n)),(1, .one (.c (.int .i64 a_a))),(2, .one (.c (.int .i64 a_b))),(3, .one (.c (.int .i64 a_n))),(10, .one (.c (.int .i64 i_2)))]) (fun s=>match s with|(c_1,i_2)=>[dC ae 2 v c_1]) H (fun _=>ag' _)
  (fm_ dh [] rfl bH ⟨aT _ _ _ _ _,trivial⟩) ?_
 rintro ⟨c_1,i_2⟩ st1 hb1 hk1
 unfold gN at hb1
 dsimp only at hb1 ⊢
 rcases af hb1 with ⟨q_3,hb1⟩|⟨q_3,hb1⟩
 ·obtain ⟨g1,hb1⟩:=aG hb1
  obtain ⟨g2,hb1⟩:=aG hb1
  obtain ⟨x_4,i3,hb1⟩:=pO hb1
  obtain ⟨g4,hb1⟩:=aG hb1
  obtain ⟨g5,hb1⟩:=aG hb1
  obtain ⟨x_5,i6,hb1⟩:=pO hb1
  obtain ⟨g7,hb1⟩:=aG hb1
  obtain ⟨g8,hb1⟩:=aG hb1
  obtain ⟨g9,hb1⟩:=aG hb1
  obtain ⟨g10,hb1⟩:=aG hb1
  obtain ⟨g11,hb1⟩:=aG hb1
  obtain ⟨g12,hb1⟩:=aG hb1
  cases hb1
  refine AJ ?_
  exact ⟨_,rfl,fm_ dh [] rfl bH ⟨aT _ _ _ _ _,trivial⟩⟩
 cases hb1
 have hx1:tO (.inl (c_1,i_2))=some _:=hk1
 unfold tO at hx1
 dsimp only at hx1
 cases hx1
 exact mi
theorem Gc {n:Nat}  {a_data:(List aa)} {a_a:Int} {a_m:Int} {a_b:Int} {a_cmp:aa->aa->Option (Int)} {v:Nat} {r:List aa} {F_a_cmp:FuncId} {caps_a_cmp:List AC} (hf_a_cmp : ∀ (y0:aa) (y1:aa) (r:Int),a_cmp y0 y1=some r->Pure Tryz.prog F_a_cmp ([.agg (ae y0), .agg (ae y1)]++caps_a_cmp.map .one) (.val (.one (.int .i64 r)))) (H:sU n a_data a_a a_m a_b a_cmp=some r):Run Tryz.prog 213 [dC ae 2 v a_data] [.one (.sl 0 v 0 n), .one (.c (.int .i64 a_a)), .one (.c (.int .i64 a_m)), .one (.c (.int .i64 a_b)), .one (.c (.fn F_a_cmp caps_a_cmp))] [dC ae 2 v r] (.tup []):=by
 unfold sU at H
 refine bN ay Tryz.func213 rfl rfl Tryz.ntmps213 (by simp) ?_
 simp only [kP]
 refine AJ ?_
 refine alM_ (fun s:(List aa) × Int × Int=>match s with|(c_1,i_2,j_3)=>[(0, .one (.sl 0 v 0 n)),(2, .one (.c (.int .i64 a_m))),(4, .one (.c (.fn F_a_cmp caps_a_cmp))),(10, .one (.c (.int .i64 i_2))),(11, .one (.c (.int .i64 j_3)))]) (fun s=>match s with|(c_1,i_2,j_3)=>[dC ae 2 v c_1]) H (fun _=>ag' _)
  (fm_ dh [] rfl bH ⟨aT _ _ _ _ _,trivial⟩) ?_
 rintro ⟨c_1,i_2,j_3⟩ st1 hb1 hk1
 unfold iV at hb1
 dsimp only at hb1 ⊢
 rcases af hb1 with ⟨q_4,hb1⟩|⟨q_4,hb1⟩
 ·rcases af hb1 with ⟨q_5,hb1⟩|⟨q_5,hb1⟩
  ·obtain ⟨c_6,c1,hb1⟩:=bd_ hb1
   replace c1:=qD (v:=v) (caps_a_cmp:=caps_a_cmp) hf_a_cmp c1
   cases hb1
   refine AJ ?_
   exact ⟨_,rfl,fm_ dh [] rfl bH ⟨aT _ _ _ _ _,trivial⟩⟩
  obtain ⟨c_7,c2,hb1⟩:=bd_ hb1
  replace c2:=qD (v:=v) (caps_a_cmp:=caps_a_cmp) hf_a_cmp c2
  cases hb1
  refine AJ ?_
  exact ⟨_,rfl,fm_ dh [] rfl bH ⟨aT _ _ _ _ _,trivial⟩⟩
 cases hb1
 have hx1:wD a_m a_cmp n (.inl (c_1,i_2,j_3))=some _:=hk1
 unfold wD at hx1
 dsimp only at hx1
 obtain ⟨c_8,c3,hx1⟩:=bd_ hx1
 replace c3:=qD (v:=v) (caps_a_cmp:=caps_a_cmp) hf_a_cmp c3
 cases hx1
 exact mi
theorem DJ {n:Nat}  {a_data:(List aa)} {a_a:Int} {a_b:Int} {a_cmp:aa->aa->Option (Int)} {v:Nat} {r:List aa} {F_a_cmp:FuncId} {caps_a_cmp:List AC} (hf_a_cmp : ∀ (y0:aa) (y1:aa) (r:Int),a_cmp y0 y1=some r->Pure Tryz.prog F_a_cmp ([.agg (ae y0), .agg (ae y1)]++caps_a_cmp.map .one) (.val (.one (.int .i64 r)))) (H:uE n a_data a_a a_b a_cmp=some r):Run Tryz.prog 195 [dC ae 2 v a_data] [.one (.sl 0 v 0 n), .one (.c (.int .i64 a_a)), .one (.c (.int .i64 a_b)), .one (.c (.fn F_a_cmp caps_a_cmp))] [dC ae 2 v r] (.tup []):=by
 unfold uE at H
 refine bN ay Tryz.func195 rfl rfl Tryz.ntmps195 (by simp) ?_
 simp only [kP]
 refine AJ ?_
 refine alM_ (fun s:(List aa) × Int=>match s with|(c_1,i_2)=>[(0, .one (.sl 0 v 0 n)),(1, .one (.c (.int .i64 a_a))),(2, .one (.c (.int .i64 a_b))),(3, .one (.c (.fn F_a_cmp caps_a_cmp))),(8, .one (.c (.int .i64 i_2)))]) (fun s=>match s with|(c_1,i_2)=>[dC ae 2 v c_1]) H (fun _=>ag' _)
  (fm_ dh [] rfl bH ⟨aT _ _ _ _ _,trivial⟩) ?_
 rintro ⟨c_1,i_2⟩ st3 hb3 hk3
 unfold gm at hb3
 dsimp only at hb3 ⊢
 rcases af hb3 with ⟨q_3,hb3⟩|⟨q_3,hb3⟩
 ·refine AJ ?_
  refine alM_ (fun s:(List aa) × Int=>match s with|(c_4,j_5)=>[(0, .one (.sl 0 v 0 n)),(1, .one (.c (.int .i64 a_a))),(2, .one (.c (.int .i64 a_b))),(3, .one (.c (.fn F_a_cmp caps_a_cmp))),(8, .one (.c (.int .i64 i_2))),(9, .one (.c (.int .i64 j_5)))]) (fun s=>match s with|(c_4,j_5)=>[dC ae 2 v c_4]) hb3 (fun _=>ag' _)
   (fm_ dh [] rfl bH ⟨aT _ _ _ _ _,trivial⟩) ?_
  rintro ⟨c_4,j_5⟩ st4 hb4 hk4
  unfold gq at hb4
  dsimp only at hb4 ⊢
  rcases af hb4 with ⟨q_6,hb4⟩|⟨q_6,hb4⟩
  ·obtain ⟨g1,hb4⟩:=aG hb4
   obtain ⟨g2,hb4⟩:=aG hb4
   obtain ⟨x_7,i3,hb4⟩:=pO hb4
   obtain ⟨g4,hb4⟩:=aG hb4
   obtain ⟨g5,hb4⟩:=aG hb4
   obtain ⟨x_8,i6,hb4⟩:=pO hb4
   obtain ⟨r_9,c7,hb4⟩:=bd_ hb4
   replace c7:=hf_a_cmp _ _ _ c7
   rcases af hb4 with ⟨q_10,hb4⟩|⟨q_10,hb4⟩
   ·obtain ⟨g8,hb4⟩:=aG hb4
    obtain ⟨g9,hb4⟩:=aG hb4
    obtain ⟨g10,hb4⟩:=aG hb4
    obtain ⟨g11,hb4⟩:=aG hb4
    obtain ⟨g12,hb4⟩:=aG hb4
    obtain ⟨g13,hb4⟩:=aG hb4
    obtain ⟨g14,hb4⟩:=aG hb4
    obtain ⟨g15,hb4⟩:=aG hb4
    obtain ⟨g16,hb4⟩:=aG hb4
    obtain ⟨g17,hb4⟩:=aG hb4
    cases hb4
    refine AJ ?_
    exact ⟨_,rfl,fm_ dh [] rfl bH ⟨aT _ _ _ _ _,trivial⟩⟩
   cases hb4
   have hx4:lX i_2 (.inl (c_4,j_5))=some _:=hk4
   unfold lX at hx4
   dsimp only at hx4
   cases hx4
   refine AJ ?_
   exact ⟨_,rfl,fm_ dh [] rfl bH ⟨aT _ _ _ _ _,trivial⟩⟩
  cases hb4
  have hx4:lX i_2 (.inl (c_4,j_5))=some _:=hk4
  unfold lX at hx4
  dsimp only at hx4
  cases hx4
  refine AJ ?_
  exact ⟨_,rfl,fm_ dh [] rfl bH ⟨aT _ _ _ _ _,trivial⟩⟩
 cases hb3
 have hx3:yf (.inl (c_1,i_2))=some _:=hk3
 unfold yf at hx3
 dsimp only at hx3
 cases hx3
 exact mi
set_option maxHeartbeats 8000000
theorem TS {rec:Nat->List aa->Int->Int->Int->(aa->aa->Option Int)->Option (List aa)} {n:Nat}  (hrec : ∀ {n:Nat} {X:List aa} {a m b:Int} {cmp:aa->aa->Option Int} {v:Nat} {F_a_cmp:FuncId} {caps_a_cmp:List AC} (hf_a_cmp : ∀ (y0:aa) (y1:aa) (r:Int),cmp y0 y1=some r->Pure Tryz.prog F_a_cmp ([.agg (ae y0), .agg (ae y1)]++caps_a_cmp.map .one) (.val (.one (.int .i64 r)))) {r:List aa}, rec n X a m b cmp=some r->Run Tryz.prog 196 [dC ae 2 v X] [.one (.sl 0 v 0 n), .one (.c (.int .i64 a)), .one (.c (.int .i64 m)), .one (.c (.int .i64 b)), .one (.c (.fn F_a_cmp caps_a_cmp))] [dC ae 2 v r] (.tup [])) {a_data:(List aa)} {a_a:Int} {a_m:Int} {a_b:Int} {a_cmp:aa->aa->Option (Int)} {v:Nat} {r:List aa} {F_a_cmp:FuncId} {caps_a_cmp:List AC} (hf_a_cmp : ∀ (y0:aa) (y1:aa) (r:Int),a_cmp y0 y1=some r->Pure Tryz.prog F_a_cmp ([.agg (ae y0), .agg (ae y1)]++caps_a_cmp.map .one) (.val (.one (.int .i64 r)))) (hq0:(decide ((IntKind.i64.wrap (a_m-a_a))=(1:Int)))=true) (H:xN rec n a_data a_a a_m a_b a_cmp=some r):Run Tryz.prog 196 [dC ae 2 v a_data] [.one (.sl 0 v 0 n), .one (.c (.int .i64 a_a)), .one (.c (.int .i64 a_m)), .one (.c (.int .i64 a_b)), .one (.c (.fn F_a_cmp caps_a_cmp))] [dC ae 2 v r] (.tup []):=by
 unfold xN at H
 refine bN ay Tryz.func196 rfl rfl Tryz.ntmps196 (by simp) ?_
 simp only [kP]
 rcases af H with ⟨q_1,H⟩|⟨q_1,H⟩
 ·refine AJ ?_
  refine alM_ (fun s:Int × Int=>match s with|(i_2,j_3)=>[(0, .one (.sl 0 v 0 n)),(1, .one (.c (.int .i64 a_a))),(4, .one (.c (.fn F_a_cmp caps_a_cmp))),(10, .one (.c (.int .i64 i_2))),(11, .one (.c (.int .i64 j_3)))]) (fun s=>match s with|(i_2,j_3)=>[dC ae 2 v a_data]) H (fun _=>ag' _)
   (fm_ dh [] rfl bH ⟨aT _ _ _ _ _,trivial⟩) ?_
  rintro ⟨i_2,j_3⟩ st1 hb1 hk1
  unfold uq at hb1
  dsimp only at hb1 ⊢
  rcases af hb1 with ⟨q_4,hb1⟩|⟨q_4,hb1⟩
  ·obtain ⟨g1,hb1⟩:=aG hb1
   obtain ⟨g2,hb1⟩:=aG hb1
   obtain ⟨x_5,i3,hb1⟩:=pO hb1
   obtain ⟨g4,hb1⟩:=aG hb1
   obtain ⟨g5,hb1⟩:=aG hb1
   obtain ⟨x_6,i6,hb1⟩:=pO hb1
   obtain ⟨r_7,c7,hb1⟩:=bd_ hb1
   replace c7:=hf_a_cmp _ _ _ c7
   rcases af hb1 with ⟨q_8,hb1⟩|⟨q_8,hb1⟩
   ·cases hb1
    refine AJ ?_
    exact ⟨_,rfl,fm_ dh [] rfl bH ⟨aT _ _ _ _ _,trivial⟩⟩
   cases hb1
   refine AJ ?_
   exact ⟨_,rfl,fm_ dh [] rfl bH ⟨aT _ _ _ _ _,trivial⟩⟩
  cases hb1
  have hx1:zB a_data a_a n (.inl (i_2,j_3))=some _:=hk1
  unfold zB at hx1
  dsimp only at hx1
  refine AJ ?_
  refine alM_ (fun s:(List aa) × Int=>match s with|(c_9,k_10)=>[(0, .one (.sl 0 v 0 n)),(10, .one (.c (.int .i64 i_2))),(13, .one (.c (.int .i64 k_10)))]) (fun s=>match s with|(c_9,k_10)=>[dC ae 2 v c_9]) hx1 (fun _=>ag' _)
   (fm_ dh [] rfl bH ⟨aT _ _ _ _ _,trivial⟩) ?_
  rintro ⟨c_9,k_10⟩ st2 hb2 hk2
  unfold rq at hb2
  dsimp only at hb2 ⊢
  rcases af hb2 with ⟨q_11,hb2⟩|⟨q_11,hb2⟩
  ·obtain ⟨g8,hb2⟩:=aG hb2
   obtain ⟨g9,hb2⟩:=aG hb2
   obtain ⟨x_12,i10,hb2⟩:=pO hb2
   obtain ⟨g11,hb2⟩:=aG hb2
   obtain ⟨g12,hb2⟩:=aG hb2
   obtain ⟨x_13,i13,hb2⟩:=pO hb2
   obtain ⟨g14,hb2⟩:=aG hb2
   obtain ⟨g15,hb2⟩:=aG hb2
   obtain ⟨g16,hb2⟩:=aG hb2
   obtain ⟨g17,hb2⟩:=aG hb2
   obtain ⟨g18,hb2⟩:=aG hb2
   obtain ⟨g19,hb2⟩:=aG hb2
   cases hb2
   refine AJ ?_
   exact ⟨_,rfl,fm_ dh [] rfl bH ⟨aT _ _ _ _ _,trivial⟩⟩
  cases hb2
  have hx2:JE (.inl (c_9,k_10))=some _:=hk2
  unfold JE at hx2
  dsimp only at hx2
  cases hx2
  exact mi
 exact nomatch hq0.symm.trans q_1
theorem TE {rec:Nat->List aa->Int->Int->Int->(aa->aa->Option Int)->Option (List aa)} {n:Nat}  (hrec : ∀ {n:Nat} {X:List aa} {a m b:Int} {cmp:aa->aa->Option Int} {v:Nat} {F_a_cmp:FuncId} {caps_a_cmp:List AC} (hf_a_cmp : ∀ (y0:aa) (y1:aa) (r:Int),cmp y0 y1=some r->Pure Tryz.prog F_a_cmp ([.agg (ae y0), .agg (ae y1)]++caps_a_cmp.map .one) (.val (.one (.int .i64 r)))) {r:List aa}, rec n X a m b cmp=some r->Run Tryz.prog 196 [dC ae 2 v X] [.one (.sl 0 v 0 n), .one (.c (.int .i64 a)), .one (.c (.int .i64 m)), .one (.c (.int .i64 b)), .one (.c (.fn F_a_cmp caps_a_cmp))] [dC ae 2 v r] (.tup [])) {a_data:(List aa)} {a_a:Int} {a_m:Int} {a_b:Int} {a_cmp:aa->aa->Option (Int)} {v:Nat} {r:List aa} {F_a_cmp:FuncId} {caps_a_cmp:List AC} (hf_a_cmp : ∀ (y0:aa) (y1:aa) (r:Int),a_cmp y0 y1=some r->Pure Tryz.prog F_a_cmp ([.agg (ae y0), .agg (ae y1)]++caps_a_cmp.map .one) (.val (.one (.int .i64 r)))) (hq0:(decide ((IntKind.i64.wrap (a_m-a_a))=(1:Int)))=false) (hq1:(decide ((IntKind.i64.wrap (a_b-a_m))=(1:Int)))=true) (H:xN rec n a_data a_a a_m a_b a_cmp=some r):Run Tryz.prog 196 [dC ae 2 v a_data] [.one (.sl 0 v 0 n), .one (.c (.int .i64 a_a)), .one (.c (.int .i64 a_m)), .one (.c (.int .i64 a_b)), .one (.c (.fn F_a_cmp caps_a_cmp))] [dC ae 2 v r] (.tup []):=by
 unfold xN at H
 refine bN ay Tryz.func196 rfl rfl Tryz.ntmps196 (by simp) ?_
 simp only [kP]
 rcases af H with ⟨q_1,H⟩|⟨q_1,H⟩
 ·exact nomatch hq0.symm.trans q_1
 rcases af H with ⟨q_14,H⟩|⟨q_14,H⟩
 ·refine AJ ?_
  refine alM_ (fun s:Int × Int=>match s with|(i_15,j_16)=>[(0, .one (.sl 0 v 0 n)),(2, .one (.c (.int .i64 a_m))),(4, .one (.c (.fn F_a_cmp caps_a_cmp))),(14, .one (.c (.int .i64 i_15))),(15, .one (.c (.int .i64 j_16)))]) (fun s=>match s with|(i_15,j_16)=>[dC ae 2 v a_data]) H (fun _=>ag' _)
   (fm_ dh [] rfl bH ⟨aT _ _ _ _ _,trivial⟩) ?_
  rintro ⟨i_15,j_16⟩ st3 hb3 hk3
  unfold ve at hb3
  dsimp only at hb3 ⊢
  rcases af hb3 with ⟨q_17,hb3⟩|⟨q_17,hb3⟩
  ·obtain ⟨g20,hb3⟩:=aG hb3
   obtain ⟨g21,hb3⟩:=aG hb3
   obtain ⟨x_18,i22,hb3⟩:=pO hb3
   obtain ⟨g23,hb3⟩:=aG hb3
   obtain ⟨g24,hb3⟩:=aG hb3
   obtain ⟨x_19,i25,hb3⟩:=pO hb3
   obtain ⟨r_20,c26,hb3⟩:=bd_ hb3
   replace c26:=hf_a_cmp _ _ _ c26
   rcases af hb3 with ⟨q_21,hb3⟩|⟨q_21,hb3⟩
   ·cases hb3
    refine AJ ?_
    exact ⟨_,rfl,fm_ dh [] rfl bH ⟨aT _ _ _ _ _,trivial⟩⟩
   cases hb3
   refine AJ ?_
   exact ⟨_,rfl,fm_ dh [] rfl bH ⟨aT _ _ _ _ _,trivial⟩⟩
  cases hb3
  have hx3:zk a_data a_m n (.inl (i_15,j_16))=some _:=hk3
  unfold zk at hx3
  dsimp only at hx3
  refine AJ ?_
  refine alM_ (fun s:(List aa) × Int=>match s with|(c_22,k_23)=>[(0, .one (.sl 0 v 0 n)),(14, .one (.c (.int .i64 i_15))),(17, .one (.c (.int .i64 k_23)))]) (fun s=>match s with|(c_22,k_23)=>[dC ae 2 v c_22]) hx3 (fun _=>ag' _)
   (fm_ dh [] rfl bH ⟨aT _ _ _ _ _,trivial⟩) ?_
  rintro ⟨c_22,k_23⟩ st4 hb4 hk4
  unfold q9 at hb4
  dsimp only at hb4 ⊢
  rcases af hb4 with ⟨q_24,hb4⟩|⟨q_24,hb4⟩
  ·obtain ⟨g27,hb4⟩:=aG hb4
   obtain ⟨g28,hb4⟩:=aG hb4
   obtain ⟨x_25,i29,hb4⟩:=pO hb4
   obtain ⟨g30,hb4⟩:=aG hb4
   obtain ⟨g31,hb4⟩:=aG hb4
   obtain ⟨x_26,i32,hb4⟩:=pO hb4
   obtain ⟨g33,hb4⟩:=aG hb4
   obtain ⟨g34,hb4⟩:=aG hb4
   obtain ⟨g35,hb4⟩:=aG hb4
   obtain ⟨g36,hb4⟩:=aG hb4
   obtain ⟨g37,hb4⟩:=aG hb4
   obtain ⟨g38,hb4⟩:=aG hb4
   cases hb4
   refine AJ ?_
   exact ⟨_,rfl,fm_ dh [] rfl bH ⟨aT _ _ _ _ _,trivial⟩⟩
  cases hb4
  have hx4:JG (.inl (c_22,k_23))=some _:=hk4
  unfold JG at hx4
  dsimp only at hx4
  cases hx4
  exact mi
 exact nomatch hq1.symm.trans q_14
set_option maxHeartbeats 8000000
theorem SF {rec:Nat->List aa->Int->Int->Int->(aa->aa->Option Int)->Option (List aa)} {n:Nat}  (hrec : ∀ {n:Nat} {X:List aa} {a m b:Int} {cmp:aa->aa->Option Int} {v:Nat} {F_a_cmp:FuncId} {caps_a_cmp:List AC} (hf_a_cmp : ∀ (y0:aa) (y1:aa) (r:Int),cmp y0 y1=some r->Pure Tryz.prog F_a_cmp ([.agg (ae y0), .agg (ae y1)]++caps_a_cmp.map .one) (.val (.one (.int .i64 r)))) {r:List aa}, rec n X a m b cmp=some r->Run Tryz.prog 196 [dC ae 2 v X] [.one (.sl 0 v 0 n), .one (.c (.int .i64 a)), .one (.c (.int .i64 m)), .one (.c (.int .i64 b)), .one (.c (.fn F_a_cmp caps_a_cmp))] [dC ae 2 v r] (.tup [])) {a_data:(List aa)} {a_a:Int} {a_m:Int} {a_b:Int} {a_cmp:aa->aa->Option (Int)} {v:Nat} {r:List aa} {F_a_cmp:FuncId} {caps_a_cmp:List AC} (hf_a_cmp : ∀ (y0:aa) (y1:aa) (r:Int),a_cmp y0 y1=some r->Pure Tryz.prog F_a_cmp ([.agg (ae y0), .agg (ae y1)]++caps_a_cmp.map .one) (.val (.one (.int .i64 r)))) (hq0:(decide ((IntKind.i64.wrap (a_m-a_a))=(1:Int)))=false) (hq1:(decide ((IntKind.i64.wrap (a_b-a_m))=(1:Int)))=false) (hq2:(decide ((bT (IntKind.i64.wrap (a_a+a_b)))<a_m))=true) (H:xN rec n a_data a_a a_m a_b a_cmp=some r):Run Tryz.prog 196 [dC ae 2 v a_data] [.one (.sl 0 v 0 n), .one (.c (.int .i64 a_a)), .one (.c (.int .i64 a_m)), .one (.c (.int .i64 a_b)), .one (.c (.fn F_a_cmp caps_a_cmp))] [dC ae 2 v r] (.tup []):=by
 unfold xN at H
 refine bN ay Tryz.func196 rfl rfl Tryz.ntmps196 (by simp) ?_
 simp only [kP]
 rcases af H with ⟨q_1,H⟩|⟨q_1,H⟩
 ·exact nomatch hq0.symm.trans q_1
 rcases af H with ⟨q_14,H⟩|⟨q_14,H⟩
 ·exact nomatch hq1.symm.trans q_14
 rcases af H with ⟨q_27,H⟩|⟨q_27,H⟩
 ·refine AJ ?_
  refine alM_ (fun s:Int × Int=>match s with|(start_28,r_29)=>[(0, .one (.sl 0 v 0 n)),(1, .one (.c (.int .i64 a_a))),(2, .one (.c (.int .i64 a_m))),(3, .one (.c (.int .i64 a_b))),(4, .one (.c (.fn F_a_cmp caps_a_cmp))),(18, .one (.c (.int .i64 (bT (IntKind.i64.wrap (a_a+a_b)))))),(19, .one (.c (.int .i64 (IntKind.i64.wrap ((bT (IntKind.i64.wrap (a_a+a_b)))+a_m))))),(20, .one (.c (.int .i64 start_28))),(21, .one (.c (.int .i64 r_29))),(22, .one (.c (.int .i64 (IntKind.i64.wrap ((IntKind.i64.wrap ((bT (IntKind.i64.wrap (a_a+a_b)))+a_m))-(1:Int))))))]) (fun s=>match s with|(start_28,r_29)=>[dC ae 2 v a_data]) H (fun _=>ag' _)
   (fm_ dh [] rfl bH ⟨aT _ _ _ _ _,trivial⟩) ?_
  rintro ⟨start_28,r_29⟩ st5 hb5 hk5
  unfold oQ at hb5
  dsimp only at hb5 ⊢
  rcases af hb5 with ⟨q_30,hb5⟩|⟨q_30,hb5⟩
  ·obtain ⟨g39,hb5⟩:=aG hb5
   obtain ⟨g40,hb5⟩:=aG hb5
   obtain ⟨x_31,i41,hb5⟩:=pO hb5
   obtain ⟨g42,hb5⟩:=aG hb5
   obtain ⟨g43,hb5⟩:=aG hb5
   obtain ⟨x_32,i44,hb5⟩:=pO hb5
   obtain ⟨r_33,c45,hb5⟩:=bd_ hb5
   replace c45:=hf_a_cmp _ _ _ c45
   rcases af hb5 with ⟨q_34,hb5⟩|⟨q_34,hb5⟩
   ·cases hb5
    refine AJ ?_
    exact ⟨_,rfl,fm_ dh [] rfl bH ⟨aT _ _ _ _ _,trivial⟩⟩
   cases hb5
   refine AJ ?_
   exact ⟨_,rfl,fm_ dh [] rfl bH ⟨aT _ _ _ _ _,trivial⟩⟩
  cases hb5
  have hx5:pg a_data a_a a_m a_b a_cmp n rec (.inl (start_28,r_29))=some _:=hk5
  unfold pg at hx5
  dsimp only at hx5
  rcases af hx5 with ⟨q_35,hx5⟩|⟨q_35,hx5⟩
  ·rcases af hx5 with ⟨q_36,hx5⟩|⟨q_36,hx5⟩
   ·obtain ⟨c_37,c46,hx5⟩:=bd_ hx5
    replace c46:=Gc (v:=v) (caps_a_cmp:=caps_a_cmp) hf_a_cmp c46
    rcases af hx5 with ⟨q_38,hx5⟩|⟨q_38,hx5⟩
    ·rcases af hx5 with ⟨q_39,hx5⟩|⟨q_39,hx5⟩
     ·obtain ⟨c_40,c47,hx5⟩:=bd_ hx5
      replace c47:=hrec (v:=v) (caps_a_cmp:=caps_a_cmp) hf_a_cmp c47
      rcases af hx5 with ⟨q_41,hx5⟩|⟨q_41,hx5⟩
      ·rcases af hx5 with ⟨q_42,hx5⟩|⟨q_42,hx5⟩
       ·obtain ⟨c_43,c48,hx5⟩:=bd_ hx5
        replace c48:=hrec (v:=v) (caps_a_cmp:=caps_a_cmp) hf_a_cmp c48
        cases hx5
        exact mi
       cases hx5
       exact mi
      cases hx5
      exact mi
     rcases af hx5 with ⟨q_44,hx5⟩|⟨q_44,hx5⟩
     ·rcases af hx5 with ⟨q_45,hx5⟩|⟨q_45,hx5⟩
      ·obtain ⟨c_46,c49,hx5⟩:=bd_ hx5
       replace c49:=hrec (v:=v) (caps_a_cmp:=caps_a_cmp) hf_a_cmp c49
       cases hx5
       exact mi
      cases hx5
      exact mi
     cases hx5
     exact mi
    rcases af hx5 with ⟨q_47,hx5⟩|⟨q_47,hx5⟩
    ·rcases af hx5 with ⟨q_48,hx5⟩|⟨q_48,hx5⟩
     ·obtain ⟨c_49,c50,hx5⟩:=bd_ hx5
      replace c50:=hrec (v:=v) (caps_a_cmp:=caps_a_cmp) hf_a_cmp c50
      cases hx5
      exact mi
     cases hx5
     exact mi
    cases hx5
    exact mi
   rcases af hx5 with ⟨q_50,hx5⟩|⟨q_50,hx5⟩
   ·rcases af hx5 with ⟨q_51,hx5⟩|⟨q_51,hx5⟩
    ·obtain ⟨c_52,c51,hx5⟩:=bd_ hx5
     replace c51:=hrec (v:=v) (caps_a_cmp:=caps_a_cmp) hf_a_cmp c51
     rcases af hx5 with ⟨q_53,hx5⟩|⟨q_53,hx5⟩
     ·rcases af hx5 with ⟨q_54,hx5⟩|⟨q_54,hx5⟩
      ·obtain ⟨c_55,c52,hx5⟩:=bd_ hx5
       replace c52:=hrec (v:=v) (caps_a_cmp:=caps_a_cmp) hf_a_cmp c52
       cases hx5
       exact mi
      cases hx5
      exact mi
     cases hx5
     exact mi
    rcases af hx5 with ⟨q_56,hx5⟩|⟨q_56,hx5⟩
    ·rcases af hx5 with ⟨q_57,hx5⟩|⟨q_57,hx5⟩
     ·obtain ⟨c_58,c53,hx5⟩:=bd_ hx5
      replace c53:=hrec (v:=v) (caps_a_cmp:=caps_a_cmp) hf_a_cmp c53
      cases hx5
      exact mi
     cases hx5
     exact mi
    cases hx5
    exact mi
   rcases af hx5 with ⟨q_59,hx5⟩|⟨q_59,hx5⟩
   ·rcases af hx5 with ⟨q_60,hx5⟩|⟨q_60,hx5⟩
    ·obtain ⟨c_61,c54,hx5⟩:=bd_ hx5
     replace c54:=hrec (v:=v) (caps_a_cmp:=caps_a_cmp) hf_a_cmp c54
     cases hx5
     exact mi
    cases hx5
    exact mi
   cases hx5
   exact mi
  rcases af hx5 with ⟨q_62,hx5⟩|⟨q_62,hx5⟩
  ·rcases af hx5 with ⟨q_63,hx5⟩|⟨q_63,hx5⟩
   ·obtain ⟨c_64,c55,hx5⟩:=bd_ hx5
    replace c55:=hrec (v:=v) (caps_a_cmp:=caps_a_cmp) hf_a_cmp c55
    rcases af hx5 with ⟨q_65,hx5⟩|⟨q_65,hx5⟩
    ·rcases af hx5 with ⟨q_66,hx5⟩|⟨q_66,hx5⟩
     ·obtain ⟨c_67,c56,hx5⟩:=bd_ hx5
      replace c56:=hrec (v:=v) (caps_a_cmp:=caps_a_cmp) hf_a_cmp c56
      cases hx5
      exact mi
     cases hx5
     exact mi
    cases hx5
    exact mi
   rcases af hx5 with ⟨q_68,hx5⟩|⟨q_68,hx5⟩
   ·rcases af hx5 with ⟨q_69,hx5⟩|⟨q_69,hx5⟩
    ·obtain ⟨c_70,c57,hx5⟩:=bd_ hx5
     replace c57:=hrec (v:=v) (caps_a_cmp:=caps_a_cmp) hf_a_cmp c57
     cases hx5
     exact mi
    cases hx5
    exact mi
   cases hx5
   exact mi
  rcases af hx5 with ⟨q_71,hx5⟩|⟨q_71,hx5⟩
  ·rcases af hx5 with ⟨q_72,hx5⟩|⟨q_72,hx5⟩
   ·obtain ⟨c_73,c58,hx5⟩:=bd_ hx5
    replace c58:=hrec (v:=v) (caps_a_cmp:=caps_a_cmp) hf_a_cmp c58
    cases hx5
    exact mi
   cases hx5
   exact mi
  cases hx5
  exact mi
 exact nomatch hq2.symm.trans q_27
set_option maxHeartbeats 8000000
theorem Un {rec:Nat->List aa->Int->Int->Int->(aa->aa->Option Int)->Option (List aa)} {n:Nat}  (hrec : ∀ {n:Nat} {X:List aa} {a m b:Int} {cmp:aa->aa->Option Int} {v:Nat} {F_a_cmp:FuncId} {caps_a_cmp:List AC} (hf_a_cmp : ∀ (y0:aa) (y1:aa) (r:Int),cmp y0 y1=some r->Pure Tryz.prog F_a_cmp ([.agg (ae y0), .agg (ae y1)]++caps_a_cmp.map .one) (.val (.one (.int .i64 r)))) {r:List aa}, rec n X a m b cmp=some r->Run Tryz.prog 196 [dC ae 2 v X] [.one (.sl 0 v 0 n), .one (.c (.int .i64 a)), .one (.c (.int .i64 m)), .one (.c (.int .i64 b)), .one (.c (.fn F_a_cmp caps_a_cmp))] [dC ae 2 v r] (.tup [])) {a_data:(List aa)} {a_a:Int} {a_m:Int} {a_b:Int} {a_cmp:aa->aa->Option (Int)} {v:Nat} {r:List aa} {F_a_cmp:FuncId} {caps_a_cmp:List AC} (hf_a_cmp : ∀ (y0:aa) (y1:aa) (r:Int),a_cmp y0 y1=some r->Pure Tryz.prog F_a_cmp ([.agg (ae y0), .agg (ae y1)]++caps_a_cmp.map .one) (.val (.one (.int .i64 r)))) (hq0:(decide ((IntKind.i64.wrap (a_m-a_a))=(1:Int)))=false) (hq1:(decide ((IntKind.i64.wrap (a_b-a_m))=(1:Int)))=false) (hq2:(decide ((bT (IntKind.i64.wrap (a_a+a_b)))<a_m))=false) (H:xN rec n a_data a_a a_m a_b a_cmp=some r):Run Tryz.prog 196 [dC ae 2 v a_data] [.one (.sl 0 v 0 n), .one (.c (.int .i64 a_a)), .one (.c (.int .i64 a_m)), .one (.c (.int .i64 a_b)), .one (.c (.fn F_a_cmp caps_a_cmp))] [dC ae 2 v r] (.tup []):=by
 unfold xN at H
 refine bN ay Tryz.func196 rfl rfl Tryz.ntmps196 (by simp) ?_
 simp only [kP]
 rcases af H with ⟨q_1,H⟩|⟨q_1,H⟩
 ·exact nomatch hq0.symm.trans q_1
 rcases af H with ⟨q_14,H⟩|⟨q_14,H⟩
 ·exact nomatch hq1.symm.trans q_14
 rcases af H with ⟨q_27,H⟩|⟨q_27,H⟩
 ·exact nomatch hq2.symm.trans q_27
 refine AJ ?_
 refine alM_ (fun s:Int × Int=>match s with|(start_74,r_75)=>[(0, .one (.sl 0 v 0 n)),(1, .one (.c (.int .i64 a_a))),(2, .one (.c (.int .i64 a_m))),(3, .one (.c (.int .i64 a_b))),(4, .one (.c (.fn F_a_cmp caps_a_cmp))),(18, .one (.c (.int .i64 (bT (IntKind.i64.wrap (a_a+a_b)))))),(19, .one (.c (.int .i64 (IntKind.i64.wrap ((bT (IntKind.i64.wrap (a_a+a_b)))+a_m))))),(20, .one (.c (.int .i64 start_74))),(21, .one (.c (.int .i64 r_75))),(22, .one (.c (.int .i64 (IntKind.i64.wrap ((IntKind.i64.wrap ((bT (IntKind.i64.wrap (a_a+a_b)))+a_m))-(1:Int))))))]) (fun s=>match s with|(start_74,r_75)=>[dC ae 2 v a_data]) H (fun _=>ag' _)
  (fm_ dh [] rfl bH ⟨aT _ _ _ _ _,trivial⟩) ?_
 rintro ⟨start_74,r_75⟩ st6 hb6 hk6
 unfold Dz at hb6
 dsimp only at hb6 ⊢
 rcases af hb6 with ⟨q_76,hb6⟩|⟨q_76,hb6⟩
 ·obtain ⟨g59,hb6⟩:=aG hb6
  obtain ⟨g60,hb6⟩:=aG hb6
  obtain ⟨x_77,i61,hb6⟩:=pO hb6
  obtain ⟨g62,hb6⟩:=aG hb6
  obtain ⟨g63,hb6⟩:=aG hb6
  obtain ⟨x_78,i64,hb6⟩:=pO hb6
  obtain ⟨r_79,c65,hb6⟩:=bd_ hb6
  replace c65:=hf_a_cmp _ _ _ c65
  rcases af hb6 with ⟨q_80,hb6⟩|⟨q_80,hb6⟩
  ·cases hb6
   refine AJ ?_
   exact ⟨_,rfl,fm_ dh [] rfl bH ⟨aT _ _ _ _ _,trivial⟩⟩
  cases hb6
  refine AJ ?_
  exact ⟨_,rfl,fm_ dh [] rfl bH ⟨aT _ _ _ _ _,trivial⟩⟩
 cases hb6
 have hx6:yU a_data a_a a_m a_b a_cmp n rec (.inl (start_74,r_75))=some _:=hk6
 unfold yU at hx6
 dsimp only at hx6
 rcases af hx6 with ⟨q_81,hx6⟩|⟨q_81,hx6⟩
 ·rcases af hx6 with ⟨q_82,hx6⟩|⟨q_82,hx6⟩
  ·obtain ⟨c_83,c66,hx6⟩:=bd_ hx6
   replace c66:=Gc (v:=v) (caps_a_cmp:=caps_a_cmp) hf_a_cmp c66
   rcases af hx6 with ⟨q_84,hx6⟩|⟨q_84,hx6⟩
   ·rcases af hx6 with ⟨q_85,hx6⟩|⟨q_85,hx6⟩
    ·obtain ⟨c_86,c67,hx6⟩:=bd_ hx6
     replace c67:=hrec (v:=v) (caps_a_cmp:=caps_a_cmp) hf_a_cmp c67
     rcases af hx6 with ⟨q_87,hx6⟩|⟨q_87,hx6⟩
     ·rcases af hx6 with ⟨q_88,hx6⟩|⟨q_88,hx6⟩
      ·obtain ⟨c_89,c68,hx6⟩:=bd_ hx6
       replace c68:=hrec (v:=v) (caps_a_cmp:=caps_a_cmp) hf_a_cmp c68
       cases hx6
       exact mi
      cases hx6
      exact mi
     cases hx6
     exact mi
    rcases af hx6 with ⟨q_90,hx6⟩|⟨q_90,hx6⟩
    ·rcases af hx6 with ⟨q_91,hx6⟩|⟨q_91,hx6⟩
     ·obtain ⟨c_92,c69,hx6⟩:=bd_ hx6
      replace c69:=hrec (v:=v) (caps_a_cmp:=caps_a_cmp) hf_a_cmp c69
      cases hx6
      exact mi
     cases hx6
     exact mi
    cases hx6
    exact mi
   rcases af hx6 with ⟨q_93,hx6⟩|⟨q_93,hx6⟩
   ·rcases af hx6 with ⟨q_94,hx6⟩|⟨q_94,hx6⟩
    ·obtain ⟨c_95,c70,hx6⟩:=bd_ hx6
     replace c70:=hrec (v:=v) (caps_a_cmp:=caps_a_cmp) hf_a_cmp c70
     cases hx6
     exact mi
    cases hx6
    exact mi
   cases hx6
   exact mi
  rcases af hx6 with ⟨q_96,hx6⟩|⟨q_96,hx6⟩
  ·rcases af hx6 with ⟨q_97,hx6⟩|⟨q_97,hx6⟩
   ·obtain ⟨c_98,c71,hx6⟩:=bd_ hx6
    replace c71:=hrec (v:=v) (caps_a_cmp:=caps_a_cmp) hf_a_cmp c71
    rcases af hx6 with ⟨q_99,hx6⟩|⟨q_99,hx6⟩
    ·rcases af hx6 with ⟨q_100,hx6⟩|⟨q_100,hx6⟩
     ·obtain ⟨c_101,c72,hx6⟩:=bd_ hx6
      replace c72:=hrec (v:=v) (caps_a_cmp:=caps_a_cmp) hf_a_cmp c72
      cases hx6
      exact mi
     cases hx6
     exact mi
    cases hx6
    exact mi
   rcases af hx6 with ⟨q_102,hx6⟩|⟨q_102,hx6⟩
   ·rcases af hx6 with ⟨q_103,hx6⟩|⟨q_103,hx6⟩
    ·obtain ⟨c_104,c73,hx6⟩:=bd_ hx6
     replace c73:=hrec (v:=v) (caps_a_cmp:=caps_a_cmp) hf_a_cmp c73
     cases hx6
     exact mi
    cases hx6
    exact mi
   cases hx6
   exact mi
  rcases af hx6 with ⟨q_105,hx6⟩|⟨q_105,hx6⟩
  ·rcases af hx6 with ⟨q_106,hx6⟩|⟨q_106,hx6⟩
   ·obtain ⟨c_107,c74,hx6⟩:=bd_ hx6
    replace c74:=hrec (v:=v) (caps_a_cmp:=caps_a_cmp) hf_a_cmp c74
    cases hx6
    exact mi
   cases hx6
   exact mi
  cases hx6
  exact mi
 rcases af hx6 with ⟨q_108,hx6⟩|⟨q_108,hx6⟩
 ·rcases af hx6 with ⟨q_109,hx6⟩|⟨q_109,hx6⟩
  ·obtain ⟨c_110,c75,hx6⟩:=bd_ hx6
   replace c75:=hrec (v:=v) (caps_a_cmp:=caps_a_cmp) hf_a_cmp c75
   rcases af hx6 with ⟨q_111,hx6⟩|⟨q_111,hx6⟩
   ·rcases af hx6 with ⟨q_112,hx6⟩|⟨q_112,hx6⟩
    ·obtain ⟨c_113,c76,hx6⟩:=bd_ hx6
     replace c76:=hrec (v:=v) (caps_a_cmp:=caps_a_cmp) hf_a_cmp c76
     cases hx6
     exact mi
    cases hx6
    exact mi
   cases hx6
   exact mi
  rcases af hx6 with ⟨q_114,hx6⟩|⟨q_114,hx6⟩
  ·rcases af hx6 with ⟨q_115,hx6⟩|⟨q_115,hx6⟩
   ·obtain ⟨c_116,c77,hx6⟩:=bd_ hx6
    replace c77:=hrec (v:=v) (caps_a_cmp:=caps_a_cmp) hf_a_cmp c77
    cases hx6
    exact mi
   cases hx6
   exact mi
  cases hx6
  exact mi
 rcases af hx6 with ⟨q_117,hx6⟩|⟨q_117,hx6⟩
 ·rcases af hx6 with ⟨q_118,hx6⟩|⟨q_118,hx6⟩
  ·obtain ⟨c_119,c78,hx6⟩:=bd_ hx6
   replace c78:=hrec (v:=v) (caps_a_cmp:=caps_a_cmp) hf_a_cmp c78
   cases hx6
   exact mi
  cases hx6
  exact mi
 cases hx6
 exact mi
set_option maxHeartbeats 8000000
theorem YE {rec:Nat->List aa->Int->Int->Int->(aa->aa->Option Int)->Option (List aa)} {n:Nat}  (hrec : ∀ {n:Nat} {X:List aa} {a m b:Int} {cmp:aa->aa->Option Int} {v:Nat} {F_a_cmp:FuncId} {caps_a_cmp:List AC} (hf_a_cmp : ∀ (y0:aa) (y1:aa) (r:Int),cmp y0 y1=some r->Pure Tryz.prog F_a_cmp ([.agg (ae y0), .agg (ae y1)]++caps_a_cmp.map .one) (.val (.one (.int .i64 r)))) {r:List aa}, rec n X a m b cmp=some r->Run Tryz.prog 196 [dC ae 2 v X] [.one (.sl 0 v 0 n), .one (.c (.int .i64 a)), .one (.c (.int .i64 m)), .one (.c (.int .i64 b)), .one (.c (.fn F_a_cmp caps_a_cmp))] [dC ae 2 v r] (.tup [])) {a_data:(List aa)} {a_a:Int} {a_m:Int} {a_b:Int} {a_cmp:aa->aa->Option (Int)} {v:Nat} {r:List aa} {F_a_cmp:FuncId} {caps_a_cmp:List AC} (hf_a_cmp : ∀ (y0:aa) (y1:aa) (r:Int),a_cmp y0 y1=some r->Pure Tryz.prog F_a_cmp ([.agg (ae y0), .agg (ae y1)]++caps_a_cmp.map .one) (.val (.one (.int .i64 r)))) (H:xN rec n a_data a_a a_m a_b a_cmp=some r):Run Tryz.prog 196 [dC ae 2 v a_data] [.one (.sl 0 v 0 n), .one (.c (.int .i64 a_a)), .one (.c (.int .i64 a_m)), .one (.c (.int .i64 a_b)), .one (.c (.fn F_a_cmp caps_a_cmp))] [dC ae 2 v r] (.tup []):=by
 rcases hq0:(decide ((IntKind.i64.wrap (a_m-a_a))=(1:Int))) with _|_
 ·rcases hq1:(decide ((IntKind.i64.wrap (a_b-a_m))=(1:Int))) with _|_
  ·rcases hq2:(decide ((bT (IntKind.i64.wrap (a_a+a_b)))<a_m)) with _|_
   ·exact Un hrec hf_a_cmp hq0 hq1 hq2 H
   ·exact SF hrec hf_a_cmp hq0 hq1 hq2 H
  ·exact TE hrec hf_a_cmp hq0 hq1 H
 ·exact TS hrec hf_a_cmp hq0 H
theorem Jf : ∀ (q:Nat) {n:Nat} {X:List aa} {a m b:Int} {cmp:aa->aa->Option Int} {v:Nat} {F_a_cmp:FuncId} {caps_a_cmp:List AC} (hf_a_cmp : ∀ (y0:aa) (y1:aa) (r:Int),cmp y0 y1=some r->Pure Tryz.prog F_a_cmp ([.agg (ae y0), .agg (ae y1)]++caps_a_cmp.map .one) (.val (.one (.int .i64 r)))) {r:List aa}, HY q n X a m b cmp=some r->Run Tryz.prog 196 [dC ae 2 v X] [.one (.sl 0 v 0 n), .one (.c (.int .i64 a)), .one (.c (.int .i64 m)), .one (.c (.int .i64 b)), .one (.c (.fn F_a_cmp caps_a_cmp))] [dC ae 2 v r] (.tup [])
 | 0,_,_,_,_,_,_,_,_,_,_,_,h=>nomatch h
 | q+1,_,_,_,_,_,_,_,_,_,hf,_,h=>YE (Jf q) hf h
theorem QU {n:Nat}  {a_data:(List aa)} {a_n:Int} {a_cmp:aa->aa->Option (Int)} {v:Nat} {r:List aa} {F_a_cmp:FuncId} {caps_a_cmp:List AC} (hf_a_cmp : ∀ (y0:aa) (y1:aa) (r:Int),a_cmp y0 y1=some r->Pure Tryz.prog F_a_cmp ([.agg (ae y0), .agg (ae y1)]++caps_a_cmp.map .one) (.val (.one (.int .i64 r)))) (H:D7 n a_data a_n a_cmp=some r):Run Tryz.prog 178 [dC ae 2 v a_data] [.one (.sl 0 v 0 n), .one (.c (.int .i64 a_n)), .one (.c (.fn F_a_cmp caps_a_cmp))] [dC ae 2 v r] (.tup []):=by
 unfold D7 at H
 refine bN ay Tryz.func178 rfl rfl Tryz.ntmps178 (by simp) ?_
 simp only [kP]
 refine AJ ?_
 refine alM_ (fun s:(List aa) × Int × Int=>match s with|(c_1,a_2,b_3)=>[(0, .one (.sl 0 v 0 n)),(1, .one (.c (.int .i64 a_n))),(2, .one (.c (.fn F_a_cmp caps_a_cmp))),(6, .one (.c (.int .i64 (20:Int)))),(7, .one (.c (.int .i64 a_2))),(8, .one (.c (.int .i64 b_3)))]) (fun s=>match s with|(c_1,a_2,b_3)=>[dC ae 2 v c_1]) H (fun _=>ag' _)
  (fm_ dh [] rfl bH ⟨aT _ _ _ _ _,trivial⟩) ?_
 rintro ⟨c_1,a_2,b_3⟩ st1 hb1 hk1
 unfold lQ at hb1
 dsimp only at hb1 ⊢
 rcases af hb1 with ⟨q_4,hb1⟩|⟨q_4,hb1⟩
 ·obtain ⟨c_5,c1,hb1⟩:=bd_ hb1
  replace c1:=DJ (v:=v) (caps_a_cmp:=caps_a_cmp) hf_a_cmp c1
  cases hb1
  refine AJ ?_
  exact ⟨_,rfl,fm_ dh [] rfl bH ⟨aT _ _ _ _ _,trivial⟩⟩
 cases hb1
 have hx1:v_ a_n a_cmp n (.inl (c_1,a_2,b_3))=some _:=hk1
 unfold v_ at hx1
 dsimp only at hx1
 obtain ⟨c_6,c2,hx1⟩:=bd_ hx1
 replace c2:=DJ (v:=v) (caps_a_cmp:=caps_a_cmp) hf_a_cmp c2
 refine AJ ?_
 refine alM_ (fun s:(List aa) × Int=>match s with|(c_7,blockSize_8)=>[(0, .one (.sl 0 v 0 n)),(1, .one (.c (.int .i64 a_n))),(2, .one (.c (.fn F_a_cmp caps_a_cmp))),(6, .one (.c (.int .i64 blockSize_8)))]) (fun s=>match s with|(c_7,blockSize_8)=>[dC ae 2 v c_7]) hx1 (fun _=>ag' _)
  (fm_ dh [] rfl bH ⟨aT _ _ _ _ _,trivial⟩) ?_
 rintro ⟨c_7,blockSize_8⟩ st4 hb4 hk4
 unfold lJ at hb4
 dsimp only at hb4 ⊢
 rcases af hb4 with ⟨q_9,hb4⟩|⟨q_9,hb4⟩
 ·refine AJ ?_
  refine alM_ (fun s:(List aa) × Int × Int=>match s with|(c_10,a_11,b_12)=>[(0, .one (.sl 0 v 0 n)),(1, .one (.c (.int .i64 a_n))),(2, .one (.c (.fn F_a_cmp caps_a_cmp))),(6, .one (.c (.int .i64 blockSize_8))),(7, .one (.c (.int .i64 a_11))),(8, .one (.c (.int .i64 b_12)))]) (fun s=>match s with|(c_10,a_11,b_12)=>[dC ae 2 v c_10]) hb4 (fun _=>ag' _)
   (fm_ dh [] rfl bH ⟨aT _ _ _ _ _,trivial⟩) ?_
  rintro ⟨c_10,a_11,b_12⟩ st5 hb5 hk5
  unfold lG at hb5
  dsimp only at hb5 ⊢
  rcases af hb5 with ⟨q_13,hb5⟩|⟨q_13,hb5⟩
  ·obtain ⟨c_14,c3,hb5⟩:=bd_ hb5
   replace c3:=Jf fuel (v:=v) (caps_a_cmp:=caps_a_cmp) hf_a_cmp c3
   cases hb5
   refine AJ ?_
   exact ⟨_,rfl,fm_ dh [] rfl bH ⟨aT _ _ _ _ _,trivial⟩⟩
  cases hb5
  have hx5:vR a_n a_cmp n blockSize_8 (.inl (c_10,a_11,b_12))=some _:=hk5
  unfold vR at hx5
  dsimp only at hx5
  rcases af hx5 with ⟨q_15,hx5⟩|⟨q_15,hx5⟩
  ·obtain ⟨c_16,c4,hx5⟩:=bd_ hx5
   replace c4:=Jf fuel (v:=v) (caps_a_cmp:=caps_a_cmp) hf_a_cmp c4
   cases hx5
   refine AJ ?_
   exact ⟨_,rfl,fm_ dh [] rfl bH ⟨aT _ _ _ _ _,trivial⟩⟩
  cases hx5
  refine AJ ?_
  exact ⟨_,rfl,fm_ dh [] rfl bH ⟨aT _ _ _ _ _,trivial⟩⟩
 cases hb4
 have hx4:BF (.inl (c_7,blockSize_8))=some _:=hk4
 unfold BF at hx4
 dsimp only at hx4
 cases hx4
 exact mi
theorem RD {n:Nat}  {a_x:(List aa)} {a_cmp:aa->aa->Option (Int)} {v:Nat} {r:List aa} {F_a_cmp:FuncId} {caps_a_cmp:List AC} (hf_a_cmp : ∀ (y0:aa) (y1:aa) (r:Int),a_cmp y0 y1=some r->Pure Tryz.prog F_a_cmp ([.agg (ae y0), .agg (ae y1)]++caps_a_cmp.map .one) (.val (.one (.int .i64 r)))) (H:Dl n a_x a_cmp=some r):Run Tryz.prog 154 [dC ae 2 v a_x] [.one (.sl 0 v 0 n), .one (.c (.fn F_a_cmp caps_a_cmp))] [dC ae 2 v r] (.tup []):=by
 unfold Dl at H
 refine bN ay Tryz.func154 rfl rfl Tryz.ntmps154 (by simp) ?_
 simp only [kP]
 obtain ⟨c_1,c1,H⟩:=bd_ H
 replace c1:=QU (v:=v) (caps_a_cmp:=caps_a_cmp) hf_a_cmp c1
 cases H
 exact mi
section
variable {α:Type} {lt:α->α->Bool} {S:α->Prop}
structure DC (lt:α->α->Bool) (S:α->Prop):Prop where
 irr : ∀ x,S x->lt x x=false
 tr : ∀ x y z,S x->S y->S z->lt x y=true->lt y z=true->lt x z=true
 tot : ∀ x y,S x->S y->lt x y=false->lt y x=false->x=y
theorem DC.mono {S':α->Prop} (h:DC lt S) (k : ∀ x,S' x->S x):DC lt S' :=
 ⟨fun x hx=>h.irr x (k x hx),fun x y z hx hy hz=>h.tr x y z (k x hx) (k y hy) (k z hz),fun x y hx hy=>h.tot x y (k x hx) (k y hy)⟩
def fT (lt:α->α->Bool) (l:List α):Prop:=l.Pairwise fun a b=>lt b a=false
theorem DC.le_tr (h:DC lt S) {x y z:α} (sx:S x) (sy:S y) (sz:S z) (h1:lt y x=false) (h2:lt z y=false):lt z x=false:=by
 cases h3:lt z x with
 | false=>rfl
 | true =>
  cases h4:lt x y with
  | true=>rw [h.tr z x y sz sx sy h3 h4] at h2;cases h2
  | false=>have:=h.tot x y sx sy h4 h1;subst this;rw [h3] at h2;cases h2
theorem DC.le_of (h:DC lt S) {x y:α} (sx:S x) (sy:S y) (h1:lt x y=true):lt y x=false:=by
 cases h2:lt y x with
 | false=>rfl
 | true=>have:=h.tr x y x sx sy sx h1 h2;rw [h.irr x sx] at this;cases this
theorem Mh (h:DC lt S) : ∀ {l m:List α}, (∀ x∈l,S x)->fT lt l->fT lt m->l.Perm m->l=m
 | [],m,_,_,_,p=>by have:=p.length_eq;cases m with|nil=>rfl|cons y m=>simp at this
 | x::l,[],_,_,_,p=>by have:=p.length_eq;simp at this
 | x::l,y::m,hS,ha,hb,p=>by
  have hxy:x=y:=by
   have hx:x∈y::m:=p.mem_iff.1 (by simp)
   have hy:y∈x::l:=p.mem_iff.2 (by simp)
   have sy:=hS y hy
   rcases aha.1 hx with e|hx
   ·exact e
   ·rcases aha.1 hy with e|hy
    ·exact e.symm
    ·exact h.tot x y (hS x (by simp)) sy ((ahP.1 hb).1 x hx) ((ahP.1 ha).1 y hy)
  subst hxy
  rw [Mh h (fun z hz=>hS z (by simp [hz])) (ahP.1 ha).2 (ahP.1 hb).2 ((List.perm_cons x).1 p)]
theorem Sm (h:DC lt S) {L:List α} {x y:α} (hS : ∀ z∈L++[x],S z) (ha:fT lt (L++[x])) (hy:y∈L++[x]):lt x y=false:=by
 rcases ahl.1 hy with hy|hy
 ·exact (List.pairwise_append.1 ha).2.2 y hy x (by simp)
 ·simp at hy;subst hy;exact h.irr y (hS y (by simp))
theorem Qh (h:DC lt S) {L:List α} {x y:α} (hS : ∀ z∈x::L,S z) (ha:fT lt (x::L)) (hy:y∈x::L):lt y x=false:=by
 rcases aha.1 hy with rfl|hy
 ·exact h.irr y (hS y (by simp))
 ·exact (ahP.1 ha).1 y hy
theorem V6 (h:DC lt S) {A B:List α} (hA : ∀ z∈A,S z) (hB : ∀ z∈B,S z) (a:fT lt A) (b:fT lt B) (hg:A=[]\/B=[] \/ ∃ A' x y B',A=A'++[x]/\B=y::B'/\lt y x=false) : ∀ x∈A, ∀ y∈B,lt y x=false:=by
 intro u hu v hv
 rcases hg with rfl|rfl|⟨A',x,y,B',rfl,rfl,hxy⟩
 ·simp at hu
 ·simp at hv
 ·have s1:=hA u hu;have s2:=hA x (by simp);have s3:=hB y (by simp);have s4:=hB v hv
  exact h.le_tr s1 s2 s4 (Sm h hA a hu) (h.le_tr s2 s3 s4 hxy (Qh h hB b hv))
theorem Ht (h:DC lt S) {L1 L2:List α} {x:α} (sx:S x) (hS : ∀ z∈L1++L2,S z) (ha:fT lt (L1++L2)) (h1:L1=[] \/ ∃ L y,L1=L++[y]/\lt x y=false) (h2:L2=[] \/ ∃ z L,L2=z::L/\lt z x=false):fT lt (L1++x::L2):=by
 have hp:=List.pairwise_append.1 ha
 refine List.pairwise_append.2 ⟨hp.1,ahP.2 ⟨fun v hv=>?_,hp.2.1⟩,fun u hu v hv=>?_⟩
 ·rcases h2 with rfl|⟨z,L,rfl,hz⟩
  ·simp at hv
  ·exact h.le_tr sx (hS z (by simp)) (hS v (by simp at hv ⊢;exact .inr hv)) hz (Qh h (fun w hw=>hS w (by simp at hw ⊢;exact .inr hw)) hp.2.1 hv)
 ·rcases aha.1 hv with rfl|hv
  ·rcases h1 with rfl|⟨L,y,rfl,hy⟩
   ·simp at hu
   ·exact h.le_tr (hS u (by simp at hu ⊢;rcases hu with hu|hu;exact .inl hu;exact .inr (.inl hu))) (hS y (by simp)) sx (Sm h (fun w hw=>hS w (List.mem_append_left _ hw)) hp.1 hu) hy
  ·exact hp.2.2 u hu v hv
theorem SB (h:DC lt S) {A1 A2 B1 B2 M1 M2:List α} (hS : ∀ z∈(A1++A2)++(B1++B2),S z) (hA:fT lt (A1++A2)) (hB:fT lt (B1++B2)) (h1:A1=[]\/B2=[] \/ ∃ A' x y B',A1=A'++[x]/\B2=y::B'/\lt y x=false) (h2:B1=[]\/A2=[] \/ ∃ A' x y B',B1=A'++[x]/\A2=y::B'/\lt y x=false)
  (m1:fT lt M1) (m2:fT lt M2) (p1:M1.Perm (A1++B1)) (p2:M2.Perm (A2++B2)):fT lt (M1++M2):=by
 have pa:=List.pairwise_append.1 hA
 have pb:=List.pairwise_append.1 hB
 have g1:=V6 h (fun z hz=>hS z (by simp [hz])) (fun z hz=>hS z (by simp [hz])) pa.1 pb.2.1 h1
 have g2:=V6 h (fun z hz=>hS z (by simp [hz])) (fun z hz=>hS z (by simp [hz])) pb.1 pa.2.1 h2
 refine List.pairwise_append.2 ⟨m1,m2,fun x hx y hy=>?_⟩
 rcases ahl.1 (p1.mem_iff.1 hx) with hx|hx<;>rcases ahl.1 (p2.mem_iff.1 hy) with hy|hy
 ·exact pa.2.2 x hx y hy
 ·exact g1 x hx y hy
 ·exact g2 x hx y hy
 ·exact pb.2.2 x hx y hy
theorem RQ {A1 A2 B1 B2 M1 M2:List α} (p1:M1.Perm (A1++B1)) (p2:M2.Perm (A2++B2)):(M1++M2).Perm ((A1++A2)++(B1++B2)):=by
 refine (p1.append p2).trans ?_
 rw [ahk,ahk]
 refine List.Perm.append_left A1 ?_
 rw [<- ahk, <- ahk]
 exact List.Perm.append_right B2 List.perm_append_comm
theorem VQ {β:Type} (f:α->β) (U V T:List α) (x y:α):(((U++x::(V++y::T)).map f).set U.length (f y)).set (U.length+1+V.length) (f x)=(U++y::(V++x::T)).map f:=by
 rw [ag8,ag6,List.set_append_right _ _ (by simp)]
 simp only [ag7,Nat.sub_self,List.set_cons_zero]
 rw [List.set_append_right _ _ (by simp;omega)]
 simp only [ag7]
 rw [show U.length+1+V.length-U.length=V.length+1 by omega,List.set_cons_succ,ag8,List.set_append_right _ _ (by simp)]
 simp
theorem get_at (U:List α) (x:α) (T:List α):(U++x::T)[U.length]?=some x:=by simp
theorem G5 (U V T:List α) (x y:α):(U++x::(V++y::T))[U.length+1+V.length]?=some y:=by
 rw [ag2 (by omega),show U.length+1+V.length-U.length=V.length+1 by omega,List.getElem?_cons_succ,ag2 (by omega)]
 simp
end
section
variable {α:Type}
theorem Y4 (a b:Nat) (h:a+b<=4611686018427387904):IntKind.i64.wrap ((a:Int)+(b:Int))=((a+b:Nat):Int):=by rw [fK (by omega)];omega
theorem Xi (a b:Nat) (h:b<=a) (h2:a<=4611686018427387904):IntKind.i64.wrap ((a:Int)-(b:Int))=((a-b:Nat):Int):=by rw [fK (by omega)];omega
theorem Mx {i n:Nat} (h:i<n):decide ((i:Int)<((n:Nat):Int))=true:=agZ (by omega)
theorem Sd (i:Nat):decide ((0:Int)<=(i:Int))=true:=agZ (by omega)
theorem VP (i:Nat):0+((i:Int)).toNat=i:=by omega
theorem WL {n:Nat} {c:List α} {a b k i:Nat} {x y:α} (hn:c.length=n) (hn2:n<=1000000000) (hk:i<k) (ha:c[a+i]?=some x) (hb:c[b+i]?=some y):gN (a:Int) (b:Int) (k:Int) n (c,(i:Int))=some (.next ((c.set (a+i) y).set (b+i) x,((i+1:Nat):Int))):=by
 have h1:=(agV.1 ha).1
 have h2:=(agV.1 hb).1
 unfold gN
 dsimp only
 rw [Y4 a i (by omega),Y4 b i (by omega),wrapN (by omega)]
 simp only [Mx hk,Sd,Mx (show a+i<n by omega),Mx (show b+i<n by omega),agX,gn_ ha,gn_ hb,agU,VP,List.length_set,agZ (show a+i<c.length by omega),agZ (show b+i<c.length by omega)]
theorem WZ {n:Nat} {c:List α} {a b:Int} {k i:Nat} (hk : ¬ i<k):gN a b (k:Int) n (c,(i:Int))=some (.exit (c,(i:Int))):=by
 unfold gN
 dsimp only
 rw [agY (by omega),agW]
theorem NH {n:Nat} (hn2:n<=1000000000) (a b k:Nat) : ∀ (U W P V Q:List α) (N i:Nat),U.length=W.length->P.length=a+i->P.length+U.length+V.length=b+i->i+U.length=k->(P++(U++(V++(W++Q)))).length=n->U.length<N->ax (gN (a:Int) (b:Int) (k:Int) n) N (P++(U++(V++(W++Q))),(i:Int))=some (.inl (P++(W++(V++(U++Q))),((k:Nat):Int)))
 | U,W,P,V,Q,0,i,_,_,_,_,_,h=>by omega
 | [],W,P,V,Q,N+1,i,hl,hp,hb,hi,hn,_=>by
  have hW:W=[]:=ahu.1 hl.symm
  subst hW
  rw [ax,WZ (by simp at hi;omega)]
  simp only [aho,Nat.add_zero] at hi
  subst hi
  rfl
 | u::U,[],P,V,Q,N+1,i,hl,_,_,_,_,_=>by simp at hl
 | u::U,w::W,P,V,Q,N+1,i,hl,hp,hb,hi,hn,hN=>by
  simp only [ahf] at hl hb hi hN
  have e:P++(u::U++(V++(w::W++Q)))=P++u::((U++V)++w::(W++Q)):=by simp
  rw [ax,e,WL (x:=u) (y:=w) (by rw [<- e];exact hn) hn2 (by omega) (by rw [<- hp];exact get_at _ _ _) (by have:=G5 P (U++V) (W++Q) u w;rwa [show P.length+1+(U++V).length=b+i by simp;omega] at this)]
  have s2:=VQ (f:=fun x:α=>x) P (U++V) (W++Q) u w
  rw [List.map_id',List.map_id',show P.length+1+(U++V).length=b+i by simp;omega,hp] at s2
  rw [s2]
  have e2:P++w::((U++V)++u::(W++Q))=(P++[w])++(U++((V++[u])++(W++Q))):=by simp
  show ax _ N (P++w::((U++V)++u::(W++Q)),((i+1:Nat):Int))=_
  rw [e2,NH hn2 a b k U W (P++[w]) (V++[u]) Q N (i+1) (by omega) (by simp;omega) (by simp;omega) (by omega) (by rw [<- hn];simp only [ag3,ahf,aho];omega) (by omega)]
  simp
theorem tX {n:Nat} (hn2:n<=1000000000) {P U V W Q:List α} (cmp:α->α->Option Int) (hl:U.length=W.length) (hn:(P++(U++(V++(W++Q)))).length=n):lI n (P++(U++(V++(W++Q)))) (P.length:Int) ((P.length+U.length+V.length:Nat):Int) (U.length:Int) cmp=some (P++(W++(V++(U++Q)))):=by
 unfold lI
 have:=NH hn2 P.length (P.length+U.length+V.length) U.length U W P V Q fuel 0 hl (by omega) (by omega) (by omega) hn (by simp at hn;unfold fuel;omega)
 rw [show ((0:Nat):Int)=0 from rfl] at this
 rw [this];rfl
theorem yZ {n:Nat} (hn2:n<=1000000000) (cmp:α->α->Option Int) (m:Nat) : ∀ (N:Nat) (P A B Q:List α),P.length+A.length=m->0<A.length->0<B.length->(P++(A++(B++Q))).length=n->A.length+B.length<N -> ∃ P' A' B' Q',ax (iV (m:Int) cmp n) N (P++(A++(B++Q)),(A.length:Int),(B.length:Int))=some (.inl (P'++(A'++(B'++Q')),(A'.length:Int),(B'.length:Int)))/\A'.length=B'.length/\P'.length+A'.length=m/\P'++(B'++(A'++Q'))=P++(B++(A++Q))/\(P'++(A'++(B'++Q'))).length=n
 | 0,P,A,B,Q,_,_,_,_,h=>by omega
 | N+1,P,A,B,Q,hm,hA,hB,hn,hN=>by
  have hn':=hn
  simp only [ag3] at hn'
  rw [ax]
  by_cases h0:A.length=B.length
  ·have hb:iV (m:Int) cmp n (P++(A++(B++Q)),(A.length:Int),(B.length:Int))=some (.exit (P++(A++(B++Q)),(A.length:Int),(B.length:Int))):=by
    unfold iV
    dsimp only
    rw [agY (by omega),agW]
   rw [hb]
   exact ⟨P,A,B,Q,rfl,h0,hm,rfl,hn⟩
  ·by_cases h1:B.length<A.length
   ·have hs:=tX hn2 (P:=P) (U:=A.take B.length) (V:=A.drop B.length) (W:=B) (Q:=Q) cmp (by rw [ahK];omega) (by rw [<- hn];simp;omega)
    have eA:A.take B.length++(A.drop B.length++(B++Q))=A++(B++Q):=by rw [<- ahk,ahE]
    rw [eA] at hs
    have hb:iV (m:Int) cmp n (P++(A++(B++Q)),(A.length:Int),(B.length:Int))=some (.next (P++(B++(A.drop B.length++(A.take B.length++Q))),((A.length-B.length:Nat):Int),(B.length:Int))):=by
     unfold iV
     dsimp only
     rw [agZ (show (A.length:Int)≠(B.length:Int) by omega),agX,agZ (show (B.length:Int)<(A.length:Int) by omega),agX,Xi m A.length (by omega) (by omega),Xi A.length B.length (by omega) (by omega),show m-A.length=P.length by omega]
     rw [ahK,List.length_drop,Nat.min_eq_left (by omega),show P.length+B.length+(A.length-B.length)=m by omega] at hs
     rw [hs];rfl
    rw [hb]
    obtain ⟨P',A',B',Q',k1,k2,k3,k4,k5⟩:=yZ hn2 cmp m N (P++B) (A.drop B.length) (A.take B.length) Q (by simp;omega) (by simp;omega) (by simp;omega) (by rw [<- hn];simp;omega) (by simp;omega)
    refine ⟨P',A',B',Q',?_,k2,k3,?_,k5⟩
    ·rw [<- k1]
     simp only [List.length_drop,ahK,Nat.min_eq_left (Nat.le_of_lt h1),ahk]
    ·rw [k4]
     simp only [ahk]
     rw [<- ahk (A.take B.length),ahE]
   ·have hs:=tX hn2 (P:=P) (U:=A) (V:=B.take (B.length-A.length)) (W:=B.drop (B.length-A.length)) (Q:=Q) cmp (by rw [List.length_drop];omega) (by rw [<- hn];simp;omega)
    have eB:B.take (B.length-A.length)++(B.drop (B.length-A.length)++Q)=B++Q:=by rw [<- ahk,ahE]
    rw [eB] at hs
    have hb:iV (m:Int) cmp n (P++(A++(B++Q)),(A.length:Int),(B.length:Int))=some (.next (P++(B.drop (B.length-A.length)++(B.take (B.length-A.length)++(A++Q))),(A.length:Int),((B.length-A.length:Nat):Int))):=by
     unfold iV
     dsimp only
     rw [agZ (show (A.length:Int)≠(B.length:Int) by omega),agX,agY (show ¬ (B.length:Int)<(A.length:Int) by omega),agW,Xi m A.length (by omega) (by omega),Y4 m B.length (by omega),Xi (m+B.length) A.length (by omega) (by omega),Xi B.length A.length (by omega) (by omega),show m-A.length=P.length by omega]
     rw [ahK,Nat.min_eq_left (by omega),show P.length+A.length+(B.length-A.length)=m+B.length-A.length by omega] at hs
     rw [hs];rfl
    rw [hb]
    obtain ⟨P',A',B',Q',k1,k2,k3,k4,k5⟩:=yZ hn2 cmp m N P (B.drop (B.length-A.length)) (B.take (B.length-A.length)) (A++Q) (by simp;omega) (by simp;omega) (by simp;omega) (by rw [<- hn];simp;omega) (by simp;omega)
    refine ⟨P',A',B',Q',?_,k2,k3,?_,k5⟩
    ·rw [<- k1]
     simp only [List.length_drop,ahK,Nat.min_eq_left (Nat.sub_le _ _),show B.length-(B.length-A.length)=A.length by omega]
    ·rw [k4]
     simp only [<- ahk]
     rw [ahk P,ahE]
theorem TJ {n:Nat} (hn2:n<=1000000000) {P A B Q:List α} (cmp:α->α->Option Int) (hA:0<A.length) (hB:0<B.length) (hn:(P++(A++(B++Q))).length=n):sU n (P++(A++(B++Q))) (P.length:Int) ((P.length+A.length:Nat):Int) ((P.length+A.length+B.length:Nat):Int) cmp=some (P++(B++(A++Q))):=by
 have hn':=hn
 simp only [ag3] at hn'
 unfold sU
 rw [Xi (P.length+A.length) P.length (by omega) (by omega),Xi (P.length+A.length+B.length) (P.length+A.length) (by omega) (by omega),show P.length+A.length-P.length=A.length by omega,show P.length+A.length+B.length-(P.length+A.length)=B.length by omega]
 obtain ⟨P',A',B',Q',k1,k2,k3,k4,k5⟩:=yZ hn2 cmp (P.length+A.length) fuel P A B Q rfl hA hB hn (by unfold fuel;omega)
 rw [k1,agU]
 unfold wD
 dsimp only
 have k5':=k5
 simp only [ag3] at k5'
 have hs:=tX hn2 (P:=P') (U:=A') (V:=[]) (W:=B') (Q:=Q') cmp k2 k5
 rw [ag0,ag0,aho,Nat.add_zero,k3] at hs
 rw [Xi (P.length+A.length) A'.length (by omega) (by omega),show P.length+A.length-A'.length=P'.length by omega,hs,k4];rfl
end
end Go.Proofs.YtcehmafobkhdbaaGreatDoor
