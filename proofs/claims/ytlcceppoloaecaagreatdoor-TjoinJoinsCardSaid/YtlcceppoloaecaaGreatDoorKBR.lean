/- Parts of the proof, joined. No condition. -/
import Derived.Test.YtlcceppoloaecaaGreatDoorKAA
import Derived.Test.YtlcceppoloaecaaGreatDoorKBQ
import Derived.Test.YtlcceppoloaecaaGreatDoorKBM
import Derived.Test.YtlcceppoloaecaaGreatDoorKAJ
import Derived.Test.YtlcceppoloaecaaGreatDoorKAL
import Derived.Test.YtlcceppoloaecaaGreatDoorKBJ
set_option linter.unusedSimpArgs false
set_option linter.unusedVariables false
namespace Go.Proofs.YtlcceppoloaecaaGreatDoor
open Go.RowKit Go.MapKept
set_option maxRecDepth 100000
set_option maxHeartbeats 8000000
noncomputable section
def dX (a_p:aP):Option (Bool):=bif (decide ((0:Int)<=a_p.lo)) then bif (decide (a_p.lo<a_p.hi)) then some (decide (a_p.hi<=(1099511627776:Int))) else
 some false else
 some false
theorem fC {a_p:aP} {r:Bool} (H:dX a_p=some r):Pure Tryz.prog 33 [.agg (bv a_p)] (.val (.one (.bool r))):=by
 unfold dX at H
 refine po_ Tryz.func33 Tryz.ntmps33 ?_
 rcases af H with ⟨q_1,H⟩|⟨q_1,H⟩
 ·rcases af H with ⟨q_2,H⟩|⟨q_2,H⟩
  ·cases H
   exact aK
  cases H
  exact aK
 cases H
 exact aK
def mE (a_p:aP) (a_t:Int):Option (Bool):=(dX a_p).bind fun r_1=>bif r_1 then bif (decide (a_p.lo<=a_t)) then some (decide (a_t<a_p.hi)) else
 some false else
 some false
theorem Ec {a_p:aP} {a_t:Int} {r:Bool} (H:mE a_p a_t=some r):Pure Tryz.prog 103 [.agg (bv a_p), .one (.int .i64 a_t)] (.val (.one (.bool r))):=by
 unfold mE at H
 refine po_ Tryz.func103 Tryz.ntmps103 ?_
 obtain ⟨r_1,c1,H⟩:=bd_ H
 replace c1:=fC c1
 rcases af H with ⟨q_2,H⟩|⟨q_2,H⟩
 ·rcases af H with ⟨q_3,H⟩|⟨q_3,H⟩
  ·cases H
   exact aK
  cases H
  exact aK
 cases H
 exact aK
def dh (r_1:(List (List Val))):((List (List Val)) × Int)->Option (Step ((List (List Val)) × Int) ((List (List Val)))):=fun s=>match s with
 | (out_2,i_3)=>bif (decide (i_3<((r_1.length:Nat):Int))) then bif (decide (i_3=(0:Int))) then (aT r_1 i_3).bind fun x_6=>bif (decide (out_2.length+1<=5864062014805)) then (some (.next ((out_2++[x_6]),(IntKind.i64.wrap (i_3+(1:Int)))))) else none else
 (aT r_1 (IntKind.i64.wrap (i_3-(1:Int)))).bind fun x_7=>(aT r_1 i_3).bind fun x_8=>(ni x_7 x_8).bind fun r_9=>bif (!r_9) then bif (decide (out_2.length+1<=5864062014805)) then (some (.next ((out_2++[x_8]),(IntKind.i64.wrap (i_3+(1:Int)))))) else none else
 some (.next (out_2,(IntKind.i64.wrap (i_3+(1:Int))))) else
 some (.exit (out_2,i_3))
def lD:Sum ((List (List Val)) × Int) ((List (List Val)))->Option (((List (List Val))))
 | .inl (out_2,i_3)=>some out_2
 | .inr q=>some q
def oL (a_l:(List (List Val))):Option ((List (List Val))):=(Fa a_l).bind fun r_1=>(az (dh r_1) fuel ([],(0:Int))).bind (lD)
theorem QU {a_l:(List (List Val))} {r:(List (List Val))} (H:oL a_l=some r):Pure Tryz.prog 209 [.one (.lst (a_l.map (fun x=>[AC.lst (x.map cV)])))] (.val (.one (.lst (r.map (fun x=>[AC.lst (x.map cV)]))))):=by
 unfold oL at H
 refine po_ Tryz.func209 Tryz.ntmps209 ?_
 obtain ⟨r_1,c1,H⟩:=bd_ H
 replace c1:=IG c1
 refine bz ?_
 refine dC 4 1 rfl ?_
 refine alM_ (fun s:(List (List Val)) × Int=>match s with|(out_2,i_3)=>[(3, .one (.c (.lst (r_1.map (fun x=>[AC.lst (x.map cV)]))))),(4, .one (.own (out_2.map (fun x=>[AC.lst (x.map cV)])) 0)),(5, .one (.c (.int .i64 i_3)))]) (fun s=>match s with|(out_2,i_3)=>[.spare out_2.length 1]) H (fun _=>aqj _)
  (fm_ bY [] rfl bA cz) ?_
 rintro ⟨out_2,i_3⟩ st1 hb1 hk1
 unfold dh at hb1
 dsimp only at hb1 ⊢
 rcases af hb1 with ⟨q_4,hb1⟩|⟨q_4,hb1⟩
 ·rcases af hb1 with ⟨q_5,hb1⟩|⟨q_5,hb1⟩
  ·obtain ⟨x_6,i2z,i2,i2x,hb1⟩:=bn (f:=(fun x=>[AC.lst (x.map cV)])) hb1
   obtain ⟨g3,hb1⟩:=aS hb1
   cases hb1
   refine bz ?_
   exact ⟨_,rfl,fm_ jD [] iR bA cz⟩
  obtain ⟨x_7,i4z,i4,i4x,hb1⟩:=bn (f:=(fun x=>[AC.lst (x.map cV)])) hb1
  obtain ⟨x_8,i5z,i5,i5x,hb1⟩:=bn (f:=(fun x=>[AC.lst (x.map cV)])) hb1
  obtain ⟨r_9,c6,hb1⟩:=bd_ hb1
  replace c6:=Qh c6
  rcases af hb1 with ⟨q_10,hb1⟩|⟨q_10,hb1⟩
  ·obtain ⟨g7,hb1⟩:=aS hb1
   cases hb1
   refine bz ?_
   exact ⟨_,rfl,fm_ jD [] iR bA cz⟩
  cases hb1
  refine bz ?_
  exact ⟨_,rfl,fm_ jD [] iR bA cz⟩
 cases hb1
 have hx1:lD (.inl (out_2,i_3))=some _:=hk1
 unfold lD at hx1
 dsimp only at hx1
 cases hx1
 exact aK
def yu (a_l:(List aC)):((List (List Val)) × Int)->Option (Step ((List (List Val)) × Int) ((List (List Val)))):=fun s=>match s with
 | (out_1,i_2)=>bif (decide (i_2<((a_l.length:Nat):Int))) then (aT a_l i_2).bind fun x_4=>(dX x_4.valid).bind fun r_5=>bif r_5 then bif (decide (out_1.length+1<=5864062014805)) then (some (.next ((out_1++[x_4.row]),(IntKind.i64.wrap (i_2+(1:Int)))))) else none else
 some (.next (out_1,(IntKind.i64.wrap (i_2+(1:Int))))) else
 some (.exit (out_1,i_2))
def EE:Sum ((List (List Val)) × Int) ((List (List Val)))->Option (((List (List Val))))
 | .inl (out_1,i_2)=>(oL out_1).bind fun r_7=>some r_7
 | .inr q=>some q
def Hz (a_l:(List aC)):Option ((List (List Val))):=(az (yu a_l) fuel ([],(0:Int))).bind (EE)
theorem Pm {a_l:(List aC)} {r:(List (List Val))} (H:Hz a_l=some r):Pure Tryz.prog 150 [.one (.lst (a_l.map aU))] (.val (.one (.lst (r.map (fun x=>[AC.lst (x.map cV)]))))):=by
 unfold Hz at H
 refine po_ Tryz.func150 Tryz.ntmps150 ?_
 refine bz ?_
 refine dC 3 1 rfl ?_
 refine alM_ (fun s:(List (List Val)) × Int=>match s with|(out_1,i_2)=>[(0, .one (.c (.lst (a_l.map aU)))),(3, .one (.own (out_1.map (fun x=>[AC.lst (x.map cV)])) 0)),(4, .one (.c (.int .i64 i_2)))]) (fun s=>match s with|(out_1,i_2)=>[.spare out_1.length 1]) H (fun _=>aqj _)
  (fm_ bY [] rfl bA cz) ?_
 rintro ⟨out_1,i_2⟩ st1 hb1 hk1
 unfold yu at hb1
 dsimp only at hb1 ⊢
 rcases af hb1 with ⟨q_3,hb1⟩|⟨q_3,hb1⟩
 ·obtain ⟨x_4,i1z,i1,i1x,hb1⟩:=bn (f:=aU) hb1
  obtain ⟨r_5,c2,hb1⟩:=bd_ hb1
  replace c2:=fC c2
  rcases af hb1 with ⟨q_6,hb1⟩|⟨q_6,hb1⟩
  ·obtain ⟨g3,hb1⟩:=aS hb1
   cases hb1
   refine bz ?_
   exact ⟨_,rfl,fm_ jD [] iR bA cz⟩
  cases hb1
  refine bz ?_
  exact ⟨_,rfl,fm_ jD [] iR bA cz⟩
 cases hb1
 have hx1:EE (.inl (out_1,i_2))=some _:=hk1
 unfold EE at hx1
 dsimp only at hx1
 obtain ⟨r_7,c4,hx1⟩:=bd_ hx1
 replace c4:=QU c4
 cases hx1
 exact aK
def qN (a_l:(List aC)) (a_row:(List Val)):((List J3) × Int)->Option (Step ((List J3) × Int) ((List Stp))):=fun s=>match s with
 | (c_1,i_2)=>bif (decide (i_2<((a_l.length:Nat):Int))) then (aT a_l i_2).bind fun x_4=>(xn x_4.row a_row).bind fun r_5=>bif (decide (r_5=(0:Int))) then bif (decide (c_1.length+1<=5864062014805)) then (some (.next ((c_1++[(⟨x_4.valid,(1:Int)⟩:J3)]),(IntKind.i64.wrap (i_2+(1:Int)))))) else none else
 some (.next (c_1,(IntKind.i64.wrap (i_2+(1:Int))))) else
 some (.exit (c_1,i_2))
def yS:Sum ((List J3) × Int) ((List Stp))->Option (((List Stp)))
 | .inl (c_1,i_2)=>(ahr c_1).bind fun r_7=>some r_7
 | .inr q=>some q
def wC (a_l:(List aC)) (a_row:(List Val)):Option ((List Stp)):=(az (qN a_l a_row) fuel ([],(0:Int))).bind (yS)
theorem FV {a_l:(List aC)} {a_row:(List Val)} {r:(List Stp)} (H:wC a_l a_row=some r):Pure Tryz.prog 151 [.one (.lst (a_l.map aU)), .one (.lst (a_row.map cV))] (.val (.one (.lst (r.map Bq)))):=by
 unfold wC at H
 refine po_ Tryz.func151 Tryz.ntmps151 ?_
 refine bz ?_
 refine dC 5 3 rfl ?_
 refine alM_ (fun s:(List J3) × Int=>match s with|(c_1,i_2)=>[(0, .one (.c (.lst (a_l.map aU)))),(1, .one (.c (.lst (a_row.map cV)))),(5, .one (.own (c_1.map QB) 0)),(6, .one (.c (.int .i64 i_2)))]) (fun s=>match s with|(c_1,i_2)=>[.spare c_1.length 3]) H (fun _=>aqj _)
  (fm_ bY [] rfl bA cz) ?_
 rintro ⟨c_1,i_2⟩ st1 hb1 hk1
 unfold qN at hb1
 dsimp only at hb1 ⊢
 rcases af hb1 with ⟨q_3,hb1⟩|⟨q_3,hb1⟩
 ·obtain ⟨x_4,i1z,i1,i1x,hb1⟩:=bn (f:=aU) hb1
  obtain ⟨r_5,c2,hb1⟩:=bd_ hb1
  replace c2:=su c2
  rcases af hb1 with ⟨q_6,hb1⟩|⟨q_6,hb1⟩
  ·obtain ⟨g3,hb1⟩:=aS hb1
   cases hb1
   refine bz ?_
   exact ⟨_,rfl,fm_ jD [] iR bA cz⟩
  cases hb1
  refine bz ?_
  exact ⟨_,rfl,fm_ jD [] iR bA cz⟩
 cases hb1
 have hx1:yS (.inl (c_1,i_2))=some _:=hk1
 unfold yS at hx1
 dsimp only at hx1
 obtain ⟨r_7,c4,hx1⟩:=bd_ hx1
 replace c4:=ajU c4
 cases hx1
 exact aK
def yh (a_row:(List Val)) (a_p:(List aP)):((List aC) × Int)->Option (Step ((List aC) × Int) ((List aC))):=fun s=>match s with
 | (out_1,i_2)=>bif (decide (i_2<((a_p.length:Nat):Int))) then (aT a_p i_2).bind fun x_4=>bif (decide (out_1.length+1<=3518437208883)) then (some (.next ((out_1++[(⟨a_row,x_4⟩:aC)]),(IntKind.i64.wrap (i_2+(1:Int)))))) else none else
 some (.exit (out_1,i_2))
def Es:Sum ((List aC) × Int) ((List aC))->Option (((List aC)))
 | .inl (out_1,i_2)=>some out_1
 | .inr q=>some q
def qC (a_row:(List Val)) (a_p:(List aP)):Option ((List aC)):=(az (yh a_row a_p) fuel ([],(0:Int))).bind (Es)
theorem EN {a_row:(List Val)} {a_p:(List aP)} {r:(List aC)} (H:qC a_row a_p=some r):Pure Tryz.prog 64 [.one (.lst (a_row.map cV)), .one (.lst (a_p.map bv))] (.val (.one (.lst (r.map aU)))):=by
 unfold qC at H
 refine po_ Tryz.func64 Tryz.ntmps64 ?_
 refine bz ?_
 refine dC 5 3 rfl ?_
 refine alM_ (fun s:(List aC) × Int=>match s with|(out_1,i_2)=>[(0, .one (.c (.lst (a_row.map cV)))),(1, .one (.c (.lst (a_p.map bv)))),(5, .one (.own (out_1.map aU) 0)),(6, .one (.c (.int .i64 i_2)))]) (fun s=>match s with|(out_1,i_2)=>[.spare out_1.length 3]) H (fun _=>aqj _)
  (fm_ bY [] rfl bA cz) ?_
 rintro ⟨out_1,i_2⟩ st1 hb1 hk1
 unfold yh at hb1
 dsimp only at hb1 ⊢
 rcases af hb1 with ⟨q_3,hb1⟩|⟨q_3,hb1⟩
 ·obtain ⟨x_4,i1z,i1,i1x,hb1⟩:=bn (f:=bv) hb1
  obtain ⟨g2,hb1⟩:=aS hb1
  cases hb1
  refine bz ?_
  exact ⟨_,rfl,fm_ jD [] iR bA cz⟩
 cases hb1
 have hx1:Es (.inl (out_1,i_2))=some _:=hk1
 unfold Es at hx1
 dsimp only at hx1
 cases hx1
 exact aK
def dY (a_a:(List aC)) (a_b:(List aC)):((List aC) × Int × Int)->Option (Step ((List aC) × Int × Int) ((List aC))):=fun s=>match s with
 | (out_1,i_2,k_3)=>bif (decide (i_2<((a_a.length:Nat):Int))) then bif (decide (i_2=((a_a.length:Nat):Int))) then (aT a_b k_3).bind fun x_6=>bif (decide (out_1.length+1<=3518437208883)) then (some (.next ((out_1++[x_6]),i_2,(IntKind.i64.wrap (k_3+(1:Int)))))) else none else
 bif (decide (k_3<((a_b.length:Nat):Int))) then (aT a_b k_3).bind fun x_8=>(aT a_a i_2).bind fun x_9=>(xn x_8.row x_9.row).bind fun r_10=>bif (decide (r_10<(0:Int))) then bif (decide (out_1.length+1<=3518437208883)) then (some (.next ((out_1++[x_8]),i_2,(IntKind.i64.wrap (k_3+(1:Int)))))) else none else
 bif (decide (out_1.length+1<=3518437208883)) then (some (.next ((out_1++[x_9]),(IntKind.i64.wrap (i_2+(1:Int))),k_3))) else none else
 (aT a_a i_2).bind fun x_12=>bif (decide (out_1.length+1<=3518437208883)) then (some (.next ((out_1++[x_12]),(IntKind.i64.wrap (i_2+(1:Int))),k_3))) else none else
 bif (decide (k_3<((a_b.length:Nat):Int))) then bif (decide (i_2=((a_a.length:Nat):Int))) then (aT a_b k_3).bind fun x_15=>bif (decide (out_1.length+1<=3518437208883)) then (some (.next ((out_1++[x_15]),i_2,(IntKind.i64.wrap (k_3+(1:Int)))))) else none else
 (aT a_b k_3).bind fun x_16=>(aT a_a i_2).bind fun x_17=>(xn x_16.row x_17.row).bind fun r_18=>bif (decide (r_18<(0:Int))) then bif (decide (out_1.length+1<=3518437208883)) then (some (.next ((out_1++[x_16]),i_2,(IntKind.i64.wrap (k_3+(1:Int)))))) else none else
 bif (decide (out_1.length+1<=3518437208883)) then (some (.next ((out_1++[x_17]),(IntKind.i64.wrap (i_2+(1:Int))),k_3))) else none else
 some (.exit (out_1,i_2,k_3))
def qG:Sum ((List aC) × Int × Int) ((List aC))->Option (((List aC)))
 | .inl (out_1,i_2,k_3)=>some out_1
 | .inr q=>some q
def xh (a_a:(List aC)) (a_b:(List aC)):Option ((List aC)):=(az (dY a_a a_b) fuel ([],(0:Int),(0:Int))).bind (qG)
theorem Vv {a_a:(List aC)} {a_b:(List aC)} {r:(List aC)} (H:xh a_a a_b=some r):Pure Tryz.prog 208 [.one (.lst (a_a.map aU)), .one (.lst (a_b.map aU))] (.val (.one (.lst (r.map aU)))):=by
 unfold xh at H
 refine po_ Tryz.func208 Tryz.ntmps208 ?_
 refine bz ?_
 refine dC 5 3 rfl ?_
 refine alM_ (fun s:(List aC) × Int × Int=>match s with|(out_1,i_2,k_3)=>[(0, .one (.c (.lst (a_a.map aU)))),(1, .one (.c (.lst (a_b.map aU)))),(5, .one (.own (out_1.map aU) 0)),(6, .one (.c (.int .i64 i_2))),(7, .one (.c (.int .i64 k_3)))]) (fun s=>match s with|(out_1,i_2,k_3)=>[.spare out_1.length 3]) H (fun _=>aqj _)
  (fm_ bY [] rfl bA cz) ?_
 rintro ⟨out_1,i_2,k_3⟩ st1 hb1 hk1
 unfold dY at hb1
 dsimp only at hb1 ⊢
 rcases af hb1 with ⟨q_4,hb1⟩|⟨q_4,hb1⟩
 ·rcases af hb1 with ⟨q_5,hb1⟩|⟨q_5,hb1⟩
  ·obtain ⟨x_6,i1z,i1,i1x,hb1⟩:=bn (f:=aU) hb1
   obtain ⟨g2,hb1⟩:=aS hb1
   cases hb1
   refine bz ?_
   exact ⟨_,rfl,fm_ jD [] iR bA cz⟩
  rcases af hb1 with ⟨q_7,hb1⟩|⟨q_7,hb1⟩
  ·obtain ⟨x_8,i3z,i3,i3x,hb1⟩:=bn (f:=aU) hb1
   obtain ⟨x_9,i4z,i4,i4x,hb1⟩:=bn (f:=aU) hb1
   obtain ⟨r_10,c5,hb1⟩:=bd_ hb1
   replace c5:=su c5
   rcases af hb1 with ⟨q_11,hb1⟩|⟨q_11,hb1⟩
   ·obtain ⟨g6,hb1⟩:=aS hb1
    cases hb1
    refine bz ?_
    exact ⟨_,rfl,fm_ jD [] iR bA cz⟩
   obtain ⟨g7,hb1⟩:=aS hb1
   cases hb1
   refine bz ?_
   exact ⟨_,rfl,fm_ jD [] iR bA cz⟩
  obtain ⟨x_12,i8z,i8,i8x,hb1⟩:=bn (f:=aU) hb1
  obtain ⟨g9,hb1⟩:=aS hb1
  cases hb1
  refine bz ?_
  exact ⟨_,rfl,fm_ jD [] iR bA cz⟩
 rcases af hb1 with ⟨q_13,hb1⟩|⟨q_13,hb1⟩
 ·rcases af hb1 with ⟨q_14,hb1⟩|⟨q_14,hb1⟩
  ·obtain ⟨x_15,i10z,i10,i10x,hb1⟩:=bn (f:=aU) hb1
   obtain ⟨g11,hb1⟩:=aS hb1
   cases hb1
   refine bz ?_
   exact ⟨_,rfl,fm_ jD [] iR bA cz⟩
  obtain ⟨x_16,i12z,i12,i12x,hb1⟩:=bn (f:=aU) hb1
  obtain ⟨x_17,i13z,i13,i13x,hb1⟩:=bn (f:=aU) hb1
  obtain ⟨r_18,c14,hb1⟩:=bd_ hb1
  replace c14:=su c14
  rcases af hb1 with ⟨q_19,hb1⟩|⟨q_19,hb1⟩
  ·obtain ⟨g15,hb1⟩:=aS hb1
   cases hb1
   refine bz ?_
   exact ⟨_,rfl,fm_ jD [] iR bA cz⟩
  obtain ⟨g16,hb1⟩:=aS hb1
  cases hb1
  refine bz ?_
  exact ⟨_,rfl,fm_ jD [] iR bA cz⟩
 cases hb1
 have hx1:qG (.inl (out_1,i_2,k_3))=some _:=hk1
 unfold qG at hx1
 dsimp only at hx1
 cases hx1
 exact aK
def wX (rec:List aC->Option (List aC)) (a_l:(List aC)):Option ((List aC)):=bif (decide (((a_l.length:Nat):Int)<(2:Int))) then some a_l else
 bif (decide ((2:Int)≠0)) then ((l6 a_l (0:Int) (IntKind.i64.wrap (((a_l.length:Nat):Int).tdiv (2:Int)))).bind fun s_2=>(rec s_2).bind fun r_3=>(l6 a_l (IntKind.i64.wrap (((a_l.length:Nat):Int).tdiv (2:Int))) ((a_l.length:Nat):Int)).bind fun s_4=>(rec s_4).bind fun r_5=>(xh r_3 r_5).bind fun r_6=>some r_6) else none
theorem VA {rec:List aC->Option (List aC)}  (hrec : ∀ {x:List aC} {r:List aC}, rec x=some r->Pure Tryz.prog 149 [.one (.lst (x.map aU))] (.val (.one (.lst (r.map aU))))) {a_l:(List aC)} {r:(List aC)} (H:wX rec a_l=some r):Pure Tryz.prog 149 [.one (.lst (a_l.map aU))] (.val (.one (.lst (r.map aU)))):=by
 unfold wX at H
 refine po_ Tryz.func149 Tryz.ntmps149 ?_
 rcases af H with ⟨q_1,H⟩|⟨q_1,H⟩
 ·cases H
  exact aK
 obtain ⟨g1,H⟩:=aS H
 obtain ⟨s_2,u2,H⟩:=bd_ H
 obtain ⟨⟨u2a,u2b,u2c⟩,u2⟩:=gT u2
 have u2x:=K4 (f:=aU) u2
 obtain ⟨r_3,c3,H⟩:=bd_ H
 replace c3:=hrec c3
 obtain ⟨s_4,u4,H⟩:=bd_ H
 obtain ⟨⟨u4a,u4b,u4c⟩,u4⟩:=gT u4
 have u4x:=K4 (f:=aU) u4
 obtain ⟨r_5,c5,H⟩:=bd_ H
 replace c5:=hrec c5
 obtain ⟨r_6,c6,H⟩:=bd_ H
 replace c6:=Vv c6
 cases H
 repeat' (first|refine gs_ ?_|rw [u2x]|rw [u4x]|rw [show ((0:Nat):Int)=0 from rfl])
 refine bL (bR rfl ?_ ?_)
 ·repeat' (first|exact trivial|rfl|exact ap_ rfl|omega|apply And.intro)
 ·first|rfl|(simp only [aqb,ap',aqd,ap5]<;>rfl)
def Bn:Nat->List aC->Option (List aC)
 | 0,_=>none
 | n+1,a=>wX (Bn n) a
theorem KJ : ∀ (n:Nat) {x:List aC} {r:List aC}, Bn n x=some r->Pure Tryz.prog 149 [.one (.lst (x.map aU))] (.val (.one (.lst (r.map aU))))
 | 0,_,_,h=>nomatch h
 | n+1,_,_,h=>VA (KJ n) h
def kR (s_11:(List aC)) (r_12:(List (List Val))):((List dx) × Int)->Option (Step ((List dx) × Int) ((List dx))):=fun s=>match s with
 | (out_13,n_14)=>bif (decide (n_14<((r_12.length:Nat):Int))) then (aT r_12 n_14).bind fun x_16=>(wC s_11 x_16).bind fun r_17=>bif (decide (out_13.length+1<=2932031007402)) then (some (.next ((out_13++[(⟨x_16,r_17⟩:dx)]),(IntKind.i64.wrap (n_14+(1:Int)))))) else none else
 some (.exit (out_13,n_14))
def kM (k_5:Int):Sum ((List dx) × Int) ((List dx))->Option (Step ((List dx) × Int) ((List dx)))
 | .inl (out_13,n_14)=>some (.next (out_13,k_5))
 | .inr q=>some (.ret q)
def iX (r_1:(List aC)) (i_3:Int):(Int)->Option (Step (Int) ((List dx))):=fun s=>match s with
 | k_5=>bif (decide (k_5<((r_1.length:Nat):Int))) then (aT r_1 k_5).bind fun x_7=>(aT r_1 i_3).bind fun x_8=>(xn x_7.row x_8.row).bind fun r_9=>bif (decide (r_9=(0:Int))) then some (.next (IntKind.i64.wrap (k_5+(1:Int)))) else
 some (.exit k_5) else
 some (.exit k_5)
def nP (r_1:(List aC)) (out_2:(List dx)) (i_3:Int):Sum (Int) ((List dx))->Option (Step ((List dx) × Int) ((List dx)))
 | .inl k_5=>(l6 r_1 i_3 k_5).bind fun s_11=>(Hz s_11).bind fun r_12=>(az (kR s_11 r_12) fuel (out_2,(0:Int))).bind (kM k_5)
 | .inr q=>some (.ret q)
def gW (r_1:(List aC)):((List dx) × Int)->Option (Step ((List dx) × Int) ((List dx))):=fun s=>match s with
 | (out_2,i_3)=>bif (decide (i_3<((r_1.length:Nat):Int))) then (az (iX r_1 i_3) fuel i_3).bind (nP r_1 out_2 i_3) else
 some (.exit (out_2,i_3))
def zL:Sum ((List dx) × Int) ((List dx))->Option (((List dx)))
 | .inl (out_2,i_3)=>some out_2
 | .inr q=>some q
def wo (a_l:(List aC)):Option ((List dx)):=(Bn 640 a_l).bind fun r_1=>(az (gW r_1) fuel ([],(0:Int))).bind (zL)
theorem U0 {a_l:(List aC)} {r:(List dx)} (H:wo a_l=some r):Pure Tryz.prog 93 [.one (.lst (a_l.map aU))] (.val (.one (.lst (r.map oN)))):=by
 unfold wo at H
 refine po_ Tryz.func93 Tryz.ntmps93 ?_
 obtain ⟨r_1,c1,H⟩:=bd_ H
 replace c1:=KJ 640 c1
 refine bz ?_
 refine dC 4 2 rfl ?_
 refine alM_ (fun s:(List dx) × Int=>match s with|(out_2,i_3)=>[(3, .one (.c (.lst (r_1.map aU)))),(4, .one (.own (out_2.map oN) 0)),(5, .one (.c (.int .i64 i_3)))]) (fun s=>match s with|(out_2,i_3)=>[.spare out_2.length 2]) H (fun _=>aqj _)
  (fm_ bY [] rfl bA cz) ?_
 rintro ⟨out_2,i_3⟩ st5 hb5 hk5
 unfold gW at hb5
 dsimp only at hb5 ⊢
 rcases af hb5 with ⟨q_4,hb5⟩|⟨q_4,hb5⟩
 ·refine bz ?_
  refine alM_ (fun s:Int=>match s with|k_5=>[(3, .one (.c (.lst (r_1.map aU)))),(4, .one (.own (out_2.map oN) 0)),(5, .one (.c (.int .i64 i_3))),(6, .one (.c (.int .i64 k_5)))]) (fun s=>match s with|k_5=>[.spare out_2.length 2]) hb5 (fun _=>aqj _)
   (fm_ bY [] rfl bA cz) ?_
  rintro k_5 st6 hb6 hk6
  unfold iX at hb6
  dsimp only at hb6 ⊢
  rcases af hb6 with ⟨q_6,hb6⟩|⟨q_6,hb6⟩
  ·obtain ⟨x_7,i2z,i2,i2x,hb6⟩:=bn (f:=aU) hb6
   obtain ⟨x_8,i3z,i3,i3x,hb6⟩:=bn (f:=aU) hb6
   obtain ⟨r_9,c4,hb6⟩:=bd_ hb6
   replace c4:=su c4
   rcases af hb6 with ⟨q_10,hb6⟩|⟨q_10,hb6⟩
   ·cases hb6
    refine bz ?_
    exact ⟨_,rfl,fm_ bY [] rfl bA cz⟩
   cases hb6
   have hx6:nP r_1 out_2 i_3 (.inl k_5)=some _:=hk6
   unfold nP at hx6
   dsimp only at hx6
   obtain ⟨s_11,u5,hx6⟩:=bd_ hx6
   obtain ⟨⟨u5a,u5b,u5c⟩,u5⟩:=gT u5
   have u5x:=K4 (f:=aU) u5
   obtain ⟨r_12,c6,hx6⟩:=bd_ hx6
   replace c6:=Pm c6
   repeat' (first|refine gs_ ?_|rw [u5x]|rw [show ((0:Nat):Int)=0 from rfl])
   refine alM_ (fun s:(List dx) × Int=>match s with|(out_13,n_14)=>[(3, .one (.c (.lst (r_1.map aU)))),(4, .one (.own (out_13.map oN) 0)),(5, .one (.c (.int .i64 i_3))),(6, .one (.c (.int .i64 k_5))),(7, .one (.c (.lst (r_12.map (fun x=>[AC.lst (x.map cV)]))))),(8, .one (.c (.int .i64 n_14)))]) (fun s=>match s with|(out_13,n_14)=>[.spare out_13.length 2]) hx6 (fun _=>aqj _)
    (fm_ bY [] rfl bA cz) ?_
   rintro ⟨out_13,n_14⟩ st7 hb7 hk7
   unfold kR at hb7
   dsimp only at hb7 ⊢
   rcases af hb7 with ⟨q_15,hb7⟩|⟨q_15,hb7⟩
   ·obtain ⟨x_16,i7z,i7,i7x,hb7⟩:=bn (f:=(fun x=>[AC.lst (x.map cV)])) hb7
    obtain ⟨r_17,c8,hb7⟩:=bd_ hb7
    replace c8:=FV c8
    obtain ⟨g9,hb7⟩:=aS hb7
    cases hb7
    repeat' (first|refine gs_ ?_|rw [u5x]|rw [show ((0:Nat):Int)=0 from rfl])
    exact ⟨_,rfl,fm_ jD [] iR bA cz⟩
   cases hb7
   have hx7:kM k_5 (.inl (out_13,n_14))=some _:=hk7
   unfold kM at hx7
   dsimp only at hx7
   cases hx7
   repeat' (first|refine gs_ ?_|rw [u5x]|rw [show ((0:Nat):Int)=0 from rfl])
   exact ⟨_,rfl,fm_ jD [] iR bA cz⟩
  cases hb6
  have hx6:nP r_1 out_2 i_3 (.inl k_5)=some _:=hk6
  unfold nP at hx6
  dsimp only at hx6
  obtain ⟨s_11,u10,hx6⟩:=bd_ hx6
  obtain ⟨⟨u10a,u10b,u10c⟩,u10⟩:=gT u10
  have u10x:=K4 (f:=aU) u10
  obtain ⟨r_12,c11,hx6⟩:=bd_ hx6
  replace c11:=Pm c11
  repeat' (first|refine gs_ ?_|rw [u10x]|rw [show ((0:Nat):Int)=0 from rfl])
  refine alM_ (fun s:(List dx) × Int=>match s with|(out_13,n_14)=>[(3, .one (.c (.lst (r_1.map aU)))),(4, .one (.own (out_13.map oN) 0)),(5, .one (.c (.int .i64 i_3))),(6, .one (.c (.int .i64 k_5))),(7, .one (.c (.lst (r_12.map (fun x=>[AC.lst (x.map cV)]))))),(8, .one (.c (.int .i64 n_14)))]) (fun s=>match s with|(out_13,n_14)=>[.spare out_13.length 2]) hx6 (fun _=>aqj _)
   (fm_ bY [] rfl bA cz) ?_
  rintro ⟨out_13,n_14⟩ st7 hb7 hk7
  unfold kR at hb7
  dsimp only at hb7 ⊢
  rcases af hb7 with ⟨q_15,hb7⟩|⟨q_15,hb7⟩
  ·obtain ⟨x_16,i12z,i12,i12x,hb7⟩:=bn (f:=(fun x=>[AC.lst (x.map cV)])) hb7
   obtain ⟨r_17,c13,hb7⟩:=bd_ hb7
   replace c13:=FV c13
   obtain ⟨g14,hb7⟩:=aS hb7
   cases hb7
   repeat' (first|refine gs_ ?_|rw [u10x]|rw [show ((0:Nat):Int)=0 from rfl])
   exact ⟨_,rfl,fm_ jD [] iR bA cz⟩
  cases hb7
  have hx7:kM k_5 (.inl (out_13,n_14))=some _:=hk7
  unfold kM at hx7
  dsimp only at hx7
  cases hx7
  repeat' (first|refine gs_ ?_|rw [u10x]|rw [show ((0:Nat):Int)=0 from rfl])
  exact ⟨_,rfl,fm_ jD [] iR bA cz⟩
 cases hb5
 have hx5:zL (.inl (out_2,i_3))=some _:=hk5
 unfold zL at hx5
 dsimp only at hx5
 cases hx5
 exact aK
def GR (r_1:(List dx)):((List aC) × Int)->Option (Step ((List aC) × Int) ((List aC))):=fun s=>match s with
 | (out_2,i_3)=>bif (decide (i_3<((r_1.length:Nat):Int))) then (aT r_1 i_3).bind fun x_5=>(WC x_5.steps).bind fun r_6=>(qC x_5.row r_6).bind fun r_7=>bif (decide (out_2.length+r_7.length<=3518437208883)) then (some (.next ((out_2++r_7),(IntKind.i64.wrap (i_3+(1:Int)))))) else none else
 some (.exit (out_2,i_3))
def Oe:Sum ((List aC) × Int) ((List aC))->Option (((List aC)))
 | .inl (out_2,i_3)=>some out_2
 | .inr q=>some q
def tJ (a_l:(List aC)):Option ((List aC)):=(wo a_l).bind fun r_1=>(az (GR r_1) fuel ([],(0:Int))).bind (Oe)
theorem sZ {a_l:(List aC)} {r:(List aC)} (H:tJ a_l=some r):Pure Tryz.prog 56 [.one (.lst (a_l.map aU))] (.val (.one (.lst (r.map aU)))):=by
 unfold tJ at H
 refine po_ Tryz.func56 Tryz.ntmps56 ?_
 obtain ⟨r_1,c1,H⟩:=bd_ H
 replace c1:=U0 c1
 refine bz ?_
 refine dC 4 3 rfl ?_
 refine alM_ (fun s:(List aC) × Int=>match s with|(out_2,i_3)=>[(3, .one (.c (.lst (r_1.map oN)))),(4, .one (.own (out_2.map aU) 0)),(5, .one (.c (.int .i64 i_3)))]) (fun s=>match s with|(out_2,i_3)=>[.spare out_2.length 3]) H (fun _=>aqj _)
  (fm_ bY [] rfl bA cz) ?_
 rintro ⟨out_2,i_3⟩ st1 hb1 hk1
 unfold GR at hb1
 dsimp only at hb1 ⊢
 rcases af hb1 with ⟨q_4,hb1⟩|⟨q_4,hb1⟩
 ·obtain ⟨x_5,i2z,i2,i2x,hb1⟩:=bn (f:=oN) hb1
  obtain ⟨r_6,c3,hb1⟩:=bd_ hb1
  replace c3:=ahA c3
  obtain ⟨r_7,c4,hb1⟩:=bd_ hb1
  replace c4:=EN c4
  obtain ⟨g5,hb1⟩:=aS hb1
  cases hb1
  refine bz ?_
  exact ⟨_,rfl,fm_ jD [] iR bA cz⟩
 cases hb1
 have hx1:Oe (.inl (out_2,i_3))=some _:=hk1
 unfold Oe at hx1
 dsimp only at hx1
 cases hx1
 exact aK
def mP (a_a:(List aC)) (a_b:(List aC)):(Int)->Option (Step (Int) (Bool)):=fun s=>match s with
 | i_2=>bif (decide (i_2<((a_a.length:Nat):Int))) then (aT a_a i_2).bind fun x_4=>(aT a_b i_2).bind fun x_5=>bif (!(dU [.c (.int .i64 x_4.valid.lo), .c (.int .i64 x_4.valid.hi)] [.c (.int .i64 x_5.valid.lo), .c (.int .i64 x_5.valid.hi)])) then some (.ret false) else
 (xn x_4.row x_5.row).bind fun r_7=>bif (decide (r_7≠(0:Int))) then some (.ret false) else
 some (.next (IntKind.i64.wrap (i_2+(1:Int)))) else
 some (.exit i_2)
def oq:Sum (Int) (Bool)->Option ((Bool))
 | .inl i_2=>some true
 | .inr q=>some q
def Cc (a_a:(List aC)) (a_b:(List aC)):Option (Bool):=bif (decide (((a_a.length:Nat):Int)≠((a_b.length:Nat):Int))) then some false else
 (az (mP a_a a_b) fuel (0:Int)).bind (oq)
theorem Ir {a_a:(List aC)} {a_b:(List aC)} {r:Bool} (H:Cc a_a a_b=some r):Pure Tryz.prog 37 [.one (.lst (a_a.map aU)), .one (.lst (a_b.map aU))] (.val (.one (.bool r))):=by
 unfold Cc at H
 refine po_ Tryz.func37 Tryz.ntmps37 ?_
 rcases af H with ⟨q_1,H⟩|⟨q_1,H⟩
 ·cases H
  exact aK
 refine bz ?_
 refine alM_ (fun s:Int=>match s with|i_2=>[(0, .one (.c (.lst (a_a.map aU)))),(1, .one (.c (.lst (a_b.map aU)))),(5, .one (.c (.int .i64 i_2)))]) (fun s=>match s with|i_2=>[]) H (fun _=>aqj _)
  (fm_ bY [] rfl bA trivial) ?_
 rintro i_2 st1 hb1 hk1
 unfold mP at hb1
 dsimp only at hb1 ⊢
 rcases af hb1 with ⟨q_3,hb1⟩|⟨q_3,hb1⟩
 ·obtain ⟨x_4,i1z,i1,i1x,hb1⟩:=bn (f:=aU) hb1
  obtain ⟨x_5,i2z,i2,i2x,hb1⟩:=bn (f:=aU) hb1
  rcases af hb1 with ⟨q_6,hb1⟩|⟨q_6,hb1⟩
  ·cases hb1
   have hx1:oq (.inr false)=some _:=hk1
   unfold oq at hx1
   dsimp only at hx1
   cases hx1
   exact aK
  obtain ⟨r_7,c3,hb1⟩:=bd_ hb1
  replace c3:=su c3
  rcases af hb1 with ⟨q_8,hb1⟩|⟨q_8,hb1⟩
  ·cases hb1
   have hx1:oq (.inr false)=some _:=hk1
   unfold oq at hx1
   dsimp only at hx1
   cases hx1
   exact aK
  cases hb1
  refine bz ?_
  exact ⟨_,rfl,fm_ bY [] rfl bA trivial⟩
 cases hb1
 have hx1:oq (.inl i_2)=some _:=hk1
 unfold oq at hx1
 dsimp only at hx1
 cases hx1
 exact aK
end
set_option maxHeartbeats 8000000
def Po (a_s:ByteArray):Option (Val):=(yC (⟨(2:Int),(0:Int),a_s⟩:Val)).bind fun r_1=>some r_1
theorem adq {a_s:ByteArray} {r:Val} (H:Po a_s=some r):Pure Tryz.prog 221 [.one (.str a_s)] (.val (.agg (cV r))):=by
 unfold Po at H
 refine po_ Tryz.func221 Tryz.ntmps221 ?_
 obtain ⟨r_1,c1,H⟩:=bd_ H
 replace c1:=PL c1
 cases H
 exact aK
def xY (a_b:Bool):Option (Val):=bif a_b then some (⟨(3:Int),(1:Int),ByteArray.empty⟩:Val) else
 some (⟨(3:Int),(0:Int),ByteArray.empty⟩:Val)
theorem qX {a_b:Bool} {r:Val} (H:xY a_b=some r):Pure Tryz.prog 161 [.one (.bool a_b)] (.val (.agg (cV r))):=by
 unfold xY at H
 refine po_ Tryz.func161 Tryz.ntmps161 ?_
 rcases af H with ⟨q_1,H⟩|⟨q_1,H⟩
 ·cases H
  exact aK
 cases H
 exact aK
def Dc (a_a:Val) (a_b:Val) (a_is:Bool):Option (Int):=bif (decide (a_a.kind=(0:Int))) then some (1:Int) else
 bif (decide (a_a.kind≠a_b.kind)) then some (1:Int) else
 bif a_is then some (2:Int) else
 some (0:Int)
theorem Nn {a_a:Val} {a_b:Val} {a_is:Bool} {r:Int} (H:Dc a_a a_b a_is=some r):Pure Tryz.prog 247 [.agg (cV a_a), .agg (cV a_b), .one (.bool a_is)] (.val (.one (.int .i64 r))):=by
 unfold Dc at H
 refine po_ Tryz.func247 Tryz.ntmps247 ?_
 rcases af H with ⟨q_1,H⟩|⟨q_1,H⟩
 ·cases H
  exact aK
 rcases af H with ⟨q_2,H⟩|⟨q_2,H⟩
 ·cases H
  exact aK
 rcases af H with ⟨q_3,H⟩|⟨q_3,H⟩
 ·cases H
  exact aK
 cases H
 exact aK
def afi (a_a:Val) (a_b:Val):Option (Int):=(DT a_a a_b).bind fun r_1=>(Dc a_a a_b (decide (r_1=(0:Int)))).bind fun r_2=>some r_2
theorem acY {a_a:Val} {a_b:Val} {r:Int} (H:afi a_a a_b=some r):Pure Tryz.prog 218 [.agg (cV a_a), .agg (cV a_b)] (.val (.one (.int .i64 r))):=by
 unfold afi at H
 refine po_ Tryz.func218 Tryz.ntmps218 ?_
 obtain ⟨r_1,c1,H⟩:=bd_ H
 replace c1:=GD c1
 obtain ⟨r_2,c2,H⟩:=bd_ H
 replace c2:=Nn c2
 cases H
 exact aK
def AR (a_a:Val) (a_b:Val):Option (Int):=(DT a_a a_b).bind fun r_1=>(Dc a_a a_b (decide (r_1<(0:Int)))).bind fun r_2=>some r_2
theorem Cq {a_a:Val} {a_b:Val} {r:Int} (H:AR a_a a_b=some r):Pure Tryz.prog 219 [.agg (cV a_a), .agg (cV a_b)] (.val (.one (.int .i64 r))):=by
 unfold AR at H
 refine po_ Tryz.func219 Tryz.ntmps219 ?_
 obtain ⟨r_1,c1,H⟩:=bd_ H
 replace c1:=GD c1
 obtain ⟨r_2,c2,H⟩:=bd_ H
 replace c2:=Nn c2
 cases H
 exact aK
def O7 (a_a:Int):Option (Int):=bif (decide (a_a=(2:Int))) then some (0:Int) else
 bif (decide (a_a=(0:Int))) then some (2:Int) else
 some (1:Int)
theorem Im {a_a:Int} {r:Int} (H:O7 a_a=some r):Pure Tryz.prog 165 [.one (.int .i64 a_a)] (.val (.one (.int .i64 r))):=by
 unfold O7 at H
 refine po_ Tryz.func165 Tryz.ntmps165 ?_
 rcases af H with ⟨q_1,H⟩|⟨q_1,H⟩
 ·cases H
  exact aK
 rcases af H with ⟨q_2,H⟩|⟨q_2,H⟩
 ·cases H
  exact aK
 cases H
 exact aK
def Nr (a_a:Int) (a_b:Int):Option (Int):=bif (decide (a_a=(0:Int))) then some (0:Int) else
 bif (decide (a_b=(0:Int))) then some (0:Int) else
 bif (decide (a_a=(2:Int))) then bif (decide (a_b=(2:Int))) then some (2:Int) else
 some (1:Int) else
 some (1:Int)
theorem af' {a_a:Int} {a_b:Int} {r:Int} (H:Nr a_a a_b=some r):Pure Tryz.prog 216 [.one (.int .i64 a_a), .one (.int .i64 a_b)] (.val (.one (.int .i64 r))):=by
 unfold Nr at H
 refine po_ Tryz.func216 Tryz.ntmps216 ?_
 rcases af H with ⟨q_1,H⟩|⟨q_1,H⟩
 ·cases H
  exact aK
 rcases af H with ⟨q_2,H⟩|⟨q_2,H⟩
 ·cases H
  exact aK
 rcases af H with ⟨q_3,H⟩|⟨q_3,H⟩
 ·rcases af H with ⟨q_4,H⟩|⟨q_4,H⟩
  ·cases H
   exact aK
  cases H
  exact aK
 cases H
 exact aK
def Zn (a_a:Int) (a_b:Int):Option (Int):=bif (decide (a_a=(2:Int))) then some (2:Int) else
 bif (decide (a_b=(2:Int))) then some (2:Int) else
 bif (decide (a_a=(0:Int))) then bif (decide (a_b=(0:Int))) then some (0:Int) else
 some (1:Int) else
 some (1:Int)
theorem akm {a_a:Int} {a_b:Int} {r:Int} (H:Zn a_a a_b=some r):Pure Tryz.prog 217 [.one (.int .i64 a_a), .one (.int .i64 a_b)] (.val (.one (.int .i64 r))):=by
 unfold Zn at H
 refine po_ Tryz.func217 Tryz.ntmps217 ?_
 rcases af H with ⟨q_1,H⟩|⟨q_1,H⟩
 ·cases H
  exact aK
 rcases af H with ⟨q_2,H⟩|⟨q_2,H⟩
 ·cases H
  exact aK
 rcases af H with ⟨q_3,H⟩|⟨q_3,H⟩
 ·rcases af H with ⟨q_4,H⟩|⟨q_4,H⟩
  ·cases H
   exact aK
  cases H
  exact aK
 cases H
 exact aK
def jR (a_v:Val):Option (Int):=(xY true).bind fun r_1=>bif (dU [.c (.int .i64 a_v.kind), .c (.int .i64 a_v.int), .c (.str a_v.text)] [.c (.int .i64 r_1.kind), .c (.int .i64 r_1.int), .c (.str r_1.text)]) then some (2:Int) else
 (xY false).bind fun r_3=>bif (dU [.c (.int .i64 a_v.kind), .c (.int .i64 a_v.int), .c (.str a_v.text)] [.c (.int .i64 r_3.kind), .c (.int .i64 r_3.int), .c (.str r_3.text)]) then some (0:Int) else
 some (1:Int)
theorem oo {a_v:Val} {r:Int} (H:jR a_v=some r):Pure Tryz.prog 105 [.agg (cV a_v)] (.val (.one (.int .i64 r))):=by
 unfold jR at H
 refine po_ Tryz.func105 Tryz.ntmps105 ?_
 obtain ⟨r_1,c1,H⟩:=bd_ H
 replace c1:=qX c1
 rcases af H with ⟨q_2,H⟩|⟨q_2,H⟩
 ·cases H
  exact aK
 obtain ⟨r_3,c2,H⟩:=bd_ H
 replace c2:=qX c2
 rcases af H with ⟨q_4,H⟩|⟨q_4,H⟩
 ·cases H
  exact aK
 cases H
 exact aK
def K5 (a_t:Int):Option (Val):=bif (decide (a_t=(2:Int))) then (xY (decide (a_t=(2:Int)))).bind fun r_2=>some r_2 else
 bif (decide (a_t=(0:Int))) then (xY (decide (a_t=(2:Int)))).bind fun r_4=>some r_4 else
 (gp ).bind fun r_5=>some r_5
theorem uO {a_t:Int} {r:Val} (H:K5 a_t=some r):Pure Tryz.prog 164 [.one (.int .i64 a_t)] (.val (.agg (cV r))):=by
 unfold K5 at H
 refine po_ Tryz.func164 Tryz.ntmps164 ?_
 rcases af H with ⟨q_1,H⟩|⟨q_1,H⟩
 ·obtain ⟨r_2,c1,H⟩:=bd_ H
  replace c1:=qX c1
  cases H
  exact aK
 rcases af H with ⟨q_3,H⟩|⟨q_3,H⟩
 ·obtain ⟨r_4,c2,H⟩:=bd_ H
  replace c2:=qX c2
  cases H
  exact aK
 obtain ⟨r_5,c3,H⟩:=bd_ H
 replace c3:=dD c3
 cases H
 exact aK
set_option maxHeartbeats 8000000
def Bz (a_op:Int):Option (Int × Int):=bif (decide (a_op=(1:Int))) then some ((0:Int),(0:Int)) else
 bif (decide (a_op=(2:Int))) then some ((0:Int),(0:Int)) else
 bif (decide (a_op=(4:Int))) then some ((1:Int),(1:Int)) else
 bif (decide (a_op=(18:Int))) then some ((1:Int),(1:Int)) else
 bif (decide (a_op=(20:Int))) then some ((1:Int),(1:Int)) else
 bif (decide (a_op=(21:Int))) then some ((1:Int),(1:Int)) else
 bif (decide (a_op=(5:Int))) then some ((2:Int),(1099511627776:Int)) else
 bif (decide (a_op=(6:Int))) then some ((2:Int),(1099511627776:Int)) else
 bif (decide (a_op=(7:Int))) then some ((2:Int),(2:Int)) else
 bif (decide (a_op=(8:Int))) then some ((2:Int),(2:Int)) else
 bif (decide (a_op=(9:Int))) then some ((2:Int),(2:Int)) else
 bif (decide (a_op=(10:Int))) then some ((2:Int),(2:Int)) else
 bif (decide (a_op=(11:Int))) then some ((2:Int),(2:Int)) else
 bif (decide (a_op=(12:Int))) then some ((2:Int),(2:Int)) else
 bif (decide (a_op=(13:Int))) then some ((2:Int),(2:Int)) else
 bif (decide (a_op=(14:Int))) then some ((2:Int),(2:Int)) else
 bif (decide (a_op=(15:Int))) then some ((2:Int),(2:Int)) else
 bif (decide (a_op=(16:Int))) then some ((2:Int),(2:Int)) else
 bif (decide (a_op=(17:Int))) then some ((2:Int),(2:Int)) else
 bif (decide (a_op=(19:Int))) then some ((2:Int),(2:Int)) else
 bif (decide (a_op=(22:Int))) then some ((3:Int),(3:Int)) else
 bif (decide (a_op=(23:Int))) then some ((1:Int),(1099511627776:Int)) else
 bif (decide (a_op=(24:Int))) then some ((4:Int),(4:Int)) else
 some ((-1:Int),(0:Int))
theorem R5 {a_op:Int} {r:Int × Int} (H:Bz a_op=some r):Pure Tryz.prog 200 [.one (.int .i64 a_op)] (.tup [.one (.int .i64 r.1), .one (.int .i64 r.2)]):=by
 unfold Bz at H
 refine po_ Tryz.func200 Tryz.ntmps200 ?_
 rcases af H with ⟨q_1,H⟩|⟨q_1,H⟩
 ·cases H
  exact aK
 rcases af H with ⟨q_2,H⟩|⟨q_2,H⟩
 ·cases H
  exact aK
 refine bz ?_
 rcases af H with ⟨q_3,H⟩|⟨q_3,H⟩
 ·cases H
  exact aK
 rcases af H with ⟨q_4,H⟩|⟨q_4,H⟩
 ·cases H
  exact aK
 rcases af H with ⟨q_5,H⟩|⟨q_5,H⟩
 ·cases H
  exact aK
 refine bz ?_
 rcases af H with ⟨q_6,H⟩|⟨q_6,H⟩
 ·cases H
  exact aK
 rcases af H with ⟨q_7,H⟩|⟨q_7,H⟩
 ·cases H
  exact aK
 rcases af H with ⟨q_8,H⟩|⟨q_8,H⟩
 ·cases H
  exact aK
 refine bz ?_
 rcases af H with ⟨q_9,H⟩|⟨q_9,H⟩
 ·cases H
  exact aK
 rcases af H with ⟨q_10,H⟩|⟨q_10,H⟩
 ·cases H
  exact aK
 rcases af H with ⟨q_11,H⟩|⟨q_11,H⟩
 ·cases H
  exact aK
 refine bz ?_
 rcases af H with ⟨q_12,H⟩|⟨q_12,H⟩
 ·cases H
  exact aK
 rcases af H with ⟨q_13,H⟩|⟨q_13,H⟩
 ·cases H
  exact aK
 rcases af H with ⟨q_14,H⟩|⟨q_14,H⟩
 ·cases H
  exact aK
 refine bz ?_
 rcases af H with ⟨q_15,H⟩|⟨q_15,H⟩
 ·cases H
  exact aK
 rcases af H with ⟨q_16,H⟩|⟨q_16,H⟩
 ·cases H
  exact aK
 rcases af H with ⟨q_17,H⟩|⟨q_17,H⟩
 ·cases H
  exact aK
 refine bz ?_
 rcases af H with ⟨q_18,H⟩|⟨q_18,H⟩
 ·cases H
  exact aK
 rcases af H with ⟨q_19,H⟩|⟨q_19,H⟩
 ·cases H
  exact aK
 rcases af H with ⟨q_20,H⟩|⟨q_20,H⟩
 ·cases H
  exact aK
 refine bz ?_
 rcases af H with ⟨q_21,H⟩|⟨q_21,H⟩
 ·cases H
  exact aK
 rcases af H with ⟨q_22,H⟩|⟨q_22,H⟩
 ·cases H
  exact aK
 rcases af H with ⟨q_23,H⟩|⟨q_23,H⟩
 ·cases H
  exact aK
 cases H
 exact aK
def nD (a_e:Ex):Option (Bool):=(Bz a_e.op).bind fun r_1=>bif (decide (r_1.1<(0:Int))) then some false else
 bif (decide (((a_e.args.length:Nat):Int)<r_1.1)) then some false else
 bif (decide (r_1.2<((a_e.args.length:Nat):Int))) then some false else
 bif (!(a_e.nm.toList==(⟨#[]⟩:ByteArray).toList)) then some false else
 bif (decide (a_e.op=(1:Int))) then bif (decide (a_e.int=(0:Int))) then (fH a_e.v).bind fun r_8=>some r_8 else
 some false else
 bif (decide (a_e.op=(2:Int))) then (gp ).bind fun r_10=>some (dU [.c (.int .i64 a_e.v.kind), .c (.int .i64 a_e.v.int), .c (.str a_e.v.text)] [.c (.int .i64 r_10.kind), .c (.int .i64 r_10.int), .c (.str r_10.text)]) else
 bif (decide (a_e.op=(24:Int))) then (gp ).bind fun r_12=>bif (dU [.c (.int .i64 a_e.v.kind), .c (.int .i64 a_e.v.int), .c (.str a_e.v.text)] [.c (.int .i64 r_12.kind), .c (.int .i64 r_12.int), .c (.str r_12.text)]) then bif (decide ((0:Int)<=a_e.int)) then some (decide (a_e.int<(13:Int))) else
 some false else
 some false else
 bif (decide (a_e.int=(0:Int))) then (gp ).bind fun r_16=>some (dU [.c (.int .i64 a_e.v.kind), .c (.int .i64 a_e.v.int), .c (.str a_e.v.text)] [.c (.int .i64 r_16.kind), .c (.int .i64 r_16.int), .c (.str r_16.text)]) else
 some false
theorem Kb {a_e:Ex} {r:Bool} (H:nD a_e=some r):Pure Tryz.prog 162 [.agg (tE a_e)] (.val (.one (.bool r))):=by
 unfold nD at H
 rw [aL a_e]
 refine po_ Tryz.func162 Tryz.ntmps162 ?_
 obtain ⟨r_1,c1,H⟩:=bd_ H
 replace c1:=R5 c1
 rcases af H with ⟨q_2,H⟩|⟨q_2,H⟩
 ·cases H
  exact aK
 rcases af H with ⟨q_3,H⟩|⟨q_3,H⟩
 ·cases H
  exact aK
 refine bz ?_
 rcases af H with ⟨q_4,H⟩|⟨q_4,H⟩
 ·cases H
  exact aK
 rcases af H with ⟨q_5,H⟩|⟨q_5,H⟩
 ·cases H
  exact aK
 rcases af H with ⟨q_6,H⟩|⟨q_6,H⟩
 ·refine bz ?_
  rcases af H with ⟨q_7,H⟩|⟨q_7,H⟩
  ·obtain ⟨r_8,c2,H⟩:=bd_ H
   replace c2:=tY c2
   cases H
   exact aK
  cases H
  exact aK
 refine bz ?_
 rcases af H with ⟨q_9,H⟩|⟨q_9,H⟩
 ·obtain ⟨r_10,c3,H⟩:=bd_ H
  replace c3:=dD c3
  cases H
  exact aK
 rcases af H with ⟨q_11,H⟩|⟨q_11,H⟩
 ·obtain ⟨r_12,c4,H⟩:=bd_ H
  replace c4:=dD c4
  rcases af H with ⟨q_13,H⟩|⟨q_13,H⟩
  ·refine bz ?_
   rcases af H with ⟨q_14,H⟩|⟨q_14,H⟩
   ·cases H
    exact aK
   cases H
   exact aK
  cases H
  exact aK
 rcases af H with ⟨q_15,H⟩|⟨q_15,H⟩
 ·obtain ⟨r_16,c5,H⟩:=bd_ H
  replace c5:=dD c5
  cases H
  exact aK
 cases H
 exact aK
set_option maxHeartbeats 8000000
def jC (a_op:Int) (a_a:Val) (a_b:Val):Option (Int):=bif (decide (a_op=(7:Int))) then (afi a_a a_b).bind fun r_2=>some r_2 else
 bif (decide (a_op=(8:Int))) then (afi a_a a_b).bind fun r_4=>(O7 r_4).bind fun r_5=>some r_5 else
 bif (decide (a_op=(9:Int))) then (AR a_a a_b).bind fun r_7=>some r_7 else
 bif (decide (a_op=(11:Int))) then (AR a_b a_a).bind fun r_9=>some r_9 else
 bif (decide (a_op=(10:Int))) then (AR a_b a_a).bind fun r_11=>(O7 r_11).bind fun r_12=>some r_12 else
 (AR a_a a_b).bind fun r_13=>(O7 r_13).bind fun r_14=>some r_14
theorem kK {a_op:Int} {a_a:Val} {a_b:Val} {r:Int} (H:jC a_op a_a a_b=some r):Pure Tryz.prog 167 [.one (.int .i64 a_op), .agg (cV a_a), .agg (cV a_b)] (.val (.one (.int .i64 r))):=by
 unfold jC at H
 refine po_ Tryz.func167 Tryz.ntmps167 ?_
 rcases af H with ⟨q_1,H⟩|⟨q_1,H⟩
 ·obtain ⟨r_2,c1,H⟩:=bd_ H
  replace c1:=acY c1
  cases H
  exact aK
 rcases af H with ⟨q_3,H⟩|⟨q_3,H⟩
 ·obtain ⟨r_4,c2,H⟩:=bd_ H
  replace c2:=acY c2
  obtain ⟨r_5,c3,H⟩:=bd_ H
  replace c3:=Im c3
  cases H
  exact aK
 refine bz ?_
 rcases af H with ⟨q_6,H⟩|⟨q_6,H⟩
 ·obtain ⟨r_7,c4,H⟩:=bd_ H
  replace c4:=Cq c4
  cases H
  exact aK
 rcases af H with ⟨q_8,H⟩|⟨q_8,H⟩
 ·obtain ⟨r_9,c5,H⟩:=bd_ H
  replace c5:=Cq c5
  cases H
  exact aK
 rcases af H with ⟨q_10,H⟩|⟨q_10,H⟩
 ·obtain ⟨r_11,c6,H⟩:=bd_ H
  replace c6:=Cq c6
  obtain ⟨r_12,c7,H⟩:=bd_ H
  replace c7:=Im c7
  cases H
  exact aK
 obtain ⟨r_13,c8,H⟩:=bd_ H
 replace c8:=Cq c8
 obtain ⟨r_14,c9,H⟩:=bd_ H
 replace c9:=Im c9
 cases H
 exact aK
def afq (a_n:Int):Option (Int):=some (PW a_n (IntKind.i64.wrap (0-a_n)))
theorem acK {a_n:Int} {r:Int} (H:afq a_n=some r):Pure Tryz.prog 223 [.one (.int .i64 a_n)] (.val (.one (.int .i64 r))):=by
 unfold afq at H
 refine po_ Tryz.func223 Tryz.ntmps223 ?_
 cases H
 exact aK
def fA (a_op:Int) (a_a:Int) (a_b:Int):Option (Val):=bif (decide (a_op=(13:Int))) then (uD (IntKind.i64.wrap (a_a+a_b))).bind fun r_2=>some r_2 else
 bif (decide (a_op=(14:Int))) then (uD (IntKind.i64.wrap (a_a-a_b))).bind fun r_4=>some r_4 else
 bif (decide (a_op=(15:Int))) then bif (decide (a_a≠(0:Int))) then (afq a_b).bind fun r_7=>(afq a_a).bind fun r_8=>bif (decide (r_8≠0)) then (bif (decide ((IntKind.i64.wrap ((1125899906842624:Int).tdiv r_8))<r_7)) then (gp ).bind fun r_10=>some r_10 else
 (uD (IntKind.i64.wrap (a_a*a_b))).bind fun r_11=>some r_11) else none else
 (uD (IntKind.i64.wrap (a_a*a_b))).bind fun r_12=>some r_12 else
 bif (decide (a_b=(0:Int))) then (gp ).bind fun r_14=>some r_14 else
 bif (decide (a_op=(16:Int))) then bif (decide (a_b≠0)) then ((uD (IntKind.i64.wrap (a_a.tdiv a_b))).bind fun r_16=>some r_16) else none else
 bif (decide (a_b≠0)) then ((uD (a_a.tmod a_b)).bind fun r_17=>some r_17) else none
theorem U9 {a_op:Int} {a_a:Int} {a_b:Int} {r:Val} (H:fA a_op a_a a_b=some r):Pure Tryz.prog 173 [.one (.int .i64 a_op), .one (.int .i64 a_a), .one (.int .i64 a_b)] (.val (.agg (cV r))):=by
 unfold fA at H
 refine po_ Tryz.func173 Tryz.ntmps173 ?_
 rcases af H with ⟨q_1,H⟩|⟨q_1,H⟩
 ·obtain ⟨r_2,c1,H⟩:=bd_ H
  replace c1:=pO c1
  cases H
  exact aK
 rcases af H with ⟨q_3,H⟩|⟨q_3,H⟩
 ·obtain ⟨r_4,c2,H⟩:=bd_ H
  replace c2:=pO c2
  cases H
  exact aK
 refine bz ?_
 rcases af H with ⟨q_5,H⟩|⟨q_5,H⟩
 ·rcases af H with ⟨q_6,H⟩|⟨q_6,H⟩
  ·obtain ⟨r_7,c3,H⟩:=bd_ H
   replace c3:=acK c3
   obtain ⟨r_8,c4,H⟩:=bd_ H
   replace c4:=acK c4
   obtain ⟨g5,H⟩:=aS H
   rcases af H with ⟨q_9,H⟩|⟨q_9,H⟩
   ·obtain ⟨r_10,c6,H⟩:=bd_ H
    replace c6:=dD c6
    cases H
    exact aK
   obtain ⟨r_11,c7,H⟩:=bd_ H
   replace c7:=pO c7
   cases H
   exact aK
  obtain ⟨r_12,c8,H⟩:=bd_ H
  replace c8:=pO c8
  cases H
  exact aK
 rcases af H with ⟨q_13,H⟩|⟨q_13,H⟩
 ·obtain ⟨r_14,c9,H⟩:=bd_ H
  replace c9:=dD c9
  cases H
  exact aK
 rcases af H with ⟨q_15,H⟩|⟨q_15,H⟩
 ·obtain ⟨g10,H⟩:=aS H
  obtain ⟨r_16,c11,H⟩:=bd_ H
  replace c11:=pO c11
  cases H
  exact aK
 obtain ⟨g12,H⟩:=aS H
 obtain ⟨r_17,c13,H⟩:=bd_ H
 replace c13:=pO c13
 cases H
 exact aK
def LX (a_l:(List Val)) (a_kind:Int):(Int)->Option (Step (Int) (Bool)):=fun s=>match s with
 | i_1=>bif (decide (i_1<((a_l.length:Nat):Int))) then (aT a_l i_1).bind fun x_3=>bif (decide (x_3.kind≠a_kind)) then some (.ret false) else
 some (.next (IntKind.i64.wrap (i_1+(1:Int)))) else
 some (.exit i_1)
def Gl:Sum (Int) (Bool)->Option ((Bool))
 | .inl i_1=>some true
 | .inr q=>some q
def YZ (a_l:(List Val)) (a_kind:Int):Option (Bool):=(az (LX a_l a_kind) fuel (0:Int)).bind (Gl)
theorem Lm {a_l:(List Val)} {a_kind:Int} {r:Bool} (H:YZ a_l a_kind=some r):Pure Tryz.prog 168 [.one (.lst (a_l.map cV)), .one (.int .i64 a_kind)] (.val (.one (.bool r))):=by
 unfold YZ at H
 refine po_ Tryz.func168 Tryz.ntmps168 ?_
 refine bz ?_
 refine alM_ (fun s:Int=>match s with|i_1=>[(0, .one (.c (.lst (a_l.map cV)))),(1, .one (.c (.int .i64 a_kind))),(5, .one (.c (.int .i64 i_1)))]) (fun s=>match s with|i_1=>[]) H (fun _=>aqj _)
  (fm_ bY [] rfl bA trivial) ?_
 rintro i_1 st1 hb1 hk1
 unfold LX at hb1
 dsimp only at hb1 ⊢
 rcases af hb1 with ⟨q_2,hb1⟩|⟨q_2,hb1⟩
 ·obtain ⟨x_3,i1z,i1,i1x,hb1⟩:=bn (f:=cV) hb1
  rcases af hb1 with ⟨q_4,hb1⟩|⟨q_4,hb1⟩
  ·cases hb1
   have hx1:Gl (.inr false)=some _:=hk1
   unfold Gl at hx1
   dsimp only at hx1
   cases hx1
   exact aK
  cases hb1
  refine bz ?_
  exact ⟨_,rfl,fm_ bY [] rfl bA trivial⟩
 cases hb1
 have hx1:Gl (.inl i_1)=some _:=hk1
 unfold Gl at hx1
 dsimp only at hx1
 cases hx1
 exact aK
def ug (a_op:Int) (a_l:(List Val)):(Int × Int)->Option (Step (Int × Int) (Val)):=fun s=>match s with
 | (t_3,i_4)=>bif (decide (i_4<((a_l.length:Nat):Int))) then bif (decide (a_op=(5:Int))) then (aT a_l i_4).bind fun x_7=>(jR x_7).bind fun r_8=>(Nr t_3 r_8).bind fun r_9=>some (.next (r_9,(IntKind.i64.wrap (i_4+(1:Int))))) else
 (aT a_l i_4).bind fun x_10=>(jR x_10).bind fun r_11=>(Zn t_3 r_11).bind fun r_12=>some (.next (r_12,(IntKind.i64.wrap (i_4+(1:Int))))) else
 some (.exit (t_3,i_4))
def Ev:Sum (Int × Int) (Val)->Option ((Val))
 | .inl (t_3,i_4)=>(K5 t_3).bind fun r_13=>some r_13
 | .inr q=>some q
def CY (a_op:Int) (a_l:(List Val)):Option (Val):=(aT a_l (0:Int)).bind fun x_1=>(jR x_1).bind fun r_2=>(az (ug a_op a_l) fuel (r_2,(1:Int))).bind (Ev)
theorem MP {a_op:Int} {a_l:(List Val)} {r:Val} (H:CY a_op a_l=some r):Pure Tryz.prog 166 [.one (.int .i64 a_op), .one (.lst (a_l.map cV))] (.val (.agg (cV r))):=by
 unfold CY at H
 refine po_ Tryz.func166 Tryz.ntmps166 ?_
 obtain ⟨x_1,i1z,i1,i1x,H⟩:=bn (f:=cV) H
 obtain ⟨r_2,c2,H⟩:=bd_ H
 replace c2:=oo c2
 refine bz ?_
 refine alM_ (fun s:Int × Int=>match s with|(t_3,i_4)=>[(0, .one (.c (.int .i64 a_op))),(1, .one (.c (.lst (a_l.map cV)))),(4, .one (.ptr 0 0)),(5, .one (.c (.int .i64 t_3))),(6, .one (.c (.int .i64 i_4)))]) (fun s=>match s with|(t_3,i_4)=>[.box [.c (.int .i64 (0:Int)), .c (.int .i64 (0:Int)), .c (.str ByteArray.empty)]]) H (fun _=>aqj _)
  (fm_ bY [] rfl bA cz) ?_
 rintro ⟨t_3,i_4⟩ st1 hb1 hk1
 unfold ug at hb1
 dsimp only at hb1 ⊢
 rcases af hb1 with ⟨q_5,hb1⟩|⟨q_5,hb1⟩
 ·rcases af hb1 with ⟨q_6,hb1⟩|⟨q_6,hb1⟩
  ·obtain ⟨x_7,i3z,i3,i3x,hb1⟩:=bn (f:=cV) hb1
   obtain ⟨r_8,c4,hb1⟩:=bd_ hb1
   replace c4:=oo c4
   obtain ⟨r_9,c5,hb1⟩:=bd_ hb1
   replace c5:=af' c5
   cases hb1
   refine bz ?_
   exact ⟨_,rfl,fm_ bY [] rfl bA cz⟩
  obtain ⟨x_10,i6z,i6,i6x,hb1⟩:=bn (f:=cV) hb1
  obtain ⟨r_11,c7,hb1⟩:=bd_ hb1
  replace c7:=oo c7
  obtain ⟨r_12,c8,hb1⟩:=bd_ hb1
  replace c8:=akm c8
  cases hb1
  refine bz ?_
  exact ⟨_,rfl,fm_ bY [] rfl bA cz⟩
 cases hb1
 have hx1:Ev (.inl (t_3,i_4))=some _:=hk1
 unfold Ev at hx1
 dsimp only at hx1
 obtain ⟨r_13,c9,hx1⟩:=bd_ hx1
 replace c9:=uO c9
 cases hx1
 exact aK
set_option maxHeartbeats 8000000
def lG (a_rel:Int) (a_p:aP) (a_q:aP):Option (Bool):=bif (decide (a_rel=(0:Int))) then some (decide (a_p.hi<a_q.lo)) else
 bif (decide (a_rel=(1:Int))) then some (decide (a_p.hi=a_q.lo)) else
 bif (decide (a_rel=(2:Int))) then bif (decide (a_p.lo<a_q.lo)) then bif (decide (a_q.lo<a_p.hi)) then some (decide (a_p.hi<a_q.hi)) else
 some false else
 some false else
 bif (decide (a_rel=(3:Int))) then bif (decide (a_p.lo=a_q.lo)) then some (decide (a_p.hi<a_q.hi)) else
 some false else
 bif (decide (a_rel=(4:Int))) then bif (decide (a_q.lo<a_p.lo)) then some (decide (a_p.hi<a_q.hi)) else
 some false else
 bif (decide (a_rel=(5:Int))) then bif (decide (a_p.hi=a_q.hi)) then some (decide (a_q.lo<a_p.lo)) else
 some false else
 bif (decide (a_rel=(6:Int))) then some (dU [.c (.int .i64 a_p.lo), .c (.int .i64 a_p.hi)] [.c (.int .i64 a_q.lo), .c (.int .i64 a_q.hi)]) else
 bif (decide (a_rel=(7:Int))) then bif (decide (a_p.hi=a_q.hi)) then some (decide (a_p.lo<a_q.lo)) else
 some false else
 bif (decide (a_rel=(8:Int))) then bif (decide (a_p.lo<a_q.lo)) then some (decide (a_q.hi<a_p.hi)) else
 some false else
 bif (decide (a_rel=(9:Int))) then bif (decide (a_p.lo=a_q.lo)) then some (decide (a_q.hi<a_p.hi)) else
 some false else
 bif (decide (a_rel=(10:Int))) then bif (decide (a_q.lo<a_p.lo)) then bif (decide (a_p.lo<a_q.hi)) then some (decide (a_q.hi<a_p.hi)) else
 some false else
 some false else
 bif (decide (a_rel=(11:Int))) then some (decide (a_q.hi=a_p.lo)) else
 bif (decide (a_rel=(12:Int))) then some (decide (a_q.hi<a_p.lo)) else
 some false
theorem ajG {a_rel:Int} {a_p:aP} {a_q:aP} {r:Bool} (H:lG a_rel a_p a_q=some r):Pure Tryz.prog 85 [.one (.int .i64 a_rel), .agg (bv a_p), .agg (bv a_q)] (.val (.one (.bool r))):=by
 unfold lG at H
 refine po_ Tryz.func85 Tryz.ntmps85 ?_
 rcases af H with ⟨q_1,H⟩|⟨q_1,H⟩
 ·cases H
  exact aK
 rcases af H with ⟨q_2,H⟩|⟨q_2,H⟩
 ·cases H
  exact aK
 refine bz ?_
 rcases af H with ⟨q_3,H⟩|⟨q_3,H⟩
 ·rcases af H with ⟨q_4,H⟩|⟨q_4,H⟩
  ·rcases af H with ⟨q_5,H⟩|⟨q_5,H⟩
   ·cases H
    exact aK
   cases H
   exact aK
  cases H
  exact aK
 rcases af H with ⟨q_6,H⟩|⟨q_6,H⟩
 ·rcases af H with ⟨q_7,H⟩|⟨q_7,H⟩
  ·cases H
   exact aK
  cases H
  exact aK
 rcases af H with ⟨q_8,H⟩|⟨q_8,H⟩
 ·refine bz ?_
  rcases af H with ⟨q_9,H⟩|⟨q_9,H⟩
  ·cases H
   exact aK
  cases H
  exact aK
 refine bz ?_
 rcases af H with ⟨q_10,H⟩|⟨q_10,H⟩
 ·rcases af H with ⟨q_11,H⟩|⟨q_11,H⟩
  ·cases H
   exact aK
  cases H
  exact aK
 rcases af H with ⟨q_12,H⟩|⟨q_12,H⟩
 ·cases H
  exact aK
 rcases af H with ⟨q_13,H⟩|⟨q_13,H⟩
 ·refine bz ?_
  rcases af H with ⟨q_14,H⟩|⟨q_14,H⟩
  ·cases H
   exact aK
  cases H
  exact aK
 refine bz ?_
 rcases af H with ⟨q_15,H⟩|⟨q_15,H⟩
 ·rcases af H with ⟨q_16,H⟩|⟨q_16,H⟩
  ·cases H
   exact aK
  cases H
  exact aK
 rcases af H with ⟨q_17,H⟩|⟨q_17,H⟩
 ·rcases af H with ⟨q_18,H⟩|⟨q_18,H⟩
  ·cases H
   exact aK
  cases H
  exact aK
 rcases af H with ⟨q_19,H⟩|⟨q_19,H⟩
 ·refine bz ?_
  rcases af H with ⟨q_20,H⟩|⟨q_20,H⟩
  ·rcases af H with ⟨q_21,H⟩|⟨q_21,H⟩
   ·cases H
    exact aK
   cases H
   exact aK
  cases H
  exact aK
 refine bz ?_
 rcases af H with ⟨q_22,H⟩|⟨q_22,H⟩
 ·cases H
  exact aK
 rcases af H with ⟨q_23,H⟩|⟨q_23,H⟩
 ·cases H
  exact aK
 cases H
 exact aK
def zt (a_rel:Int) (a_p:aP) (a_q:aP):Option (Bool):=(dX a_p).bind fun r_1=>bif r_1 then (dX a_q).bind fun r_3=>bif r_3 then (lG a_rel a_p a_q).bind fun r_5=>some r_5 else
 some false else
 some false
theorem NT {a_rel:Int} {a_p:aP} {a_q:aP} {r:Bool} (H:zt a_rel a_p a_q=some r):Pure Tryz.prog 46 [.one (.int .i64 a_rel), .agg (bv a_p), .agg (bv a_q)] (.val (.one (.bool r))):=by
 unfold zt at H
 refine po_ Tryz.func46 Tryz.ntmps46 ?_
 obtain ⟨r_1,c1,H⟩:=bd_ H
 replace c1:=fC c1
 rcases af H with ⟨q_2,H⟩|⟨q_2,H⟩
 ·obtain ⟨r_3,c2,H⟩:=bd_ H
  replace c2:=fC c2
  rcases af H with ⟨q_4,H⟩|⟨q_4,H⟩
  ·obtain ⟨r_5,c3,H⟩:=bd_ H
   replace c3:=ajG c3
   cases H
   exact aK
  cases H
  exact aK
 cases H
 exact aK
def wN (a_p:aP) (a_q:aP):(Int)->Option (Step (Int) (Int × Bool)):=fun s=>match s with
 | rel_1=>bif (decide (rel_1<(13:Int))) then (zt rel_1 a_p a_q).bind fun r_3=>bif r_3 then some (.ret (rel_1,true)) else
 some (.next (IntKind.i64.wrap (rel_1+(1:Int)))) else
 some (.exit rel_1)
def BP:Sum (Int) (Int × Bool)->Option ((Int × Bool))
 | .inl rel_1=>some ((0:Int),false)
 | .inr q=>some q
def XK (a_p:aP) (a_q:aP):Option (Int × Bool):=(az (wN a_p a_q) fuel (0:Int)).bind (BP)
theorem ahi {a_p:aP} {a_q:aP} {r:Int × Bool} (H:XK a_p a_q=some r):Pure Tryz.prog 222 [.agg (bv a_p), .agg (bv a_q)] (.tup [.one (.int .i64 r.1), .one (.bool r.2)]):=by
 unfold XK at H
 refine po_ Tryz.func222 Tryz.ntmps222 ?_
 refine bz ?_
 refine alM_ (fun s:Int=>match s with|rel_1=>[(2, .one (.ptr 0 0)),(3, .one (.ptr 1 0)),(6, .one (.c (.int .i64 rel_1)))]) (fun s=>match s with|rel_1=>[.box [.c (.int .i64 a_p.lo), .c (.int .i64 a_p.hi)], .box [.c (.int .i64 a_q.lo), .c (.int .i64 a_q.hi)]]) H (fun _=>aqj _)
  (fm_ bY [] rfl bA cz) ?_
 rintro rel_1 st1 hb1 hk1
 unfold wN at hb1
 dsimp only at hb1 ⊢
 rcases af hb1 with ⟨q_2,hb1⟩|⟨q_2,hb1⟩
 ·obtain ⟨r_3,c1,hb1⟩:=bd_ hb1
  replace c1:=NT c1
  rcases af hb1 with ⟨q_4,hb1⟩|⟨q_4,hb1⟩
  ·cases hb1
   have hx1:BP (.inr (rel_1,true))=some _:=hk1
   unfold BP at hx1
   dsimp only at hx1
   cases hx1
   exact aK
  cases hb1
  refine bz ?_
  exact ⟨_,rfl,fm_ bY [] rfl bA cz⟩
 cases hb1
 have hx1:BP (.inl rel_1)=some _:=hk1
 unfold BP at hx1
 dsimp only at hx1
 cases hx1
 exact aK
set_option maxHeartbeats 8000000
def xA (a_rel:Int) (a_l:(List Val)):Option (Val):=(YZ a_l (1:Int)).bind fun r_1=>bif (!r_1) then (gp ).bind fun r_3=>some r_3 else
 (aT a_l (0:Int)).bind fun x_4=>(aT a_l (1:Int)).bind fun x_5=>(aT a_l (2:Int)).bind fun x_6=>(aT a_l (3:Int)).bind fun x_7=>(XK (⟨x_4.int,x_5.int⟩:aP) (⟨x_6.int,x_7.int⟩:aP)).bind fun r_8=>bif (!r_8.2) then (gp ).bind fun r_10=>some r_10 else
 (xY (decide (r_8.1=a_rel))).bind fun r_11=>some r_11
theorem Uz {a_rel:Int} {a_l:(List Val)} {r:Val} (H:xA a_rel a_l=some r):Pure Tryz.prog 172 [.one (.int .i64 a_rel), .one (.lst (a_l.map cV))] (.val (.agg (cV r))):=by
 unfold xA at H
 refine po_ Tryz.func172 Tryz.ntmps172 ?_
 obtain ⟨r_1,c1,H⟩:=bd_ H
 replace c1:=Lm c1
 rcases af H with ⟨q_2,H⟩|⟨q_2,H⟩
 ·obtain ⟨r_3,c2,H⟩:=bd_ H
  replace c2:=dD c2
  cases H
  exact aK
 obtain ⟨x_4,i3z,i3,i3x,H⟩:=bn (f:=cV) H
 obtain ⟨x_5,i4z,i4,i4x,H⟩:=bn (f:=cV) H
 obtain ⟨x_6,i5z,i5,i5x,H⟩:=bn (f:=cV) H
 obtain ⟨x_7,i6z,i6,i6x,H⟩:=bn (f:=cV) H
 obtain ⟨r_8,c7,H⟩:=bd_ H
 replace c7:=ahi c7
 rcases af H with ⟨q_9,H⟩|⟨q_9,H⟩
 ·obtain ⟨r_10,c8,H⟩:=bd_ H
  replace c8:=dD c8
  cases H
  exact aK
 obtain ⟨r_11,c9,H⟩:=bd_ H
 replace c9:=qX c9
 cases H
 exact aK
def BG (a_op:Int) (a_l:(List Val)):Option (Val):=(YZ a_l (2:Int)).bind fun r_1=>bif (!r_1) then (gp ).bind fun r_3=>some r_3 else
 bif (decide (a_op=(19:Int))) then (aT a_l (0:Int)).bind fun x_5=>(aT a_l (1:Int)).bind fun x_6=>bif (decide (x_5.text.size+x_6.text.size<=9223372036854775807)) then ((Po (x_5.text++x_6.text)).bind fun r_7=>some r_7) else none else
 (aT a_l (0:Int)).bind fun x_8=>(uD ((x_8.text.size:Nat):Int)).bind fun r_9=>some r_9
theorem Te {a_op:Int} {a_l:(List Val)} {r:Val} (H:BG a_op a_l=some r):Pure Tryz.prog 170 [.one (.int .i64 a_op), .one (.lst (a_l.map cV))] (.val (.agg (cV r))):=by
 unfold BG at H
 refine po_ Tryz.func170 Tryz.ntmps170 ?_
 obtain ⟨r_1,c1,H⟩:=bd_ H
 replace c1:=Lm c1
 rcases af H with ⟨q_2,H⟩|⟨q_2,H⟩
 ·obtain ⟨r_3,c2,H⟩:=bd_ H
  replace c2:=dD c2
  cases H
  exact aK
 rcases af H with ⟨q_4,H⟩|⟨q_4,H⟩
 ·obtain ⟨x_5,i3z,i3,i3x,H⟩:=bn (f:=cV) H
  obtain ⟨x_6,i4z,i4,i4x,H⟩:=bn (f:=cV) H
  obtain ⟨g5,H⟩:=aS H
  obtain ⟨r_7,c6,H⟩:=bd_ H
  replace c6:=adq c6
  try simp only [aqb,ap',aqd,ap5,aL] at c6
  cases H
  exact aK
 obtain ⟨x_8,i7z,i7,i7x,H⟩:=bn (f:=cV) H
 obtain ⟨r_9,c8,H⟩:=bd_ H
 replace c8:=pO c8
 cases H
 exact aK
def yJ (a_l:(List Val)):(Int)->Option (Step (Int) (Val)):=fun s=>match s with
 | i_7=>bif (decide (i_7<((a_l.length:Nat):Int))) then (aT a_l i_7).bind fun x_9=>bif (decide (x_9.kind≠(0:Int))) then some (.ret x_9) else
 some (.next (IntKind.i64.wrap (i_7+(1:Int)))) else
 some (.exit i_7)
def sF:Sum (Int) (Val)->Option ((Val))
 | .inl i_7=>(gp ).bind fun r_11=>some r_11
 | .inr q=>some q
def yK (a_op:Int) (a_l:(List Val)):Option (Val):=bif (decide (a_op=(22:Int))) then (aT a_l (0:Int)).bind fun x_2=>(jR x_2).bind fun r_3=>bif (decide (r_3=(2:Int))) then (aT a_l (1:Int)).bind fun x_5=>some x_5 else
 (aT a_l (2:Int)).bind fun x_6=>some x_6 else
 (az (yJ a_l) fuel (0:Int)).bind (sF)
theorem MV {a_op:Int} {a_l:(List Val)} {r:Val} (H:yK a_op a_l=some r):Pure Tryz.prog 171 [.one (.int .i64 a_op), .one (.lst (a_l.map cV))] (.val (.agg (cV r))):=by
 unfold yK at H
 refine po_ Tryz.func171 Tryz.ntmps171 ?_
 rcases af H with ⟨q_1,H⟩|⟨q_1,H⟩
 ·obtain ⟨x_2,i1z,i1,i1x,H⟩:=bn (f:=cV) H
  obtain ⟨r_3,c2,H⟩:=bd_ H
  replace c2:=oo c2
  rcases af H with ⟨q_4,H⟩|⟨q_4,H⟩
  ·obtain ⟨x_5,i3z,i3,i3x,H⟩:=bn (f:=cV) H
   cases H
   exact aK
  obtain ⟨x_6,i4z,i4,i4x,H⟩:=bn (f:=cV) H
  cases H
  exact aK
 refine bz ?_
 refine alM_ (fun s:Int=>match s with|i_7=>[(1, .one (.c (.lst (a_l.map cV)))),(4, .one (.ptr 0 0)),(5, .one (.c (.int .i64 i_7)))]) (fun s=>match s with|i_7=>[.box [.c (.int .i64 (0:Int)), .c (.int .i64 (0:Int)), .c (.str ByteArray.empty)]]) H (fun _=>aqj _)
  (fm_ bY [] rfl bA cz) ?_
 rintro i_7 st1 hb1 hk1
 unfold yJ at hb1
 dsimp only at hb1 ⊢
 rcases af hb1 with ⟨q_8,hb1⟩|⟨q_8,hb1⟩
 ·obtain ⟨x_9,i5z,i5,i5x,hb1⟩:=bn (f:=cV) hb1
  rcases af hb1 with ⟨q_10,hb1⟩|⟨q_10,hb1⟩
  ·cases hb1
   have hx1:sF (.inr x_9)=some _:=hk1
   unfold sF at hx1
   dsimp only at hx1
   cases hx1
   exact aK
  cases hb1
  refine bz ?_
  exact ⟨_,rfl,fm_ bY [] rfl bA cz⟩
 cases hb1
 have hx1:sF (.inl i_7)=some _:=hk1
 unfold sF at hx1
 dsimp only at hx1
 obtain ⟨r_11,c6,hx1⟩:=bd_ hx1
 replace c6:=dD c6
 cases hx1
 exact aK
def KD (a_e:Ex) (a_row:(List Val)):Option (Val):=bif (decide (a_e.op=(2:Int))) then (Zx a_row a_e.int).bind fun r_2=>(fH r_2).bind fun r_3=>bif (!r_3) then (gp ).bind fun r_5=>some r_5 else
 some r_2 else
 (fH a_e.v).bind fun r_6=>bif (!r_6) then (gp ).bind fun r_8=>some r_8 else
 some a_e.v
theorem YX {a_e:Ex} {a_row:(List Val)} {r:Val} (H:KD a_e a_row=some r):Pure Tryz.prog 163 [.agg (tE a_e), .one (.lst (a_row.map cV))] (.val (.agg (cV r))):=by
 unfold KD at H
 rw [aL a_e]
 refine po_ Tryz.func163 Tryz.ntmps163 ?_
 rcases af H with ⟨q_1,H⟩|⟨q_1,H⟩
 ·obtain ⟨r_2,c1,H⟩:=bd_ H
  replace c1:=VG c1
  obtain ⟨r_3,c2,H⟩:=bd_ H
  replace c2:=tY c2
  rcases af H with ⟨q_4,H⟩|⟨q_4,H⟩
  ·obtain ⟨r_5,c3,H⟩:=bd_ H
   replace c3:=dD c3
   cases H
   exact aK
  cases H
  exact aK
 obtain ⟨r_6,c4,H⟩:=bd_ H
 replace c4:=tY c4
 rcases af H with ⟨q_7,H⟩|⟨q_7,H⟩
 ·obtain ⟨r_8,c5,H⟩:=bd_ H
  replace c5:=dD c5
  cases H
  exact aK
 cases H
 exact aK
set_option maxHeartbeats 8000000
theorem XL (x y:List Val) (hx:x.length<=1000000) (hy:y.length<=1000000):Di x y []=some (decide (cO x y<0)):=by
 unfold Di
 rw [dI (l:=([]:List QP)) (mk:=fun (_:Unit) i=>i) (f:=fun (_:Unit) (_:QP)=>(none:Option (Sum Unit Bool))) ?_ ?_ (by unfold fuel;simp) ()]
 ·show mf x y (.inl ((([]:List QP).length:Nat):Int))=_
  unfold mf
  rw [pY x y (by omega) (by omega)];rfl
 ·intro s i x hx;simp at hx
 ·intro s
  unfold ET
  dsimp only
  rw [lF_,ap1]
def leV (x y:List Val):Bool := !decide (cO y x<0)
theorem qR (x y:List Val):leV x y=true↔cO x y<=0:=by
 unfold leV
 have:=tCr_.anti x y
 have:=tCr_.anti y x
 simp
 omega
theorem zB {a b:List (List Val)} (ha:a.length<=1000000) (hb:b.length<=1000000) (hra : ∀ r∈a,r.length<=1000000) (hrb : ∀ r∈b,r.length<=1000000) : ∀ (n i k:Nat) (out:List (List Val)),i<=a.length->k<=b.length->out.length=i+k->(a.length-i)+(b.length-k)<n->(az (gG a b []) n (out,(i:Int),(k:Int))).bind yI=some (out++List.merge (a.drop i) (b.drop k) leV)
 | 0,_,_,_,_,_,_,h=>by omega
 | n+1,i,k,out,h1,h2,ho,hn=>by
  have hg:decide (out.length+1<=5864062014805)=true:=ap4 (by omega)
  rw [az]
  by_cases hlt:i<a.length
  ·obtain ⟨x,hx⟩:=gol_ hlt
   have ex:=(ap0.1 hx).2
   have hne:decide ((i:Int)=((a.length:Nat):Int))=false:=ap3 (by omega)
   have ihA:=zB ha hb hra hrb n (i+1) k (out++[x]) (by omega) (by omega) (by simp;omega) (by omega)
   by_cases hlb:k<b.length
   ·obtain ⟨y,hy⟩:=gol_ hlb
    have ey:=(ap0.1 hy).2
    have ihB:=zB ha hb hra hrb n i (k+1) (out++[y]) (by omega) (by omega) (by simp;omega) (by omega)
    have eb:gG a b [] (out,(i:Int),(k:Int))=bif decide (cO y x<0) then some (.next (out++[y],(i:Int),((k+1:Nat):Int))) else some (.next (out++[x],((i+1:Nat):Int),(k:Int))):=by
     unfold gG
     dsimp only
     rw [bf hx,ap2,hne,ap1,bf hy,ap2,gn_ hy,gn_ hx]
     simp only [apZ]
     rw [XL y x (hrb y (ap6 hy)) (hra x (ap6 hx)),wrapN (by omega),wrapN (by omega),hg]
     rfl
    rw [eb,aqv hlt,aqv hlb,ex,ey,List.cons_merge_cons]
    rw [aqv hlb,ey] at ihA
    rw [aqv hlt,ex] at ihB
    by_cases hc:cO y x<0
    ·rw [show decide (cO y x<0)=true from ap4 hc,ap2,if_neg (by unfold leV;simp [hc])]
     dsimp only
     rw [ihB];simp
    ·rw [show decide (cO y x<0)=false from ap3 hc,ap1,if_pos (by unfold leV;simp [hc])]
     dsimp only
     rw [ihA];simp
   ·have hk:k=b.length:=by omega
    have eb:gG a b [] (out,(i:Int),(k:Int))=some (.next (out++[x],((i+1:Nat):Int),(k:Int))):=by
     unfold gG
     dsimp only
     rw [bf hx,ap2,hne,ap1,hk,lF_,ap1,gn_ hx]
     simp only [apZ]
     rw [wrapN (by omega),hg]
     rfl
    rw [eb]
    dsimp only
    rw [ihA,aqv hlt,ex,hk,aqU,List.merge_right,List.merge_right]
    simp
  ·have hi:i=a.length:=by omega
   subst hi
   by_cases hlb:k<b.length
   ·obtain ⟨y,hy⟩:=gol_ hlb
    have ey:=(ap0.1 hy).2
    have ihB:=zB ha hb hra hrb n a.length (k+1) (out++[y]) (by omega) (by omega) (by simp;omega) (by omega)
    have eb:gG a b [] (out,((a.length:Nat):Int),(k:Int))=some (.next (out++[y],((a.length:Nat):Int),((k+1:Nat):Int))):=by
     unfold gG
     dsimp only
     rw [lF_,ap1,bf hy,ap2,show decide (((a.length:Nat):Int)=((a.length:Nat):Int))=true from ap4 rfl,ap2,gn_ hy]
     simp only [apZ]
     rw [wrapN (by omega),hg]
     rfl
    rw [eb]
    dsimp only
    rw [ihB,aqv hlb,ey,aqU,List.nil_merge,List.nil_merge]
    simp
   ·have hk:k=b.length:=by omega
    subst hk
    have eb:gG a b [] (out,((a.length:Nat):Int),((b.length:Nat):Int))=some (.exit (out,((a.length:Nat):Int),((b.length:Nat):Int))):=by
     unfold gG
     dsimp only
     rw [lF_,ap1,lF_,ap1]
    rw [eb,aqU,aqU,List.nil_merge,aqy]
    rfl
theorem aaZ {a b:List (List Val)} (ha:a.length<=1000000) (hb:b.length<=1000000) (hra : ∀ r∈a,r.length<=1000000) (hrb : ∀ r∈b,r.length<=1000000):FD a b []=some (List.merge a b leV):=by
 unfold FD
 have:=zB ha hb hra hrb fuel 0 0 [] (aqj _) (aqj _) rfl (by unfold fuel;omega)
 rw [show (((0:Nat):Int))=0 from rfl] at this
 rw [this];simp
theorem afA {a b:List (List Val)} (ha:Asc cO a) (hb:Asc cO b):Asc cO (List.merge a b leV):=by
 have:=List.pairwise_merge (le:=leV) (fun x y z h1 h2=>(qR x z).2 (tCr_.le_trans ((qR x y).1 h1) ((qR y z).1 h2))) (fun x y=>by
  rw [Bool.or_eq_true,qR,qR];exact tCr_.total x y) a b (ha.imp fun h=>(qR _ _).2 h) (hb.imp fun h=>(qR _ _).2 h)
 exact this.imp fun h=>(qR _ _).1 h
theorem aey : ∀ (n:Nat) (l:List (List Val)),l.length<=n->l.length<=1000000->(∀ r∈l,r.length<=1000000) -> ∃ r,IJ (n+1) l []=some r/\Asc cO r/\r.Perm l:=by
 intro n
 induction n with
 | zero =>
  intro l h _ _
  have:l=[]:=by cases l with|nil=>rfl|cons _ _=>simp at h
  subst this
  exact ⟨[],rfl,List.Pairwise.nil,List.Perm.refl _⟩
 | succ n ih =>
  intro l h hl hr
  match l,h,hl,hr with
  | [],_,_,_=>exact ⟨[],rfl,List.Pairwise.nil,List.Perm.refl _⟩
  | [x],_,_,hr =>
   have hx:=hr x (by simp)
   refine ⟨[x],?_,by simp [Asc],List.Perm.refl _⟩
   show yY (IJ (n+1)) [x] []=_
   unfold yY
   simp only [aqk,aqu]
   rw [show aT [x] 0=some x from rfl]
   simp only [apZ]
   rw [show decide (x.length<=4398046511104)=true from ap4 (by omega)]
   rfl
  | x::y::t,h,hl,hr =>
   generalize hL:x::y::t=l at h hl hr
   have h2:2<=l.length:=by rw [<- hL];simp
   have hm:IntKind.i64.wrap (((l.length:Nat):Int).tdiv (2:Int))=((l.length/2:Nat):Int):=by
    rw [show ((l.length:Nat):Int).tdiv 2=((l.length/2:Nat):Int) from rfl]
    exact bF (by omega) (by omega)
   have s1:l6 l 0 ((l.length/2:Nat):Int)=some (l.take (l.length/2)):=by
    unfold l6
    rw [if_pos (by omega),Int.toNat_natCast];rfl
   have s2:l6 l ((l.length/2:Nat):Int) ((l.length:Nat):Int)=some (l.drop (l.length/2)):=by
    unfold l6
    rw [if_pos (by omega),Int.toNat_natCast,Int.toNat_natCast,List.take_length]
   obtain ⟨r1,e1,a1,p1⟩:=ih (l.take (l.length/2)) (by simp;omega) (by simp;omega) fun r hr'=>hr r (aqW hr')
   obtain ⟨r2,e2,a2,p2⟩:=ih (l.drop (l.length/2)) (by simp;omega) (by simp;omega) fun r hr'=>hr r (List.mem_of_mem_drop hr')
   refine ⟨List.merge r1 r2 leV,?_,afA a1 a2,?_⟩
   ·show yY (IJ (n+1)) l []=_
    unfold yY
    rw [show decide (((l.length:Nat):Int)=0)=false from ap3 (by omega),ap1,show decide (((l.length:Nat):Int)=1)=false from ap3 (by omega),ap1,show decide ((2:Int)≠0)=true from rfl,ap2,hm,s1,s2]
    simp only [apZ]
    rw [e1,e2]
    simp only [apZ]
    rw [aaZ (by rw [p1.length_eq];simp;omega) (by rw [p2.length_eq];simp;omega) (fun r hr'=>hr r (aqW (p1.mem_iff.1 hr'))) (fun r hr'=>hr r (List.mem_of_mem_drop (p2.mem_iff.1 hr')))]
    rfl
   ·refine (List.merge_perm_append leV).trans ((p1.append p2).trans ?_)
    rw [aqK]
theorem Jv (l:List (List Val)) (hl:l.length<=300) (hr : ∀ r∈l,r.length<=1000000):Fa l=some (lc l):=by
 obtain ⟨r,e,a,p⟩:=aey 300 l hl (by omega) hr
 unfold Fa
 rw [e,Ug a p];rfl
theorem DR {s:ByteArray} (hs:s.size<=1000000) : ∀ (n i:Nat),i<=s.size->s.size-i<n -> ∃ r,(az (oZ s) n (i:Int)).bind fQ=some r
 | 0,_,_,h=>by omega
 | n+1,i,h1,hn=>by
  rw [az]
  unfold oZ
  dsimp only
  by_cases hlt:i<s.size
  ·rw [show decide ((i:Int)<((s.size:Nat):Int))=true from ap4 (by omega),ap2]
   obtain ⟨b,hb⟩ : ∃ b,adm s (i:Int)=some b:=by
    unfold adm
    rw [if_pos (by omega)]
    exact ⟨s[i],by simp [hlt]⟩
   rw [hb]
   simp only [apZ]
   cases decide (((b.toNat:Nat):Int)<32) with
   | true=>exact ⟨_,rfl⟩
   | false =>
    cases decide ((126:Int)<((b.toNat:Nat):Int)) with
    | true=>exact ⟨_,rfl⟩
    | false =>
     simp only [ap1]
     rw [wrapN (by omega)]
     exact DR hs n (i+1) (by omega) (by omega)
  ·rw [show decide ((i:Int)<((s.size:Nat):Int))=false from ap3 (by omega),ap1]
   exact ⟨_,rfl⟩
theorem QA {s:ByteArray} (hs:s.size<=1000000) : ∃ r,tV s=some r:=by
 have:=DR hs fuel 0 (aqj _) (by unfold fuel;omega)
 rw [show (((0:Nat):Int))=0 from rfl] at this
 exact this
theorem Ms (v:Val) : ∃ r,fH v=some r:=by
 unfold fH
 cases decide (v.kind=0) with
 | true=>cases decide (v.int=0)<;>exact ⟨_,rfl⟩
 | false =>
  cases decide (v.kind=1) with
  | true=>cases (v.text.toList==(⟨#[]⟩:ByteArray).toList)<;>cases decide ((-1125899906842624:Int)<=v.int)<;>exact ⟨_,rfl⟩
  | false =>
   cases decide (v.kind=2) with
   | true =>
    cases decide (v.int=0) with
    | false=>exact ⟨_,rfl⟩
    | true =>
     by_cases h:((v.text.size:Nat):Int)<=200
     ·obtain ⟨r,hr⟩:=QA (s:=v.text) (by omega)
      rw [show decide (((v.text.size:Nat):Int)<=200)=true from ap4 h,hr]
      exact ⟨_,rfl⟩
     ·rw [show decide (((v.text.size:Nat):Int)<=200)=false from ap3 h]
      exact ⟨_,rfl⟩
   | false =>
    cases decide (v.kind=3) with
    | true=>cases (v.text.toList==(⟨#[]⟩:ByteArray).toList)<;>cases decide (v.int=0)<;>exact ⟨_,rfl⟩
    | false=>exact ⟨_,rfl⟩
theorem ae_ (row:List Val) (kinds:List Int) (h:row.length<=1000000) : ∃ r,Bg row kinds=some r:=by
 unfold Bg
 by_cases he:row.length=kinds.length
 ·rw [show decide (((row.length:Nat):Int)≠((kinds.length:Nat):Int))=false from ap3 (by omega),ap1]
  have hz:(row.zip kinds).length=row.length:=by simp;omega
  have k:=dI (l:=row.zip kinds) (body:=kY row kinds) (mk:=fun (_:Unit) i=>i) (f:=fun (_:Unit) (x:Val × Int)=>(fH x.1).bind fun r=>bif (!r) then some (.inr false) else bif decide (x.1.kind≠0) then bif decide (x.1.kind≠x.2) then some (.inr false) else some (.inl ()) else some (.inl ())) ?_ ?_ (by unfold fuel;omega) ()
  ·obtain ⟨r,hr⟩:=VB (σ:=Unit) (ρ:=Bool) (f:=fun (_:Unit) (x:Val × Int)=>(fH x.1).bind fun r=>bif (!r) then some (.inr false) else bif decide (x.1.kind≠0) then bif decide (x.1.kind≠x.2) then some (.inr false) else some (.inl ()) else some (.inl ())) (row.zip kinds) () (by
    intro s x _
    obtain ⟨r,hr⟩:=Ms x.1
    rw [hr]
    cases r<;>cases decide (x.1.kind≠0)<;>cases decide (x.1.kind≠x.2)<;>exact ⟨_,rfl⟩)
   rw [k,hr]
   cases r with
   | inl _=>exact ⟨_,rfl⟩
   | inr _=>exact ⟨_,rfl⟩
  ·intro s i x hx
   obtain ⟨h1,h2⟩:=List.getElem?_zip_eq_some.1 hx
   have hi:i<row.length:=(ap0.1 h1).1
   unfold kY
   dsimp only
   rw [bf h1,ap2,gn_ h1,gn_ h2]
   simp only [apZ]
   rw [wrapN (by omega)]
   cases fH x.1 with
   | none=>rfl
   | some r=>cases r<;>cases decide (x.1.kind≠0)<;>cases decide (x.1.kind≠x.2)<;>rfl
  ·intro s
   unfold kY
   dsimp only
   rw [hz,lF_,ap1]
 ·rw [show decide (((row.length:Nat):Int)≠((kinds.length:Nat):Int))=true from ap4 (by omega)]
  exact ⟨_,rfl⟩
theorem ahb (k:Int) : ∃ r,Kh k=some r:=by
 unfold Kh
 cases decide (k=1)<;>cases decide (k=2)<;>exact ⟨_,rfl⟩
theorem ad_ (l:List Int) (h:l.length<=1000000) : ∃ r,MU l=some r:=by
 unfold MU
 have k:=dI (l:=l) (body:=vT l) (mk:=fun (_:Unit) i=>i) (f:=fun (_:Unit) (x:Int)=>(Kh x).bind fun r=>bif (!r) then some (.inr false) else some (.inl ())) ?_ ?_ (by unfold fuel;omega) ()
 ·obtain ⟨r,hr⟩:=VB (σ:=Unit) (ρ:=Bool) (f:=fun (_:Unit) (x:Int)=>(Kh x).bind fun r=>bif (!r) then some (.inr false) else some (.inl ())) l () (by
   intro s x _
   obtain ⟨r,hr⟩:=ahb x
   rw [hr]
   cases r<;>exact ⟨_,rfl⟩)
  rw [k,hr]
  cases r with
  | inl _=>exact ⟨_,rfl⟩
  | inr _=>exact ⟨_,rfl⟩
 ·intro s i x hx
  have hi:i<l.length:=(ap0.1 hx).1
  unfold vT
  dsimp only
  rw [bf hx,ap2,gn_ hx]
  simp only [apZ]
  rw [wrapN (by omega)]
  cases Kh x with
  | none=>rfl
  | some r=>cases r<;>rfl
 ·intro s
  unfold vT
  dsimp only
  rw [lF_,ap1]
theorem zU (l:List Int) (h:l.length<=1000000):oG l l=some true:=by
 unfold oG
 simp only [ne_eq,not_true_eq_false,decide_false,ap1]
 rw [dI (l:=l) (mk:=fun (_:Unit) i=>i) (f:=fun (_:Unit) (_:Int)=>(some (.inl ()):Option (Sum Unit Bool))) ?_ ?_ (by unfold fuel;omega) ()]
 ·have : ∀ l:List Int,d_ (fun (_:Unit) (_:Int)=>(some (.inl ()):Option (Sum Unit Bool))) () l=some (.inl ()):=by
   intro l
   induction l with
   | nil=>rfl
   | cons x l ih=>rw [d_];exact ih
  rw [this];rfl
 ·intro s i x hx
  have hi:i<l.length:=(ap0.1 hx).1
  unfold oM
  dsimp only
  rw [bf hx,ap2,gn_ hx]
  simp only [apZ]
  rw [wrapN (by omega)]
  simp [w_]
 ·intro s
  unfold oM
  dsimp only
  rw [lF_,ap1]
end Go.Proofs.YtlcceppoloaecaaGreatDoor
