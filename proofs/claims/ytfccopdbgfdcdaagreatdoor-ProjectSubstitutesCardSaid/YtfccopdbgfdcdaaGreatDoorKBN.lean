/- Parts of the proof, joined. No condition. -/
import Derived.Test.YtfccopdbgfdcdaaGreatDoorKAA
import Derived.Test.YtfccopdbgfdcdaaGreatDoorKBM
import Derived.Test.YtfccopdbgfdcdaaGreatDoorKBI
import Derived.Test.YtfccopdbgfdcdaaGreatDoorKAM
set_option linter.unusedSimpArgs false
set_option linter.unusedVariables false
namespace Go.Proofs.YtfccopdbgfdcdaaGreatDoor
open Go.RowKit Go.MapKept
set_option maxRecDepth 100000
set_option maxHeartbeats 8000000
noncomputable section
def lT (a_p:aW):Option (Bool):=bif (decide ((0:Int)<=a_p.lo)) then bif (decide (a_p.lo<a_p.hi)) then some (decide (a_p.hi<=(1099511627776:Int))) else
 some false else
 some false
theorem kW {a_p:aW} {r:Bool} (H:lT a_p=some r):Pure Tryz.prog 32 [.agg (dP a_p)] (.val (.one (.bool r))):=by
 unfold lT at H
 refine po_ Tryz.func32 Tryz.ntmps32 ?_
 rcases aa H with ⟨q_1,H⟩|⟨q_1,H⟩
 ·rcases aa H with ⟨q_2,H⟩|⟨q_2,H⟩
  ·cases H
   exact af
  cases H
  exact af
 cases H
 exact af
def lq (a_p:aW) (a_t:Int):Option (Bool):=(lT a_p).bind fun r_1=>bif r_1 then bif (decide (a_p.lo<=a_t)) then some (decide (a_t<a_p.hi)) else
 some false else
 some false
theorem Js {a_p:aW} {a_t:Int} {r:Bool} (H:lq a_p a_t=some r):Pure Tryz.prog 95 [.agg (dP a_p), .one (.int .i64 a_t)] (.val (.one (.bool r))):=by
 unfold lq at H
 refine po_ Tryz.func95 Tryz.ntmps95 ?_
 obtain ⟨r_1,c1,H⟩:=bd_ H
 replace c1:=kW c1
 rcases aa H with ⟨q_2,H⟩|⟨q_2,H⟩
 ·rcases aa H with ⟨q_3,H⟩|⟨q_3,H⟩
  ·cases H
   exact af
  cases H
  exact af
 cases H
 exact af
def bP (r_1:(List (List Val))):((List (List Val)) × Int)->Option (Step ((List (List Val)) × Int) ((List (List Val)))):=fun s=>match s with
 | (out_2,i_3)=>bif (decide (i_3<((r_1.length:Nat):Int))) then bif (decide (i_3=(0:Int))) then (aA r_1 i_3).bind fun x_6=>bif (decide (out_2.length+1<=5864062014805)) then (some (.next ((out_2++[x_6]),(IntKind.i64.wrap (i_3+(1:Int)))))) else none else
 (aA r_1 (IntKind.i64.wrap (i_3-(1:Int)))).bind fun x_7=>(aA r_1 i_3).bind fun x_8=>(kI x_7 x_8).bind fun r_9=>bif (!r_9) then bif (decide (out_2.length+1<=5864062014805)) then (some (.next ((out_2++[x_8]),(IntKind.i64.wrap (i_3+(1:Int)))))) else none else
 some (.next (out_2,(IntKind.i64.wrap (i_3+(1:Int))))) else
 some (.exit (out_2,i_3))
def jq:Sum ((List (List Val)) × Int) ((List (List Val)))->Option (((List (List Val))))
 | .inl (out_2,i_3)=>some out_2
 | .inr q=>some q
def kX (a_l:(List (List Val))):Option ((List (List Val))):=(w_ a_l).bind fun r_1=>(az (bP r_1) fuel ([],(0:Int))).bind (jq)
theorem JH {a_l:(List (List Val))} {r:(List (List Val))} (H:kX a_l=some r):Pure Tryz.prog 145 [.one (.lst (a_l.map (fun x=>[AC.lst (x.map cV)])))] (.val (.one (.lst (r.map (fun x=>[AC.lst (x.map cV)]))))):=by
 unfold kX at H
 refine po_ Tryz.func145 Tryz.ntmps145 ?_
 obtain ⟨r_1,c1,H⟩:=bd_ H
 replace c1:=yU c1
 refine bv ?_
 refine dz 4 1 rfl ?_
 refine alM_ (fun s:(List (List Val)) × Int=>match s with|(out_2,i_3)=>[(3, .one (.c (.lst (r_1.map (fun x=>[AC.lst (x.map cV)]))))),(4, .one (.own (out_2.map (fun x=>[AC.lst (x.map cV)])) 0)),(5, .one (.c (.int .i64 i_3)))]) (fun s=>match s with|(out_2,i_3)=>[.spare out_2.length 1]) H (fun _=>ad4 _)
  (fm_ dL [] rfl bL cZ) ?_
 rintro ⟨out_2,i_3⟩ st1 hb1 hk1
 unfold bP at hb1
 dsimp only at hb1 ⊢
 rcases aa hb1 with ⟨q_4,hb1⟩|⟨q_4,hb1⟩
 ·rcases aa hb1 with ⟨q_5,hb1⟩|⟨q_5,hb1⟩
  ·obtain ⟨x_6,i2z,i2,i2x,hb1⟩:=aR (f:=(fun x=>[AC.lst (x.map cV)])) hb1
   obtain ⟨g3,hb1⟩:=bu hb1
   cases hb1
   refine bv ?_
   exact ⟨_,rfl,fm_ kM [] jY bL cZ⟩
  obtain ⟨x_7,i4z,i4,i4x,hb1⟩:=aR (f:=(fun x=>[AC.lst (x.map cV)])) hb1
  obtain ⟨x_8,i5z,i5,i5x,hb1⟩:=aR (f:=(fun x=>[AC.lst (x.map cV)])) hb1
  obtain ⟨r_9,c6,hb1⟩:=bd_ hb1
  replace c6:=FJ c6
  rcases aa hb1 with ⟨q_10,hb1⟩|⟨q_10,hb1⟩
  ·obtain ⟨g7,hb1⟩:=bu hb1
   cases hb1
   refine bv ?_
   exact ⟨_,rfl,fm_ kM [] jY bL cZ⟩
  cases hb1
  refine bv ?_
  exact ⟨_,rfl,fm_ kM [] jY bL cZ⟩
 cases hb1
 have hx1:jq (.inl (out_2,i_3))=some _:=hk1
 unfold jq at hx1
 dsimp only at hx1
 cases hx1
 exact af
def uS (a_l:(List aG)):((List (List Val)) × Int)->Option (Step ((List (List Val)) × Int) ((List (List Val)))):=fun s=>match s with
 | (out_1,i_2)=>bif (decide (i_2<((a_l.length:Nat):Int))) then (aA a_l i_2).bind fun x_4=>(lT x_4.valid).bind fun r_5=>bif r_5 then bif (decide (out_1.length+1<=5864062014805)) then (some (.next ((out_1++[x_4.row]),(IntKind.i64.wrap (i_2+(1:Int)))))) else none else
 some (.next (out_1,(IntKind.i64.wrap (i_2+(1:Int))))) else
 some (.exit (out_1,i_2))
def Bn:Sum ((List (List Val)) × Int) ((List (List Val)))->Option (((List (List Val))))
 | .inl (out_1,i_2)=>(kX out_1).bind fun r_7=>some r_7
 | .inr q=>some q
def BD (a_l:(List aG)):Option ((List (List Val))):=(az (uS a_l) fuel ([],(0:Int))).bind (Bn)
theorem G_ {a_l:(List aG)} {r:(List (List Val))} (H:BD a_l=some r):Pure Tryz.prog 98 [.one (.lst (a_l.map aY))] (.val (.one (.lst (r.map (fun x=>[AC.lst (x.map cV)]))))):=by
 unfold BD at H
 refine po_ Tryz.func98 Tryz.ntmps98 ?_
 refine bv ?_
 refine dz 3 1 rfl ?_
 refine alM_ (fun s:(List (List Val)) × Int=>match s with|(out_1,i_2)=>[(0, .one (.c (.lst (a_l.map aY)))),(3, .one (.own (out_1.map (fun x=>[AC.lst (x.map cV)])) 0)),(4, .one (.c (.int .i64 i_2)))]) (fun s=>match s with|(out_1,i_2)=>[.spare out_1.length 1]) H (fun _=>ad4 _)
  (fm_ dL [] rfl bL cZ) ?_
 rintro ⟨out_1,i_2⟩ st1 hb1 hk1
 unfold uS at hb1
 dsimp only at hb1 ⊢
 rcases aa hb1 with ⟨q_3,hb1⟩|⟨q_3,hb1⟩
 ·obtain ⟨x_4,i1z,i1,i1x,hb1⟩:=aR (f:=aY) hb1
  obtain ⟨r_5,c2,hb1⟩:=bd_ hb1
  replace c2:=kW c2
  rcases aa hb1 with ⟨q_6,hb1⟩|⟨q_6,hb1⟩
  ·obtain ⟨g3,hb1⟩:=bu hb1
   cases hb1
   refine bv ?_
   exact ⟨_,rfl,fm_ kM [] jY bL cZ⟩
  cases hb1
  refine bv ?_
  exact ⟨_,rfl,fm_ kM [] jY bL cZ⟩
 cases hb1
 have hx1:Bn (.inl (out_1,i_2))=some _:=hk1
 unfold Bn at hx1
 dsimp only at hx1
 obtain ⟨r_7,c4,hx1⟩:=bd_ hx1
 replace c4:=JH c4
 cases hx1
 exact af
def nW (a_l:(List aG)) (a_row:(List Val)):((List DI) × Int)->Option (Step ((List DI) × Int) ((List Stp))):=fun s=>match s with
 | (c_1,i_2)=>bif (decide (i_2<((a_l.length:Nat):Int))) then (aA a_l i_2).bind fun x_4=>(sU x_4.row a_row).bind fun r_5=>bif (decide (r_5=(0:Int))) then bif (decide (c_1.length+1<=5864062014805)) then (some (.next ((c_1++[(⟨x_4.valid,(1:Int)⟩:DI)]),(IntKind.i64.wrap (i_2+(1:Int)))))) else none else
 some (.next (c_1,(IntKind.i64.wrap (i_2+(1:Int))))) else
 some (.exit (c_1,i_2))
def uO:Sum ((List DI) × Int) ((List Stp))->Option (((List Stp)))
 | .inl (c_1,i_2)=>(X9 c_1).bind fun r_7=>some r_7
 | .inr q=>some q
def sZ (a_l:(List aG)) (a_row:(List Val)):Option ((List Stp)):=(az (nW a_l a_row) fuel ([],(0:Int))).bind (uO)
theorem BJ {a_l:(List aG)} {a_row:(List Val)} {r:(List Stp)} (H:sZ a_l a_row=some r):Pure Tryz.prog 99 [.one (.lst (a_l.map aY)), .one (.lst (a_row.map cV))] (.val (.one (.lst (r.map xN)))):=by
 unfold sZ at H
 refine po_ Tryz.func99 Tryz.ntmps99 ?_
 refine bv ?_
 refine dz 5 3 rfl ?_
 refine alM_ (fun s:(List DI) × Int=>match s with|(c_1,i_2)=>[(0, .one (.c (.lst (a_l.map aY)))),(1, .one (.c (.lst (a_row.map cV)))),(5, .one (.own (c_1.map JE) 0)),(6, .one (.c (.int .i64 i_2)))]) (fun s=>match s with|(c_1,i_2)=>[.spare c_1.length 3]) H (fun _=>ad4 _)
  (fm_ dL [] rfl bL cZ) ?_
 rintro ⟨c_1,i_2⟩ st1 hb1 hk1
 unfold nW at hb1
 dsimp only at hb1 ⊢
 rcases aa hb1 with ⟨q_3,hb1⟩|⟨q_3,hb1⟩
 ·obtain ⟨x_4,i1z,i1,i1x,hb1⟩:=aR (f:=aY) hb1
  obtain ⟨r_5,c2,hb1⟩:=bd_ hb1
  replace c2:=pq c2
  rcases aa hb1 with ⟨q_6,hb1⟩|⟨q_6,hb1⟩
  ·obtain ⟨g3,hb1⟩:=bu hb1
   cases hb1
   refine bv ?_
   exact ⟨_,rfl,fm_ kM [] jY bL cZ⟩
  cases hb1
  refine bv ?_
  exact ⟨_,rfl,fm_ kM [] jY bL cZ⟩
 cases hb1
 have hx1:uO (.inl (c_1,i_2))=some _:=hk1
 unfold uO at hx1
 dsimp only at hx1
 obtain ⟨r_7,c4,hx1⟩:=bd_ hx1
 replace c4:=ZZ c4
 cases hx1
 exact af
def u7 (a_row:(List Val)) (a_p:(List aW)):((List aG) × Int)->Option (Step ((List aG) × Int) ((List aG))):=fun s=>match s with
 | (out_1,i_2)=>bif (decide (i_2<((a_p.length:Nat):Int))) then (aA a_p i_2).bind fun x_4=>bif (decide (out_1.length+1<=3518437208883)) then (some (.next ((out_1++[(⟨a_row,x_4⟩:aG)]),(IntKind.i64.wrap (i_2+(1:Int)))))) else none else
 some (.exit (out_1,i_2))
def AB:Sum ((List aG) × Int) ((List aG))->Option (((List aG)))
 | .inl (out_1,i_2)=>some out_1
 | .inr q=>some q
def CO (a_row:(List Val)) (a_p:(List aW)):Option ((List aG)):=(az (u7 a_row a_p) fuel ([],(0:Int))).bind (AB)
theorem QD {a_row:(List Val)} {a_p:(List aW)} {r:(List aG)} (H:CO a_row a_p=some r):Pure Tryz.prog 63 [.one (.lst (a_row.map cV)), .one (.lst (a_p.map dP))] (.val (.one (.lst (r.map aY)))):=by
 unfold CO at H
 refine po_ Tryz.func63 Tryz.ntmps63 ?_
 refine bv ?_
 refine dz 5 3 rfl ?_
 refine alM_ (fun s:(List aG) × Int=>match s with|(out_1,i_2)=>[(0, .one (.c (.lst (a_row.map cV)))),(1, .one (.c (.lst (a_p.map dP)))),(5, .one (.own (out_1.map aY) 0)),(6, .one (.c (.int .i64 i_2)))]) (fun s=>match s with|(out_1,i_2)=>[.spare out_1.length 3]) H (fun _=>ad4 _)
  (fm_ dL [] rfl bL cZ) ?_
 rintro ⟨out_1,i_2⟩ st1 hb1 hk1
 unfold u7 at hb1
 dsimp only at hb1 ⊢
 rcases aa hb1 with ⟨q_3,hb1⟩|⟨q_3,hb1⟩
 ·obtain ⟨x_4,i1z,i1,i1x,hb1⟩:=aR (f:=dP) hb1
  obtain ⟨g2,hb1⟩:=bu hb1
  cases hb1
  refine bv ?_
  exact ⟨_,rfl,fm_ kM [] jY bL cZ⟩
 cases hb1
 have hx1:AB (.inl (out_1,i_2))=some _:=hk1
 unfold AB at hx1
 dsimp only at hx1
 cases hx1
 exact af
def dm (a_a:(List aG)) (a_b:(List aG)):((List aG) × Int × Int)->Option (Step ((List aG) × Int × Int) ((List aG))):=fun s=>match s with
 | (out_1,i_2,k_3)=>bif (decide (i_2<((a_a.length:Nat):Int))) then bif (decide (i_2=((a_a.length:Nat):Int))) then (aA a_b k_3).bind fun x_6=>bif (decide (out_1.length+1<=3518437208883)) then (some (.next ((out_1++[x_6]),i_2,(IntKind.i64.wrap (k_3+(1:Int)))))) else none else
 bif (decide (k_3<((a_b.length:Nat):Int))) then (aA a_b k_3).bind fun x_8=>(aA a_a i_2).bind fun x_9=>(sU x_8.row x_9.row).bind fun r_10=>bif (decide (r_10<(0:Int))) then bif (decide (out_1.length+1<=3518437208883)) then (some (.next ((out_1++[x_8]),i_2,(IntKind.i64.wrap (k_3+(1:Int)))))) else none else
 bif (decide (out_1.length+1<=3518437208883)) then (some (.next ((out_1++[x_9]),(IntKind.i64.wrap (i_2+(1:Int))),k_3))) else none else
 (aA a_a i_2).bind fun x_12=>bif (decide (out_1.length+1<=3518437208883)) then (some (.next ((out_1++[x_12]),(IntKind.i64.wrap (i_2+(1:Int))),k_3))) else none else
 bif (decide (k_3<((a_b.length:Nat):Int))) then bif (decide (i_2=((a_a.length:Nat):Int))) then (aA a_b k_3).bind fun x_15=>bif (decide (out_1.length+1<=3518437208883)) then (some (.next ((out_1++[x_15]),i_2,(IntKind.i64.wrap (k_3+(1:Int)))))) else none else
 (aA a_b k_3).bind fun x_16=>(aA a_a i_2).bind fun x_17=>(sU x_16.row x_17.row).bind fun r_18=>bif (decide (r_18<(0:Int))) then bif (decide (out_1.length+1<=3518437208883)) then (some (.next ((out_1++[x_16]),i_2,(IntKind.i64.wrap (k_3+(1:Int)))))) else none else
 bif (decide (out_1.length+1<=3518437208883)) then (some (.next ((out_1++[x_17]),(IntKind.i64.wrap (i_2+(1:Int))),k_3))) else none else
 some (.exit (out_1,i_2,k_3))
def nU:Sum ((List aG) × Int × Int) ((List aG))->Option (((List aG)))
 | .inl (out_1,i_2,k_3)=>some out_1
 | .inr q=>some q
def sV (a_a:(List aG)) (a_b:(List aG)):Option ((List aG)):=(az (dm a_a a_b) fuel ([],(0:Int),(0:Int))).bind (nU)
theorem Nb {a_a:(List aG)} {a_b:(List aG)} {r:(List aG)} (H:sV a_a a_b=some r):Pure Tryz.prog 144 [.one (.lst (a_a.map aY)), .one (.lst (a_b.map aY))] (.val (.one (.lst (r.map aY)))):=by
 unfold sV at H
 refine po_ Tryz.func144 Tryz.ntmps144 ?_
 refine bv ?_
 refine dz 5 3 rfl ?_
 refine alM_ (fun s:(List aG) × Int × Int=>match s with|(out_1,i_2,k_3)=>[(0, .one (.c (.lst (a_a.map aY)))),(1, .one (.c (.lst (a_b.map aY)))),(5, .one (.own (out_1.map aY) 0)),(6, .one (.c (.int .i64 i_2))),(7, .one (.c (.int .i64 k_3)))]) (fun s=>match s with|(out_1,i_2,k_3)=>[.spare out_1.length 3]) H (fun _=>ad4 _)
  (fm_ dL [] rfl bL cZ) ?_
 rintro ⟨out_1,i_2,k_3⟩ st1 hb1 hk1
 unfold dm at hb1
 dsimp only at hb1 ⊢
 rcases aa hb1 with ⟨q_4,hb1⟩|⟨q_4,hb1⟩
 ·rcases aa hb1 with ⟨q_5,hb1⟩|⟨q_5,hb1⟩
  ·obtain ⟨x_6,i1z,i1,i1x,hb1⟩:=aR (f:=aY) hb1
   obtain ⟨g2,hb1⟩:=bu hb1
   cases hb1
   refine bv ?_
   exact ⟨_,rfl,fm_ kM [] jY bL cZ⟩
  rcases aa hb1 with ⟨q_7,hb1⟩|⟨q_7,hb1⟩
  ·obtain ⟨x_8,i3z,i3,i3x,hb1⟩:=aR (f:=aY) hb1
   obtain ⟨x_9,i4z,i4,i4x,hb1⟩:=aR (f:=aY) hb1
   obtain ⟨r_10,c5,hb1⟩:=bd_ hb1
   replace c5:=pq c5
   rcases aa hb1 with ⟨q_11,hb1⟩|⟨q_11,hb1⟩
   ·obtain ⟨g6,hb1⟩:=bu hb1
    cases hb1
    refine bv ?_
    exact ⟨_,rfl,fm_ kM [] jY bL cZ⟩
   obtain ⟨g7,hb1⟩:=bu hb1
   cases hb1
   refine bv ?_
   exact ⟨_,rfl,fm_ kM [] jY bL cZ⟩
  obtain ⟨x_12,i8z,i8,i8x,hb1⟩:=aR (f:=aY) hb1
  obtain ⟨g9,hb1⟩:=bu hb1
  cases hb1
  refine bv ?_
  exact ⟨_,rfl,fm_ kM [] jY bL cZ⟩
 rcases aa hb1 with ⟨q_13,hb1⟩|⟨q_13,hb1⟩
 ·rcases aa hb1 with ⟨q_14,hb1⟩|⟨q_14,hb1⟩
  ·obtain ⟨x_15,i10z,i10,i10x,hb1⟩:=aR (f:=aY) hb1
   obtain ⟨g11,hb1⟩:=bu hb1
   cases hb1
   refine bv ?_
   exact ⟨_,rfl,fm_ kM [] jY bL cZ⟩
  obtain ⟨x_16,i12z,i12,i12x,hb1⟩:=aR (f:=aY) hb1
  obtain ⟨x_17,i13z,i13,i13x,hb1⟩:=aR (f:=aY) hb1
  obtain ⟨r_18,c14,hb1⟩:=bd_ hb1
  replace c14:=pq c14
  rcases aa hb1 with ⟨q_19,hb1⟩|⟨q_19,hb1⟩
  ·obtain ⟨g15,hb1⟩:=bu hb1
   cases hb1
   refine bv ?_
   exact ⟨_,rfl,fm_ kM [] jY bL cZ⟩
  obtain ⟨g16,hb1⟩:=bu hb1
  cases hb1
  refine bv ?_
  exact ⟨_,rfl,fm_ kM [] jY bL cZ⟩
 cases hb1
 have hx1:nU (.inl (out_1,i_2,k_3))=some _:=hk1
 unfold nU at hx1
 dsimp only at hx1
 cases hx1
 exact af
def rU (rec:List aG->Option (List aG)) (a_l:(List aG)):Option ((List aG)):=bif (decide (((a_l.length:Nat):Int)<(2:Int))) then some a_l else
 bif (decide ((2:Int)≠0)) then ((jI a_l (0:Int) (IntKind.i64.wrap (((a_l.length:Nat):Int).tdiv (2:Int)))).bind fun s_2=>(rec s_2).bind fun r_3=>(jI a_l (IntKind.i64.wrap (((a_l.length:Nat):Int).tdiv (2:Int))) ((a_l.length:Nat):Int)).bind fun s_4=>(rec s_4).bind fun r_5=>(sV r_3 r_5).bind fun r_6=>some r_6) else none
theorem MC {rec:List aG->Option (List aG)}  (hrec : ∀ {x:List aG} {r:List aG}, rec x=some r->Pure Tryz.prog 97 [.one (.lst (x.map aY))] (.val (.one (.lst (r.map aY))))) {a_l:(List aG)} {r:(List aG)} (H:rU rec a_l=some r):Pure Tryz.prog 97 [.one (.lst (a_l.map aY))] (.val (.one (.lst (r.map aY)))):=by
 unfold rU at H
 refine po_ Tryz.func97 Tryz.ntmps97 ?_
 rcases aa H with ⟨q_1,H⟩|⟨q_1,H⟩
 ·cases H
  exact af
 obtain ⟨g1,H⟩:=bu H
 obtain ⟨s_2,u2,H⟩:=bd_ H
 obtain ⟨⟨u2a,u2b,u2c⟩,u2⟩:=fq u2
 have u2x:=EM (f:=aY) u2
 obtain ⟨r_3,c3,H⟩:=bd_ H
 replace c3:=hrec c3
 obtain ⟨s_4,u4,H⟩:=bd_ H
 obtain ⟨⟨u4a,u4b,u4c⟩,u4⟩:=fq u4
 have u4x:=EM (f:=aY) u4
 obtain ⟨r_5,c5,H⟩:=bd_ H
 replace c5:=hrec c5
 obtain ⟨r_6,c6,H⟩:=bd_ H
 replace c6:=Nb c6
 cases H
 repeat' (first|refine gs_ ?_|rw [u2x]|rw [u4x]|rw [show ((0:Nat):Int)=0 from rfl])
 refine bE (bR rfl ?_ ?_)
 ·repeat' (first|exact trivial|rfl|exact adS rfl|omega|apply And.intro)
 ·first|rfl|(simp only [adV,adT,adX,adN]<;>rfl)
def xS:Nat->List aG->Option (List aG)
 | 0,_=>none
 | n+1,a=>rU (xS n) a
theorem Et : ∀ (n:Nat) {x:List aG} {r:List aG}, xS n x=some r->Pure Tryz.prog 97 [.one (.lst (x.map aY))] (.val (.one (.lst (r.map aY))))
 | 0,_,_,h=>nomatch h
 | n+1,_,_,h=>MC (Et n) h
def iQ (s_11:(List aG)) (r_12:(List (List Val))):((List bT) × Int)->Option (Step ((List bT) × Int) ((List bT))):=fun s=>match s with
 | (out_13,n_14)=>bif (decide (n_14<((r_12.length:Nat):Int))) then (aA r_12 n_14).bind fun x_16=>(sZ s_11 x_16).bind fun r_17=>bif (decide (out_13.length+1<=2932031007402)) then (some (.next ((out_13++[(⟨x_16,r_17⟩:bT)]),(IntKind.i64.wrap (n_14+(1:Int)))))) else none else
 some (.exit (out_13,n_14))
def iV (k_5:Int):Sum ((List bT) × Int) ((List bT))->Option (Step ((List bT) × Int) ((List bT)))
 | .inl (out_13,n_14)=>some (.next (out_13,k_5))
 | .inr q=>some (.ret q)
def gM (r_1:(List aG)) (i_3:Int):(Int)->Option (Step (Int) ((List bT))):=fun s=>match s with
 | k_5=>bif (decide (k_5<((r_1.length:Nat):Int))) then (aA r_1 k_5).bind fun x_7=>(aA r_1 i_3).bind fun x_8=>(sU x_7.row x_8.row).bind fun r_9=>bif (decide (r_9=(0:Int))) then some (.next (IntKind.i64.wrap (k_5+(1:Int)))) else
 some (.exit k_5) else
 some (.exit k_5)
def kC (r_1:(List aG)) (out_2:(List bT)) (i_3:Int):Sum (Int) ((List bT))->Option (Step ((List bT) × Int) ((List bT)))
 | .inl k_5=>(jI r_1 i_3 k_5).bind fun s_11=>(BD s_11).bind fun r_12=>(az (iQ s_11 r_12) fuel (out_2,(0:Int))).bind (iV k_5)
 | .inr q=>some (.ret q)
def fF (r_1:(List aG)):((List bT) × Int)->Option (Step ((List bT) × Int) ((List bT))):=fun s=>match s with
 | (out_2,i_3)=>bif (decide (i_3<((r_1.length:Nat):Int))) then (az (gM r_1 i_3) fuel i_3).bind (kC r_1 out_2 i_3) else
 some (.exit (out_2,i_3))
def uP:Sum ((List bT) × Int) ((List bT))->Option (((List bT)))
 | .inl (out_2,i_3)=>some out_2
 | .inr q=>some q
def rZ (a_l:(List aG)):Option ((List bT)):=(xS 640 a_l).bind fun r_1=>(az (fF r_1) fuel ([],(0:Int))).bind (uP)
theorem LX {a_l:(List aG)} {r:(List bT)} (H:rZ a_l=some r):Pure Tryz.prog 62 [.one (.lst (a_l.map aY))] (.val (.one (.lst (r.map lV)))):=by
 unfold rZ at H
 refine po_ Tryz.func62 Tryz.ntmps62 ?_
 obtain ⟨r_1,c1,H⟩:=bd_ H
 replace c1:=Et 640 c1
 refine bv ?_
 refine dz 4 2 rfl ?_
 refine alM_ (fun s:(List bT) × Int=>match s with|(out_2,i_3)=>[(3, .one (.c (.lst (r_1.map aY)))),(4, .one (.own (out_2.map lV) 0)),(5, .one (.c (.int .i64 i_3)))]) (fun s=>match s with|(out_2,i_3)=>[.spare out_2.length 2]) H (fun _=>ad4 _)
  (fm_ dL [] rfl bL cZ) ?_
 rintro ⟨out_2,i_3⟩ st5 hb5 hk5
 unfold fF at hb5
 dsimp only at hb5 ⊢
 rcases aa hb5 with ⟨q_4,hb5⟩|⟨q_4,hb5⟩
 ·refine bv ?_
  refine alM_ (fun s:Int=>match s with|k_5=>[(3, .one (.c (.lst (r_1.map aY)))),(4, .one (.own (out_2.map lV) 0)),(5, .one (.c (.int .i64 i_3))),(6, .one (.c (.int .i64 k_5)))]) (fun s=>match s with|k_5=>[.spare out_2.length 2]) hb5 (fun _=>ad4 _)
   (fm_ dL [] rfl bL cZ) ?_
  rintro k_5 st6 hb6 hk6
  unfold gM at hb6
  dsimp only at hb6 ⊢
  rcases aa hb6 with ⟨q_6,hb6⟩|⟨q_6,hb6⟩
  ·obtain ⟨x_7,i2z,i2,i2x,hb6⟩:=aR (f:=aY) hb6
   obtain ⟨x_8,i3z,i3,i3x,hb6⟩:=aR (f:=aY) hb6
   obtain ⟨r_9,c4,hb6⟩:=bd_ hb6
   replace c4:=pq c4
   rcases aa hb6 with ⟨q_10,hb6⟩|⟨q_10,hb6⟩
   ·cases hb6
    refine bv ?_
    exact ⟨_,rfl,fm_ dL [] rfl bL cZ⟩
   cases hb6
   have hx6:kC r_1 out_2 i_3 (.inl k_5)=some _:=hk6
   unfold kC at hx6
   dsimp only at hx6
   obtain ⟨s_11,u5,hx6⟩:=bd_ hx6
   obtain ⟨⟨u5a,u5b,u5c⟩,u5⟩:=fq u5
   have u5x:=EM (f:=aY) u5
   obtain ⟨r_12,c6,hx6⟩:=bd_ hx6
   replace c6:=G_ c6
   repeat' (first|refine gs_ ?_|rw [u5x]|rw [show ((0:Nat):Int)=0 from rfl])
   refine alM_ (fun s:(List bT) × Int=>match s with|(out_13,n_14)=>[(3, .one (.c (.lst (r_1.map aY)))),(4, .one (.own (out_13.map lV) 0)),(5, .one (.c (.int .i64 i_3))),(6, .one (.c (.int .i64 k_5))),(7, .one (.c (.lst (r_12.map (fun x=>[AC.lst (x.map cV)]))))),(8, .one (.c (.int .i64 n_14)))]) (fun s=>match s with|(out_13,n_14)=>[.spare out_13.length 2]) hx6 (fun _=>ad4 _)
    (fm_ dL [] rfl bL cZ) ?_
   rintro ⟨out_13,n_14⟩ st7 hb7 hk7
   unfold iQ at hb7
   dsimp only at hb7 ⊢
   rcases aa hb7 with ⟨q_15,hb7⟩|⟨q_15,hb7⟩
   ·obtain ⟨x_16,i7z,i7,i7x,hb7⟩:=aR (f:=(fun x=>[AC.lst (x.map cV)])) hb7
    obtain ⟨r_17,c8,hb7⟩:=bd_ hb7
    replace c8:=BJ c8
    obtain ⟨g9,hb7⟩:=bu hb7
    cases hb7
    repeat' (first|refine gs_ ?_|rw [u5x]|rw [show ((0:Nat):Int)=0 from rfl])
    exact ⟨_,rfl,fm_ kM [] jY bL cZ⟩
   cases hb7
   have hx7:iV k_5 (.inl (out_13,n_14))=some _:=hk7
   unfold iV at hx7
   dsimp only at hx7
   cases hx7
   repeat' (first|refine gs_ ?_|rw [u5x]|rw [show ((0:Nat):Int)=0 from rfl])
   exact ⟨_,rfl,fm_ kM [] jY bL cZ⟩
  cases hb6
  have hx6:kC r_1 out_2 i_3 (.inl k_5)=some _:=hk6
  unfold kC at hx6
  dsimp only at hx6
  obtain ⟨s_11,u10,hx6⟩:=bd_ hx6
  obtain ⟨⟨u10a,u10b,u10c⟩,u10⟩:=fq u10
  have u10x:=EM (f:=aY) u10
  obtain ⟨r_12,c11,hx6⟩:=bd_ hx6
  replace c11:=G_ c11
  repeat' (first|refine gs_ ?_|rw [u10x]|rw [show ((0:Nat):Int)=0 from rfl])
  refine alM_ (fun s:(List bT) × Int=>match s with|(out_13,n_14)=>[(3, .one (.c (.lst (r_1.map aY)))),(4, .one (.own (out_13.map lV) 0)),(5, .one (.c (.int .i64 i_3))),(6, .one (.c (.int .i64 k_5))),(7, .one (.c (.lst (r_12.map (fun x=>[AC.lst (x.map cV)]))))),(8, .one (.c (.int .i64 n_14)))]) (fun s=>match s with|(out_13,n_14)=>[.spare out_13.length 2]) hx6 (fun _=>ad4 _)
   (fm_ dL [] rfl bL cZ) ?_
  rintro ⟨out_13,n_14⟩ st7 hb7 hk7
  unfold iQ at hb7
  dsimp only at hb7 ⊢
  rcases aa hb7 with ⟨q_15,hb7⟩|⟨q_15,hb7⟩
  ·obtain ⟨x_16,i12z,i12,i12x,hb7⟩:=aR (f:=(fun x=>[AC.lst (x.map cV)])) hb7
   obtain ⟨r_17,c13,hb7⟩:=bd_ hb7
   replace c13:=BJ c13
   obtain ⟨g14,hb7⟩:=bu hb7
   cases hb7
   repeat' (first|refine gs_ ?_|rw [u10x]|rw [show ((0:Nat):Int)=0 from rfl])
   exact ⟨_,rfl,fm_ kM [] jY bL cZ⟩
  cases hb7
  have hx7:iV k_5 (.inl (out_13,n_14))=some _:=hk7
  unfold iV at hx7
  dsimp only at hx7
  cases hx7
  repeat' (first|refine gs_ ?_|rw [u10x]|rw [show ((0:Nat):Int)=0 from rfl])
  exact ⟨_,rfl,fm_ kM [] jY bL cZ⟩
 cases hb5
 have hx5:uP (.inl (out_2,i_3))=some _:=hk5
 unfold uP at hx5
 dsimp only at hx5
 cases hx5
 exact af
def Cy (r_1:(List bT)):((List aG) × Int)->Option (Step ((List aG) × Int) ((List aG))):=fun s=>match s with
 | (out_2,i_3)=>bif (decide (i_3<((r_1.length:Nat):Int))) then (aA r_1 i_3).bind fun x_5=>(PG x_5.steps).bind fun r_6=>(CO x_5.row r_6).bind fun r_7=>bif (decide (out_2.length+r_7.length<=3518437208883)) then (some (.next ((out_2++r_7),(IntKind.i64.wrap (i_3+(1:Int)))))) else none else
 some (.exit (out_2,i_3))
def H8:Sum ((List aG) × Int) ((List aG))->Option (((List aG)))
 | .inl (out_2,i_3)=>some out_2
 | .inr q=>some q
def qL (a_l:(List aG)):Option ((List aG)):=(rZ a_l).bind fun r_1=>(az (Cy r_1) fuel ([],(0:Int))).bind (H8)
theorem p9 {a_l:(List aG)} {r:(List aG)} (H:qL a_l=some r):Pure Tryz.prog 33 [.one (.lst (a_l.map aY))] (.val (.one (.lst (r.map aY)))):=by
 unfold qL at H
 refine po_ Tryz.func33 Tryz.ntmps33 ?_
 obtain ⟨r_1,c1,H⟩:=bd_ H
 replace c1:=LX c1
 refine bv ?_
 refine dz 4 3 rfl ?_
 refine alM_ (fun s:(List aG) × Int=>match s with|(out_2,i_3)=>[(3, .one (.c (.lst (r_1.map lV)))),(4, .one (.own (out_2.map aY) 0)),(5, .one (.c (.int .i64 i_3)))]) (fun s=>match s with|(out_2,i_3)=>[.spare out_2.length 3]) H (fun _=>ad4 _)
  (fm_ dL [] rfl bL cZ) ?_
 rintro ⟨out_2,i_3⟩ st1 hb1 hk1
 unfold Cy at hb1
 dsimp only at hb1 ⊢
 rcases aa hb1 with ⟨q_4,hb1⟩|⟨q_4,hb1⟩
 ·obtain ⟨x_5,i2z,i2,i2x,hb1⟩:=aR (f:=lV) hb1
  obtain ⟨r_6,c3,hb1⟩:=bd_ hb1
  replace c3:=Xn c3
  obtain ⟨r_7,c4,hb1⟩:=bd_ hb1
  replace c4:=QD c4
  obtain ⟨g5,hb1⟩:=bu hb1
  cases hb1
  refine bv ?_
  exact ⟨_,rfl,fm_ kM [] jY bL cZ⟩
 cases hb1
 have hx1:H8 (.inl (out_2,i_3))=some _:=hk1
 unfold H8 at hx1
 dsimp only at hx1
 cases hx1
 exact af
def jQ (a_a:(List aG)) (a_b:(List aG)):(Int)->Option (Step (Int) (Bool)):=fun s=>match s with
 | i_2=>bif (decide (i_2<((a_a.length:Nat):Int))) then (aA a_a i_2).bind fun x_4=>(aA a_b i_2).bind fun x_5=>bif (!(dw [.c (.int .i64 x_4.valid.lo), .c (.int .i64 x_4.valid.hi)] [.c (.int .i64 x_5.valid.lo), .c (.int .i64 x_5.valid.hi)])) then some (.ret false) else
 (sU x_4.row x_5.row).bind fun r_7=>bif (decide (r_7≠(0:Int))) then some (.ret false) else
 some (.next (IntKind.i64.wrap (i_2+(1:Int)))) else
 some (.exit i_2)
def lc:Sum (Int) (Bool)->Option ((Bool))
 | .inl i_2=>some true
 | .inr q=>some q
def xu (a_a:(List aG)) (a_b:(List aG)):Option (Bool):=bif (decide (((a_a.length:Nat):Int)≠((a_b.length:Nat):Int))) then some false else
 (az (jQ a_a a_b) fuel (0:Int)).bind (lc)
theorem Da {a_a:(List aG)} {a_b:(List aG)} {r:Bool} (H:xu a_a a_b=some r):Pure Tryz.prog 34 [.one (.lst (a_a.map aY)), .one (.lst (a_b.map aY))] (.val (.one (.bool r))):=by
 unfold xu at H
 refine po_ Tryz.func34 Tryz.ntmps34 ?_
 rcases aa H with ⟨q_1,H⟩|⟨q_1,H⟩
 ·cases H
  exact af
 refine bv ?_
 refine alM_ (fun s:Int=>match s with|i_2=>[(0, .one (.c (.lst (a_a.map aY)))),(1, .one (.c (.lst (a_b.map aY)))),(5, .one (.c (.int .i64 i_2)))]) (fun s=>match s with|i_2=>[]) H (fun _=>ad4 _)
  (fm_ dL [] rfl bL trivial) ?_
 rintro i_2 st1 hb1 hk1
 unfold jQ at hb1
 dsimp only at hb1 ⊢
 rcases aa hb1 with ⟨q_3,hb1⟩|⟨q_3,hb1⟩
 ·obtain ⟨x_4,i1z,i1,i1x,hb1⟩:=aR (f:=aY) hb1
  obtain ⟨x_5,i2z,i2,i2x,hb1⟩:=aR (f:=aY) hb1
  rcases aa hb1 with ⟨q_6,hb1⟩|⟨q_6,hb1⟩
  ·cases hb1
   have hx1:lc (.inr false)=some _:=hk1
   unfold lc at hx1
   dsimp only at hx1
   cases hx1
   exact af
  obtain ⟨r_7,c3,hb1⟩:=bd_ hb1
  replace c3:=pq c3
  rcases aa hb1 with ⟨q_8,hb1⟩|⟨q_8,hb1⟩
  ·cases hb1
   have hx1:lc (.inr false)=some _:=hk1
   unfold lc at hx1
   dsimp only at hx1
   cases hx1
   exact af
  cases hb1
  refine bv ?_
  exact ⟨_,rfl,fm_ dL [] rfl bL trivial⟩
 cases hb1
 have hx1:lc (.inl i_2)=some _:=hk1
 unfold lc at hx1
 dsimp only at hx1
 cases hx1
 exact af
def BF (a_l:(List aG)) (a_t:Int):((List (List Val)) × Int)->Option (Step ((List (List Val)) × Int) ((List (List Val)))):=fun s=>match s with
 | (out_1,i_2)=>bif (decide (i_2<((a_l.length:Nat):Int))) then (aA a_l i_2).bind fun x_4=>(lq x_4.valid a_t).bind fun r_5=>bif r_5 then bif (decide (out_1.length+1<=5864062014805)) then (some (.next ((out_1++[x_4.row]),(IntKind.i64.wrap (i_2+(1:Int)))))) else none else
 some (.next (out_1,(IntKind.i64.wrap (i_2+(1:Int))))) else
 some (.exit (out_1,i_2))
def CU:Sum ((List (List Val)) × Int) ((List (List Val)))->Option (((List (List Val))))
 | .inl (out_1,i_2)=>(w_ out_1).bind fun r_7=>some r_7
 | .inr q=>some q
def P5 (a_l:(List aG)) (a_t:Int):Option ((List (List Val))):=(az (BF a_l a_t) fuel ([],(0:Int))).bind (CU)
theorem X4 {a_l:(List aG)} {a_t:Int} {r:(List (List Val))} (H:P5 a_l a_t=some r):Pure Tryz.prog 60 [.one (.lst (a_l.map aY)), .one (.int .i64 a_t)] (.val (.one (.lst (r.map (fun x=>[AC.lst (x.map cV)]))))):=by
 unfold P5 at H
 refine po_ Tryz.func60 Tryz.ntmps60 ?_
 refine bv ?_
 refine dz 5 1 rfl ?_
 refine alM_ (fun s:(List (List Val)) × Int=>match s with|(out_1,i_2)=>[(0, .one (.c (.lst (a_l.map aY)))),(1, .one (.c (.int .i64 a_t))),(5, .one (.own (out_1.map (fun x=>[AC.lst (x.map cV)])) 0)),(6, .one (.c (.int .i64 i_2)))]) (fun s=>match s with|(out_1,i_2)=>[.spare out_1.length 1]) H (fun _=>ad4 _)
  (fm_ dL [] rfl bL cZ) ?_
 rintro ⟨out_1,i_2⟩ st1 hb1 hk1
 unfold BF at hb1
 dsimp only at hb1 ⊢
 rcases aa hb1 with ⟨q_3,hb1⟩|⟨q_3,hb1⟩
 ·obtain ⟨x_4,i1z,i1,i1x,hb1⟩:=aR (f:=aY) hb1
  obtain ⟨r_5,c2,hb1⟩:=bd_ hb1
  replace c2:=Js c2
  rcases aa hb1 with ⟨q_6,hb1⟩|⟨q_6,hb1⟩
  ·obtain ⟨g3,hb1⟩:=bu hb1
   cases hb1
   refine bv ?_
   exact ⟨_,rfl,fm_ kM [] jY bL cZ⟩
  cases hb1
  refine bv ?_
  exact ⟨_,rfl,fm_ kM [] jY bL cZ⟩
 cases hb1
 have hx1:CU (.inl (out_1,i_2))=some _:=hk1
 unfold CU at hx1
 dsimp only at hx1
 obtain ⟨r_7,c4,hx1⟩:=bd_ hx1
 replace c4:=yU c4
 cases hx1
 exact af
def Dl (a_l:(List aG)):Option (Bool):=(qL a_l).bind fun r_1=>(xu a_l r_1).bind fun r_2=>some r_2
theorem K4 {a_l:(List aG)} {r:Bool} (H:Dl a_l=some r):Pure Tryz.prog 27 [.one (.lst (a_l.map aY))] (.val (.one (.bool r))):=by
 unfold Dl at H
 refine po_ Tryz.func27 Tryz.ntmps27 ?_
 obtain ⟨r_1,c1,H⟩:=bd_ H
 replace c1:=p9 c1
 obtain ⟨r_2,c2,H⟩:=bd_ H
 replace c2:=Da c2
 cases H
 exact af
end
set_option maxHeartbeats 8000000
def Hg (a_s:ByteArray):Option (Val):=(ui (⟨(2:Int),(0:Int),a_s⟩:Val)).bind fun r_1=>some r_1
theorem UY {a_s:ByteArray} {r:Val} (H:Hg a_s=some r):Pure Tryz.prog 159 [.one (.str a_s)] (.val (.agg (cV r))):=by
 unfold Hg at H
 refine po_ Tryz.func159 Tryz.ntmps159 ?_
 obtain ⟨r_1,c1,H⟩:=bd_ H
 replace c1:=IV c1
 cases H
 exact af
def vC (a_b:Bool):Option (Val):=bif a_b then some (⟨(3:Int),(1:Int),ByteArray.empty⟩:Val) else
 some (⟨(3:Int),(0:Int),ByteArray.empty⟩:Val)
theorem om {a_b:Bool} {r:Val} (H:vC a_b=some r):Pure Tryz.prog 107 [.one (.bool a_b)] (.val (.agg (cV r))):=by
 unfold vC at H
 refine po_ Tryz.func107 Tryz.ntmps107 ?_
 rcases aa H with ⟨q_1,H⟩|⟨q_1,H⟩
 ·cases H
  exact af
 cases H
 exact af
def ym (a_a:Val) (a_b:Val) (a_is:Bool):Option (Int):=bif (decide (a_a.kind=(0:Int))) then some (1:Int) else
 bif (decide (a_a.kind≠a_b.kind)) then some (1:Int) else
 bif a_is then some (2:Int) else
 some (0:Int)
theorem Je {a_a:Val} {a_b:Val} {a_is:Bool} {r:Int} (H:ym a_a a_b a_is=some r):Pure Tryz.prog 185 [.agg (cV a_a), .agg (cV a_b), .one (.bool a_is)] (.val (.one (.int .i64 r))):=by
 unfold ym at H
 refine po_ Tryz.func185 Tryz.ntmps185 ?_
 rcases aa H with ⟨q_1,H⟩|⟨q_1,H⟩
 ·cases H
  exact af
 rcases aa H with ⟨q_2,H⟩|⟨q_2,H⟩
 ·cases H
  exact af
 rcases aa H with ⟨q_3,H⟩|⟨q_3,H⟩
 ·cases H
  exact af
 cases H
 exact af
def Uh (a_a:Val) (a_b:Val):Option (Int):=(zn a_a a_b).bind fun r_1=>(ym a_a a_b (decide (r_1=(0:Int)))).bind fun r_2=>some r_2
theorem TN {a_a:Val} {a_b:Val} {r:Int} (H:Uh a_a a_b=some r):Pure Tryz.prog 156 [.agg (cV a_a), .agg (cV a_b)] (.val (.one (.int .i64 r))):=by
 unfold Uh at H
 refine po_ Tryz.func156 Tryz.ntmps156 ?_
 obtain ⟨r_1,c1,H⟩:=bd_ H
 replace c1:=BX c1
 obtain ⟨r_2,c2,H⟩:=bd_ H
 replace c2:=Je c2
 cases H
 exact af
def wL (a_a:Val) (a_b:Val):Option (Int):=(zn a_a a_b).bind fun r_1=>(ym a_a a_b (decide (r_1<(0:Int)))).bind fun r_2=>some r_2
theorem y8 {a_a:Val} {a_b:Val} {r:Int} (H:wL a_a a_b=some r):Pure Tryz.prog 157 [.agg (cV a_a), .agg (cV a_b)] (.val (.one (.int .i64 r))):=by
 unfold wL at H
 refine po_ Tryz.func157 Tryz.ntmps157 ?_
 obtain ⟨r_1,c1,H⟩:=bd_ H
 replace c1:=BX c1
 obtain ⟨r_2,c2,H⟩:=bd_ H
 replace c2:=Je c2
 cases H
 exact af
def Ic (a_a:Int):Option (Int):=bif (decide (a_a=(2:Int))) then some (0:Int) else
 bif (decide (a_a=(0:Int))) then some (2:Int) else
 some (1:Int)
theorem Cu {a_a:Int} {r:Int} (H:Ic a_a=some r):Pure Tryz.prog 112 [.one (.int .i64 a_a)] (.val (.one (.int .i64 r))):=by
 unfold Ic at H
 refine po_ Tryz.func112 Tryz.ntmps112 ?_
 rcases aa H with ⟨q_1,H⟩|⟨q_1,H⟩
 ·cases H
  exact af
 rcases aa H with ⟨q_2,H⟩|⟨q_2,H⟩
 ·cases H
  exact af
 cases H
 exact af
def IE (a_a:Int) (a_b:Int):Option (Int):=bif (decide (a_a=(0:Int))) then some (0:Int) else
 bif (decide (a_b=(0:Int))) then some (0:Int) else
 bif (decide (a_a=(2:Int))) then bif (decide (a_b=(2:Int))) then some (2:Int) else
 some (1:Int) else
 some (1:Int)
theorem X8 {a_a:Int} {a_b:Int} {r:Int} (H:IE a_a a_b=some r):Pure Tryz.prog 154 [.one (.int .i64 a_a), .one (.int .i64 a_b)] (.val (.one (.int .i64 r))):=by
 unfold IE at H
 refine po_ Tryz.func154 Tryz.ntmps154 ?_
 rcases aa H with ⟨q_1,H⟩|⟨q_1,H⟩
 ·cases H
  exact af
 rcases aa H with ⟨q_2,H⟩|⟨q_2,H⟩
 ·cases H
  exact af
 rcases aa H with ⟨q_3,H⟩|⟨q_3,H⟩
 ·rcases aa H with ⟨q_4,H⟩|⟨q_4,H⟩
  ·cases H
   exact af
  cases H
  exact af
 cases H
 exact af
def QA (a_a:Int) (a_b:Int):Option (Int):=bif (decide (a_a=(2:Int))) then some (2:Int) else
 bif (decide (a_b=(2:Int))) then some (2:Int) else
 bif (decide (a_a=(0:Int))) then bif (decide (a_b=(0:Int))) then some (0:Int) else
 some (1:Int) else
 some (1:Int)
theorem YU {a_a:Int} {a_b:Int} {r:Int} (H:QA a_a a_b=some r):Pure Tryz.prog 155 [.one (.int .i64 a_a), .one (.int .i64 a_b)] (.val (.one (.int .i64 r))):=by
 unfold QA at H
 refine po_ Tryz.func155 Tryz.ntmps155 ?_
 rcases aa H with ⟨q_1,H⟩|⟨q_1,H⟩
 ·cases H
  exact af
 rcases aa H with ⟨q_2,H⟩|⟨q_2,H⟩
 ·cases H
  exact af
 rcases aa H with ⟨q_3,H⟩|⟨q_3,H⟩
 ·rcases aa H with ⟨q_4,H⟩|⟨q_4,H⟩
  ·cases H
   exact af
  cases H
  exact af
 cases H
 exact af
def ik (a_v:Val):Option (Int):=(vC true).bind fun r_1=>bif (dw [.c (.int .i64 a_v.kind), .c (.int .i64 a_v.int), .c (.str a_v.text)] [.c (.int .i64 r_1.kind), .c (.int .i64 r_1.int), .c (.str r_1.text)]) then some (2:Int) else
 (vC false).bind fun r_3=>bif (dw [.c (.int .i64 a_v.kind), .c (.int .i64 a_v.int), .c (.str a_v.text)] [.c (.int .i64 r_3.kind), .c (.int .i64 r_3.int), .c (.str r_3.text)]) then some (0:Int) else
 some (1:Int)
theorem lJ {a_v:Val} {r:Int} (H:ik a_v=some r):Pure Tryz.prog 74 [.agg (cV a_v)] (.val (.one (.int .i64 r))):=by
 unfold ik at H
 refine po_ Tryz.func74 Tryz.ntmps74 ?_
 obtain ⟨r_1,c1,H⟩:=bd_ H
 replace c1:=om c1
 rcases aa H with ⟨q_2,H⟩|⟨q_2,H⟩
 ·cases H
  exact af
 obtain ⟨r_3,c2,H⟩:=bd_ H
 replace c2:=om c2
 rcases aa H with ⟨q_4,H⟩|⟨q_4,H⟩
 ·cases H
  exact af
 cases H
 exact af
def ER (a_t:Int):Option (Val):=bif (decide (a_t=(2:Int))) then (vC (decide (a_t=(2:Int)))).bind fun r_2=>some r_2 else
 bif (decide (a_t=(0:Int))) then (vC (decide (a_t=(2:Int)))).bind fun r_4=>some r_4 else
 (eX ).bind fun r_5=>some r_5
theorem qp {a_t:Int} {r:Val} (H:ER a_t=some r):Pure Tryz.prog 111 [.one (.int .i64 a_t)] (.val (.agg (cV r))):=by
 unfold ER at H
 refine po_ Tryz.func111 Tryz.ntmps111 ?_
 rcases aa H with ⟨q_1,H⟩|⟨q_1,H⟩
 ·obtain ⟨r_2,c1,H⟩:=bd_ H
  replace c1:=om c1
  cases H
  exact af
 rcases aa H with ⟨q_3,H⟩|⟨q_3,H⟩
 ·obtain ⟨r_4,c2,H⟩:=bd_ H
  replace c2:=om c2
  cases H
  exact af
 obtain ⟨r_5,c3,H⟩:=bd_ H
 replace c3:=bX c3
 cases H
 exact af
set_option maxHeartbeats 8000000
def v_ (a_op:Int):Option (Int × Int):=bif (decide (a_op=(1:Int))) then some ((0:Int),(0:Int)) else
 bif (decide (a_op=(2:Int))) then some ((0:Int),(0:Int)) else
 bif (decide (a_op=(4:Int))) then some ((1:Int),(1:Int)) else
 bif (decide (a_op=(18:Int))) then some ((1:Int),(1:Int)) else
 bif (decide (a_op=(20:Int))) then some ((1:Int),(1:Int)) else
 bif (decide (a_op=(21:Int))) then some ((1:Int),(1:Int)) else
 bif (decide (a_op=(5:Int))) then some ((2:Int),(1099511627776:Int)) else
 bif (decide (a_op=(6:Int))) then some ((2:Int),(1099511627776:Int)) else
 bif (decide (a_op=(7:Int))) then some ((2:Int),(2:Int)) else
 bif (decide (a_op=(8:Int))) then some ((2:Int),(2:Int)) else
 bif (decide (a_op=(9:Int))) then some ((2:Int),(2:Int)) else
 bif (decide (a_op=(10:Int))) then some ((2:Int),(2:Int)) else
 bif (decide (a_op=(11:Int))) then some ((2:Int),(2:Int)) else
 bif (decide (a_op=(12:Int))) then some ((2:Int),(2:Int)) else
 bif (decide (a_op=(13:Int))) then some ((2:Int),(2:Int)) else
 bif (decide (a_op=(14:Int))) then some ((2:Int),(2:Int)) else
 bif (decide (a_op=(15:Int))) then some ((2:Int),(2:Int)) else
 bif (decide (a_op=(16:Int))) then some ((2:Int),(2:Int)) else
 bif (decide (a_op=(17:Int))) then some ((2:Int),(2:Int)) else
 bif (decide (a_op=(19:Int))) then some ((2:Int),(2:Int)) else
 bif (decide (a_op=(22:Int))) then some ((3:Int),(3:Int)) else
 bif (decide (a_op=(23:Int))) then some ((1:Int),(1099511627776:Int)) else
 bif (decide (a_op=(24:Int))) then some ((4:Int),(4:Int)) else
 some ((-1:Int),(0:Int))
theorem Kn {a_op:Int} {r:Int × Int} (H:v_ a_op=some r):Pure Tryz.prog 150 [.one (.int .i64 a_op)] (.tup [.one (.int .i64 r.1), .one (.int .i64 r.2)]):=by
 unfold v_ at H
 refine po_ Tryz.func150 Tryz.ntmps150 ?_
 rcases aa H with ⟨q_1,H⟩|⟨q_1,H⟩
 ·cases H
  exact af
 rcases aa H with ⟨q_2,H⟩|⟨q_2,H⟩
 ·cases H
  exact af
 refine bv ?_
 rcases aa H with ⟨q_3,H⟩|⟨q_3,H⟩
 ·cases H
  exact af
 rcases aa H with ⟨q_4,H⟩|⟨q_4,H⟩
 ·cases H
  exact af
 rcases aa H with ⟨q_5,H⟩|⟨q_5,H⟩
 ·cases H
  exact af
 refine bv ?_
 rcases aa H with ⟨q_6,H⟩|⟨q_6,H⟩
 ·cases H
  exact af
 rcases aa H with ⟨q_7,H⟩|⟨q_7,H⟩
 ·cases H
  exact af
 rcases aa H with ⟨q_8,H⟩|⟨q_8,H⟩
 ·cases H
  exact af
 refine bv ?_
 rcases aa H with ⟨q_9,H⟩|⟨q_9,H⟩
 ·cases H
  exact af
 rcases aa H with ⟨q_10,H⟩|⟨q_10,H⟩
 ·cases H
  exact af
 rcases aa H with ⟨q_11,H⟩|⟨q_11,H⟩
 ·cases H
  exact af
 refine bv ?_
 rcases aa H with ⟨q_12,H⟩|⟨q_12,H⟩
 ·cases H
  exact af
 rcases aa H with ⟨q_13,H⟩|⟨q_13,H⟩
 ·cases H
  exact af
 rcases aa H with ⟨q_14,H⟩|⟨q_14,H⟩
 ·cases H
  exact af
 refine bv ?_
 rcases aa H with ⟨q_15,H⟩|⟨q_15,H⟩
 ·cases H
  exact af
 rcases aa H with ⟨q_16,H⟩|⟨q_16,H⟩
 ·cases H
  exact af
 rcases aa H with ⟨q_17,H⟩|⟨q_17,H⟩
 ·cases H
  exact af
 refine bv ?_
 rcases aa H with ⟨q_18,H⟩|⟨q_18,H⟩
 ·cases H
  exact af
 rcases aa H with ⟨q_19,H⟩|⟨q_19,H⟩
 ·cases H
  exact af
 rcases aa H with ⟨q_20,H⟩|⟨q_20,H⟩
 ·cases H
  exact af
 refine bv ?_
 rcases aa H with ⟨q_21,H⟩|⟨q_21,H⟩
 ·cases H
  exact af
 rcases aa H with ⟨q_22,H⟩|⟨q_22,H⟩
 ·cases H
  exact af
 rcases aa H with ⟨q_23,H⟩|⟨q_23,H⟩
 ·cases H
  exact af
 cases H
 exact af
def jo (a_e:Ex):Option (Bool):=(v_ a_e.op).bind fun r_1=>bif (decide (r_1.1<(0:Int))) then some false else
 bif (decide (((a_e.args.length:Nat):Int)<r_1.1)) then some false else
 bif (decide (r_1.2<((a_e.args.length:Nat):Int))) then some false else
 bif (!(a_e.nm.toList==(⟨#[]⟩:ByteArray).toList)) then some false else
 bif (decide (a_e.op=(1:Int))) then bif (decide (a_e.int=(0:Int))) then (dQ a_e.v).bind fun r_8=>some r_8 else
 some false else
 bif (decide (a_e.op=(2:Int))) then (eX ).bind fun r_10=>some (dw [.c (.int .i64 a_e.v.kind), .c (.int .i64 a_e.v.int), .c (.str a_e.v.text)] [.c (.int .i64 r_10.kind), .c (.int .i64 r_10.int), .c (.str r_10.text)]) else
 bif (decide (a_e.op=(24:Int))) then (eX ).bind fun r_12=>bif (dw [.c (.int .i64 a_e.v.kind), .c (.int .i64 a_e.v.int), .c (.str a_e.v.text)] [.c (.int .i64 r_12.kind), .c (.int .i64 r_12.int), .c (.str r_12.text)]) then bif (decide ((0:Int)<=a_e.int)) then some (decide (a_e.int<(13:Int))) else
 some false else
 some false else
 bif (decide (a_e.int=(0:Int))) then (eX ).bind fun r_16=>some (dw [.c (.int .i64 a_e.v.kind), .c (.int .i64 a_e.v.int), .c (.str a_e.v.text)] [.c (.int .i64 r_16.kind), .c (.int .i64 r_16.int), .c (.str r_16.text)]) else
 some false
theorem EK {a_e:Ex} {r:Bool} (H:jo a_e=some r):Pure Tryz.prog 108 [.agg (tE a_e)] (.val (.one (.bool r))):=by
 unfold jo at H
 rw [aj a_e]
 refine po_ Tryz.func108 Tryz.ntmps108 ?_
 obtain ⟨r_1,c1,H⟩:=bd_ H
 replace c1:=Kn c1
 rcases aa H with ⟨q_2,H⟩|⟨q_2,H⟩
 ·cases H
  exact af
 rcases aa H with ⟨q_3,H⟩|⟨q_3,H⟩
 ·cases H
  exact af
 refine bv ?_
 rcases aa H with ⟨q_4,H⟩|⟨q_4,H⟩
 ·cases H
  exact af
 rcases aa H with ⟨q_5,H⟩|⟨q_5,H⟩
 ·cases H
  exact af
 rcases aa H with ⟨q_6,H⟩|⟨q_6,H⟩
 ·refine bv ?_
  rcases aa H with ⟨q_7,H⟩|⟨q_7,H⟩
  ·obtain ⟨r_8,c2,H⟩:=bd_ H
   replace c2:=pg c2
   cases H
   exact af
  cases H
  exact af
 refine bv ?_
 rcases aa H with ⟨q_9,H⟩|⟨q_9,H⟩
 ·obtain ⟨r_10,c3,H⟩:=bd_ H
  replace c3:=bX c3
  cases H
  exact af
 rcases aa H with ⟨q_11,H⟩|⟨q_11,H⟩
 ·obtain ⟨r_12,c4,H⟩:=bd_ H
  replace c4:=bX c4
  rcases aa H with ⟨q_13,H⟩|⟨q_13,H⟩
  ·refine bv ?_
   rcases aa H with ⟨q_14,H⟩|⟨q_14,H⟩
   ·cases H
    exact af
   cases H
   exact af
  cases H
  exact af
 rcases aa H with ⟨q_15,H⟩|⟨q_15,H⟩
 ·obtain ⟨r_16,c5,H⟩:=bd_ H
  replace c5:=bX c5
  cases H
  exact af
 cases H
 exact af
set_option maxHeartbeats 8000000
def g_ (a_op:Int) (a_a:Val) (a_b:Val):Option (Int):=bif (decide (a_op=(7:Int))) then (Uh a_a a_b).bind fun r_2=>some r_2 else
 bif (decide (a_op=(8:Int))) then (Uh a_a a_b).bind fun r_4=>(Ic r_4).bind fun r_5=>some r_5 else
 bif (decide (a_op=(9:Int))) then (wL a_a a_b).bind fun r_7=>some r_7 else
 bif (decide (a_op=(11:Int))) then (wL a_b a_a).bind fun r_9=>some r_9 else
 bif (decide (a_op=(10:Int))) then (wL a_b a_a).bind fun r_11=>(Ic r_11).bind fun r_12=>some r_12 else
 (wL a_a a_b).bind fun r_13=>(Ic r_13).bind fun r_14=>some r_14
theorem ja {a_op:Int} {a_a:Val} {a_b:Val} {r:Int} (H:g_ a_op a_a a_b=some r):Pure Tryz.prog 114 [.one (.int .i64 a_op), .agg (cV a_a), .agg (cV a_b)] (.val (.one (.int .i64 r))):=by
 unfold g_ at H
 refine po_ Tryz.func114 Tryz.ntmps114 ?_
 rcases aa H with ⟨q_1,H⟩|⟨q_1,H⟩
 ·obtain ⟨r_2,c1,H⟩:=bd_ H
  replace c1:=TN c1
  cases H
  exact af
 rcases aa H with ⟨q_3,H⟩|⟨q_3,H⟩
 ·obtain ⟨r_4,c2,H⟩:=bd_ H
  replace c2:=TN c2
  obtain ⟨r_5,c3,H⟩:=bd_ H
  replace c3:=Cu c3
  cases H
  exact af
 refine bv ?_
 rcases aa H with ⟨q_6,H⟩|⟨q_6,H⟩
 ·obtain ⟨r_7,c4,H⟩:=bd_ H
  replace c4:=y8 c4
  cases H
  exact af
 rcases aa H with ⟨q_8,H⟩|⟨q_8,H⟩
 ·obtain ⟨r_9,c5,H⟩:=bd_ H
  replace c5:=y8 c5
  cases H
  exact af
 rcases aa H with ⟨q_10,H⟩|⟨q_10,H⟩
 ·obtain ⟨r_11,c6,H⟩:=bd_ H
  replace c6:=y8 c6
  obtain ⟨r_12,c7,H⟩:=bd_ H
  replace c7:=Cu c7
  cases H
  exact af
 obtain ⟨r_13,c8,H⟩:=bd_ H
 replace c8:=y8 c8
 obtain ⟨r_14,c9,H⟩:=bd_ H
 replace c9:=Cu c9
 cases H
 exact af
def UZ (a_n:Int):Option (Int):=some (zg a_n (IntKind.i64.wrap (0-a_n)))
theorem Tx {a_n:Int} {r:Int} (H:UZ a_n=some r):Pure Tryz.prog 161 [.one (.int .i64 a_n)] (.val (.one (.int .i64 r))):=by
 unfold UZ at H
 refine po_ Tryz.func161 Tryz.ntmps161 ?_
 cases H
 exact af
def dK (a_op:Int) (a_a:Int) (a_b:Int):Option (Val):=bif (decide (a_op=(13:Int))) then (qo (IntKind.i64.wrap (a_a+a_b))).bind fun r_2=>some r_2 else
 bif (decide (a_op=(14:Int))) then (qo (IntKind.i64.wrap (a_a-a_b))).bind fun r_4=>some r_4 else
 bif (decide (a_op=(15:Int))) then bif (decide (a_a≠(0:Int))) then (UZ a_b).bind fun r_7=>(UZ a_a).bind fun r_8=>bif (decide (r_8≠0)) then (bif (decide ((IntKind.i64.wrap ((1125899906842624:Int).tdiv r_8))<r_7)) then (eX ).bind fun r_10=>some r_10 else
 (qo (IntKind.i64.wrap (a_a*a_b))).bind fun r_11=>some r_11) else none else
 (qo (IntKind.i64.wrap (a_a*a_b))).bind fun r_12=>some r_12 else
 bif (decide (a_b=(0:Int))) then (eX ).bind fun r_14=>some r_14 else
 bif (decide (a_op=(16:Int))) then bif (decide (a_b≠0)) then ((qo (IntKind.i64.wrap (a_a.tdiv a_b))).bind fun r_16=>some r_16) else none else
 bif (decide (a_b≠0)) then ((qo (a_a.tmod a_b)).bind fun r_17=>some r_17) else none
theorem LP {a_op:Int} {a_a:Int} {a_b:Int} {r:Val} (H:dK a_op a_a a_b=some r):Pure Tryz.prog 120 [.one (.int .i64 a_op), .one (.int .i64 a_a), .one (.int .i64 a_b)] (.val (.agg (cV r))):=by
 unfold dK at H
 refine po_ Tryz.func120 Tryz.ntmps120 ?_
 rcases aa H with ⟨q_1,H⟩|⟨q_1,H⟩
 ·obtain ⟨r_2,c1,H⟩:=bd_ H
  replace c1:=mF c1
  cases H
  exact af
 rcases aa H with ⟨q_3,H⟩|⟨q_3,H⟩
 ·obtain ⟨r_4,c2,H⟩:=bd_ H
  replace c2:=mF c2
  cases H
  exact af
 refine bv ?_
 rcases aa H with ⟨q_5,H⟩|⟨q_5,H⟩
 ·rcases aa H with ⟨q_6,H⟩|⟨q_6,H⟩
  ·obtain ⟨r_7,c3,H⟩:=bd_ H
   replace c3:=Tx c3
   obtain ⟨r_8,c4,H⟩:=bd_ H
   replace c4:=Tx c4
   obtain ⟨g5,H⟩:=bu H
   rcases aa H with ⟨q_9,H⟩|⟨q_9,H⟩
   ·obtain ⟨r_10,c6,H⟩:=bd_ H
    replace c6:=bX c6
    cases H
    exact af
   obtain ⟨r_11,c7,H⟩:=bd_ H
   replace c7:=mF c7
   cases H
   exact af
  obtain ⟨r_12,c8,H⟩:=bd_ H
  replace c8:=mF c8
  cases H
  exact af
 rcases aa H with ⟨q_13,H⟩|⟨q_13,H⟩
 ·obtain ⟨r_14,c9,H⟩:=bd_ H
  replace c9:=bX c9
  cases H
  exact af
 rcases aa H with ⟨q_15,H⟩|⟨q_15,H⟩
 ·obtain ⟨g10,H⟩:=bu H
  obtain ⟨r_16,c11,H⟩:=bd_ H
  replace c11:=mF c11
  cases H
  exact af
 obtain ⟨g12,H⟩:=bu H
 obtain ⟨r_17,c13,H⟩:=bd_ H
 replace c13:=mF c13
 cases H
 exact af
def Fy (a_l:(List Val)) (a_kind:Int):(Int)->Option (Step (Int) (Bool)):=fun s=>match s with
 | i_1=>bif (decide (i_1<((a_l.length:Nat):Int))) then (aA a_l i_1).bind fun x_3=>bif (decide (x_3.kind≠a_kind)) then some (.ret false) else
 some (.next (IntKind.i64.wrap (i_1+(1:Int)))) else
 some (.exit i_1)
def BA:Sum (Int) (Bool)->Option ((Bool))
 | .inl i_1=>some true
 | .inr q=>some q
def P6 (a_l:(List Val)) (a_kind:Int):Option (Bool):=(az (Fy a_l a_kind) fuel (0:Int)).bind (BA)
theorem FC {a_l:(List Val)} {a_kind:Int} {r:Bool} (H:P6 a_l a_kind=some r):Pure Tryz.prog 115 [.one (.lst (a_l.map cV)), .one (.int .i64 a_kind)] (.val (.one (.bool r))):=by
 unfold P6 at H
 refine po_ Tryz.func115 Tryz.ntmps115 ?_
 refine bv ?_
 refine alM_ (fun s:Int=>match s with|i_1=>[(0, .one (.c (.lst (a_l.map cV)))),(1, .one (.c (.int .i64 a_kind))),(5, .one (.c (.int .i64 i_1)))]) (fun s=>match s with|i_1=>[]) H (fun _=>ad4 _)
  (fm_ dL [] rfl bL trivial) ?_
 rintro i_1 st1 hb1 hk1
 unfold Fy at hb1
 dsimp only at hb1 ⊢
 rcases aa hb1 with ⟨q_2,hb1⟩|⟨q_2,hb1⟩
 ·obtain ⟨x_3,i1z,i1,i1x,hb1⟩:=aR (f:=cV) hb1
  rcases aa hb1 with ⟨q_4,hb1⟩|⟨q_4,hb1⟩
  ·cases hb1
   have hx1:BA (.inr false)=some _:=hk1
   unfold BA at hx1
   dsimp only at hx1
   cases hx1
   exact af
  cases hb1
  refine bv ?_
  exact ⟨_,rfl,fm_ dL [] rfl bL trivial⟩
 cases hb1
 have hx1:BA (.inl i_1)=some _:=hk1
 unfold BA at hx1
 dsimp only at hx1
 cases hx1
 exact af
def pU (a_op:Int) (a_l:(List Val)):(Int × Int)->Option (Step (Int × Int) (Val)):=fun s=>match s with
 | (t_3,i_4)=>bif (decide (i_4<((a_l.length:Nat):Int))) then bif (decide (a_op=(5:Int))) then (aA a_l i_4).bind fun x_7=>(ik x_7).bind fun r_8=>(IE t_3 r_8).bind fun r_9=>some (.next (r_9,(IntKind.i64.wrap (i_4+(1:Int))))) else
 (aA a_l i_4).bind fun x_10=>(ik x_10).bind fun r_11=>(QA t_3 r_11).bind fun r_12=>some (.next (r_12,(IntKind.i64.wrap (i_4+(1:Int))))) else
 some (.exit (t_3,i_4))
def Ab:Sum (Int × Int) (Val)->Option ((Val))
 | .inl (t_3,i_4)=>(ER t_3).bind fun r_13=>some r_13
 | .inr q=>some q
def yC (a_op:Int) (a_l:(List Val)):Option (Val):=(aA a_l (0:Int)).bind fun x_1=>(ik x_1).bind fun r_2=>(az (pU a_op a_l) fuel (r_2,(1:Int))).bind (Ab)
theorem Gp {a_op:Int} {a_l:(List Val)} {r:Val} (H:yC a_op a_l=some r):Pure Tryz.prog 113 [.one (.int .i64 a_op), .one (.lst (a_l.map cV))] (.val (.agg (cV r))):=by
 unfold yC at H
 refine po_ Tryz.func113 Tryz.ntmps113 ?_
 obtain ⟨x_1,i1z,i1,i1x,H⟩:=aR (f:=cV) H
 obtain ⟨r_2,c2,H⟩:=bd_ H
 replace c2:=lJ c2
 refine bv ?_
 refine alM_ (fun s:Int × Int=>match s with|(t_3,i_4)=>[(0, .one (.c (.int .i64 a_op))),(1, .one (.c (.lst (a_l.map cV)))),(4, .one (.ptr 0 0)),(5, .one (.c (.int .i64 t_3))),(6, .one (.c (.int .i64 i_4)))]) (fun s=>match s with|(t_3,i_4)=>[.box [.c (.int .i64 (0:Int)), .c (.int .i64 (0:Int)), .c (.str ByteArray.empty)]]) H (fun _=>ad4 _)
  (fm_ dL [] rfl bL cZ) ?_
 rintro ⟨t_3,i_4⟩ st1 hb1 hk1
 unfold pU at hb1
 dsimp only at hb1 ⊢
 rcases aa hb1 with ⟨q_5,hb1⟩|⟨q_5,hb1⟩
 ·rcases aa hb1 with ⟨q_6,hb1⟩|⟨q_6,hb1⟩
  ·obtain ⟨x_7,i3z,i3,i3x,hb1⟩:=aR (f:=cV) hb1
   obtain ⟨r_8,c4,hb1⟩:=bd_ hb1
   replace c4:=lJ c4
   obtain ⟨r_9,c5,hb1⟩:=bd_ hb1
   replace c5:=X8 c5
   cases hb1
   refine bv ?_
   exact ⟨_,rfl,fm_ dL [] rfl bL cZ⟩
  obtain ⟨x_10,i6z,i6,i6x,hb1⟩:=aR (f:=cV) hb1
  obtain ⟨r_11,c7,hb1⟩:=bd_ hb1
  replace c7:=lJ c7
  obtain ⟨r_12,c8,hb1⟩:=bd_ hb1
  replace c8:=YU c8
  cases hb1
  refine bv ?_
  exact ⟨_,rfl,fm_ dL [] rfl bL cZ⟩
 cases hb1
 have hx1:Ab (.inl (t_3,i_4))=some _:=hk1
 unfold Ab at hx1
 dsimp only at hx1
 obtain ⟨r_13,c9,hx1⟩:=bd_ hx1
 replace c9:=qp c9
 cases hx1
 exact af
end Go.Proofs.YtfccopdbgfdcdaaGreatDoor
