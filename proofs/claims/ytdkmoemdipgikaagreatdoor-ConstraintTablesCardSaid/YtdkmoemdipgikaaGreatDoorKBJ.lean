/- Parts. No condition. -/
import Derived.Test.YtdkmoemdipgikaaGreatDoorKBI
import Derived.Test.YtdkmoemdipgikaaGreatDoorKBE
set_option maxHeartbeats 8000000
set_option maxRecDepth 100000
set_option linter.unusedSimpArgs false
set_option linter.unusedVariables false
namespace Go.Proofs.YtdkmoemdipgikaaGreatDoor
open _root_.List (replicate)
open IntKind (i64)
open Go.RowKit Go.MapKept
def oI (rec:List (List Val)->List BN->Option (List (List Val)))(a_l:(List (List Val)))(a_o:(List BN)):Option ((List (List Val))):=bif (decide (((a_l.length:Nat):Int)=(0:Int)))then some []else
 bif (decide (((a_l.length:Nat):Int)=(1:Int)))then(aq a_l (0:Int)).bind fun x_3=>bif (decide (x_3.length<=4398046511104))then(some [x_3])else none else
 bif (decide ((2:Int)≠0))then((fM a_l (0:Int) (i64.wrap (((a_l.length:Nat):Int).tdiv (2:Int)))).bind fun s_4=>(rec s_4 a_o).bind fun r_5=>(fM a_l (i64.wrap (((a_l.length:Nat):Int).tdiv (2:Int))) ((a_l.length:Nat):Int)).bind fun s_6=>(rec s_6 a_o).bind fun r_7=>(tO r_5 r_7 a_o).bind fun r_8=>some r_8)else none
theorem Ns {rec:List (List Val)->List BN->Option (List (List Val))}  (hrec:∀ {x:List (List Val)} {y:List BN} {r:List (List Val)},rec x y=some r->PTz 145 [.one (.lst (x.map (fun x=>[AC.lst (x.map cV)]))),.one (.lst (y.map xh))] (.val (.one (.lst (r.map (fun x=>[AC.lst (x.map cV)])))))){a_l:(List (List Val))}{a_o:(List BN)}{r:(List (List Val))}(H:oI rec a_l a_o=some r):PTz 145 [.one (.lst (a_l.map (fun x=>[AC.lst (x.map cV)]))),.one (.lst (a_o.map xh))] (.val (.one (.lst (r.map (fun x=>[AC.lst (x.map cV)]))))):=by
 unfold oI at H;refine po_ Tryz.func145 Tryz.ntmps145 ?_;rcases af H with⟨q_1,H⟩|⟨q_1,H⟩
 ·exact ax H
 rcases af H with⟨q_2,H⟩|⟨q_2,H⟩
 ·exact ax H
 obtain⟨g3,H⟩:=bo H;obtain⟨s_4,u4,H⟩:=bd_ H;obtain⟨⟨u4a,u4b,u4c⟩,u4⟩:=dq u4;have u4x:=xd (f:=(fun x=>[AC.lst (x.map cV)])) u4;obtain⟨r_5,c5,H⟩:=bd_ H;replace c5:=hrec c5;obtain⟨s_6,u6,H⟩:=bd_ H;obtain⟨⟨u6a,u6b,u6c⟩,u6⟩:=dq u6;have u6x:=xd (f:=(fun x=>[AC.lst (x.map cV)])) u6;obtain⟨r_7,c7,H⟩:=bd_ H;replace c7:=hrec c7;obtain⟨r_8,c8,H⟩:=bd_ H;replace c8:=gMerged_ok c8
 cases H
 repeat' (first|refine gs_ ?_|rw[u4x]|rw[u6x]|rw[show((0:Nat):Int)=0 from rfl])
 refine aJ (aO rfl ?_ ?_)
 ·repeat' (first|exact t7|rfl|exact amG rfl|omega|apply And.intro)
 ·first|rfl|(simp only[amJ,amH,amL,amB]<;>rfl)
def wb:Nat->List (List Val)->List BN->Option (List (List Val))
 |0,_,_=>none
 |n+1,a,b=>oI (wb n) a b
theorem C4:∀ (n:Nat) {x:List (List Val)} {y:List BN} {r:List (List Val)},wb n x y=some r->PTz 145 [.one (.lst (x.map (fun x=>[AC.lst (x.map cV)]))),.one (.lst (y.map xh))] (.val (.one (.lst (r.map (fun x=>[AC.lst (x.map cV)])))))
 |0,_,_,_,h=>nomatch h
 |n+1,_,_,_,h=>Ns (C4 n) h
def uZ (a_l:(List (List Val))):Option ((List (List Val))):=(wb 301 a_l ([]:(List BN))).bind fun r_1=>some r_1
instance gSortR_ok {a_l : (List (List Val))} {r : (List (List Val))} : OkC (uZ a_l = some r) (PTz 82 [.one (.lst (a_l.map (fun x => [AC.lst (x.map cV)])))] (.val (.one (.lst (r.map (fun x => [AC.lst (x.map cV)])))))) := .mk fun H => by
 unfold uZ at H;refine po_ Tryz.func82 Tryz.ntmps82 ?_;obtain⟨r_1,c1,H⟩:=bd_ H;replace c1:=C4 301 c1
 try simp only[amJ,amH,amL,amB,aN]at c1
 exact ax H
noncomputable section
def aQ (r_1:(List (List Val))):((List (List Val))×Int)->Option (Step ((List (List Val))×Int) ((List (List Val)))):=fun s=>match s with
 |(out_2,i_3)=>bif (decide (i_3<((r_1.length:Nat):Int)))then bif (decide (i_3=(0:Int)))then(aq r_1 i_3).bind fun x_6=>bif (decide (out_2.length+1<=5864062014805))then(some (.next ((out_2++[x_6]),(i64.wrap (i_3+(1:Int))))))else none else
 (aq r_1 (i64.wrap (i_3-(1:Int)))).bind fun x_7=>(aq r_1 i_3).bind fun x_8=>(fw x_7 x_8).bind fun r_9=>bif (!r_9)then bif (decide (out_2.length+1<=5864062014805))then(some (.next ((out_2++[x_8]),(i64.wrap (i_3+(1:Int))))))else none else
 some (.next (out_2,(i64.wrap (i_3+(1:Int)))))else
 some (.exit (out_2,i_3))
def lR:Sum ((List (List Val))×Int) ((List (List Val)))->Option (((List (List Val))))
 |.inl (out_2,i_3)=>some out_2
 |.inr q=>some q
def dT (a_l:(List (List Val))):Option ((List (List Val))):=(uZ a_l).bind fun r_1=>(ap (aQ r_1) fuel ([],(0:Int))).bind (lR)
instance gDistinct8_ok {a_l : (List (List Val))} {r : (List (List Val))} : OkC (dT a_l = some r) (PTz 132 [.one (.lst (a_l.map (fun x => [AC.lst (x.map cV)])))] (.val (.one (.lst (r.map (fun x => [AC.lst (x.map cV)])))))) := .mk fun H => by
 unfold dT at H;refine po_ Tryz.func132 Tryz.ntmps132 ?_;obtain⟨r_1,c1,H⟩:=bd_ H;replace c1:=gSortR_ok c1;refine aX ?_;refine bK 4 1 rfl ?_;refine alM_ (fun s:(List (List Val))×Int=>match s with|(out_2,i_3)=>[(3,.one (.c (.lst (r_1.map (fun x=>[AC.lst (x.map cV)]))))),(4,.one (.own (out_2.map (fun x=>[AC.lst (x.map cV)])) 0)),(5,.one (.c (.int .i64 i_3)))]) (fun s=>match s with|(out_2,i_3)=>[.spare out_2.length 1]) H (fun _=>amR _)
  (fm_ bH [] rfl a8 bZ) ?_
 rintro⟨out_2,i_3⟩ st1 hb1 hk1;exact cL hb1 hk1
def jT (a_l:(List aw)):((List (List Val))×Int)->Option (Step ((List (List Val))×Int) ((List (List Val)))):=fun s=>match s with
 |(out_1,i_2)=>bif (decide (i_2<((a_l.length:Nat):Int)))then(aq a_l i_2).bind fun x_4=>(dw x_4.valid).bind fun r_5=>bif r_5 then bif (decide (out_1.length+1<=5864062014805))then(some (.next ((out_1++[x_4.row]),(i64.wrap (i_2+(1:Int))))))else none else
 some (.next (out_1,(i64.wrap (i_2+(1:Int)))))else
 some (.exit (out_1,i_2))
def MV:Sum ((List (List Val))×Int) ((List (List Val)))->Option (((List (List Val))))
 |.inl (out_1,i_2)=>(dT out_1).bind fun r_7=>some r_7
 |.inr q=>some q
def kW (a_l:(List aw)):Option ((List (List Val))):=(ap (jT a_l) fuel ([],(0:Int))).bind (MV)
instance gRows22_ok {a_l : (List aw)} {r : (List (List Val))} : OkC (kW a_l = some r) (PTz 74 [.one (.lst (a_l.map aA))] (.val (.one (.lst (r.map (fun x => [AC.lst (x.map cV)])))))) := .mk fun H => by
 unfold kW at H;refine po_ Tryz.func74 Tryz.ntmps74 ?_;refine aX ?_;refine bK 3 1 rfl ?_;refine alM_ (fun s:(List (List Val))×Int=>match s with|(out_1,i_2)=>[(0,.one (.c (.lst (a_l.map aA)))),(3,.one (.own (out_1.map (fun x=>[AC.lst (x.map cV)])) 0)),(4,.one (.c (.int .i64 i_2)))]) (fun s=>match s with|(out_1,i_2)=>[.spare out_1.length 1]) H (fun _=>amR _)
  (fm_ bH [] rfl a8 bZ) ?_
 rintro⟨out_1,i_2⟩ st1 hb1 hk1;exact cL hb1 hk1
def jl (a_l:(List aw))(a_row:(List Val)):((List ji)×Int)->Option (Step ((List ji)×Int) ((List Stp))):=fun s=>match s with
 |(c_1,i_2)=>bif (decide (i_2<((a_l.length:Nat):Int)))then(aq a_l i_2).bind fun x_4=>(je x_4.row a_row).bind fun r_5=>bif (decide (r_5=(0:Int)))then bif (decide (c_1.length+1<=5864062014805))then(some (.next ((c_1++[(⟨x_4.valid,(1:Int)⟩:ji)]),(i64.wrap (i_2+(1:Int))))))else none else
 some (.next (c_1,(i64.wrap (i_2+(1:Int)))))else
 some (.exit (c_1,i_2))
def oM:Sum ((List ji)×Int) ((List Stp))->Option (((List Stp)))
 |.inl (c_1,i_2)=>(IM c_1).bind fun r_7=>some r_7
 |.inr q=>some q
def mK (a_l:(List aw))(a_row:(List Val)):Option ((List Stp)):=(ap (jl a_l a_row) fuel ([],(0:Int))).bind (oM)
instance gCounts22_ok {a_l : (List aw)} {a_row : (List Val)} {r : (List Stp)} : OkC (mK a_l a_row = some r) (PTz 84 [.one (.lst (a_l.map aA)), .one (.lst (a_row.map cV))] (.val (.one (.lst (r.map dM))))) := .mk fun H => by
 unfold mK at H;refine po_ Tryz.func84 Tryz.ntmps84 ?_;refine aX ?_;refine bK 5 3 rfl ?_;refine alM_ (fun s:(List ji)×Int=>match s with|(c_1,i_2)=>[(0,.one (.c (.lst (a_l.map aA)))),(1,.one (.c (.lst (a_row.map cV)))),(5,.one (.own (c_1.map ol) 0)),(6,.one (.c (.int .i64 i_2)))]) (fun s=>match s with|(c_1,i_2)=>[.spare c_1.length 3]) H (fun _=>amR _)
  (fm_ bH [] rfl a8 bZ) ?_
 rintro⟨c_1,i_2⟩ st1 hb1 hk1;unfold jl at hb1;dsimp only at hb1 ⊢;rcases af hb1 with⟨q_3,hb1⟩|⟨q_3,hb1⟩
 ·exact ag' hb1
 cases hb1;have hx1:oM (.inl (c_1,i_2))=some _:=hk1;unfold oM at hx1;dsimp only at hx1;obtain⟨r_7,c4,hx1⟩:=bd_ hx1;replace c4:=OC c4;exact ax hx1
def sd (a_row:(List Val))(a_p:(List au)):((List aw)×Int)->Option (Step ((List aw)×Int) ((List aw))):=fun s=>match s with
 |(out_1,i_2)=>bif (decide (i_2<((a_p.length:Nat):Int)))then(aq a_p i_2).bind fun x_4=>bif (decide (out_1.length+1<=3518437208883))then(some (.next ((out_1++[(⟨a_row,x_4⟩:aw)]),(i64.wrap (i_2+(1:Int))))))else none else
 some (.exit (out_1,i_2))
def LR:Sum ((List aw)×Int) ((List aw))->Option (((List aw)))
 |.inl (out_1,i_2)=>some out_1
 |.inr q=>some q
def ry (a_row:(List Val))(a_p:(List au)):Option ((List aw)):=(ap (sd a_row a_p) fuel ([],(0:Int))).bind (LR)
instance gDuring_ok {a_row : (List Val)} {a_p : (List au)} {r : (List aw)} : OkC (ry a_row a_p = some r) (PTz 54 [.one (.lst (a_row.map cV)), .one (.lst (a_p.map aH))] (.val (.one (.lst (r.map aA))))) := .mk fun H => by
 unfold ry at H;refine po_ Tryz.func54 Tryz.ntmps54 ?_;refine aX ?_;refine bK 5 3 rfl ?_;refine alM_ (fun s:(List aw)×Int=>match s with|(out_1,i_2)=>[(0,.one (.c (.lst (a_row.map cV)))),(1,.one (.c (.lst (a_p.map aH)))),(5,.one (.own (out_1.map aA) 0)),(6,.one (.c (.int .i64 i_2)))]) (fun s=>match s with|(out_1,i_2)=>[.spare out_1.length 3]) H (fun _=>amR _)
  (fm_ bH [] rfl a8 bZ) ?_
 rintro⟨out_1,i_2⟩ st1 hb1 hk1;exact cL hb1 hk1
def cA (a_a:(List aw))(a_b:(List aw)):((List aw)×Int×Int)->Option (Step ((List aw)×Int×Int) ((List aw))):=fun s=>match s with
 |(out_1,i_2,k_3)=>bif (decide (i_2<((a_a.length:Nat):Int)))then bif (decide (i_2=((a_a.length:Nat):Int)))then(aq a_b k_3).bind fun x_6=>bif (decide (out_1.length+1<=3518437208883))then(some (.next ((out_1++[x_6]),i_2,(i64.wrap (k_3+(1:Int))))))else none else
 bif (decide (k_3<((a_b.length:Nat):Int)))then(aq a_b k_3).bind fun x_8=>(aq a_a i_2).bind fun x_9=>(je x_8.row x_9.row).bind fun r_10=>bif (decide (r_10<(0:Int)))then bif (decide (out_1.length+1<=3518437208883))then(some (.next ((out_1++[x_8]),i_2,(i64.wrap (k_3+(1:Int))))))else none else
 bif (decide (out_1.length+1<=3518437208883))then(some (.next ((out_1++[x_9]),(i64.wrap (i_2+(1:Int))),k_3)))else none else
 (aq a_a i_2).bind fun x_12=>bif (decide (out_1.length+1<=3518437208883))then(some (.next ((out_1++[x_12]),(i64.wrap (i_2+(1:Int))),k_3)))else none else
 bif (decide (k_3<((a_b.length:Nat):Int)))then bif (decide (i_2=((a_a.length:Nat):Int)))then(aq a_b k_3).bind fun x_15=>bif (decide (out_1.length+1<=3518437208883))then(some (.next ((out_1++[x_15]),i_2,(i64.wrap (k_3+(1:Int))))))else none else
 (aq a_b k_3).bind fun x_16=>(aq a_a i_2).bind fun x_17=>(je x_16.row x_17.row).bind fun r_18=>bif (decide (r_18<(0:Int)))then bif (decide (out_1.length+1<=3518437208883))then(some (.next ((out_1++[x_16]),i_2,(i64.wrap (k_3+(1:Int))))))else none else
 bif (decide (out_1.length+1<=3518437208883))then(some (.next ((out_1++[x_17]),(i64.wrap (i_2+(1:Int))),k_3)))else none else
 some (.exit (out_1,i_2,k_3))
def tw:Sum ((List aw)×Int×Int) ((List aw))->Option (((List aw)))
 |.inl (out_1,i_2,k_3)=>some out_1
 |.inr q=>some q
def mM (a_a:(List aw))(a_b:(List aw)):Option ((List aw)):=(ap (cA a_a a_b) fuel ([],(0:Int),(0:Int))).bind (tw)
instance gMerged22_ok {a_a : (List aw)} {a_b : (List aw)} {r : (List aw)} : OkC (mM a_a a_b = some r) (PTz 146 [.one (.lst (a_a.map aA)), .one (.lst (a_b.map aA))] (.val (.one (.lst (r.map aA))))) := .mk fun H => by
 unfold mM at H;refine po_ Tryz.func146 Tryz.ntmps146 ?_;refine aX ?_;refine bK 5 3 rfl ?_;refine alM_ (fun s:(List aw)×Int×Int=>match s with|(out_1,i_2,k_3)=>[(0,.one (.c (.lst (a_a.map aA)))),(1,.one (.c (.lst (a_b.map aA)))),(5,.one (.own (out_1.map aA) 0)),(6,.one (.c (.int .i64 i_2))),(7,.one (.c (.int .i64 k_3)))]) (fun s=>match s with|(out_1,i_2,k_3)=>[.spare out_1.length 3]) H (fun _=>amR _)
  (fm_ bH [] rfl a8 bZ) ?_
 rintro⟨out_1,i_2,k_3⟩ st1 hb1 hk1;exact cL hb1 hk1
def mf (rec:List aw->Option (List aw))(a_l:(List aw)):Option ((List aw)):=bif (decide (((a_l.length:Nat):Int)<(2:Int)))then some a_l else
 bif (decide ((2:Int)≠0))then((fM a_l (0:Int) (i64.wrap (((a_l.length:Nat):Int).tdiv (2:Int)))).bind fun s_2=>(rec s_2).bind fun r_3=>(fM a_l (i64.wrap (((a_l.length:Nat):Int).tdiv (2:Int))) ((a_l.length:Nat):Int)).bind fun s_4=>(rec s_4).bind fun r_5=>(mM r_3 r_5).bind fun r_6=>some r_6)else none
theorem FK {rec:List aw->Option (List aw)}  (hrec:∀ {x:List aw} {r:List aw},rec x=some r->PTz 83 [.one (.lst (x.map aA))] (.val (.one (.lst (r.map aA))))){a_l:(List aw)}{r:(List aw)}(H:mf rec a_l=some r):PTz 83 [.one (.lst (a_l.map aA))] (.val (.one (.lst (r.map aA)))):=by
 unfold mf at H;refine po_ Tryz.func83 Tryz.ntmps83 ?_;rcases af H with⟨q_1,H⟩|⟨q_1,H⟩
 ·exact ax H
 obtain⟨g1,H⟩:=bo H;obtain⟨s_2,u2,H⟩:=bd_ H;obtain⟨⟨u2a,u2b,u2c⟩,u2⟩:=dq u2;have u2x:=xd (f:=aA) u2;obtain⟨r_3,c3,H⟩:=bd_ H;replace c3:=hrec c3;obtain⟨s_4,u4,H⟩:=bd_ H;obtain⟨⟨u4a,u4b,u4c⟩,u4⟩:=dq u4;have u4x:=xd (f:=aA) u4;obtain⟨r_5,c5,H⟩:=bd_ H;replace c5:=hrec c5;obtain⟨r_6,c6,H⟩:=bd_ H;replace c6:=gMerged22_ok c6
 cases H
 repeat' (first|refine gs_ ?_|rw[u2x]|rw[u4x]|rw[show((0:Nat):Int)=0 from rfl])
 refine aJ (aO rfl ?_ ?_)
 ·repeat' (first|exact t7|rfl|exact amG rfl|omega|apply And.intro)
 ·first|rfl|(simp only[amJ,amH,amL,amB]<;>rfl)
def pP:Nat->List aw->Option (List aw)
 |0,_=>none
 |n+1,a=>mf (pP n) a
theorem wN:∀ (n:Nat) {x:List aw} {r:List aw},pP n x=some r->PTz 83 [.one (.lst (x.map aA))] (.val (.one (.lst (r.map aA))))
 |0,_,_,h=>nomatch h
 |n+1,_,_,h=>FK (wN n) h
def fk (s_11:(List aw))(r_12:(List (List Val))):((List bI)×Int)->Option (Step ((List bI)×Int) ((List bI))):=fun s=>match s with
 |(out_13,n_14)=>bif (decide (n_14<((r_12.length:Nat):Int)))then(aq r_12 n_14).bind fun x_16=>(mK s_11 x_16).bind fun r_17=>bif (decide (out_13.length+1<=2932031007402))then(some (.next ((out_13++[(⟨x_16,r_17⟩:bI)]),(i64.wrap (n_14+(1:Int))))))else none else
 some (.exit (out_13,n_14))
def fh (k_5:Int):Sum ((List bI)×Int) ((List bI))->Option (Step ((List bI)×Int) ((List bI)))
 |.inl (out_13,n_14)=>some (.next (out_13,k_5))
 |.inr q=>some (.ret q)
def dZ (r_1:(List aw))(i_3:Int):(Int)->Option (Step (Int) ((List bI))):=fun s=>match s with
 |k_5=>bif (decide (k_5<((r_1.length:Nat):Int)))then(aq r_1 k_5).bind fun x_7=>(aq r_1 i_3).bind fun x_8=>(je x_7.row x_8.row).bind fun r_9=>bif (decide (r_9=(0:Int)))then some (.next (i64.wrap (k_5+(1:Int))))else
 some (.exit k_5)else
 some (.exit k_5)
def gA (r_1:(List aw))(out_2:(List bI))(i_3:Int):Sum (Int) ((List bI))->Option (Step ((List bI)×Int) ((List bI)))
 |.inl k_5=>(fM r_1 i_3 k_5).bind fun s_11=>(kW s_11).bind fun r_12=>(ap (fk s_11 r_12) fuel (out_2,(0:Int))).bind (fh k_5)
 |.inr q=>some (.ret q)
def cS (r_1:(List aw)):((List bI)×Int)->Option (Step ((List bI)×Int) ((List bI))):=fun s=>match s with
 |(out_2,i_3)=>bif (decide (i_3<((r_1.length:Nat):Int)))then(ap (dZ r_1 i_3) fuel i_3).bind (gA r_1 out_2 i_3)else
 some (.exit (out_2,i_3))
def Gi:Sum ((List bI)×Int) ((List bI))->Option (((List bI)))
 |.inl (out_2,i_3)=>some out_2
 |.inr q=>some q
def fu (a_l:(List aw)):Option ((List bI)):=(pP 640 a_l).bind fun r_1=>(ap (cS r_1) fuel ([],(0:Int))).bind (Gi)
instance gGroups22_ok {a_l : (List aw)} {r : (List bI)} : OkC (fu a_l = some r) (PTz 53 [.one (.lst (a_l.map aA))] (.val (.one (.lst (r.map fN))))) := .mk fun H => by
 unfold fu at H;refine po_ Tryz.func53 Tryz.ntmps53 ?_;obtain⟨r_1,c1,H⟩:=bd_ H;replace c1:=wN 640 c1;refine aX ?_;refine bK 4 2 rfl ?_;refine alM_ (fun s:(List bI)×Int=>match s with|(out_2,i_3)=>[(3,.one (.c (.lst (r_1.map aA)))),(4,.one (.own (out_2.map fN) 0)),(5,.one (.c (.int .i64 i_3)))]) (fun s=>match s with|(out_2,i_3)=>[.spare out_2.length 2]) H (fun _=>amR _)
  (fm_ bH [] rfl a8 bZ) ?_
 rintro⟨out_2,i_3⟩ st5 hb5 hk5;unfold cS at hb5;dsimp only at hb5 ⊢;rcases af hb5 with⟨q_4,hb5⟩|⟨q_4,hb5⟩
 ·refine aX ?_
  refine alM_ (fun s:Int=>match s with|k_5=>[(3,.one (.c (.lst (r_1.map aA)))),(4,.one (.own (out_2.map fN) 0)),(5,.one (.c (.int .i64 i_3))),(6,.one (.c (.int .i64 k_5)))]) (fun s=>match s with|k_5=>[.spare out_2.length 2]) hb5 (fun _=>amR _)
   (fm_ bH [] rfl a8 bZ) ?_
  rintro k_5 st6 hb6 hk6;unfold dZ at hb6;dsimp only at hb6 ⊢;rcases af hb6 with⟨q_6,hb6⟩|⟨q_6,hb6⟩
  ·obtain⟨x_7,i2z,i2,i2x,hb6⟩:=aY (f:=aA) hb6
   obtain⟨x_8,i3z,i3,i3x,hb6⟩:=aY (f:=aA) hb6;obtain⟨r_9,c4,hb6⟩:=bd_ hb6;replace c4:=gCmp8_ok c4;rcases af hb6 with⟨q_10,hb6⟩|⟨q_10,hb6⟩
   ·cases hb6
    refine aX ?_;exact⟨_,rfl,fm_ bH [] rfl a8 bZ⟩
   cases hb6;have hx6:gA r_1 out_2 i_3 (.inl k_5)=some _:=hk6;unfold gA at hx6;dsimp only at hx6;obtain⟨s_11,u5,hx6⟩:=bd_ hx6;obtain⟨⟨u5a,u5b,u5c⟩,u5⟩:=dq u5;have u5x:=xd (f:=aA) u5;obtain⟨r_12,c6,hx6⟩:=bd_ hx6;replace c6:=gRows22_ok c6
   repeat' (first|refine gs_ ?_|rw[u5x]|rw[show((0:Nat):Int)=0 from rfl])
   refine alM_ (fun s:(List bI)×Int=>match s with|(out_13,n_14)=>[(3,.one (.c (.lst (r_1.map aA)))),(4,.one (.own (out_13.map fN) 0)),(5,.one (.c (.int .i64 i_3))),(6,.one (.c (.int .i64 k_5))),(7,.one (.c (.lst (r_12.map (fun x=>[AC.lst (x.map cV)]))))),(8,.one (.c (.int .i64 n_14)))]) (fun s=>match s with|(out_13,n_14)=>[.spare out_13.length 2]) hx6 (fun _=>amR _)
    (fm_ bH [] rfl a8 bZ) ?_
   rintro⟨out_13,n_14⟩ st7 hb7 hk7;unfold fk at hb7;dsimp only at hb7 ⊢;rcases af hb7 with⟨q_15,hb7⟩|⟨q_15,hb7⟩
   ·obtain⟨x_16,i7z,i7,i7x,hb7⟩:=aY (f:=(fun x=>[AC.lst (x.map cV)])) hb7
    obtain⟨r_17,c8,hb7⟩:=bd_ hb7;replace c8:=gCounts22_ok c8;obtain⟨g9,hb7⟩:=bo hb7
    cases hb7
    repeat' (first|refine gs_ ?_|rw[u5x]|rw[show((0:Nat):Int)=0 from rfl])
    exact⟨_,rfl,fm_ jb [] nk a8 bZ⟩
   cases hb7;have hx7:fh k_5 (.inl (out_13,n_14))=some _:=hk7;unfold fh at hx7;dsimp only at hx7
   cases hx7
   repeat' (first|refine gs_ ?_|rw[u5x]|rw[show((0:Nat):Int)=0 from rfl])
   exact⟨_,rfl,fm_ jb [] nk a8 bZ⟩
  cases hb6;have hx6:gA r_1 out_2 i_3 (.inl k_5)=some _:=hk6;unfold gA at hx6;dsimp only at hx6;obtain⟨s_11,u10,hx6⟩:=bd_ hx6;obtain⟨⟨u10a,u10b,u10c⟩,u10⟩:=dq u10;have u10x:=xd (f:=aA) u10;obtain⟨r_12,c11,hx6⟩:=bd_ hx6;replace c11:=gRows22_ok c11
  repeat' (first|refine gs_ ?_|rw[u10x]|rw[show((0:Nat):Int)=0 from rfl])
  refine alM_ (fun s:(List bI)×Int=>match s with|(out_13,n_14)=>[(3,.one (.c (.lst (r_1.map aA)))),(4,.one (.own (out_13.map fN) 0)),(5,.one (.c (.int .i64 i_3))),(6,.one (.c (.int .i64 k_5))),(7,.one (.c (.lst (r_12.map (fun x=>[AC.lst (x.map cV)]))))),(8,.one (.c (.int .i64 n_14)))]) (fun s=>match s with|(out_13,n_14)=>[.spare out_13.length 2]) hx6 (fun _=>amR _)
   (fm_ bH [] rfl a8 bZ) ?_
  rintro⟨out_13,n_14⟩ st7 hb7 hk7;unfold fk at hb7;dsimp only at hb7 ⊢;rcases af hb7 with⟨q_15,hb7⟩|⟨q_15,hb7⟩
  ·obtain⟨x_16,i12z,i12,i12x,hb7⟩:=aY (f:=(fun x=>[AC.lst (x.map cV)])) hb7
   obtain⟨r_17,c13,hb7⟩:=bd_ hb7;replace c13:=gCounts22_ok c13;obtain⟨g14,hb7⟩:=bo hb7
   cases hb7
   repeat' (first|refine gs_ ?_|rw[u10x]|rw[show((0:Nat):Int)=0 from rfl])
   exact⟨_,rfl,fm_ jb [] nk a8 bZ⟩
  cases hb7;have hx7:fh k_5 (.inl (out_13,n_14))=some _:=hk7;unfold fh at hx7;dsimp only at hx7
  cases hx7
  repeat' (first|refine gs_ ?_|rw[u10x]|rw[show((0:Nat):Int)=0 from rfl])
  exact⟨_,rfl,fm_ jb [] nk a8 bZ⟩
 exact cL hb5 hk5
end
def zh (a_s:ByteArray):Option (Val):=(nH (⟨(2:Int),(0:Int),a_s⟩:Val)).bind fun r_1=>some r_1
instance gTextR_ok {a_s : ByteArray} {r : Val} : OkC (zh a_s = some r) (PTz 174 [.one (.str a_s)] (.val (.agg (cV r)))) := .mk fun H => by
 unfold zh at H;refine po_ Tryz.func174 Tryz.ntmps174 ?_;exact ax H
def oE (a_b:Bool):Option (Val):=bif a_b then some (⟨(3:Int),(1:Int),ByteArray.empty⟩:Val)else
 some (⟨(3:Int),(0:Int),ByteArray.empty⟩:Val)
instance gBoolR_ok {a_b : Bool} {r : Val} : OkC (oE a_b = some r) (PTz 108 [.one (.bool a_b)] (.val (.agg (cV r)))) := .mk fun H => by
 unfold oE at H;refine po_ Tryz.func108 Tryz.ntmps108 ?_;exact ax H
def ru (a_a:Val)(a_b:Val)(a_is:Bool):Option (Int):=bif (decide (a_a.kind=(0:Int)))then some (1:Int)else
 bif (decide (a_a.kind≠a_b.kind))then some (1:Int)else
 bif a_is then some (2:Int)else
 some (0:Int)
instance gtruthR_ok {a_a : Val} {a_b : Val} {a_is : Bool} {r : Int} : OkC (ru a_a a_b a_is = some r) (PTz 207 [.agg (cV a_a), .agg (cV a_b), .one (.bool a_is)] (.val (.one (.int .i64 r)))) := .mk fun H => by
 unfold ru at H;refine po_ Tryz.func207 Tryz.ntmps207 ?_;exact ax H
def aa_ (a_a:Val)(a_b:Val):Option (Int):=(rR a_a a_b).bind fun r_1=>(ru a_a a_b (decide (r_1=(0:Int)))).bind fun r_2=>some r_2
instance gEqR_ok {a_a : Val} {a_b : Val} {r : Int} : OkC (aa_ a_a a_b = some r) (PTz 171 [.agg (cV a_a), .agg (cV a_b)] (.val (.one (.int .i64 r)))) := .mk fun H => by
 unfold aa_ at H;refine po_ Tryz.func171 Tryz.ntmps171 ?_;exact ax H
def pM (a_a:Val)(a_b:Val):Option (Int):=(rR a_a a_b).bind fun r_1=>(ru a_a a_b (decide (r_1<(0:Int)))).bind fun r_2=>some r_2
instance gLessR_ok {a_a : Val} {a_b : Val} {r : Int} : OkC (pM a_a a_b = some r) (PTz 172 [.agg (cV a_a), .agg (cV a_b)] (.val (.one (.int .i64 r)))) := .mk fun H => by
 unfold pM at H;refine po_ Tryz.func172 Tryz.ntmps172 ?_;exact ax H
def Bv (a_a:Int):Option (Int):=bif (decide (a_a=(2:Int)))then some (0:Int)else
 bif (decide (a_a=(0:Int)))then some (2:Int)else
 some (1:Int)
instance gNotR_ok {a_a : Int} {r : Int} : OkC (Bv a_a = some r) (PTz 113 [.one (.int .i64 a_a)] (.val (.one (.int .i64 r)))) := .mk fun H => by
 unfold Bv at H;refine po_ Tryz.func113 Tryz.ntmps113 ?_;exact ax H
def BL (a_a:Int)(a_b:Int):Option (Int):=bif (decide (a_a=(0:Int)))then some (0:Int)else
 bif (decide (a_b=(0:Int)))then some (0:Int)else
 bif (decide (a_a=(2:Int)))then bif (decide (a_b=(2:Int)))then some (2:Int)else
 some (1:Int)else
 some (1:Int)
instance gAndR_ok {a_a : Int} {a_b : Int} {r : Int} : OkC (BL a_a a_b = some r) (PTz 169 [.one (.int .i64 a_a), .one (.int .i64 a_b)] (.val (.one (.int .i64 r)))) := .mk fun H => by
 unfold BL at H;refine po_ Tryz.func169 Tryz.ntmps169 ?_;exact ax H
def MX (a_a:Int)(a_b:Int):Option (Int):=bif (decide (a_a=(2:Int)))then some (2:Int)else
 bif (decide (a_b=(2:Int)))then some (2:Int)else
 bif (decide (a_a=(0:Int)))then bif (decide (a_b=(0:Int)))then some (0:Int)else
 some (1:Int)else
 some (1:Int)
instance gOrR_ok {a_a : Int} {a_b : Int} {r : Int} : OkC (MX a_a a_b = some r) (PTz 170 [.one (.int .i64 a_a), .one (.int .i64 a_b)] (.val (.one (.int .i64 r)))) := .mk fun H => by
 unfold MX at H;refine po_ Tryz.func170 Tryz.ntmps170 ?_;exact ax H
def eK (a_v:Val):Option (Int):=(oE true).bind fun r_1=>bif (bT [.c (.int .i64 a_v.kind),.c (.int .i64 a_v.int),.c (.str a_v.text)] [.c (.int .i64 r_1.kind),.c (.int .i64 r_1.int),.c (.str r_1.text)])then some (2:Int)else
 (oE false).bind fun r_3=>bif (bT [.c (.int .i64 a_v.kind),.c (.int .i64 a_v.int),.c (.str a_v.text)] [.c (.int .i64 r_3.kind),.c (.int .i64 r_3.int),.c (.str r_3.text)])then some (0:Int)else
 some (1:Int)
instance gTruth7_ok {a_v : Val} {r : Int} : OkC (eK a_v = some r) (PTz 68 [.agg (cV a_v)] (.val (.one (.int .i64 r)))) := .mk fun H => by
 unfold eK at H;refine po_ Tryz.func68 Tryz.ntmps68 ?_;exact ax H
def xg (a_t:Int):Option (Val):=bif (decide (a_t=(2:Int)))then(oE (decide (a_t=(2:Int)))).bind fun r_2=>some r_2 else
 bif (decide (a_t=(0:Int)))then(oE (decide (a_t=(2:Int)))).bind fun r_4=>some r_4 else
 (dn ).bind fun r_5=>some r_5
instance gOf7_ok {a_t : Int} {r : Val} : OkC (xg a_t = some r) (PTz 112 [.one (.int .i64 a_t)] (.val (.agg (cV r)))) := .mk fun H => by
 unfold xg at H;refine po_ Tryz.func112 Tryz.ntmps112 ?_;exact ax H
def lI (a_op:Int):Option (Int×Int):=bif (decide (a_op=(1:Int)))then some ((0:Int),(0:Int))else
 bif (decide (a_op=(2:Int)))then some ((0:Int),(0:Int))else
 bif (decide (a_op=(4:Int)))then some ((1:Int),(1:Int))else
 bif (decide (a_op=(18:Int)))then some ((1:Int),(1:Int))else
 bif (decide (a_op=(20:Int)))then some ((1:Int),(1:Int))else
 bif (decide (a_op=(21:Int)))then some ((1:Int),(1:Int))else
 bif (decide (a_op=(5:Int)))then some ((2:Int),(1099511627776:Int))else
 bif (decide (a_op=(6:Int)))then some ((2:Int),(1099511627776:Int))else
 bif (decide (a_op=(7:Int)))then some ((2:Int),(2:Int))else
 bif (decide (a_op=(8:Int)))then some ((2:Int),(2:Int))else
 bif (decide (a_op=(9:Int)))then some ((2:Int),(2:Int))else
 bif (decide (a_op=(10:Int)))then some ((2:Int),(2:Int))else
 bif (decide (a_op=(11:Int)))then some ((2:Int),(2:Int))else
 bif (decide (a_op=(12:Int)))then some ((2:Int),(2:Int))else
 bif (decide (a_op=(13:Int)))then some ((2:Int),(2:Int))else
 bif (decide (a_op=(14:Int)))then some ((2:Int),(2:Int))else
 bif (decide (a_op=(15:Int)))then some ((2:Int),(2:Int))else
 bif (decide (a_op=(16:Int)))then some ((2:Int),(2:Int))else
 bif (decide (a_op=(17:Int)))then some ((2:Int),(2:Int))else
 bif (decide (a_op=(19:Int)))then some ((2:Int),(2:Int))else
 bif (decide (a_op=(22:Int)))then some ((3:Int),(3:Int))else
 bif (decide (a_op=(23:Int)))then some ((1:Int),(1099511627776:Int))else
 bif (decide (a_op=(24:Int)))then some ((4:Int),(4:Int))else
 some ((-1:Int),(0:Int))
instance gArity_ok {a_op : Int} {r : Int × Int} : OkC (lI a_op = some r) (PTz 167 [.one (.int .i64 a_op)] (.tup [.one (.int .i64 r.1), .one (.int .i64 r.2)])) := .mk fun H => by
 unfold lI at H;refine po_ Tryz.func167 Tryz.ntmps167 ?_;rcases af H with⟨q_1,H⟩|⟨q_1,H⟩
 ·exact ax H
 rcases af H with⟨q_2,H⟩|⟨q_2,H⟩
 ·exact ax H
 refine aX ?_;rcases af H with⟨q_3,H⟩|⟨q_3,H⟩
 ·exact ax H
 rcases af H with⟨q_4,H⟩|⟨q_4,H⟩
 ·exact ax H
 rcases af H with⟨q_5,H⟩|⟨q_5,H⟩
 ·exact ax H
 refine aX ?_;rcases af H with⟨q_6,H⟩|⟨q_6,H⟩
 ·exact ax H
 rcases af H with⟨q_7,H⟩|⟨q_7,H⟩
 ·exact ax H
 rcases af H with⟨q_8,H⟩|⟨q_8,H⟩
 ·exact ax H
 refine aX ?_;rcases af H with⟨q_9,H⟩|⟨q_9,H⟩
 ·exact ax H
 rcases af H with⟨q_10,H⟩|⟨q_10,H⟩
 ·exact ax H
 rcases af H with⟨q_11,H⟩|⟨q_11,H⟩
 ·exact ax H
 refine aX ?_;rcases af H with⟨q_12,H⟩|⟨q_12,H⟩
 ·exact ax H
 rcases af H with⟨q_13,H⟩|⟨q_13,H⟩
 ·exact ax H
 rcases af H with⟨q_14,H⟩|⟨q_14,H⟩
 ·exact ax H
 refine aX ?_;rcases af H with⟨q_15,H⟩|⟨q_15,H⟩
 ·exact ax H
 rcases af H with⟨q_16,H⟩|⟨q_16,H⟩
 ·exact ax H
 rcases af H with⟨q_17,H⟩|⟨q_17,H⟩
 ·exact ax H
 refine aX ?_;rcases af H with⟨q_18,H⟩|⟨q_18,H⟩
 ·exact ax H
 rcases af H with⟨q_19,H⟩|⟨q_19,H⟩
 ·exact ax H
 rcases af H with⟨q_20,H⟩|⟨q_20,H⟩
 ·exact ax H
 refine aX ?_;exact ax H
def ew (a_e:Ex):Option (Bool):=(lI a_e.op).bind fun r_1=>bif (decide (r_1.1<(0:Int)))then some false else
 bif (decide (((a_e.args.length:Nat):Int)<r_1.1))then some false else
 bif (decide (r_1.2<((a_e.args.length:Nat):Int)))then some false else
 bif (!(a_e.nm.toList==(⟨#[]⟩:ByteArray).toList))then some false else
 bif (decide (a_e.op=(1:Int)))then bif (decide (a_e.int=(0:Int)))then(cH a_e.v).bind fun r_8=>some r_8 else
 some false else
 bif (decide (a_e.op=(2:Int)))then(dn ).bind fun r_10=>some (bT [.c (.int .i64 a_e.v.kind),.c (.int .i64 a_e.v.int),.c (.str a_e.v.text)] [.c (.int .i64 r_10.kind),.c (.int .i64 r_10.int),.c (.str r_10.text)])else
 bif (decide (a_e.op=(24:Int)))then(dn ).bind fun r_12=>bif (bT [.c (.int .i64 a_e.v.kind),.c (.int .i64 a_e.v.int),.c (.str a_e.v.text)] [.c (.int .i64 r_12.kind),.c (.int .i64 r_12.int),.c (.str r_12.text)])then bif (decide ((0:Int)<=a_e.int))then some (decide (a_e.int<(13:Int)))else
 some false else
 some false else
 bif (decide (a_e.int=(0:Int)))then(dn ).bind fun r_16=>some (bT [.c (.int .i64 a_e.v.kind),.c (.int .i64 a_e.v.int),.c (.str a_e.v.text)] [.c (.int .i64 r_16.kind),.c (.int .i64 r_16.int),.c (.str r_16.text)])else
 some false
instance gFormedR_ok {a_e : Ex} {r : Bool} : OkC (ew a_e = some r) (PTz 109 [.agg (tE a_e)] (.val (.one (.bool r)))) := .mk fun H => by
 unfold ew at H;rw[aN a_e];refine po_ Tryz.func109 Tryz.ntmps109 ?_;obtain⟨r_1,c1,H⟩:=bd_ H;replace c1:=gArity_ok c1;rcases af H with⟨q_2,H⟩|⟨q_2,H⟩
 ·exact ax H
 rcases af H with⟨q_3,H⟩|⟨q_3,H⟩
 ·exact ax H
 refine aX ?_;rcases af H with⟨q_4,H⟩|⟨q_4,H⟩
 ·exact ax H
 rcases af H with⟨q_5,H⟩|⟨q_5,H⟩
 ·exact ax H
 rcases af H with⟨q_6,H⟩|⟨q_6,H⟩
 ·refine aX ?_
  exact ax H
 refine aX ?_;rcases af H with⟨q_9,H⟩|⟨q_9,H⟩
 ·exact ax H
 rcases af H with⟨q_11,H⟩|⟨q_11,H⟩
 ·obtain⟨r_12,c4,H⟩:=bd_ H
  replace c4:=gNullR_ok c4;rcases af H with⟨q_13,H⟩|⟨q_13,H⟩
  ·refine aX ?_
   exact ax H
  exact ax H
 exact ax H
def eD (a_op:Int)(a_a:Val)(a_b:Val):Option (Int):=bif (decide (a_op=(7:Int)))then(aa_ a_a a_b).bind fun r_2=>some r_2 else
 bif (decide (a_op=(8:Int)))then(aa_ a_a a_b).bind fun r_4=>(Bv r_4).bind fun r_5=>some r_5 else
 bif (decide (a_op=(9:Int)))then(pM a_a a_b).bind fun r_7=>some r_7 else
 bif (decide (a_op=(11:Int)))then(pM a_b a_a).bind fun r_9=>some r_9 else
 bif (decide (a_op=(10:Int)))then(pM a_b a_a).bind fun r_11=>(Bv r_11).bind fun r_12=>some r_12 else
 (pM a_a a_b).bind fun r_13=>(Bv r_13).bind fun r_14=>some r_14
instance gCompared_ok {a_op : Int} {a_a : Val} {a_b : Val} {r : Int} : OkC (eD a_op a_a a_b = some r) (PTz 115 [.one (.int .i64 a_op), .agg (cV a_a), .agg (cV a_b)] (.val (.one (.int .i64 r)))) := .mk fun H => by
 unfold eD at H;refine po_ Tryz.func115 Tryz.ntmps115 ?_;rcases af H with⟨q_1,H⟩|⟨q_1,H⟩
 ·exact ax H
 rcases af H with⟨q_3,H⟩|⟨q_3,H⟩
 ·exact ax H
 refine aX ?_;exact ax H
def acI (a_n:Int):Option (Int):=some (Gk a_n (i64.wrap (0-a_n)))
instance gAbs_ok {a_n : Int} {r : Int} : OkC (acI a_n = some r) (PTz 176 [.one (.int .i64 a_n)] (.val (.one (.int .i64 r)))) := .mk fun H => by
 unfold acI at H;refine po_ Tryz.func176 Tryz.ntmps176 ?_;exact ax H
def cD (a_op:Int)(a_a:Int)(a_b:Int):Option (Val):=bif (decide (a_op=(13:Int)))then(kS (i64.wrap (a_a+a_b))).bind fun r_2=>some r_2 else
 bif (decide (a_op=(14:Int)))then(kS (i64.wrap (a_a-a_b))).bind fun r_4=>some r_4 else
 bif (decide (a_op=(15:Int)))then bif (decide (a_a≠(0:Int)))then(acI a_b).bind fun r_7=>(acI a_a).bind fun r_8=>bif (decide (r_8≠0))then(bif (decide ((i64.wrap ((1125899906842624:Int).tdiv r_8))<r_7))then(dn ).bind fun r_10=>some r_10 else
 (kS (i64.wrap (a_a*a_b))).bind fun r_11=>some r_11)else none else
 (kS (i64.wrap (a_a*a_b))).bind fun r_12=>some r_12 else
 bif (decide (a_b=(0:Int)))then(dn ).bind fun r_14=>some r_14 else
 bif (decide (a_op=(16:Int)))then bif (decide (a_b≠0))then((kS (i64.wrap (a_a.tdiv a_b))).bind fun r_16=>some r_16)else none else
 bif (decide (a_b≠0))then((kS (a_a.tmod a_b)).bind fun r_17=>some r_17)else none
instance gComputed_ok {a_op : Int} {a_a : Int} {a_b : Int} {r : Val} : OkC (cD a_op a_a a_b = some r) (PTz 121 [.one (.int .i64 a_op), .one (.int .i64 a_a), .one (.int .i64 a_b)] (.val (.agg (cV r)))) := .mk fun H => by
 unfold cD at H;refine po_ Tryz.func121 Tryz.ntmps121 ?_;rcases af H with⟨q_1,H⟩|⟨q_1,H⟩
 ·exact ax H
 rcases af H with⟨q_3,H⟩|⟨q_3,H⟩
 ·exact ax H
 refine aX ?_;exact ax H
def xw (a_l:(List Val))(a_kind:Int):(Int)->Option (Step (Int) (Bool)):=fun s=>match s with
 |i_1=>bif (decide (i_1<((a_l.length:Nat):Int)))then(aq a_l i_1).bind fun x_3=>bif (decide (x_3.kind≠a_kind))then some (.ret false)else
 some (.next (i64.wrap (i_1+(1:Int))))else
 some (.exit i_1)
def agP:Sum (Int) (Bool)->Option ((Bool))
 |.inl i_1=>some true
 |.inr q=>some q
def Hu (a_l:(List Val))(a_kind:Int):Option (Bool):=(ap (xw a_l a_kind) fuel (0:Int)).bind (agP)
instance gAre_ok {a_l : (List Val)} {a_kind : Int} {r : Bool} : OkC (Hu a_l a_kind = some r) (PTz 116 [.one (.lst (a_l.map cV)), .one (.int .i64 a_kind)] (.val (.one (.bool r)))) := .mk fun H => by
 unfold Hu at H;refine po_ Tryz.func116 Tryz.ntmps116 ?_;refine aX ?_;refine alM_ (fun s:Int=>match s with|i_1=>[(0,.one (.c (.lst (a_l.map cV)))),(1,.one (.c (.int .i64 a_kind))),(5,.one (.c (.int .i64 i_1)))]) (fun s=>match s with|i_1=>[]) H (fun _=>amR _)
  (fm_ bH [] rfl a8 trivial) ?_
 rintro i_1 st1 hb1 hk1;unfold xw at hb1;dsimp only at hb1 ⊢;rcases af hb1 with⟨q_2,hb1⟩|⟨q_2,hb1⟩
 ·obtain⟨x_3,i1z,i1,i1x,hb1⟩:=aY (f:=cV) hb1
  rcases af hb1 with⟨q_4,hb1⟩|⟨q_4,hb1⟩
  ·exact cL hb1 hk1
  cases hb1;refine aX ?_;exact⟨_,rfl,fm_ bH [] rfl a8 trivial⟩
 exact cL hb1 hk1
def jP (a_op:Int)(a_l:(List Val)):(Int×Int)->Option (Step (Int×Int) (Val)):=fun s=>match s with
 |(t_3,i_4)=>bif (decide (i_4<((a_l.length:Nat):Int)))then bif (decide (a_op=(5:Int)))then(aq a_l i_4).bind fun x_7=>(eK x_7).bind fun r_8=>(BL t_3 r_8).bind fun r_9=>some (.next (r_9,(i64.wrap (i_4+(1:Int)))))else
 (aq a_l i_4).bind fun x_10=>(eK x_10).bind fun r_11=>(MX t_3 r_11).bind fun r_12=>some (.next (r_12,(i64.wrap (i_4+(1:Int)))))else
 some (.exit (t_3,i_4))
def LJ:Sum (Int×Int) (Val)->Option ((Val))
 |.inl (t_3,i_4)=>(xg t_3).bind fun r_13=>some r_13
 |.inr q=>some q
def qN (a_op:Int)(a_l:(List Val)):Option (Val):=(aq a_l (0:Int)).bind fun x_1=>(eK x_1).bind fun r_2=>(ap (jP a_op a_l) fuel (r_2,(1:Int))).bind (LJ)
instance gLogicR_ok {a_op : Int} {a_l : (List Val)} {r : Val} : OkC (qN a_op a_l = some r) (PTz 114 [.one (.int .i64 a_op), .one (.lst (a_l.map cV))] (.val (.agg (cV r)))) := .mk fun H => by
 unfold qN at H;refine po_ Tryz.func114 Tryz.ntmps114 ?_;obtain⟨x_1,i1z,i1,i1x,H⟩:=aY (f:=cV) H;obtain⟨r_2,c2,H⟩:=bd_ H;replace c2:=gTruth7_ok c2;refine aX ?_;refine alM_ (fun s:Int×Int=>match s with|(t_3,i_4)=>[(0,.one (.c (.int .i64 a_op))),(1,.one (.c (.lst (a_l.map cV)))),(4,.one (.ptr 0 0)),(5,.one (.c (.int .i64 t_3))),(6,.one (.c (.int .i64 i_4)))]) (fun s=>match s with|(t_3,i_4)=>[.box [.c (.int .i64 (0:Int)),.c (.int .i64 (0:Int)),.c (.str ByteArray.empty)]]) H (fun _=>amR _)
  (fm_ bH [] rfl a8 bZ) ?_
 rintro⟨t_3,i_4⟩ st1 hb1 hk1;unfold jP at hb1;dsimp only at hb1 ⊢;rcases af hb1 with⟨q_5,hb1⟩|⟨q_5,hb1⟩
 ·rcases af hb1 with⟨q_6,hb1⟩|⟨q_6,hb1⟩
  ·obtain⟨x_7,i3z,i3,i3x,hb1⟩:=aY (f:=cV) hb1
   obtain⟨r_8,c4,hb1⟩:=bd_ hb1;replace c4:=gTruth7_ok c4;obtain⟨r_9,c5,hb1⟩:=bd_ hb1;replace c5:=gAndR_ok c5
   cases hb1;refine aX ?_;exact⟨_,rfl,fm_ bH [] rfl a8 bZ⟩
  obtain⟨x_10,i6z,i6,i6x,hb1⟩:=aY (f:=cV) hb1;obtain⟨r_11,c7,hb1⟩:=bd_ hb1;replace c7:=gTruth7_ok c7;obtain⟨r_12,c8,hb1⟩:=bd_ hb1;replace c8:=gOrR_ok c8
  cases hb1;refine aX ?_;exact⟨_,rfl,fm_ bH [] rfl a8 bZ⟩
 exact cL hb1 hk1
def fH (a_rel:Int)(a_p:au)(a_q:au):Option (Bool):=bif (decide (a_rel=(0:Int)))then some (decide (a_p.hi<a_q.lo))else
 bif (decide (a_rel=(1:Int)))then some (decide (a_p.hi=a_q.lo))else
 bif (decide (a_rel=(2:Int)))then bif (decide (a_p.lo<a_q.lo))then bif (decide (a_q.lo<a_p.hi))then some (decide (a_p.hi<a_q.hi))else
 some false else
 some false else
 bif (decide (a_rel=(3:Int)))then bif (decide (a_p.lo=a_q.lo))then some (decide (a_p.hi<a_q.hi))else
 some false else
 bif (decide (a_rel=(4:Int)))then bif (decide (a_q.lo<a_p.lo))then some (decide (a_p.hi<a_q.hi))else
 some false else
 bif (decide (a_rel=(5:Int)))then bif (decide (a_p.hi=a_q.hi))then some (decide (a_q.lo<a_p.lo))else
 some false else
 bif (decide (a_rel=(6:Int)))then some (bT [.c (.int .i64 a_p.lo),.c (.int .i64 a_p.hi)] [.c (.int .i64 a_q.lo),.c (.int .i64 a_q.hi)])else
 bif (decide (a_rel=(7:Int)))then bif (decide (a_p.hi=a_q.hi))then some (decide (a_p.lo<a_q.lo))else
 some false else
 bif (decide (a_rel=(8:Int)))then bif (decide (a_p.lo<a_q.lo))then some (decide (a_q.hi<a_p.hi))else
 some false else
 bif (decide (a_rel=(9:Int)))then bif (decide (a_p.lo=a_q.lo))then some (decide (a_q.hi<a_p.hi))else
 some false else
 bif (decide (a_rel=(10:Int)))then bif (decide (a_q.lo<a_p.lo))then bif (decide (a_p.lo<a_q.hi))then some (decide (a_q.hi<a_p.hi))else
 some false else
 some false else
 bif (decide (a_rel=(11:Int)))then some (decide (a_q.hi=a_p.lo))else
 bif (decide (a_rel=(12:Int)))then some (decide (a_q.hi<a_p.lo))else
 some false
instance gIs2_ok {a_rel : Int} {a_p : au} {a_q : au} {r : Bool} : OkC (fH a_rel a_p a_q = some r) (PTz 228 [.one (.int .i64 a_rel), .agg (aH a_p), .agg (aH a_q)] (.val (.one (.bool r)))) := .mk fun H => by
 unfold fH at H;refine po_ Tryz.func228 Tryz.ntmps228 ?_;rcases af H with⟨q_1,H⟩|⟨q_1,H⟩
 ·exact ax H
 rcases af H with⟨q_2,H⟩|⟨q_2,H⟩
 ·exact ax H
 refine aX ?_;rcases af H with⟨q_3,H⟩|⟨q_3,H⟩
 ·exact ax H
 rcases af H with⟨q_6,H⟩|⟨q_6,H⟩
 ·exact ax H
 rcases af H with⟨q_8,H⟩|⟨q_8,H⟩
 ·refine aX ?_
  exact ax H
 refine aX ?_;rcases af H with⟨q_10,H⟩|⟨q_10,H⟩
 ·exact ax H
 rcases af H with⟨q_12,H⟩|⟨q_12,H⟩
 ·exact ax H
 rcases af H with⟨q_13,H⟩|⟨q_13,H⟩
 ·refine aX ?_
  exact ax H
 refine aX ?_;rcases af H with⟨q_15,H⟩|⟨q_15,H⟩
 ·exact ax H
 rcases af H with⟨q_17,H⟩|⟨q_17,H⟩
 ·exact ax H
 rcases af H with⟨q_19,H⟩|⟨q_19,H⟩
 ·refine aX ?_
  exact ax H
 refine aX ?_;exact ax H
def uM (a_rel:Int)(a_p:au)(a_q:au):Option (Bool):=(dw a_p).bind fun r_1=>bif r_1 then(dw a_q).bind fun r_3=>bif r_3 then(fH a_rel a_p a_q).bind fun r_5=>some r_5 else
 some false else
 some false
instance gHolds2_ok {a_rel : Int} {a_p : au} {a_q : au} {r : Bool} : OkC (uM a_rel a_p a_q = some r) (PTz 208 [.one (.int .i64 a_rel), .agg (aH a_p), .agg (aH a_q)] (.val (.one (.bool r)))) := .mk fun H => by
 unfold uM at H;refine po_ Tryz.func208 Tryz.ntmps208 ?_;exact ax H
def mD (a_p:au)(a_q:au):(Int)->Option (Step (Int) (Int×Bool)):=fun s=>match s with
 |rel_1=>bif (decide (rel_1<(13:Int)))then(uM rel_1 a_p a_q).bind fun r_3=>bif r_3 then some (.ret (rel_1,true))else
 some (.next (i64.wrap (rel_1+(1:Int))))else
 some (.exit rel_1)
def adJ:Sum (Int) (Int×Bool)->Option ((Int×Bool))
 |.inl rel_1=>some ((0:Int),false)
 |.inr q=>some q
def IV (a_p:au)(a_q:au):Option (Int×Bool):=(ap (mD a_p a_q) fuel (0:Int)).bind (adJ)
instance gRel2_ok {a_p : au} {a_q : au} {r : Int × Bool} : OkC (IV a_p a_q = some r) (PTz 175 [.agg (aH a_p), .agg (aH a_q)] (.tup [.one (.int .i64 r.1), .one (.bool r.2)])) := .mk fun H => by
 unfold IV at H;refine po_ Tryz.func175 Tryz.ntmps175 ?_;refine aX ?_;refine alM_ (fun s:Int=>match s with|rel_1=>[(2,.one (.ptr 0 0)),(3,.one (.ptr 1 0)),(6,.one (.c (.int .i64 rel_1)))]) (fun s=>match s with|rel_1=>[.box [.c (.int .i64 a_p.lo),.c (.int .i64 a_p.hi)],.box [.c (.int .i64 a_q.lo),.c (.int .i64 a_q.hi)]]) H (fun _=>amR _)
  (fm_ bH [] rfl a8 bZ) ?_
 rintro rel_1 st1 hb1 hk1;unfold mD at hb1;dsimp only at hb1 ⊢;rcases af hb1 with⟨q_2,hb1⟩|⟨q_2,hb1⟩
 ·obtain⟨r_3,c1,hb1⟩:=bd_ hb1
  replace c1:=gHolds2_ok c1;rcases af hb1 with⟨q_4,hb1⟩|⟨q_4,hb1⟩
  ·exact cL hb1 hk1
  cases hb1;refine aX ?_;exact⟨_,rfl,fm_ bH [] rfl a8 bZ⟩
 exact cL hb1 hk1
def nf (a_rel:Int)(a_l:(List Val)):Option (Val):=(Hu a_l (1:Int)).bind fun r_1=>bif (!r_1)then(dn ).bind fun r_3=>some r_3 else
 (aq a_l (0:Int)).bind fun x_4=>(aq a_l (1:Int)).bind fun x_5=>(aq a_l (2:Int)).bind fun x_6=>(aq a_l (3:Int)).bind fun x_7=>(IV (⟨x_4.int,x_5.int⟩:au) (⟨x_6.int,x_7.int⟩:au)).bind fun r_8=>bif (!r_8.2)then(dn ).bind fun r_10=>some r_10 else
 (oE (decide (r_8.1=a_rel))).bind fun r_11=>some r_11
instance gRelatedR_ok {a_rel : Int} {a_l : (List Val)} {r : Val} : OkC (nf a_rel a_l = some r) (PTz 120 [.one (.int .i64 a_rel), .one (.lst (a_l.map cV))] (.val (.agg (cV r)))) := .mk fun H => by
 unfold nf at H;refine po_ Tryz.func120 Tryz.ntmps120 ?_;exact ax H
def pL (a_op:Int)(a_l:(List Val)):Option (Val):=(Hu a_l (2:Int)).bind fun r_1=>bif (!r_1)then(dn ).bind fun r_3=>some r_3 else
 bif (decide (a_op=(19:Int)))then(aq a_l (0:Int)).bind fun x_5=>(aq a_l (1:Int)).bind fun x_6=>bif (decide (x_5.text.size+x_6.text.size<=9223372036854775807))then((zh (x_5.text++x_6.text)).bind fun r_7=>some r_7)else none else
 (aq a_l (0:Int)).bind fun x_8=>(kS ((x_8.text.size:Nat):Int)).bind fun r_9=>some r_9
instance gTexts_ok {a_op : Int} {a_l : (List Val)} {r : Val} : OkC (pL a_op a_l = some r) (PTz 118 [.one (.int .i64 a_op), .one (.lst (a_l.map cV))] (.val (.agg (cV r)))) := .mk fun H => by
 unfold pL at H;refine po_ Tryz.func118 Tryz.ntmps118 ?_;exact ax H
def oq (a_l:(List Val)):(Int)->Option (Step (Int) (Val)):=fun s=>match s with
 |i_7=>bif (decide (i_7<((a_l.length:Nat):Int)))then(aq a_l i_7).bind fun x_9=>bif (decide (x_9.kind≠(0:Int)))then some (.ret x_9)else
 some (.next (i64.wrap (i_7+(1:Int))))else
 some (.exit i_7)
def so:Sum (Int) (Val)->Option ((Val))
 |.inl i_7=>(dn ).bind fun r_11=>some r_11
 |.inr q=>some q
def oU (a_op:Int)(a_l:(List Val)):Option (Val):=bif (decide (a_op=(22:Int)))then(aq a_l (0:Int)).bind fun x_2=>(eK x_2).bind fun r_3=>bif (decide (r_3=(2:Int)))then(aq a_l (1:Int)).bind fun x_5=>some x_5 else
 (aq a_l (2:Int)).bind fun x_6=>some x_6 else
 (ap (oq a_l) fuel (0:Int)).bind (so)
instance gChosen_ok {a_op : Int} {a_l : (List Val)} {r : Val} : OkC (oU a_op a_l = some r) (PTz 119 [.one (.int .i64 a_op), .one (.lst (a_l.map cV))] (.val (.agg (cV r)))) := .mk fun H => by
 unfold oU at H;refine po_ Tryz.func119 Tryz.ntmps119 ?_;rcases af H with⟨q_1,H⟩|⟨q_1,H⟩
 ·exact ax H
 refine aX ?_;refine alM_ (fun s:Int=>match s with|i_7=>[(1,.one (.c (.lst (a_l.map cV)))),(4,.one (.ptr 0 0)),(5,.one (.c (.int .i64 i_7)))]) (fun s=>match s with|i_7=>[.box [.c (.int .i64 (0:Int)),.c (.int .i64 (0:Int)),.c (.str ByteArray.empty)]]) H (fun _=>amR _)
  (fm_ bH [] rfl a8 bZ) ?_
 rintro i_7 st1 hb1 hk1;unfold oq at hb1;dsimp only at hb1 ⊢;rcases af hb1 with⟨q_8,hb1⟩|⟨q_8,hb1⟩
 ·obtain⟨x_9,i5z,i5,i5x,hb1⟩:=aY (f:=cV) hb1
  rcases af hb1 with⟨q_10,hb1⟩|⟨q_10,hb1⟩
  ·exact cL hb1 hk1
  cases hb1;refine aX ?_;exact⟨_,rfl,fm_ bH [] rfl a8 bZ⟩
 cases hb1;have hx1:so (.inl i_7)=some _:=hk1;unfold so at hx1;dsimp only at hx1;exact ax hx1
def wJ (a_e:Ex)(a_row:(List Val)):Option (Val):=bif (decide (a_e.op=(2:Int)))then(Gx a_row a_e.int).bind fun r_2=>(cH r_2).bind fun r_3=>bif (!r_3)then(dn ).bind fun r_5=>some r_5 else
 some r_2 else
 (cH a_e.v).bind fun r_6=>bif (!r_6)then(dn ).bind fun r_8=>some r_8 else
 some a_e.v
instance gLeaf_ok {a_e : Ex} {a_row : (List Val)} {r : Val} : OkC (wJ a_e a_row = some r) (PTz 111 [.agg (tE a_e), .one (.lst (a_row.map cV))] (.val (.agg (cV r)))) := .mk fun H => by
 unfold wJ at H;rw[aN a_e];refine po_ Tryz.func111 Tryz.ntmps111 ?_;exact ax H
theorem H5 (x y:List Val)(hx:x.length<=1000000)(hy:y.length<=1000000):ri x y []=some (decide (bQ x y<0)):=by
 unfold ri;rw[cm (l:=([]:List BN)) (mk:=fun(_:Unit) i=>i) (f:=fun(_:Unit) (_:BN)=>(none:Option (Sum Unit Bool))) ?_ ?_ (by unfold fuel;simp) ()]
 ·show sP x y (.inl ((([]:List BN).length:Nat):Int))=_
  unfold sP;rw[ef x y m0 m0];rfl
 ·intro s i x hx;simp at hx
 ·intro s
  unfold sV;dsimp only;rw[lF_,amx]
def leV (x y:List Val):Bool := !decide (bQ y x<0)
theorem jf (x y:List Val):leV x y=true↔bQ x y<=0:=by
 unfold leV;have:=tCr_.anti x y;have:=tCr_.anti y x;simp;omega
theorem n4 {a b:List (List Val)}(ha:a.length<=1000000)(hb:b.length<=1000000)(hra:∀ r∈a,r.length<=1000000)(hrb:∀ r∈b,r.length<=1000000):∀ (n i k:Nat) (out:List (List Val)),i<=a.length->k<=b.length->out.length=i+k->(a.length-i)+(b.length-k)<n->(ap (dB a b []) n (out,(i:Int),(k:Int))).bind zx=some (out++List.merge (a.drop i) (b.drop k) leV)
 |0,_,_,_,_,_,_,h=>by omega
 |n+1,i,k,out,h1,h2,ho,hn=>by
  have hg:decide (out.length+1<=5864062014805)=true:=amA m0;rw[ap];by_cases hlt:i<a.length
  ·obtain⟨x,hx⟩:=gol_ hlt
   have ex:=(amw.1 hx).2;have hne:decide ((i:Int)=((a.length:Nat):Int))=false:=amz m0;have ihA:=n4 ha hb hra hrb n (i+1) k (out++[x]) m0 m0 m8 m0;by_cases hlb:k<b.length
   ·obtain⟨y,hy⟩:=gol_ hlb
    have ey:=(amw.1 hy).2;have ihB:=n4 ha hb hra hrb n i (k+1) (out++[y]) m0 m0 m8 m0;have eb:dB a b [] (out,(i:Int),(k:Int))=bif decide (bQ y x<0)then some (.next (out++[y],(i:Int),((k+1:Nat):Int)))else some (.next (out++[x],((i+1:Nat):Int),(k:Int))):=by
     unfold dB;dsimp only;rw[aC hx,amy,hne,amx,aC hy,amy,gn_ hy,gn_ hx];simp only[amv];rw[H5 y x (hrb y (amC hy)) (hra x (amC hx)),wrapN m0,wrapN m0,hg];rfl
    rw[eb,am2 hlt,am2 hlb,ex,ey,List.cons_merge_cons];rw[am2 hlb,ey]at ihA;rw[am2 hlt,ex]at ihB;by_cases hc:bQ y x<0
    ·rw[show decide (bQ y x<0)=true from amA hc,amy,if_neg (by unfold leV;simp[hc])]
     dsimp only;rw[ihB];simp
    ·rw[show decide (bQ y x<0)=false from amz hc,amx,if_pos (by unfold leV;simp[hc])]
     dsimp only;rw[ihA];simp
   ·have hk:k=b.length:=m0
    have eb:dB a b [] (out,(i:Int),(k:Int))=some (.next (out++[x],((i+1:Nat):Int),(k:Int))):=by
     unfold dB;dsimp only;rw[aC hx,amy,hne,amx,hk,lF_,amx,gn_ hx];simp only[amv];rw[wrapN m0,hg];rfl
    rw[eb];dsimp only;rw[ihA,am2 hlt,ex,hk,anq,List.merge_right,List.merge_right];simp
  ·have hi:i=a.length:=m0
   subst hi;by_cases hlb:k<b.length
   ·obtain⟨y,hy⟩:=gol_ hlb
    have ey:=(amw.1 hy).2;have ihB:=n4 ha hb hra hrb n a.length (k+1) (out++[y]) m0 m0 m8 m0;have eb:dB a b [] (out,((a.length:Nat):Int),(k:Int))=some (.next (out++[y],((a.length:Nat):Int),((k+1:Nat):Int))):=by
     unfold dB;dsimp only;rw[lF_,amx,aC hy,amy,show decide (((a.length:Nat):Int)=((a.length:Nat):Int))=true from amA rfl,amy,gn_ hy];simp only[amv];rw[wrapN m0,hg];rfl
    rw[eb];dsimp only;rw[ihB,am2 hlb,ey,anq,List.nil_merge,List.nil_merge];simp
   ·have hk:k=b.length:=m0
    subst hk;have eb:dB a b [] (out,((a.length:Nat):Int),((b.length:Nat):Int))=some (.exit (out,((a.length:Nat):Int),((b.length:Nat):Int))):=by
     unfold dB;dsimp only;rw[lF_,amx,lF_,amx]
    rw[eb,anq,anq,List.nil_merge,am5];rfl
theorem KV {a b:List (List Val)}(ha:a.length<=1000000)(hb:b.length<=1000000)(hra:∀ r∈a,r.length<=1000000)(hrb:∀ r∈b,r.length<=1000000):tO a b []=some (List.merge a b leV):=by
 unfold tO;have:=n4 ha hb hra hrb fuel 0 0 [] (amR _) (amR _) rfl (by unfold fuel;omega);rw[show(((0:Nat):Int))=0 from rfl]at this;rw[this];simp
theorem ab1 {a b:List (List Val)}(ha:Asc bQ a)(hb:Asc bQ b):Asc bQ (List.merge a b leV):=by
 have:=List.pairwise_merge (le:=leV) (fun x y z h1 h2=>(jf x z).2 (tCr_.le_trans ((jf x y).1 h1) ((jf y z).1 h2))) (fun x y=>by
  rw[Bool.or_eq_true,jf,jf];exact tCr_.total x y) a b (ha.imp fun h=>(jf _ _).2 h) (hb.imp fun h=>(jf _ _).2 h)
 exact this.imp fun h=>(jf _ _).1 h
theorem acj:∀ (n:Nat) (l:List (List Val)),l.length<=n->l.length<=1000000->(∀ r∈l,r.length<=1000000) ->∃ r,wb (n+1) l []=some r/\Asc bQ r/\r.Perm l:=by
 intro n
 induction n with
 |zero =>
  intro l h _ _;have:l=[]:=by cases l with|nil=>rfl|cons _ _=>simp at h
  subst this;exact⟨[],rfl,List.Pairwise.nil,List.Perm.refl _⟩
 |succ n ih =>
  intro l h hl hr
  match l,h,hl,hr with
  |[],_,_,_=>exact⟨[],rfl,List.Pairwise.nil,List.Perm.refl _⟩
  |[x],_,_,hr =>
   have hx:=hr x m5;refine⟨[x],?_,by simp[Asc],List.Perm.refl _⟩;show oI (wb (n+1)) [x] []=_;unfold oI;simp only[amS,am1];rw[show aq [x] 0=some x from rfl];simp only[amv];rw[show decide (x.length<=4398046511104)=true from amA m0];rfl
  |x::y::t,h,hl,hr =>
   generalize hL:x::y::t=l at h hl hr;have h2:2<=l.length:=by rw[<- hL];simp
   have hm:i64.wrap (((l.length:Nat):Int).tdiv (2:Int))=((l.length/2:Nat):Int):=by
    rw[show((l.length:Nat):Int).tdiv 2=((l.length/2:Nat):Int)from rfl];exact aS m0 m0
   have s1:fM l 0 ((l.length/2:Nat):Int)=some (l.take (l.length/2)):=by
    unfold fM;rw[if_pos m0,Int.toNat_natCast];rfl
   have s2:fM l ((l.length/2:Nat):Int) ((l.length:Nat):Int)=some (l.drop (l.length/2)):=by
    unfold fM;rw[if_pos m0,Int.toNat_natCast,Int.toNat_natCast,List.take_length]
   obtain⟨r1,e1,a1,p1⟩:=ih (l.take (l.length/2)) m8 m8 fun r hr'=>hr r (ant hr')
   obtain⟨r2,e2,a2,p2⟩:=ih (l.drop (l.length/2)) m8 m8 fun r hr'=>hr r (List.mem_of_mem_drop hr')
   refine⟨List.merge r1 r2 leV,?_,ab1 a1 a2,?_⟩
   ·show oI (wb (n+1)) l []=_
    unfold oI;rw[show decide (((l.length:Nat):Int)=0)=false from amz m0,amx,show decide (((l.length:Nat):Int)=1)=false from amz m0,amx,show decide ((2:Int)≠0)=true from rfl,amy,hm,s1,s2];simp only[amv];rw[e1,e2];simp only[amv];rw[KV (by rw[p1.length_eq];simp;omega) (by rw[p2.length_eq];simp;omega) (fun r hr'=>hr r (ant (p1.mem_iff.1 hr'))) (fun r hr'=>hr r (List.mem_of_mem_drop (p2.mem_iff.1 hr')))];rfl
   ·refine(List.merge_perm_append leV).trans ((p1.append p2).trans ?_)
    rw[ang]
theorem Ew (l:List (List Val))(hl:l.length<=300)(hr:∀ r∈l,r.length<=1000000):uZ l=some (D_ l):=by
 obtain⟨r,e,a,p⟩:=acj 300 l hl m0 hr;unfold uZ;rw[e,F_ a p];rfl
theorem r_ {s:ByteArray}(hs:s.size<=1000000):∀ (n i:Nat),i<=s.size->s.size-i<n ->∃ r,(ap (iu s) n (i:Int)).bind da=some r
 |0,_,_,h=>by omega
 |n+1,i,h1,hn=>by
  rw[ap];unfold iu;dsimp only;by_cases hlt:i<s.size
  ·rw[show decide ((i:Int)<((s.size:Nat):Int))=true from amA m0,amy]
   obtain⟨b,hb⟩:∃ b,xp s (i:Int)=some b:=by
    unfold xp;rw[if_pos m0];exact⟨s[i],by simp[hlt]⟩
   rw[hb];simp only[amv]
   cases decide (((b.toNat:Nat):Int)<32)with
   |true=>exact⟨_,rfl⟩
   |false =>
    cases decide ((126:Int)<((b.toNat:Nat):Int))with
    |true=>exact⟨_,rfl⟩
    |false =>
     simp only[amx];rw[wrapN m0];exact r_ hs n (i+1) m0 m0
  ·rw[show decide ((i:Int)<((s.size:Nat):Int))=false from amz m0,amx]
   exact⟨_,rfl⟩
theorem Cc {s:ByteArray}(hs:s.size<=1000000):∃ r,jJ s=some r:=by
 have:=r_ hs fuel 0 (amR _) (by unfold fuel;omega);rw[show(((0:Nat):Int))=0 from rfl]at this;exact this
theorem zp (v:Val):∃ r,cH v=some r:=by
 unfold cH
 cases decide (v.kind=0)with
 |true=>cases decide (v.int=0)<;>exact⟨_,rfl⟩
 |false =>
  cases decide (v.kind=1)with
  |true=>cases (v.text.toList==(⟨#[]⟩:ByteArray).toList)<;>cases decide ((-1125899906842624:Int)<=v.int)<;>exact⟨_,rfl⟩
  |false =>
   cases decide (v.kind=2)with
   |true =>
    cases decide (v.int=0)with
    |false=>exact⟨_,rfl⟩
    |true =>
     by_cases h:((v.text.size:Nat):Int)<=200
     ·obtain⟨r,hr⟩:=Cc (s:=v.text) m0
      rw[show decide (((v.text.size:Nat):Int)<=200)=true from amA h,hr];exact⟨_,rfl⟩
     ·rw[show decide (((v.text.size:Nat):Int)<=200)=false from amz h]
      exact⟨_,rfl⟩
   |false =>
    cases decide (v.kind=3)with
    |true=>cases (v.text.toList==(⟨#[]⟩:ByteArray).toList)<;>cases decide (v.int=0)<;>exact⟨_,rfl⟩
    |false=>exact⟨_,rfl⟩
theorem abw (row:List Val)(kinds:List Int)(h:row.length<=1000000):∃ r,qB row kinds=some r:=by
 unfold qB;by_cases he:row.length=kinds.length
 ·rw[show decide (((row.length:Nat):Int)≠((kinds.length:Nat):Int))=false from amz m0,amx]
  have hz:(row.zip kinds).length=row.length:=by simp;omega
  have k:=cm (l:=row.zip kinds) (body:=fj row kinds) (mk:=fun(_:Unit) i=>i) (f:=fun(_:Unit) (x:Val×Int)=>(cH x.1).bind fun r=>bif (!r)then some (.inr false)else bif decide (x.1.kind≠0)then bif decide (x.1.kind≠x.2)then some (.inr false)else some (.inl ())else some (.inl ())) ?_ ?_ (by unfold fuel;omega) ()
  ·obtain⟨r,hr⟩:=E8 (σ:=Unit) (ρ:=Bool) (f:=fun(_:Unit) (x:Val×Int)=>(cH x.1).bind fun r=>bif (!r)then some (.inr false)else bif decide (x.1.kind≠0)then bif decide (x.1.kind≠x.2)then some (.inr false)else some (.inl ())else some (.inl ())) (row.zip kinds) () (by
    intro s x _;obtain⟨r,hr⟩:=zp x.1;rw[hr]
    cases r<;>cases decide (x.1.kind≠0)<;>cases decide (x.1.kind≠x.2)<;>exact⟨_,rfl⟩)
   rw[k,hr]
   cases r with
   |inl _=>exact⟨_,rfl⟩
   |inr _=>exact⟨_,rfl⟩
  ·intro s i x hx
   obtain⟨h1,h2⟩:=List.getElem?_zip_eq_some.1 hx;have hi:i<row.length:=(amw.1 h1).1;unfold fj;dsimp only;rw[aC h1,amy,gn_ h1,gn_ h2];simp only[amv];rw[wrapN m0]
   cases cH x.1 with
   |none=>rfl
   |some r=>cases r<;>cases decide (x.1.kind≠0)<;>cases decide (x.1.kind≠x.2)<;>rfl
  ·intro s
   unfold fj;dsimp only;rw[hz,lF_,amx]
 ·rw[show decide (((row.length:Nat):Int)≠((kinds.length:Nat):Int))=true from amA m0]
  exact⟨_,rfl⟩
theorem adF (k:Int):∃ r,wY k=some r:=by
 unfold wY
 cases decide (k=1)<;>cases decide (k=2)<;>exact⟨_,rfl⟩
theorem abb (l:List Int)(h:l.length<=1000000):∃ r,yP l=some r:=by
 unfold yP;have k:=cm (l:=l) (body:=l7 l) (mk:=fun(_:Unit) i=>i) (f:=fun(_:Unit) (x:Int)=>(wY x).bind fun r=>bif (!r)then some (.inr false)else some (.inl ())) ?_ ?_ (by unfold fuel;omega) ()
 ·obtain⟨r,hr⟩:=E8 (σ:=Unit) (ρ:=Bool) (f:=fun(_:Unit) (x:Int)=>(wY x).bind fun r=>bif (!r)then some (.inr false)else some (.inl ())) l () (by
   intro s x _;obtain⟨r,hr⟩:=adF x;rw[hr]
   cases r<;>exact⟨_,rfl⟩)
  rw[k,hr]
  cases r with
  |inl _=>exact⟨_,rfl⟩
  |inr _=>exact⟨_,rfl⟩
 ·intro s i x hx
  have hi:i<l.length:=(amw.1 hx).1;unfold l7;dsimp only;rw[aC hx,amy,gn_ hx];simp only[amv];rw[wrapN m0]
  cases wY x with
  |none=>rfl
  |some r=>cases r<;>rfl
 ·intro s
  unfold l7;dsimp only;rw[lF_,amx]
def KF (l:List aw):Prop:=l.Pairwise fun a b=>bQ a.row b.row<=0
def leF (x y:aw):Bool:=leV x.row y.row
theorem ld (x y:aw):leF x y=true↔bQ x.row y.row<=0:=jf x.row y.row
theorem jm {a b:List aw}(ha:a.length<=1000000)(hb:b.length<=1000000)(hra:∀ r∈a,r.row.length<=1000000)(hrb:∀ r∈b,r.row.length<=1000000):∀ (n i k:Nat) (out:List aw),i<=a.length->k<=b.length->out.length=i+k->(a.length-i)+(b.length-k)<n->(ap (cA a b) n (out,(i:Int),(k:Int))).bind tw=some (out++List.merge (a.drop i) (b.drop k) leF)
 |0,_,_,_,_,_,_,h=>by omega
 |n+1,i,k,out,h1,h2,ho,hn=>by
  have hg:decide (out.length+1<=3518437208883)=true:=amA m0;rw[ap];by_cases hlt:i<a.length
  ·obtain⟨x,hx⟩:=gol_ hlt
   have ex:=(amw.1 hx).2;have hne:decide ((i:Int)=((a.length:Nat):Int))=false:=amz m0;have ihA:=jm ha hb hra hrb n (i+1) k (out++[x]) m0 m0 m8 m0;by_cases hlb:k<b.length
   ·obtain⟨y,hy⟩:=gol_ hlb
    have ey:=(amw.1 hy).2;have ihB:=jm ha hb hra hrb n i (k+1) (out++[y]) m0 m0 m8 m0;have eb:cA a b (out,(i:Int),(k:Int))=bif decide (bQ y.row x.row<0)then some (.next (out++[y],(i:Int),((k+1:Nat):Int)))else some (.next (out++[x],((i+1:Nat):Int),(k:Int))):=by
     unfold cA;dsimp only;rw[aC hx,amy,hne,amx,aC hy,amy,gn_ hy,gn_ hx];simp only[amv];rw[ef y.row x.row (by have:=hrb y (amC hy);omega) (by have:=hra x (amC hx);omega),wrapN m0,wrapN m0,hg];rfl
    rw[eb,am2 hlt,am2 hlb,ex,ey,List.cons_merge_cons];rw[am2 hlb,ey]at ihA;rw[am2 hlt,ex]at ihB;by_cases hc:bQ y.row x.row<0
    ·rw[show decide (bQ y.row x.row<0)=true from amA hc,amy,if_neg (by unfold leF leV;simp[hc])]
     dsimp only;rw[ihB];simp
    ·rw[show decide (bQ y.row x.row<0)=false from amz hc,amx,if_pos (by unfold leF leV;simp[hc])]
     dsimp only;rw[ihA];simp
   ·have hk:k=b.length:=m0
    have eb:cA a b (out,(i:Int),(k:Int))=some (.next (out++[x],((i+1:Nat):Int),(k:Int))):=by
     unfold cA;dsimp only;rw[aC hx,amy,hne,amx,hk,lF_,amx,gn_ hx];simp only[amv];rw[wrapN m0,hg];rfl
    rw[eb];dsimp only;rw[ihA,am2 hlt,ex,hk,anq,List.merge_right,List.merge_right];simp
  ·have hi:i=a.length:=m0
   subst hi;by_cases hlb:k<b.length
   ·obtain⟨y,hy⟩:=gol_ hlb
    have ey:=(amw.1 hy).2;have ihB:=jm ha hb hra hrb n a.length (k+1) (out++[y]) m0 m0 m8 m0;have eb:cA a b (out,((a.length:Nat):Int),(k:Int))=some (.next (out++[y],((a.length:Nat):Int),((k+1:Nat):Int))):=by
     unfold cA;dsimp only;rw[lF_,amx,aC hy,amy,show decide (((a.length:Nat):Int)=((a.length:Nat):Int))=true from amA rfl,amy,gn_ hy];simp only[amv];rw[wrapN m0,hg];rfl
    rw[eb];dsimp only;rw[ihB,am2 hlb,ey,anq,List.nil_merge,List.nil_merge];simp
   ·have hk:k=b.length:=m0
    subst hk;have eb:cA a b (out,((a.length:Nat):Int),((b.length:Nat):Int))=some (.exit (out,((a.length:Nat):Int),((b.length:Nat):Int))):=by
     unfold cA;dsimp only;rw[lF_,amx,lF_,amx]
    rw[eb,anq,anq,List.nil_merge,am5];rfl
theorem FP {a b:List aw}(ha:a.length<=1000000)(hb:b.length<=1000000)(hra:∀ r∈a,r.row.length<=1000000)(hrb:∀ r∈b,r.row.length<=1000000):mM a b=some (List.merge a b leF):=by
 unfold mM;have:=jm ha hb hra hrb fuel 0 0 [] (amR _) (amR _) rfl (by unfold fuel;omega);rw[show(((0:Nat):Int))=0 from rfl]at this;rw[this];simp
theorem Nc {a b:List aw}(ha:KF a)(hb:KF b):KF (List.merge a b leF):=by
 have:=List.pairwise_merge (le:=leF) (fun x y z h1 h2=>(ld x z).2 (rP _ _ _ ((ld x y).1 h1) ((ld y z).1 h2))) (fun x y=>by
  rw[Bool.or_eq_true,ld,ld];exact tCr_.total x.row y.row) a b (ha.imp fun h=>(ld _ _).2 h) (hb.imp fun h=>(ld _ _).2 h)
 exact this.imp fun h=>(ld _ _).1 h
theorem wZ:∀ (n:Nat) (l:List aw),l.length<=n->l.length<=1000000->(∀ r∈l,r.row.length<=1000000) ->∃ r,pP (n+1) l=some r/\KF r/\r.Perm l:=by
 intro n
 induction n with
 |zero =>
  intro l h _ _;have:l=[]:=by cases l with|nil=>rfl|cons _ _=>simp at h
  subst this;exact⟨[],rfl,List.Pairwise.nil,List.Perm.refl _⟩
 |succ n ih =>
  intro l h hl hr
  match l,h,hl,hr with
  |[],_,_,_=>exact⟨[],rfl,List.Pairwise.nil,List.Perm.refl _⟩
  |[x],_,_,hr=>exact⟨[x],rfl,by simp[KF],List.Perm.refl _⟩
  |x::y::t,h,hl,hr =>
   generalize hL:x::y::t=l at h hl hr;have h2:2<=l.length:=by rw[<- hL];simp
   have hm:i64.wrap (((l.length:Nat):Int).tdiv (2:Int))=((l.length/2:Nat):Int):=by
    rw[show((l.length:Nat):Int).tdiv 2=((l.length/2:Nat):Int)from rfl];exact aS m0 m0
   have s1:fM l 0 ((l.length/2:Nat):Int)=some (l.take (l.length/2)):=by
    unfold fM;rw[if_pos m0,Int.toNat_natCast];rfl
   have s2:fM l ((l.length/2:Nat):Int) ((l.length:Nat):Int)=some (l.drop (l.length/2)):=by
    unfold fM;rw[if_pos m0,Int.toNat_natCast,Int.toNat_natCast,List.take_length]
   obtain⟨r1,e1,a1,p1⟩:=ih (l.take (l.length/2)) m8 m8 fun r hr'=>hr r (ant hr')
   obtain⟨r2,e2,a2,p2⟩:=ih (l.drop (l.length/2)) m8 m8 fun r hr'=>hr r (List.mem_of_mem_drop hr')
   refine⟨List.merge r1 r2 leF,?_,Nc a1 a2,?_⟩
   ·show mf (pP (n+1)) l=_
    unfold mf;rw[show decide (((l.length:Nat):Int)<2)=false from amz m0,amx,show decide ((2:Int)≠0)=true from rfl,amy,hm,s1];simp only[amv];rw[e1,amv,s2,amv,e2,amv];rw[FP (by rw[p1.length_eq];simp;omega) (by rw[p2.length_eq];simp;omega) (fun r hr'=>hr r (ant (p1.mem_iff.1 hr'))) (fun r hr'=>hr r (List.mem_of_mem_drop (p2.mem_iff.1 hr')))];rfl
   ·refine(List.merge_perm_append leF).trans ((p1.append p2).trans ?_)
    rw[ang]
theorem gY (p:au):dw p=some (az p):=by
 unfold dw az
 cases h1:decide (0<=p.lo)<;>cases h2:decide (p.lo<p.hi)<;>cases h3:decide (p.hi<=1099511627776)<;>simp_all
theorem G4 (x:List Val)(h:x.length<=1000000):fw x x=some true:=by
 unfold fw;rw[ef x x m0 m0,amv,tCr_.refl];rfl
theorem yI (r:List Val)(hr:r.length<=1000000)(k:Nat)(hk:k<=300):dT (replicate k r)=some (if k=0 then []else [r]):=by
 unfold dT;have hp:=si (replicate k r);have hs:D_ (replicate k r)=replicate k r:=by
  refine List.eq_replicate_iff.2 ⟨by rw[hp.length_eq];simp,fun b hb=>?_⟩;exact(List.mem_replicate.1 (hp.mem_iff.1 hb)).2
 rw[Ew _ (by simpa using hk) (fun x hx=>by rw[(List.mem_replicate.1 hx).2];exact hr),amv,hs];have hlen:(replicate k r).length=k:=by simp
 have get:∀ i,i<k->(replicate k r)[i]?=some r:=fun i hi=>by rw[List.getElem?_replicate];simp[hi]
 have loop:∀ (n i:Nat),1<=i->i<=k->k-i<n->ap (aQ (replicate k r)) n ([r],(i:Int))=some (.inl ([r],(k:Int))):=by
  intro n
  induction n with
  |zero=>intro i _ _ h;omega
  |succ n ih =>
   intro i h1 h2 hn;rw[ap];by_cases hlt:i<k
   ·have hx:=get i hlt
    have e:aQ (replicate k r) ([r],(i:Int))=some (.next ([r],((i+1:Nat):Int))):=by
     unfold aQ;dsimp only;rw[aC hx,amy,show decide ((i:Int)=0)=false from amz m0,amx,show i64.wrap ((i:Int)-1)=((i-1:Nat):Int)from aS m0 m0,gn_ (get (i-1) m0),gn_ hx];simp only[amv];rw[G4 r hr];simp only[amv,Bool.not_true,amx];rw[wrapN m0]
    rw[e];exact ih (i+1) m0 m0 m0
   ·have:i=k:=m0
    subst this;have e:aQ (replicate i r) ([r],(i:Int))=some (.exit ([r],(i:Int))):=by
     unfold aQ;dsimp only;rw[show decide ((i:Int)<(((replicate i r).length:Nat):Int))=false from amz m5,amx]
    rw[e]
 by_cases h0:k=0
 ·subst h0
  rw[if_pos rfl];have e:aQ (replicate 0 r) ([],0)=some (.exit ([],0)):=by
   unfold aQ;rfl
  show(ap (aQ (replicate 0 r)) (4611686018427387903+1) ([],0)).bind lR=_;rw[ap,e];rfl
 ·rw[if_neg h0]
  have hx:=get 0 m0;have e:aQ (replicate k r) ([],0)=some (.next ([r],((1:Nat):Int))):=by
   have hg:=gn_ hx;unfold aQ;dsimp only;rw[show decide ((0:Int)<(((replicate k r).length:Nat):Int))=true from amA m8,amy,show decide ((0:Int)=0)=true from rfl,amy];rw[show aq (replicate k r) 0=some r from hg];rfl
  show(ap (aQ (replicate k r)) (4611686018427387903+1) ([],0)).bind lR=_;rw[ap,e];dsimp only;rw[loop 4611686018427387903 1 m0 m0 m0];rfl
theorem JB (s:List aw)(r:List Val)(hr:r.length<=1000000)(hs:∀ f∈s,f.row=r)(hn:s.length<=300):kW s=some (if s.any fun f=>az f.valid then [r]else []):=by
 unfold kW;have hfm:∀ l:List aw,(∀ f∈l,f.row=r)->(l.flatMap fun f=>if az f.valid then [f.row]else [])=replicate (l.countP fun f=>az f.valid) r:=by
  intro l
  induction l with
  |nil=>intro _;rfl
  |cons f l ih =>
   intro h;rw[am8,ih fun x hx=>h x (amU _ hx),List.countP_cons,h f m5];by_cases hv:az f.valid=true
   ·rw[if_pos hv,if_pos hv,List.replicate_succ];rfl
   ·rw[if_neg hv,if_neg hv];rfl
 have hc:s.countP (fun f=>az f.valid)<=s.length:=List.countP_le_length;rw[bA (l:=s) (fun f=>if az f.valid then [f.row]else []) 5864062014805 ?_ ?_ (by unfold fuel;omega) [] (by rw[hfm s hs];simp;omega)]
 ·rw[amv,hfm s hs,amB]
  show(dT _).bind _=_;rw[yI r hr _ m0,amv];by_cases ha:(s.any fun f=>az f.valid)=true
  ·rw[if_pos ha,if_neg]
   intro e;obtain⟨f,hf,hv⟩:=List.any_eq_true.1 ha;have:=(List.countP_pos_iff (p:=fun f:aw=>az f.valid)).2 ⟨f,hf,hv⟩;omega
  ·rw[if_neg ha,if_pos]
   rw[List.countP_eq_zero];intro f hf hv;exact ha (List.any_eq_true.2 ⟨f,hf,hv⟩)
 ·intro o i x hx ho
  have hi:=(amw.1 hx).1;unfold jT;dsimp only;rw[aC hx,amy,gn_ hx];simp only[amv];rw[gY,amv];by_cases hv:az x.valid=true
  ·rw[if_pos hv]at ho ⊢
   rw[hv,amy,show decide (o.length+1<=5864062014805)=true from amA (by simpa using ho),amy,wrapN m0]
  ·rw[if_neg hv]
   rw[Bool.not_eq_true]at hv;rw[hv,amx,wrapN m0,am5]
 ·intro o
  unfold jT;dsimp only;rw[lF_,amx]
def bX (l:List aw)(r:List Val):List au:=(l.filter fun f=>decide (f.row=r)).map (·.valid)
theorem GH (s:List aw)(r:List Val)(hr:r.length<=1000000)(hs:∀ f∈s,f.row.length<=1000000)(hn:s.length<=1000):mK s r=some (ip (ones (bX s r))):=by
 unfold mK;have hfm:∀ l:List aw,(l.flatMap fun f=>if f.row=r then [(⟨f.valid,1⟩:ji)]else [])=ones (bX l r):=by
  intro l
  induction l with
  |nil=>rfl
  |cons f l ih =>
   rw[am8,ih];unfold bX ones;by_cases e:f.row=r
   ·rw[if_pos e,List.filter_cons_of_pos (by simpa using e)];rfl
   ·rw[if_neg e,List.filter_cons_of_neg (by simpa using e)];rfl
 have hl:(bX s r).length<=s.length:=by unfold bX;rw[amI];exact List.length_filter_le _ _
 have hl2:(ones (bX s r)).length=(bX s r).length:=by unfold ones;simp
 rw[bA (l:=s) (fun f=>if f.row=r then [(⟨f.valid,1⟩:ji)]else []) 5864062014805 ?_ ?_ (by unfold fuel;omega) [] (by rw[hfm];simp;omega)]
 ·rw[amv,hfm,amB]
  show(IM _).bind _=_;unfold IM;rw[show decide ((ones (bX s r)).length<=100000)=true from amA m0];rfl
 ·intro o i x hx ho
  have hi:=(amw.1 hx).1;unfold jl;dsimp only;rw[aC hx,amy,gn_ hx];simp only[amv];rw[ef x.row r (by have:=hs x (amC hx);omega) m0,amv];by_cases e:x.row=r
  ·rw[if_pos e]at ho ⊢
   rw[show decide (bQ x.row r=0)=true from amA (by rw[e];exact tCr_.refl r),amy,show decide (o.length+1<=5864062014805)=true from amA (by simpa using ho),amy,wrapN m0]
  ·rw[if_neg e,show decide (bQ x.row r=0)=false from amz fun q=>e (tCr_.zero _ _ q),amx,wrapN m0,am5]
 ·intro o
  unfold jl;dsimp only;rw[lF_,amx]
theorem yi (r:List Val)(ps:List au)(hn:ps.length<=1000000):ry r ps=some (ps.map fun p=>⟨r,p⟩):=by
 unfold ry;rw[bA (l:=ps) (fun p=>[(⟨r,p⟩:aw)]) 3518437208883 ?_ ?_ (by unfold fuel;omega) [] (by rw[fo_];simp;omega)]
 ·rw[amv,fo_,amB];rfl
 ·intro o i x hx ho
  have hi:=(amw.1 hx).1;unfold sd;dsimp only;rw[aC hx,amy,gn_ hx];simp only[amv];rw[show decide (o.length+1<=3518437208883)=true from amA (by simpa using ho),amy,wrapN m0]
 ·intro o
  unfold sd;dsimp only;rw[lF_,amx]
