/- Parts. No condition. -/
import Derived.Test.YtlcceppoloaecaaGreatDoorXAH
set_option maxHeartbeats 8000000
set_option maxRecDepth 100000
set_option linter.unusedSimpArgs false
set_option linter.unusedVariables false
namespace Go.Proofs.YtlcceppoloaecaaGreatDoor
open Go.RowKit Go.MapKept
def tm (Xu:(List Val)):(Int×Int)->Option (Step (Int×Int) (Val)):=fun s=>match s with
 |(V4,Vx)=>bif (decide (Vx<((Xu.length:Nat):Int)))then(aF Xu Vx).bind fun RY=>(jL RY).bind fun P7=>(acw V4 P7).bind fun Qc=>some (.next (Qc,(IntKind.i64.wrap (Vx+(1:Int)))))else
 some (.exit (V4,Vx))
def yE:Sum (Int×Int) (Val)->Option ((Val))
 |.inl (V4,Vx)=>(xt V4).bind fun QO=>some QO
 |.inr q=>some q
def tL (TO:(List Val)):(Int×Int)->Option (Step (Int×Int) (Val)):=fun s=>match s with
 |(SQ,Sl)=>bif (decide (Sl<((TO.length:Nat):Int)))then(aF TO Sl).bind fun S8=>(jL S8).bind fun QY=>(EY SQ QY).bind fun QZ=>some (.next (QZ,(IntKind.i64.wrap (Sl+(1:Int)))))else
 some (.exit (SQ,Sl))
def yu:Sum (Int×Int) (Val)->Option ((Val))
 |.inl (SQ,Sl)=>(xt SQ).bind fun Ve=>some Ve
 |.inr q=>some q
def mo (Pe:Int)(a_l:(List Val)):Option (Val):=(aF a_l (0:Int)).bind fun x_1=>(jL x_1).bind fun QN=>bif (decide (Pe=(4:Int)))then(Gp QN).bind fun RN=>(xt RN).bind fun QR=>some QR else
 bif (decide (Pe=(5:Int)))then(gq a_l (1:Int) ((a_l.length:Nat):Int)).bind fun Xu=>(ao (tm Xu) fuel (QN,(0:Int))).bind (yE)else
 (gq a_l (1:Int) ((a_l.length:Nat):Int)).bind fun TO=>(ao (tL TO) fuel (QN,(0:Int))).bind (yu)
instance gLogic_ok {Pe : Int} {a_l : (List Val)} {r : Val} : OkC (mo Pe a_l = some r) (PTz 113 [.one (.int .i64 Pe), .one (.lst (a_l.map cV))] (.val (.agg (cV r)))) := .mk fun H => by
 unfold mo at H;refine po_ Tryz.func113 Tryz.ntmps113 ?_;obtain⟨x_1,SN,i1,RL,H⟩:=bu (f:=cV) H;obtain⟨QN,c2,H⟩:=bd_ H;replace c2:=gTruthV_ok c2;rcases aj H with⟨QH,H⟩|⟨QH,H⟩
 ·exact az H
 rcases aj H with⟨RF,H⟩|⟨RF,H⟩
 ·obtain⟨Xu,u5,H⟩:=bd_ H
  obtain⟨⟨u5a,u5b,u5c⟩,u5⟩:=cX u5;have u5x:=wS (f:=cV) u5
  repeat' (first|refine gs_ ?_|rw[u5x]|rw[show((0:Nat):Int)=0 from rfl])
  refine alM_ (fun s:Int×Int=>match s with|(V4,Vx)=>[(4,.one (.ptr 0 0)),(5,.one (.c (.int .i64 V4))),(35,.one (.c (.lst (Xu.map cV)))),(36,.one (.c (.int .i64 ((Xu.length:Nat):Int)))),(37,.one (.c (.int .i64 Vx)))]) (fun s=>match s with|(V4,Vx)=>[.box [.c (.int .i64 (0:Int)),.c (.int .i64 (0:Int)),.c (.str ByteArray.empty)]]) H (fun _=>aru _)
   (fm_ bG [] rfl a8 cm) ?_
  rintro⟨V4,Vx⟩ st1 OU PM;unfold tm at OU;dsimp only at OU ⊢
  repeat' (first|refine gs_ ?_|rw[u5x]|rw[show((0:Nat):Int)=0 from rfl])
  rcases aj OU with⟨Ql,OU⟩|⟨Ql,OU⟩
  ·obtain⟨RY,i6z,i6,i6x,OU⟩:=bu (f:=cV) OU
   obtain⟨P7,c7,OU⟩:=bd_ OU;replace c7:=gTruthV_ok c7;obtain⟨Qc,c8,OU⟩:=bd_ OU;replace c8:=gAnd_ok c8
   cases OU
   repeat' (first|refine gs_ ?_|rw[u5x]|rw[show((0:Nat):Int)=0 from rfl])
   exact⟨_,rfl,fm_ bG [_] rfl a8 cm⟩
  cases OU;have O0:yE (.inl (V4,Vx))=some _:=PM;unfold yE at O0;dsimp only at O0;obtain⟨QO,c9,O0⟩:=bd_ O0;replace c9:=gOfV2_ok c9
  cases O0
  repeat' (first|refine gs_ ?_|rw[u5x]|rw[show((0:Nat):Int)=0 from rfl])
  refine a6 (bj rfl ?_ ?_)
  ·repeat' (first|exact t7|rfl|exact arh rfl|omega|apply And.intro)
  ·first|rfl|(simp only[ark,ari,arn,ara]<;>rfl)
 obtain⟨TO,u10,H⟩:=bd_ H;obtain⟨⟨u10a,u10b,u10c⟩,u10⟩:=cX u10;have V5:=wS (f:=cV) u10
 repeat' (first|refine gs_ ?_|rw[V5]|rw[show((0:Nat):Int)=0 from rfl])
 refine alM_ (fun s:Int×Int=>match s with|(SQ,Sl)=>[(4,.one (.ptr 0 0)),(5,.one (.c (.int .i64 SQ))),(16,.one (.c (.lst (TO.map cV)))),(17,.one (.c (.int .i64 ((TO.length:Nat):Int)))),(18,.one (.c (.int .i64 Sl)))]) (fun s=>match s with|(SQ,Sl)=>[.box [.c (.int .i64 (0:Int)),.c (.int .i64 (0:Int)),.c (.str ByteArray.empty)]]) H (fun _=>aru _)
  (fm_ bG [] rfl a8 cm) ?_
 rintro⟨SQ,Sl⟩ st2 Pl Tt;unfold tL at Pl;dsimp only at Pl ⊢
 repeat' (first|refine gs_ ?_|rw[V5]|rw[show((0:Nat):Int)=0 from rfl])
 rcases aj Pl with⟨Rq,Pl⟩|⟨Rq,Pl⟩
 ·obtain⟨S8,i11z,i11,i11x,Pl⟩:=bu (f:=cV) Pl
  obtain⟨QY,Yd,Pl⟩:=bd_ Pl;replace Yd:=gTruthV_ok Yd;obtain⟨QZ,V6,Pl⟩:=bd_ Pl;replace V6:=gOr3v_ok V6
  cases Pl
  repeat' (first|refine gs_ ?_|rw[V5]|rw[show((0:Nat):Int)=0 from rfl])
  exact⟨_,rfl,fm_ bG [_] rfl a8 cm⟩
 cases Pl;have P2:yu (.inl (SQ,Sl))=some _:=Tt;unfold yu at P2;dsimp only at P2;obtain⟨Ve,Vy,P2⟩:=bd_ P2;replace Vy:=gOfV2_ok Vy
 cases P2
 repeat' (first|refine gs_ ?_|rw[V5]|rw[show((0:Nat):Int)=0 from rfl])
 refine a6 (bj rfl ?_ ?_)
 ·repeat' (first|exact t7|rfl|exact arh rfl|omega|apply And.intro)
 ·first|rfl|(simp only[ark,ari,arn,ara]<;>rfl)
def gAt (O3:(List Val))(Vf:Int):Option (Val):=bif (decide (Vf<(0:Int)))then(ko ).bind fun QN=>some QN else
 bif (decide (((O3.length:Nat):Int)<=Vf))then(ko ).bind fun RN=>some RN else
 (aF O3 Vf).bind fun Qv=>some Qv
instance gAt_ok {O3 : (List Val)} {Vf : Int} {r : Val} : OkC (gAt O3 Vf = some r) (PTz 228 [.one (.lst (O3.map cV)), .one (.int .i64 Vf)] (.val (.agg (cV r)))) := .mk fun H => by
 unfold gAt at H;refine po_ Tryz.func228 Tryz.ntmps228 ?_;exact az H
def wz (O3:(List Val))(a_l:(List Int)):((List Val)×Int)->Option (Step ((List Val)×Int) ((List Val))):=fun s=>match s with
 |(PQ,PI)=>bif (decide (PI<((a_l.length:Nat):Int)))then(aF a_l PI).bind fun Qf=>(gAt O3 Qf).bind fun QR=>bif (decide (PQ.length+1<=4398046511104))then(some (.next ((PQ++[QR]),(IntKind.i64.wrap (PI+(1:Int))))))else none else
 some (.exit (PQ,PI))
def FP:Sum ((List Val)×Int) ((List Val))->Option (((List Val)))
 |.inl (PQ,PI)=>some PQ
 |.inr q=>some q
def Om (O3:(List Val))(a_l:(List Int)):Option ((List Val)):=bif (decide (0<=((a_l.length:Nat):Int)))then(bif (decide ((32:Int)*((a_l.length:Nat):Int)<=281474976710656))then(bif (decide (((a_l.length:Nat):Int)<=9223372036854775807))then((ao (wz O3 a_l) fuel ([],(0:Int))).bind (FP))else none)else none)else none
theorem ade {p q:Prop}(k:q)(h:Bx q->p:=by
 intro hq
 repeat' (first|refine ci rfl rfl rfl rfl rfl (rI tab_ok (k:=3) (by_:=32) rfl rfl rfl rfl rfl rfl m9 m0 m0 m0) ?_|refine gs_ ?_|fail)
 exact hq.out):p:=h ⟨k⟩
theorem akC {p:Prop}(h:p:=by
 repeat' (first|refine ci rfl rfl rfl rfl rfl (rI tab_ok (k:=3) (by_:=32) rfl rfl rfl rfl rfl rfl m9 m0 m0 m0) ?_|refine gs_ ?_|fail)
 refine a6 (bj rfl ?_ ?_)
 ·repeat' (first|exact t7|rfl|exact arh rfl|omega|apply And.intro)
 ·first|rfl|(simp only[ark,ari,arn,ara]<;>rfl)):p:=h
instance gPick_ok {O3 : (List Val)} {a_l : (List Int)} {r : (List Val)} : OkC (Om O3 a_l = some r) (PTz 179 [.one (.lst (O3.map cV)), .one (.lst (a_l.map (fun x => [AC.int .i64 x])))] (.val (.one (.lst (r.map cV))))) := .mk fun H => by
 unfold Om at H;refine po_ Tryz.func179 Tryz.ntmps179 ?_;obtain⟨g1,H⟩:=aK H;obtain⟨g2,H⟩:=aK H;obtain⟨g3,H⟩:=aK H;refine ade ?_;refine alM_ (fun s:(List Val)×Int=>match s with|(PQ,PI)=>[(0,.one (.c (.lst (O3.map cV)))),(5,.one (.own (PQ.map cV) 0)),(11,.one (.c (.lst (a_l.map (fun x=>[AC.int .i64 x]))))),(12,.one (.c (.int .i64 ((a_l.length:Nat):Int)))),(13,.one (.c (.int .i64 PI)))]) (fun s=>match s with|(PQ,PI)=>[.spare PQ.length 3]) H (fun _=>aru _)
  (fm_ bG [] rfl a8 cm) ?_
 rintro⟨PQ,PI⟩ st1 OU PM;unfold wz at OU;dsimp only at OU ⊢;rcases aj OU with⟨QH,OU⟩|⟨QH,OU⟩
 ·obtain⟨Qf,Yc,i4,WO,OU⟩:=bu (f:=(fun x=>[AC.int .i64 x])) OU
  obtain⟨QR,c5,OU⟩:=bd_ OU;replace c5:=gAt_ok c5;obtain⟨g6,OU⟩:=aK OU
  cases OU;refine ade ?_;exact⟨_,rfl,fm_ rB [] nN a8 cm⟩
 cases OU;have O0:FP (.inl (PQ,PI))=some _:=PM;unfold FP at O0;dsimp only at O0
 cases O0;exact akC
def xy (O3:(List Val))(Vf:Int):Option (Val):=(Om O3 [Vf]).bind fun Pg=>(aF Pg (0:Int)).bind fun x_2=>(pT x_2).bind fun P4=>bif (!P4)then(ko ).bind fun QR=>some QR else
 some x_2
instance gColumn_ok {O3 : (List Val)} {Vf : Int} {r : Val} : OkC (xy O3 Vf = some r) (PTz 112 [.one (.lst (O3.map cV)), .one (.int .i64 Vf)] (.val (.agg (cV r)))) := .mk fun H => by
 unfold xy at H;refine po_ Tryz.func112 Tryz.ntmps112 ?_;exact az H
def agj (Qb:ax)(Qw:ax):Option (Int×Bool):=(gPV Qb).bind fun Pg=>bif (!Pg)then some ((0:Int),false)else
 (gPV Qw).bind fun P4=>bif (!P4)then some ((0:Int),false)else
 bif (decide (Qb.hi<Qw.lo))then some ((0:Int),true)else
 bif (decide (Qb.hi=Qw.lo))then some ((1:Int),true)else
 bif (decide (Qw.hi<Qb.lo))then some ((12:Int),true)else
 bif (decide (Qw.hi=Qb.lo))then some ((11:Int),true)else
 bif (b8 [.c (.int .i64 Qb.lo),.c (.int .i64 Qb.hi)] [.c (.int .i64 Qw.lo),.c (.int .i64 Qw.hi)])then some ((6:Int),true)else
 bif (decide (Qb.lo=Qw.lo))then bif (decide (Qb.hi<Qw.hi))then some ((3:Int),true)else
 some ((9:Int),true)else
 bif (decide (Qb.hi=Qw.hi))then bif (decide (Qw.lo<Qb.lo))then some ((5:Int),true)else
 some ((7:Int),true)else
 bif (decide (Qb.lo<Qw.lo))then bif (decide (Qw.hi<Qb.hi))then some ((8:Int),true)else
 bif (decide (Qw.lo<Qb.lo))then bif (decide (Qb.hi<Qw.hi))then some ((4:Int),true)else
 some ((2:Int),true)else
 some ((2:Int),true)else
 bif (decide (Qw.lo<Qb.lo))then bif (decide (Qb.hi<Qw.hi))then some ((4:Int),true)else
 some ((10:Int),true)else
 some ((10:Int),true)
instance gRel_ok {Qb : ax} {Qw : ax} {r : Int × Bool} : OkC (agj Qb Qw = some r) (PTz 84 [.agg (aO Qb), .agg (aO Qw)] (.tup [.one (.int .i64 r.1), .one (.bool r.2)])) := .mk fun H => by
 unfold agj at H;refine po_ Tryz.func84 Tryz.ntmps84 ?_;obtain⟨Pg,c1,H⟩:=bd_ H;replace c1:=gPV_ok c1;rcases aj H with⟨QG,H⟩|⟨QG,H⟩
 ·exact az H
 obtain⟨P4,c2,H⟩:=bd_ H;replace c2:=gPV_ok c2;rcases aj H with⟨Qk,H⟩|⟨Qk,H⟩
 ·exact az H
 refine aY ?_;rcases aj H with⟨RD,H⟩|⟨RD,H⟩
 ·exact az H
 rcases aj H with⟨RF,H⟩|⟨RF,H⟩
 ·exact az H
 rcases aj H with⟨SO,H⟩|⟨SO,H⟩
 ·exact az H
 refine aY ?_;rcases aj H with⟨S7,H⟩|⟨S7,H⟩
 ·exact az H
 rcases aj H with⟨U_,H⟩|⟨U_,H⟩
 ·exact az H
 rcases aj H with⟨Ql,H⟩|⟨Ql,H⟩
 ·refine aY ?_
  exact az H
 refine aY ?_;rcases aj H with⟨RX,H⟩|⟨RX,H⟩
 ·exact az H
 rcases aj H with⟨Qh,H⟩|⟨Qh,H⟩
 ·rcases aj H with⟨TL,H⟩|⟨TL,H⟩
  ·exact az H
  refine aY ?_;exact az H
 rcases aj H with⟨Rq,H⟩|⟨Rq,H⟩
 ·refine aY ?_
  exact az H
 exact az H
