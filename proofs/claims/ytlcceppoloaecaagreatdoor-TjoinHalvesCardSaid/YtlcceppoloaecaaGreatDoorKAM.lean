/- Parts. No condition. -/
import Derived.Test.YtlcceppoloaecaaGreatDoorKAL
set_option maxHeartbeats 8000000
set_option maxRecDepth 100000
set_option linter.unusedSimpArgs false
set_option linter.unusedVariables false
namespace Go.Proofs.YtlcceppoloaecaaGreatDoor
open IntKind (i64)
open Go.RowKit Go.MapKept
def jQ (O1:Int)(OV:Val)(OW:Val):Option (Int):=bif (decide (O1=(7:Int)))then(ae_ OV OW).bind fun Qd=>some Qd else
 bif (decide (O1=(8:Int)))then(ae_ OV OW).bind fun Qp=>(FR Qp).bind fun P2=>some P2 else
 bif (decide (O1=(9:Int)))then(rT OV OW).bind fun QV=>some QV else
 bif (decide (O1=(11:Int)))then(rT OW OV).bind fun Q3=>some Q3 else
 bif (decide (O1=(10:Int)))then(rT OW OV).bind fun Qh=>(FR Qh).bind fun PM=>some PM else
 (rT OV OW).bind fun Ql=>(FR Ql).bind fun QW=>some QW
instance gComparison_ok {O1 : Int} {OV : Val} {OW : Val} {r : Int} : OkC (jQ O1 OV OW = some r) (PTz 119 [.one (.int .i64 O1), .agg (cV OV), .agg (cV OW)] (.val (.one (.int .i64 r)))) := .mk fun H => by
 unfold jQ at H;refine po_ Tryz.func119 Tryz.ntmps119 ?_;rcases aj H with⟨Qv,H⟩|⟨Qv,H⟩
 ·exact ay H
 rcases aj H with⟨Qf,H⟩|⟨Qf,H⟩
 ·exact ay H
 refine aY ?_;exact ay H
def sR (a_l:(List Val)):(Int×ByteArray×Int)->Option (Step (Int×ByteArray×Int) (Val)):=fun s=>match s with
 |(Rm,U0,PY)=>bif (decide (PY<((a_l.length:Nat):Int)))then(aF a_l PY).bind fun P3=>bif (decide (P3.kind≠(2:Int)))then(jS ).bind fun QV=>some (.ret QV)else
 bif (decide (U0.size+P3.text.size<=9223372036854775807))then(some (.next ((i64.wrap (Rm+((P3.text.size:Nat):Int))),(U0++P3.text),(i64.wrap (PY+(1:Int))))))else none else
 some (.exit (Rm,U0,PY))
def Gi (O1:Int):Sum (Int×ByteArray×Int) (Val)->Option ((Val))
 |.inl (Rm,U0,PY)=>bif (decide (O1=(20:Int)))then(mf Rm).bind fun Q3=>some Q3 else
 (yl U0).bind fun Qr=>some Qr
 |.inr q=>some q
def rH (O1:Int)(a_l:(List Val)):Option (Val):=(ao (sR a_l) fuel ((0:Int),(⟨#[]⟩:ByteArray),(0:Int))).bind (Gi O1)
instance gTextE_ok {O1 : Int} {a_l : (List Val)} {r : Val} : OkC (rH O1 a_l = some r) (PTz 116 [.one (.int .i64 O1), .one (.lst (a_l.map cV))] (.val (.agg (cV r)))) := .mk fun H => by
 unfold rH at H;refine po_ Tryz.func116 Tryz.ntmps116 ?_;refine aY ?_;refine alM_ (fun s:Int×ByteArray×Int=>match s with|(Rm,U0,PY)=>[(0,.one (.c (.int .i64 O1))),(4,.one (.ptr 0 0)),(5,.one (.c (.int .i64 Rm))),(6,.one (.c (.str U0))),(9,.one (.c (.lst (a_l.map cV)))),(10,.one (.c (.int .i64 ((a_l.length:Nat):Int)))),(11,.one (.c (.int .i64 PY)))]) (fun s=>match s with|(Rm,U0,PY)=>[.box [.c (.int .i64 (0:Int)),.c (.int .i64 (0:Int)),.c (.str ByteArray.empty)]]) H (fun _=>aqu _)
  (fm_ bF [] rfl bn cm) ?_
 rintro⟨Rm,U0,PY⟩ st1 OU Py;unfold sR at OU;dsimp only at OU ⊢;rcases aj OU with⟨P9,OU⟩|⟨P9,OU⟩
 ·obtain⟨P3,SG,i1,R9,OU⟩:=bw (f:=cV) OU
  rcases aj OU with⟨QT,OU⟩|⟨QT,OU⟩
  ·exact br OU Py
  obtain⟨g3,OU⟩:=aK OU
  cases OU;refine aY ?_;exact⟨_,rfl,fm_ bF [_] rfl bn cm⟩
 exact br OU Py
def rm (OV:Int)(OW:Int):Option (Val):=bif (decide (OV≠(0:Int)))then bif (decide ((zb OV (i64.wrap (0-OV)))≠0))then(bif (decide ((i64.wrap ((1125899906842624:Int).tdiv (zb OV (i64.wrap (0-OV)))))<(zb OW (i64.wrap (0-OW)))))then(jS ).bind fun PT=>some PT else
 (mf (i64.wrap (OV*OW))).bind fun Qp=>some Qp)else none else
 (mf (i64.wrap (OV*OW))).bind fun P2=>some P2
instance gProduct_ok {OV : Int} {OW : Int} {r : Val} : OkC (rm OV OW = some r) (PTz 186 [.one (.int .i64 OV), .one (.int .i64 OW)] (.val (.agg (cV r)))) := .mk fun H => by
 unfold rm at H;refine po_ Tryz.func186 Tryz.ntmps186 ?_;exact ay H
def oI (a_l:(List Val)):(Int)->Option (Step (Int) (Val)):=fun s=>match s with
 |v_1=>bif (decide (v_1<((a_l.length:Nat):Int)))then(aF a_l v_1).bind fun RV=>bif (decide (RV.kind≠(1:Int)))then(jS ).bind fun P2=>some (.ret P2)else
 some (.next (i64.wrap (v_1+(1:Int))))else
 some (.exit v_1)
def su (O1:Int)(a_l:(List Val)):Sum (Int) (Val)->Option ((Val))
 |.inl v_1=>(aF a_l (0:Int)).bind fun SI=>(aF a_l (i64.wrap (((a_l.length:Nat):Int)-(1:Int)))).bind fun RY=>bif (decide (O1=(13:Int)))then(mf (i64.wrap (SI.int+RY.int))).bind fun Q3=>some Q3 else
 bif (decide (O1=(14:Int)))then(mf (i64.wrap (SI.int-RY.int))).bind fun Qh=>some Qh else
 bif (decide (O1=(15:Int)))then(rm SI.int RY.int).bind fun Ql=>some Ql else
 bif (decide (O1=(18:Int)))then(mf (i64.wrap (0-SI.int))).bind fun RE=>some RE else
 bif (decide (RY.int=(0:Int)))then(jS ).bind fun QJ=>some QJ else
 bif (decide (O1=(16:Int)))then bif (decide (RY.int≠0))then((mf (i64.wrap (SI.int.tdiv RY.int))).bind fun RF=>some RF)else none else
 bif (decide (RY.int≠0))then((mf (SI.int.tmod RY.int)).bind fun Q8=>some Q8)else none
 |.inr q=>some q
def kg (O1:Int)(a_l:(List Val)):Option (Val):=(ao (oI a_l) fuel (0:Int)).bind (su O1 a_l)
instance gArith_ok {O1 : Int} {a_l : (List Val)} {r : Val} : OkC (kg O1 a_l = some r) (PTz 117 [.one (.int .i64 O1), .one (.lst (a_l.map cV))] (.val (.agg (cV r)))) := .mk fun H => by
 unfold kg at H;refine po_ Tryz.func117 Tryz.ntmps117 ?_;refine aY ?_;refine alM_ (fun s:Int=>match s with|v_1=>[(0,.one (.c (.int .i64 O1))),(1,.one (.c (.lst (a_l.map cV)))),(4,.one (.ptr 0 0)),(9,.one (.c (.lst (a_l.map cV)))),(10,.one (.c (.int .i64 ((a_l.length:Nat):Int)))),(11,.one (.c (.int .i64 v_1)))]) (fun s=>match s with|v_1=>[.box [.c (.int .i64 (0:Int)),.c (.int .i64 (0:Int)),.c (.str ByteArray.empty)]]) H (fun _=>aqu _)
  (fm_ bF [] rfl bn cm) ?_
 rintro v_1 st1 OU Py;unfold oI at OU;dsimp only at OU ⊢;rcases aj OU with⟨Qq,OU⟩|⟨Qq,OU⟩
 ·obtain⟨RV,SG,i1,R9,OU⟩:=bw (f:=cV) OU
  rcases aj OU with⟨P9,OU⟩|⟨P9,OU⟩
  ·exact br OU Py
  cases OU;refine aY ?_;exact⟨_,rfl,fm_ bF [_] rfl bn cm⟩
 cases OU;have O3:su O1 a_l (.inl v_1)=some _:=Py;unfold su at O3;dsimp only at O3;obtain⟨SI,i3z,i3,Ze,O3⟩:=bw (f:=cV) O3;obtain⟨RY,Ys,i4,W_,O3⟩:=bw (f:=cV) O3;rcases aj O3 with⟨RX,O3⟩|⟨RX,O3⟩
 ·exact ay O3
 refine aY ?_;rcases aj O3 with⟨P_,O3⟩|⟨P_,O3⟩
 ·exact ay O3
 rcases aj O3 with⟨RD,O3⟩|⟨RD,O3⟩
 ·exact ay O3
 rcases aj O3 with⟨Qk,O3⟩|⟨Qk,O3⟩
 ·exact ay O3
 refine aY ?_;exact ay O3
def sK (Uy:(List Val)):(Int×Int)->Option (Step (Int×Int) (Val)):=fun s=>match s with
 |(Wt,VW)=>bif (decide (VW<((Uy.length:Nat):Int)))then(aF Uy VW).bind fun Sj=>(jv Sj).bind fun PM=>(abJ Wt PM).bind fun Ql=>some (.next (Ql,(i64.wrap (VW+(1:Int)))))else
 some (.exit (Wt,VW))
def xC:Sum (Int×Int) (Val)->Option ((Val))
 |.inl (Wt,VW)=>(wb Wt).bind fun QW=>some QW
 |.inr q=>some q
def sE (Ud:(List Val)):(Int×Int)->Option (Step (Int×Int) (Val)):=fun s=>match s with
 |(Tj,SJ)=>bif (decide (SJ<((Ud.length:Nat):Int)))then(aF Ud SJ).bind fun TF=>(jv TF).bind fun Q8=>(B5 Tj Q8).bind fun Q9=>some (.next (Q9,(i64.wrap (SJ+(1:Int)))))else
 some (.exit (Tj,SJ))
def x5:Sum (Int×Int) (Val)->Option ((Val))
 |.inl (Tj,SJ)=>(wb Tj).bind fun Vz=>some Vz
 |.inr q=>some q
def l5 (O1:Int)(a_l:(List Val)):Option (Val):=(aF a_l (0:Int)).bind fun Zf=>(jv Zf).bind fun Qd=>bif (decide (O1=(4:Int)))then(FR Qd).bind fun Qp=>(wb Qp).bind fun P2=>some P2 else
 bif (decide (O1=(5:Int)))then(ga a_l (1:Int) ((a_l.length:Nat):Int)).bind fun Uy=>(ao (sK Uy) fuel (Qd,(0:Int))).bind (xC)else
 (ga a_l (1:Int) ((a_l.length:Nat):Int)).bind fun Ud=>(ao (sE Ud) fuel (Qd,(0:Int))).bind (x5)
instance gLogic_ok {O1 : Int} {a_l : (List Val)} {r : Val} : OkC (l5 O1 a_l = some r) (PTz 113 [.one (.int .i64 O1), .one (.lst (a_l.map cV))] (.val (.agg (cV r)))) := .mk fun H => by
 unfold l5 at H;refine po_ Tryz.func113 Tryz.ntmps113 ?_;obtain⟨Zf,SG,i1,R9,H⟩:=bw (f:=cV) H;obtain⟨Qd,c2,H⟩:=bd_ H;replace c2:=gTruthV_ok c2;rcases aj H with⟨Qf,H⟩|⟨Qf,H⟩
 ·exact ay H
 rcases aj H with⟨QT,H⟩|⟨QT,H⟩
 ·obtain⟨Uy,u5,H⟩:=bd_ H
  obtain⟨⟨u5a,u5b,u5c⟩,u5⟩:=cR u5;have VA:=wo (f:=cV) u5
  repeat' (first|refine gs_ ?_|rw[VA]|rw[show((0:Nat):Int)=0 from rfl])
  refine alM_ (fun s:Int×Int=>match s with|(Wt,VW)=>[(4,.one (.ptr 0 0)),(5,.one (.c (.int .i64 Wt))),(35,.one (.c (.lst (Uy.map cV)))),(36,.one (.c (.int .i64 ((Uy.length:Nat):Int)))),(37,.one (.c (.int .i64 VW)))]) (fun s=>match s with|(Wt,VW)=>[.box [.c (.int .i64 (0:Int)),.c (.int .i64 (0:Int)),.c (.str ByteArray.empty)]]) H (fun _=>aqu _)
   (fm_ bF [] rfl bn cm) ?_
  rintro⟨Wt,VW⟩ st1 OU Py;unfold sK at OU;dsimp only at OU ⊢
  repeat' (first|refine gs_ ?_|rw[VA]|rw[show((0:Nat):Int)=0 from rfl])
  rcases aj OU with⟨P_,OU⟩|⟨P_,OU⟩
  ·obtain⟨Sj,i6z,i6,i6x,OU⟩:=bw (f:=cV) OU
   obtain⟨PM,c7,OU⟩:=bd_ OU;replace c7:=gTruthV_ok c7;obtain⟨Ql,c8,OU⟩:=bd_ OU;replace c8:=gAnd_ok c8
   cases OU
   repeat' (first|refine gs_ ?_|rw[VA]|rw[show((0:Nat):Int)=0 from rfl])
   exact⟨_,rfl,fm_ bF [_] rfl bn cm⟩
  cases OU;have O3:xC (.inl (Wt,VW))=some _:=Py;unfold xC at O3;dsimp only at O3;obtain⟨QW,c9,O3⟩:=bd_ O3;replace c9:=gOfV2_ok c9
  cases O3
  repeat' (first|refine gs_ ?_|rw[VA]|rw[show((0:Nat):Int)=0 from rfl])
  refine aZ (bg rfl ?_ ?_)
  ·repeat' (first|exact t7|rfl|exact aqi rfl|omega|apply And.intro)
  ·first|rfl|(simp only[aql,aqj,aqn,aqd]<;>rfl)
 obtain⟨Ud,XK,H⟩:=bd_ H;obtain⟨⟨u10a,u10b,u10c⟩,XK⟩:=cR XK;have TG:=wo (f:=cV) XK
 repeat' (first|refine gs_ ?_|rw[TG]|rw[show((0:Nat):Int)=0 from rfl])
 refine alM_ (fun s:Int×Int=>match s with|(Tj,SJ)=>[(4,.one (.ptr 0 0)),(5,.one (.c (.int .i64 Tj))),(16,.one (.c (.lst (Ud.map cV)))),(17,.one (.c (.int .i64 ((Ud.length:Nat):Int)))),(18,.one (.c (.int .i64 SJ)))]) (fun s=>match s with|(Tj,SJ)=>[.box [.c (.int .i64 (0:Int)),.c (.int .i64 (0:Int)),.c (.str ByteArray.empty)]]) H (fun _=>aqu _)
  (fm_ bF [] rfl bn cm) ?_
 rintro⟨Tj,SJ⟩ st2 Pz U2;unfold sE at Pz;dsimp only at Pz ⊢
 repeat' (first|refine gs_ ?_|rw[TG]|rw[show((0:Nat):Int)=0 from rfl])
 rcases aj Pz with⟨QU,Pz⟩|⟨QU,Pz⟩
 ·obtain⟨TF,i11z,i11,i11x,Pz⟩:=bw (f:=cV) Pz
  obtain⟨Q8,Wu,Pz⟩:=bd_ Pz;replace Wu:=gTruthV_ok Wu;obtain⟨Q9,TU,Pz⟩:=bd_ Pz;replace TU:=gOr3v_ok TU
  cases Pz
  repeat' (first|refine gs_ ?_|rw[TG]|rw[show((0:Nat):Int)=0 from rfl])
  exact⟨_,rfl,fm_ bF [_] rfl bn cm⟩
 cases Pz;have QP:x5 (.inl (Tj,SJ))=some _:=U2;unfold x5 at QP;dsimp only at QP;obtain⟨Vz,UN,QP⟩:=bd_ QP;replace UN:=gOfV2_ok UN
 cases QP
 repeat' (first|refine gs_ ?_|rw[TG]|rw[show((0:Nat):Int)=0 from rfl])
 refine aZ (bg rfl ?_ ?_)
 ·repeat' (first|exact t7|rfl|exact aqi rfl|omega|apply And.intro)
 ·first|rfl|(simp only[aql,aqj,aqn,aqd]<;>rfl)
def gAt (O2:(List Val))(VB:Int):Option (Val):=bif (decide (VB<(0:Int)))then(jS ).bind fun Qd=>some Qd else
 bif (decide (((O2.length:Nat):Int)<=VB))then(jS ).bind fun Qp=>some Qp else
 (aF O2 VB).bind fun P3=>some P3
instance gAt_ok {O2 : (List Val)} {VB : Int} {r : Val} : OkC (gAt O2 VB = some r) (PTz 228 [.one (.lst (O2.map cV)), .one (.int .i64 VB)] (.val (.agg (cV r)))) := .mk fun H => by
 unfold gAt at H;refine po_ Tryz.func228 Tryz.ntmps228 ?_;exact ay H
def wJ (O2:(List Val))(a_l:(List Int)):((List Val)×Int)->Option (Step ((List Val)×Int) ((List Val))):=fun s=>match s with
 |(OZ,P6)=>bif (decide (P6<((a_l.length:Nat):Int)))then(aF a_l P6).bind fun P7=>(gAt O2 P7).bind fun P2=>bif (decide (OZ.length+1<=4398046511104))then(some (.next ((OZ++[P2]),(i64.wrap (P6+(1:Int))))))else none else
 some (.exit (OZ,P6))
def EQ:Sum ((List Val)×Int) ((List Val))->Option (((List Val)))
 |.inl (OZ,P6)=>some OZ
 |.inr q=>some q
def NY (O2:(List Val))(a_l:(List Int)):Option ((List Val)):=bif (decide (0<=((a_l.length:Nat):Int)))then(bif (decide ((32:Int)*((a_l.length:Nat):Int)<=281474976710656))then(bif (decide (((a_l.length:Nat):Int)<=9223372036854775807))then((ao (wJ O2 a_l) fuel ([],(0:Int))).bind (EQ))else none)else none)else none
theorem adG {p q:Prop}(k:q)(h:Bx q->p:=by
 intro hq
 repeat' (first|refine b7 rfl rfl rfl rfl rfl (ry tab_ok (k:=3) (by_:=32) rfl rfl rfl rfl rfl rfl m9 m0 m0 m0) ?_|refine gs_ ?_|fail)
 exact hq.out):p:=h ⟨k⟩
theorem ajf {p:Prop}(h:p:=by
 repeat' (first|refine b7 rfl rfl rfl rfl rfl (ry tab_ok (k:=3) (by_:=32) rfl rfl rfl rfl rfl rfl m9 m0 m0 m0) ?_|refine gs_ ?_|fail)
 refine aZ (bg rfl ?_ ?_)
 ·repeat' (first|exact t7|rfl|exact aqi rfl|omega|apply And.intro)
 ·first|rfl|(simp only[aql,aqj,aqn,aqd]<;>rfl)):p:=h
instance gPick_ok {O2 : (List Val)} {a_l : (List Int)} {r : (List Val)} : OkC (NY O2 a_l = some r) (PTz 179 [.one (.lst (O2.map cV)), .one (.lst (a_l.map (fun x => [AC.int .i64 x])))] (.val (.one (.lst (r.map cV))))) := .mk fun H => by
 unfold NY at H;refine po_ Tryz.func179 Tryz.ntmps179 ?_;obtain⟨g1,H⟩:=aK H;obtain⟨g2,H⟩:=aK H;obtain⟨g3,H⟩:=aK H;refine adG ?_;refine alM_ (fun s:(List Val)×Int=>match s with|(OZ,P6)=>[(0,.one (.c (.lst (O2.map cV)))),(5,.one (.own (OZ.map cV) 0)),(11,.one (.c (.lst (a_l.map (fun x=>[AC.int .i64 x]))))),(12,.one (.c (.int .i64 ((a_l.length:Nat):Int)))),(13,.one (.c (.int .i64 P6)))]) (fun s=>match s with|(OZ,P6)=>[.spare OZ.length 3]) H (fun _=>aqu _)
  (fm_ bF [] rfl bn cm) ?_
 rintro⟨OZ,P6⟩ st1 OU Py;unfold wJ at OU;dsimp only at OU ⊢;rcases aj OU with⟨Qf,OU⟩|⟨Qf,OU⟩
 ·obtain⟨P7,Ys,i4,W_,OU⟩:=bw (f:=(fun x=>[AC.int .i64 x])) OU
  obtain⟨P2,c5,OU⟩:=bd_ OU;replace c5:=gAt_ok c5;obtain⟨g6,OU⟩:=aK OU
  cases OU;refine adG ?_;exact⟨_,rfl,fm_ qI [] oO bn cm⟩
 cases OU;have O3:EQ (.inl (OZ,P6))=some _:=Py;unfold EQ at O3;dsimp only at O3
 cases O3;exact ajf
def xp (O2:(List Val))(VB:Int):Option (Val):=(NY O2 [VB]).bind fun O7=>(aF O7 (0:Int)).bind fun x_2=>(pV x_2).bind fun PT=>bif (!PT)then(jS ).bind fun P2=>some P2 else
 some x_2
instance gColumn_ok {O2 : (List Val)} {VB : Int} {r : Val} : OkC (xp O2 VB = some r) (PTz 112 [.one (.lst (O2.map cV)), .one (.int .i64 VB)] (.val (.agg (cV r)))) := .mk fun H => by
 unfold xp at H;refine po_ Tryz.func112 Tryz.ntmps112 ?_;exact ay H
def afb (Ph:ax)(PK:ax):Option (Int×Bool):=(gPV Ph).bind fun O7=>bif (!O7)then some ((0:Int),false)else
 (gPV PK).bind fun PT=>bif (!PT)then some ((0:Int),false)else
 bif (decide (Ph.hi<PK.lo))then some ((0:Int),true)else
 bif (decide (Ph.hi=PK.lo))then some ((1:Int),true)else
 bif (decide (PK.hi<Ph.lo))then some ((12:Int),true)else
 bif (decide (PK.hi=Ph.lo))then some ((11:Int),true)else
 bif (cg [.c (.int .i64 Ph.lo),.c (.int .i64 Ph.hi)] [.c (.int .i64 PK.lo),.c (.int .i64 PK.hi)])then some ((6:Int),true)else
 bif (decide (Ph.lo=PK.lo))then bif (decide (Ph.hi<PK.hi))then some ((3:Int),true)else
 some ((9:Int),true)else
 bif (decide (Ph.hi=PK.hi))then bif (decide (PK.lo<Ph.lo))then some ((5:Int),true)else
 some ((7:Int),true)else
 bif (decide (Ph.lo<PK.lo))then bif (decide (PK.hi<Ph.hi))then some ((8:Int),true)else
 bif (decide (PK.lo<Ph.lo))then bif (decide (Ph.hi<PK.hi))then some ((4:Int),true)else
 some ((2:Int),true)else
 some ((2:Int),true)else
 bif (decide (PK.lo<Ph.lo))then bif (decide (Ph.hi<PK.hi))then some ((4:Int),true)else
 some ((10:Int),true)else
 some ((10:Int),true)
instance gRel_ok {Ph : ax} {PK : ax} {r : Int × Bool} : OkC (afb Ph PK = some r) (PTz 84 [.agg (aN Ph), .agg (aN PK)] (.tup [.one (.int .i64 r.1), .one (.bool r.2)])) := .mk fun H => by
 unfold afb at H;refine po_ Tryz.func84 Tryz.ntmps84 ?_;obtain⟨O7,c1,H⟩:=bd_ H;replace c1:=gPV_ok c1;rcases aj H with⟨Qq,H⟩|⟨Qq,H⟩
 ·exact ay H
 obtain⟨PT,c2,H⟩:=bd_ H;replace c2:=gPV_ok c2;rcases aj H with⟨P9,H⟩|⟨P9,H⟩
 ·exact ay H
 refine aY ?_;rcases aj H with⟨Q6,H⟩|⟨Q6,H⟩
 ·exact ay H
 rcases aj H with⟨QT,H⟩|⟨QT,H⟩
 ·exact ay H
 rcases aj H with⟨SH,H⟩|⟨SH,H⟩
 ·exact ay H
 refine aY ?_;rcases aj H with⟨RX,H⟩|⟨RX,H⟩
 ·exact ay H
 rcases aj H with⟨S_,H⟩|⟨S_,H⟩
 ·exact ay H
 rcases aj H with⟨P_,H⟩|⟨P_,H⟩
 ·refine aY ?_
  exact ay H
 refine aY ?_;rcases aj H with⟨RD,H⟩|⟨RD,H⟩
 ·exact ay H
 rcases aj H with⟨Qk,H⟩|⟨Qk,H⟩
 ·rcases aj H with⟨Q7,H⟩|⟨Q7,H⟩
  ·exact ay H
  refine aY ?_;exact ay H
 rcases aj H with⟨QU,H⟩|⟨QU,H⟩
 ·refine aY ?_
  exact ay H
 exact ay H
