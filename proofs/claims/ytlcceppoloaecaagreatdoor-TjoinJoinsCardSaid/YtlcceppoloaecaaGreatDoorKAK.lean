/- Parts. No condition. -/
import Derived.Test.YtlcceppoloaecaaGreatDoorKAJ
set_option maxHeartbeats 8000000
set_option maxRecDepth 100000
set_option linter.unusedSimpArgs false
set_option linter.unusedVariables false
namespace Go.Proofs.YtlcceppoloaecaaGreatDoor
open IntKind (i64)
open Go.RowKit Go.MapKept
def jc (O5:Int)(OX:Val)(OY:Val):Option (Int):=bif O5=(7:Int)then(agB OX OY).bind λQd=>some Qd else
 bif O5=(8:Int)then(agB OX OY).bind λQm=>(JD Qm).bind λPW=>some PW else
 bif O5=(9:Int)then(sJ OX OY).bind λQk=>some Qk else
 bif O5=(11:Int)then(sJ OY OX).bind λQw=>some Qw else
 bif O5=(10:Int)then(sJ OY OX).bind λQu=>(JD Qu).bind λPM=>some PM else
 (sJ OX OY).bind λQv=>(JD Qv).bind λRm=>some Rm
instance gComparison_ok {O5 : Int} {OX : Val} {OY : Val} {r : Int} : OkC (jc O5 OX OY = some r) (PTz 119 [.one (.int .i64 O5), .agg (cV OX), .agg (cV OY)] (.val (.one (.int .i64 r)))) := .mk λH => by
 unfold jc at H;refine po_ Tryz.func119 Tryz.ntmps119 ?_;obtain⟨QM,H⟩|⟨QM,H⟩:=aj H
 ·exact ay H
 obtain⟨P9,H⟩|⟨P9,H⟩:=aj H
 ·exact ay H
 refine a6 ?_;exact ay H
def rG (OZ:(List Val)):(Int×ByteArray×Int)->Option (Step (Int×ByteArray×Int) (Val)):=λs=>match s with
 |(RS,Vr,P5)=>bif P5<(OZ.length:Int)then(aF OZ P5).bind λQa=>bif Qa.kind≠(2:Int)then(j9 ).bind λQk=>some (.ret Qk)else
 bif Vr.size+Qa.text.size<=9223372036854775807 then(some (.next ((i64.wrap (RS+(Qa.text.size:Int))),(Vr++Qa.text),(i64.wrap (P5+(1:Int))))))else none else
 some (.exit (RS,Vr,P5))
def DZ (O5:Int):Sum (Int×ByteArray×Int) (Val)->Option ((Val))
 |.inl (RS,Vr,P5)=>bif O5=(20:Int)then(nU RS).bind λQw=>some Qw else
 (yG Vr).bind λP7=>some P7
 |.inr q=>some q
def uk (O5:Int)(OZ:(List Val)):Option (Val):=(ao (rG OZ) fuel ((0:Int),(⟨#[]⟩:ByteArray),(0:Int))).bind (DZ O5)
instance gTextE_ok {O5 : Int} {OZ : (List Val)} {r : Val} : OkC (uk O5 OZ = some r) (PTz 116 [.one (.int .i64 O5), .one (.lst (OZ.map cV))] (.val (.agg (cV r)))) := .mk λH => by
 unfold uk at H;refine po_ Tryz.func116 Tryz.ntmps116 ?_;refine a6 ?_;refine alM_ (λs:Int×ByteArray×Int=>match s with|(RS,Vr,P5)=>[(0,.one (.c (.int .i64 O5))),(4,.one (.ptr 0 0)),(5,.one (.c (.int .i64 RS))),(6,.one (.c (.str Vr))),(9,.one (.c (.lst (OZ.map cV)))),(10,.one (.c (.int .i64 (OZ.length:Int)))),(11,.one (.c (.int .i64 P5)))]) (λs=>match s with|(RS,Vr,P5)=>[.box [.c (.int .i64 (0:Int)),.c (.int .i64 (0:Int)),.c (.str ByteArray.empty)]]) H (λ_=>aqL _)
  (fm_ bE [] rfl bm cm) ?_
 rintro⟨RS,Vr,P5⟩ QF OU Pz;unfold rG at OU;dsimp only at OU ⊢;obtain⟨Qf,OU⟩|⟨Qf,OU⟩:=aj OU
 ·obtain⟨Qa,Rw,i1,Ri,OU⟩:=br (f:=cV) OU
  obtain⟨QG,OU⟩|⟨QG,OU⟩:=aj OU
  ·exact bA OU Pz
  obtain⟨g3,OU⟩:=aL OU
  cases OU;refine a6 ?_;exact⟨_,rfl,fm_ bE [_] rfl bm cm⟩
 exact bA OU Pz
def rF (OX:Int)(OY:Int):Option (Val):=bif OX≠(0:Int)then bif (EE OX (i64.wrap (0-OX)))≠0 then(bif (i64.wrap ((1125899906842624:Int).tdiv (EE OX (i64.wrap (0-OX)))))<(EE OY (i64.wrap (0-OY)))then(j9 ).bind λPY=>some PY else
 (nU (i64.wrap (OX*OY))).bind λQm=>some Qm)else none else
 (nU (i64.wrap (OX*OY))).bind λPW=>some PW
instance gProduct_ok {OX : Int} {OY : Int} {r : Val} : OkC (rF OX OY = some r) (PTz 186 [.one (.int .i64 OX), .one (.int .i64 OY)] (.val (.agg (cV r)))) := .mk λH => by
 unfold rF at H;refine po_ Tryz.func186 Tryz.ntmps186 ?_;exact ay H
def nC (OZ:(List Val)):(Int)->Option (Step (Int) (Val)):=λs=>match s with
 |v_1=>bif v_1<(OZ.length:Int)then(aF OZ v_1).bind λRD=>bif RD.kind≠(1:Int)then(j9 ).bind λPW=>some (.ret PW)else
 some (.next (i64.wrap (v_1+(1:Int))))else
 some (.exit v_1)
def rj (O5:Int)(OZ:(List Val)):Sum (Int) (Val)->Option ((Val))
 |.inl v_1=>(aF OZ (0:Int)).bind λS9=>(aF OZ (i64.wrap ((OZ.length:Int)-(1:Int)))).bind λRE=>bif O5=(13:Int)then(nU (i64.wrap (S9.int+RE.int))).bind λQw=>some Qw else
 bif O5=(14:Int)then(nU (i64.wrap (S9.int-RE.int))).bind λQu=>some Qu else
 bif O5=(15:Int)then(rF S9.int RE.int).bind λQv=>some Qv else
 bif O5=(18:Int)then(nU (i64.wrap (0-S9.int))).bind λSj=>some Sj else
 bif RE.int=(0:Int)then(j9 ).bind λQ2=>some Q2 else
 bif O5=(16:Int)then bif RE.int≠0 then((nU (i64.wrap (S9.int.tdiv RE.int))).bind λRF=>some RF)else none else
 bif RE.int≠0 then((nU (S9.int.tmod RE.int)).bind λQ7=>some Q7)else none
 |.inr q=>some q
def kz (O5:Int)(OZ:(List Val)):Option (Val):=(ao (nC OZ) fuel (0:Int)).bind (rj O5 OZ)
instance gArith_ok {O5 : Int} {OZ : (List Val)} {r : Val} : OkC (kz O5 OZ = some r) (PTz 117 [.one (.int .i64 O5), .one (.lst (OZ.map cV))] (.val (.agg (cV r)))) := .mk λH => by
 unfold kz at H;refine po_ Tryz.func117 Tryz.ntmps117 ?_;refine a6 ?_;refine alM_ (λs:Int=>match s with|v_1=>[(0,.one (.c (.int .i64 O5))),(1,.one (.c (.lst (OZ.map cV)))),(4,.one (.ptr 0 0)),(9,.one (.c (.lst (OZ.map cV)))),(10,.one (.c (.int .i64 (OZ.length:Int)))),(11,.one (.c (.int .i64 v_1)))]) (λs=>match s with|v_1=>[.box [.c (.int .i64 (0:Int)),.c (.int .i64 (0:Int)),.c (.str ByteArray.empty)]]) H (λ_=>aqL _)
  (fm_ bE [] rfl bm cm) ?_
 rintro v_1 QF OU Pz;unfold nC at OU;dsimp only at OU ⊢;obtain⟨Qr,OU⟩|⟨Qr,OU⟩:=aj OU
 ·obtain⟨RD,Rw,i1,Ri,OU⟩:=br (f:=cV) OU
  obtain⟨Qf,OU⟩|⟨Qf,OU⟩:=aj OU
  ·exact bA OU Pz
  cases OU;refine a6 ?_;exact⟨_,rfl,fm_ bE [_] rfl bm cm⟩
 cases OU;have O2:rj O5 OZ (.inl v_1)=some _:=Pz;unfold rj at O2;dsimp only at O2;obtain⟨S9,Y2,i3,XB,O2⟩:=br (f:=cV) O2;obtain⟨RE,Yg,i4,WX,O2⟩:=br (f:=cV) O2;obtain⟨Si,O2⟩|⟨Si,O2⟩:=aj O2
 ·exact ay O2
 refine a6 ?_;obtain⟨Qn,O2⟩|⟨Qn,O2⟩:=aj O2
 ·exact ay O2
 obtain⟨Rj,O2⟩|⟨Rj,O2⟩:=aj O2
 ·exact ay O2
 obtain⟨QA,O2⟩|⟨QA,O2⟩:=aj O2
 ·exact ay O2
 refine a6 ?_;exact ay O2
def rJ (U3:(List Val)):(Int×Int)->Option (Step (Int×Int) (Val)):=λs=>match s with
 |(WY,Wq)=>bif Wq<(U3.length:Int)then(aF U3 Wq).bind λRG=>(jL RG).bind λPM=>(aei WY PM).bind λQv=>some (.next (Qv,(i64.wrap (Wq+(1:Int)))))else
 some (.exit (WY,Wq))
def wN:Sum (Int×Int) (Val)->Option ((Val))
 |.inl (WY,Wq)=>(x7 WY).bind λRm=>some Rm
 |.inr q=>some q
def qY (UC:(List Val)):(Int×Int)->Option (Step (Int×Int) (Val)):=λs=>match s with
 |(TR,S_)=>bif S_<(UC.length:Int)then(aF UC S_).bind λUe=>(jL Ue).bind λQ7=>(FX TR Q7).bind λRH=>some (.next (RH,(i64.wrap (S_+(1:Int)))))else
 some (.exit (TR,S_))
def wM:Sum (Int×Int) (Val)->Option ((Val))
 |.inl (TR,S_)=>(x7 TR).bind λVX=>some VX
 |.inr q=>some q
def l6 (O5:Int)(OZ:(List Val)):Option (Val):=(aF OZ (0:Int)).bind λZF=>(jL ZF).bind λQd=>bif O5=(4:Int)then(JD Qd).bind λQm=>(x7 Qm).bind λPW=>some PW else
 bif O5=(5:Int)then(gU OZ (1:Int) (OZ.length:Int)).bind λU3=>(ao (rJ U3) fuel (Qd,(0:Int))).bind (wN)else
 (gU OZ (1:Int) (OZ.length:Int)).bind λUC=>(ao (qY UC) fuel (Qd,(0:Int))).bind (wM)
instance gLogic_ok {O5 : Int} {OZ : (List Val)} {r : Val} : OkC (l6 O5 OZ = some r) (PTz 113 [.one (.int .i64 O5), .one (.lst (OZ.map cV))] (.val (.agg (cV r)))) := .mk λH => by
 unfold l6 at H;refine po_ Tryz.func113 Tryz.ntmps113 ?_;obtain⟨ZF,Rw,i1,Ri,H⟩:=br (f:=cV) H;obtain⟨Qd,c2,H⟩:=bd_ H;replace c2:=gTruthV_ok c2;obtain⟨P9,H⟩|⟨P9,H⟩:=aj H
 ·exact ay H
 obtain⟨QG,H⟩|⟨QG,H⟩:=aj H
 ·obtain⟨U3,u5,H⟩:=bd_ H
  obtain⟨⟨u5a,u5b,u5c⟩,u5⟩:=cQ u5;have VY:=zm (f:=cV) u5
  repeat' (first|refine gs_ ?_|rw[VY]|rw[show((0:Nat):Int)=0 from rfl])
  refine alM_ (λs:Int×Int=>match s with|(WY,Wq)=>[(4,.one (.ptr 0 0)),(5,.one (.c (.int .i64 WY))),(35,.one (.c (.lst (U3.map cV)))),(36,.one (.c (.int .i64 (U3.length:Int)))),(37,.one (.c (.int .i64 Wq)))]) (λs=>match s with|(WY,Wq)=>[.box [.c (.int .i64 (0:Int)),.c (.int .i64 (0:Int)),.c (.str ByteArray.empty)]]) H (λ_=>aqL _)
   (fm_ bE [] rfl bm cm) ?_
  rintro⟨WY,Wq⟩ QF OU Pz;unfold rJ at OU;dsimp only at OU ⊢
  repeat' (first|refine gs_ ?_|rw[VY]|rw[show((0:Nat):Int)=0 from rfl])
  obtain⟨Qn,OU⟩|⟨Qn,OU⟩:=aj OU
  ·obtain⟨RG,i6z,i6,ZG,OU⟩:=br (f:=cV) OU
   obtain⟨PM,c7,OU⟩:=bd_ OU;replace c7:=gTruthV_ok c7;obtain⟨Qv,c8,OU⟩:=bd_ OU;replace c8:=gAnd_ok c8
   cases OU
   repeat' (first|refine gs_ ?_|rw[VY]|rw[show((0:Nat):Int)=0 from rfl])
   exact⟨_,rfl,fm_ bE [_] rfl bm cm⟩
  cases OU;have O2:wN (.inl (WY,Wq))=some _:=Pz;unfold wN at O2;dsimp only at O2;obtain⟨Rm,c9,O2⟩:=bd_ O2;replace c9:=gOfV2_ok c9
  cases O2
  repeat' (first|refine gs_ ?_|rw[VY]|rw[show((0:Nat):Int)=0 from rfl])
  refine aX (bg rfl ?_ ?_)
  ·repeat' (first|exact t7|rfl|exact aqA rfl|omega|apply And.intro)
  ·first|rfl|(simp only[aqD,aqB,aqF,aqv]<;>rfl)
 obtain⟨UC,Yh,H⟩:=bd_ H;obtain⟨⟨u10a,u10b,u10c⟩,Yh⟩:=cQ Yh;have Uf:=zm (f:=cV) Yh
 repeat' (first|refine gs_ ?_|rw[Uf]|rw[show((0:Nat):Int)=0 from rfl])
 refine alM_ (λs:Int×Int=>match s with|(TR,S_)=>[(4,.one (.ptr 0 0)),(5,.one (.c (.int .i64 TR))),(16,.one (.c (.lst (UC.map cV)))),(17,.one (.c (.int .i64 (UC.length:Int)))),(18,.one (.c (.int .i64 S_)))]) (λs=>match s with|(TR,S_)=>[.box [.c (.int .i64 (0:Int)),.c (.int .i64 (0:Int)),.c (.str ByteArray.empty)]]) H (λ_=>aqL _)
  (fm_ bE [] rfl bm cm) ?_
 rintro⟨TR,S_⟩ ZH PP UD;unfold qY at PP;dsimp only at PP ⊢
 repeat' (first|refine gs_ ?_|rw[Uf]|rw[show((0:Nat):Int)=0 from rfl])
 obtain⟨Rl,PP⟩|⟨Rl,PP⟩:=aj PP
 ·obtain⟨Ue,i11z,i11,i11x,PP⟩:=br (f:=cV) PP
  obtain⟨Q7,WZ,PP⟩:=bd_ PP;replace WZ:=gTruthV_ok WZ;obtain⟨RH,UE,PP⟩:=bd_ PP;replace UE:=gOr3v_ok UE
  cases PP
  repeat' (first|refine gs_ ?_|rw[Uf]|rw[show((0:Nat):Int)=0 from rfl])
  exact⟨_,rfl,fm_ bE [_] rfl bm cm⟩
 cases PP;have Rx:wM (.inl (TR,S_))=some _:=UD;unfold wM at Rx;dsimp only at Rx;obtain⟨VX,Ws,Rx⟩:=bd_ Rx;replace Ws:=gOfV2_ok Ws
 cases Rx
 repeat' (first|refine gs_ ?_|rw[Uf]|rw[show((0:Nat):Int)=0 from rfl])
 refine aX (bg rfl ?_ ?_)
 ·repeat' (first|exact t7|rfl|exact aqA rfl|omega|apply And.intro)
 ·first|rfl|(simp only[aqD,aqB,aqF,aqv]<;>rfl)
def gAt (O3:(List Val))(VZ:Int):Option (Val):=bif VZ<(0:Int)then(j9 ).bind λQd=>some Qd else
 bif (O3.length:Int)<=VZ then(j9 ).bind λQm=>some Qm else
 (aF O3 VZ).bind λQa=>some Qa
instance gAt_ok {O3 : (List Val)} {VZ : Int} {r : Val} : OkC (gAt O3 VZ = some r) (PTz 228 [.one (.lst (O3.map cV)), .one (.int .i64 VZ)] (.val (.agg (cV r)))) := .mk λH => by
 unfold gAt at H;refine po_ Tryz.func228 Tryz.ntmps228 ?_;exact ay H
def wb (O3:(List Val))(OZ:(List Int)):((List Val)×Int)->Option (Step ((List Val)×Int) ((List Val))):=λs=>match s with
 |(OV,Qi)=>bif Qi<(OZ.length:Int)then(aF OZ Qi).bind λPK=>(gAt O3 PK).bind λPW=>bif OV.length+1<=4398046511104 then(some (.next ((OV++[PW]),(i64.wrap (Qi+(1:Int))))))else none else
 some (.exit (OV,Qi))
def Bz:Sum ((List Val)×Int) ((List Val))->Option (((List Val)))
 |.inl (OV,Qi)=>some OV
 |.inr q=>some q
def aat (O3:(List Val))(OZ:(List Int)):Option ((List Val)):=bif 0<=(OZ.length:Int)then(bif (32:Int)*(OZ.length:Int)<=281474976710656 then(bif (OZ.length:Int)<=9223372036854775807 then((ao (wb O3 OZ) fuel ([],(0:Int))).bind (Bz))else none)else none)else none
theorem ada {p q:Prop}(k:q)(h:Bx q->p:=by
 intro hq
 repeat' (first|refine b9 rfl rfl rfl rfl rfl (pY tab_ok (k:=3) (by_:=32) rfl rfl rfl rfl rfl rfl m9 m0 m0 m0) ?_|refine gs_ ?_|fail)
 exact hq.out):p:=h ⟨k⟩
theorem ah5 {p:Prop}(h:p:=by
 repeat' (first|refine b9 rfl rfl rfl rfl rfl (pY tab_ok (k:=3) (by_:=32) rfl rfl rfl rfl rfl rfl m9 m0 m0 m0) ?_|refine gs_ ?_|fail)
 refine aX (bg rfl ?_ ?_)
 ·repeat' (first|exact t7|rfl|exact aqA rfl|omega|apply And.intro)
 ·first|rfl|(simp only[aqD,aqB,aqF,aqv]<;>rfl)):p:=h
instance gPick_ok {O3 : (List Val)} {OZ : (List Int)} {r : (List Val)} : OkC (aat O3 OZ = some r) (PTz 179 [.one (.lst (O3.map cV)), .one (.lst (OZ.map (λx => [AC.int .i64 x])))] (.val (.one (.lst (r.map cV))))) := .mk λH => by
 unfold aat at H;refine po_ Tryz.func179 Tryz.ntmps179 ?_;obtain⟨g1,H⟩:=aL H;obtain⟨g2,H⟩:=aL H;obtain⟨g3,H⟩:=aL H;refine ada ?_;refine alM_ (λs:(List Val)×Int=>match s with|(OV,Qi)=>[(0,.one (.c (.lst (O3.map cV)))),(5,.one (.own (OV.map cV) 0)),(11,.one (.c (.lst (OZ.map (λx=>[AC.int .i64 x]))))),(12,.one (.c (.int .i64 (OZ.length:Int)))),(13,.one (.c (.int .i64 Qi)))]) (λs=>match s with|(OV,Qi)=>[.spare OV.length 3]) H (λ_=>aqL _)
  (fm_ bE [] rfl bm cm) ?_
 rintro⟨OV,Qi⟩ QF OU Pz;unfold wb at OU;dsimp only at OU ⊢;obtain⟨P9,OU⟩|⟨P9,OU⟩:=aj OU
 ·obtain⟨PK,Yg,i4,WX,OU⟩:=br (f:=(λx=>[AC.int .i64 x])) OU
  obtain⟨PW,c5,OU⟩:=bd_ OU;replace c5:=gAt_ok c5;obtain⟨g6,OU⟩:=aL OU
  cases OU;refine ada ?_;exact⟨_,rfl,fm_ sg [] qG bm cm⟩
 cases OU;have O2:Bz (.inl (OV,Qi))=some _:=Pz;unfold Bz at O2;dsimp only at O2
 cases O2;exact ah5
def xx (O3:(List Val))(VZ:Int):Option (Val):=(aat O3 [VZ]).bind λO7=>(aF O7 (0:Int)).bind λx_2=>(pF x_2).bind λPY=>bif (!PY)then(j9 ).bind λPW=>some PW else
 some x_2
instance gColumn_ok {O3 : (List Val)} {VZ : Int} {r : Val} : OkC (xx O3 VZ = some r) (PTz 112 [.one (.lst (O3.map cV)), .one (.int .i64 VZ)] (.val (.agg (cV r)))) := .mk λH => by
 unfold xx at H;refine po_ Tryz.func112 Tryz.ntmps112 ?_;exact ay H
def ag6 (Pe:ax)(PN:ax):Option (Int×Bool):=(gPV Pe).bind λO7=>bif (!O7)then some ((0:Int),false)else
 (gPV PN).bind λPY=>bif (!PY)then some ((0:Int),false)else
 bif Pe.hi<PN.lo then some ((0:Int),true)else
 bif Pe.hi=PN.lo then some ((1:Int),true)else
 bif PN.hi<Pe.lo then some ((12:Int),true)else
 bif PN.hi=Pe.lo then some ((11:Int),true)else
 bif (cl [.c (.int .i64 Pe.lo),.c (.int .i64 Pe.hi)] [.c (.int .i64 PN.lo),.c (.int .i64 PN.hi)])then some ((6:Int),true)else
 bif Pe.lo=PN.lo then bif Pe.hi<PN.hi then some ((3:Int),true)else
 some ((9:Int),true)else
 bif Pe.hi=PN.hi then bif PN.lo<Pe.lo then some ((5:Int),true)else
 some ((7:Int),true)else
 bif Pe.lo<PN.lo then bif PN.hi<Pe.hi then some ((8:Int),true)else
 bif PN.lo<Pe.lo then bif Pe.hi<PN.hi then some ((4:Int),true)else
 some ((2:Int),true)else
 some ((2:Int),true)else
 bif PN.lo<Pe.lo then bif Pe.hi<PN.hi then some ((4:Int),true)else
 some ((10:Int),true)else
 some ((10:Int),true)
instance gRel_ok {Pe : ax} {PN : ax} {r : Int × Bool} : OkC (ag6 Pe PN = some r) (PTz 84 [.agg (aP Pe), .agg (aP PN)] (.tup [.one (.int .i64 r.1), .one (.bool r.2)])) := .mk λH => by
 unfold ag6 at H;refine po_ Tryz.func84 Tryz.ntmps84 ?_;obtain⟨O7,c1,H⟩:=bd_ H;replace c1:=gPV_ok c1;obtain⟨Qr,H⟩|⟨Qr,H⟩:=aj H
 ·exact ay H
 obtain⟨PY,c2,H⟩:=bd_ H;replace c2:=gPV_ok c2;obtain⟨Qf,H⟩|⟨Qf,H⟩:=aj H
 ·exact ay H
 refine a6 ?_;obtain⟨Q6,H⟩|⟨Q6,H⟩:=aj H
 ·exact ay H
 obtain⟨QG,H⟩|⟨QG,H⟩:=aj H
 ·exact ay H
 obtain⟨R_,H⟩|⟨R_,H⟩:=aj H
 ·exact ay H
 refine a6 ?_;obtain⟨Si,H⟩|⟨Si,H⟩:=aj H
 ·exact ay H
 obtain⟨S8,H⟩|⟨S8,H⟩:=aj H
 ·exact ay H
 obtain⟨Qn,H⟩|⟨Qn,H⟩:=aj H
 ·refine a6 ?_
  exact ay H
 refine a6 ?_;obtain⟨Rj,H⟩|⟨Rj,H⟩:=aj H
 ·exact ay H
 obtain⟨QA,H⟩|⟨QA,H⟩:=aj H
 ·obtain⟨Rk,H⟩|⟨Rk,H⟩:=aj H
  ·exact ay H
  refine a6 ?_;exact ay H
 obtain⟨Rl,H⟩|⟨Rl,H⟩:=aj H
 ·refine a6 ?_
  exact ay H
 exact ay H
