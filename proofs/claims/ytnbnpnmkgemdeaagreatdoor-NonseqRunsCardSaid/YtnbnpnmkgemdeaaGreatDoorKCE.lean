/- Parts. No condition. -/
import Derived.Test.YtnbnpnmkgemdeaaGreatDoorKBI
import Derived.Test.YtnbnpnmkgemdeaaGreatDoorKCB
import Derived.Test.YtnbnpnmkgemdeaaGreatDoorKCC
set_option maxHeartbeats 8000000
set_option maxRecDepth 100000
set_option linter.unusedSimpArgs false
set_option linter.unusedVariables false
namespace Go.Proofs.YtnbnpnmkgemdeaaGreatDoor
open IntKind (i64)
open Go.RowKit Go.MapKept Tryz
noncomputable section
def dn (rec:Pl->List aJ->Option aJ)(O3:Pl)(Pi:(List aJ)):Option (aJ):=bif O3.op=(1:Int)then(al Pi O3.int).bind λXc=>(fM Xc.rows).bind λQm=>some (⟨Xc.kinds,Qm⟩:aJ)else
 bif O3.op=(2:Int)then(fM O3.rows).bind λPM=>some (⟨O3.kinds,PM⟩:aJ)else
 (al O3.inputs (0:Int)).bind λRf=>(rec Rf Pi).bind λQi=>bif O3.op=(3:Int)then(iR Qi O3.pred).bind λQ4=>some Q4 else
 bif O3.op=(4:Int)then(iW Qi O3.exprs).bind λPY=>some PY else
 bif O3.op=(10:Int)then(gL Qi).bind λQp=>some Qp else
 bif O3.op=(11:Int)then(h_ Qi O3.keys O3.aggs).bind λQ1=>some Q1 else
 (al O3.inputs (1:Int)).bind λTA=>(rec TA Pi).bind λQD=>bif O3.op=(5:Int)then(nU Qi QD O3.pred (decide (O3.op=(6:Int)))).bind λRu=>some Ru else
 bif O3.op=(6:Int)then(nU Qi QD O3.pred (decide (O3.op=(6:Int)))).bind λSD=>some SD else
 bif O3.op=(7:Int)then(mX Qi QD).bind λWa=>some Wa else
 bif O3.op=(8:Int)then(ko Qi QD).bind λUO=>some UO else
 (mG Qi QD).bind λR_=>some R_
theorem IR {rec:Pl->List aJ->Option aJ}  (Pq:∀ {x:Pl} {y:List aJ} {r:aJ},rec x y=some r->PTz 93 [.agg (tP x),.one (.lst (y.map bn))] (.val (.agg (bn r)))){O3:Pl}{Pi:(List aJ)}{r:aJ}(H:dn rec O3 Pi=some r):PTz 93 [.agg (tP O3),.one (.lst (Pi.map bn))] (.val (.agg (bn r))):=by
 unfold dn at H;rw[aD O3];refine po_ func93 ntmps93 ?_;obtain⟨PT,H⟩|⟨PT,H⟩:=ae H
 .obtain⟨Xc,QV,i1,QI,H⟩:=aw (f:=bn) H
  obtain⟨Qm,c2,H⟩:=bd_ H;replace c2:=da c2
  cases H;exact ao
 obtain⟨P1,H⟩|⟨P1,H⟩:=ae H
 .obtain⟨PM,c3,H⟩:=bd_ H
  replace c3:=da c3
  cases H;exact ao
 obtain⟨Rf,VC,i4,U7,H⟩:=aw (f:=tP) H;simp only[ah4,ah2,ah6,ahW,aD]at U7;obtain⟨Qi,c5,H⟩:=bd_ H;replace c5:=Pq c5
 try simp only[ah4,ah2,ah6,ahW,ay,aD]at c5
 obtain⟨Qw,H⟩|⟨Qw,H⟩:=ae H
 .obtain⟨Q4,c6,H⟩:=bd_ H
  replace c6:=EG c6
  try simp only[ah4,ah2,ah6,ahW,ay,aD]at c6
  cases H;exact ao
 obtain⟨P6,H⟩|⟨P6,H⟩:=ae H
 .obtain⟨PY,c7,H⟩:=bd_ H
  replace c7:=CE c7
  cases H;exact ao
 obtain⟨Qj,H⟩|⟨Qj,H⟩:=ae H
 .obtain⟨Qp,c8,H⟩:=bd_ H
  replace c8:=As c8
  cases H;exact ao
 obtain⟨P9,H⟩|⟨P9,H⟩:=ae H
 .obtain⟨Q1,c9,H⟩:=bd_ H
  replace c9:=Hr c9
  cases H;exact ao
 obtain⟨TA,WP,Zl,V6,H⟩:=aw (f:=tP) H;simp only[ah4,ah2,ah6,ahW,aD]at V6;obtain⟨QD,SC,H⟩:=bd_ H;replace SC:=Pq SC
 try simp only[ah4,ah2,ah6,ahW,ay,aD]at SC
 obtain⟨QT,H⟩|⟨QT,H⟩:=ae H
 .have R8:(decide (O3.op=(6:Int)))=false:=by rw[aii QT];decide
  obtain⟨Ru,SJ,H⟩:=bd_ H;replace SJ:=Bn SJ
  try simp only[ah4,ah2,ah6,ahW,ay,aD]at SJ
  cases H;exact ao
 obtain⟨RB,H⟩|⟨RB,H⟩:=ae H
 .obtain⟨SD,R4,H⟩:=bd_ H
  replace R4:=Bn R4
  try simp only[ah4,ah2,ah6,ahW,ay,aD]at R4
  cases H;exact ao
 obtain⟨SB,H⟩|⟨SB,H⟩:=ae H
 .obtain⟨Wa,S7,H⟩:=bd_ H
  replace S7:=HN S7
  cases H;exact ao
 obtain⟨VF,H⟩|⟨VF,H⟩:=ae H
 .obtain⟨UO,WM,H⟩:=bd_ H
  replace WM:=E6 WM
  cases H;exact ao
 obtain⟨R_,VO,H⟩:=bd_ H;replace VO:=HY VO
 cases H;exact ao
def lL:Nat->Pl->List aJ->Option aJ
 |0,_,_=>none
 |n+1,x,y=>dn (lL n) x y
theorem yK:∀ (n:Nat) {x:Pl} {y:List aJ} {r:aJ},lL n x y=some r->PTz 93 [.agg (tP x),.one (.lst (y.map bn))] (.val (.agg (bn r)))
 |0,_,_,_,h=>nomatch h
 |n+1,_,_,_,h=>IR (yK n) h
def y9 (P3:pY):((List Val)×Int)->Option (Step ((List Val)×Int) ((List Val))):=λs=>match s with
 |(O2,i_2)=>bif i_2<((5:Nat):Int)then(al [P3.valid.lo,P3.valid.hi,P3.system.lo,P3.system.hi,P3.by_] i_2).bind λPK=>(iC PK).bind λPM=>bif O2.length+1<=4398046511104 then(some (.next ((O2++[PM]),(i64.wrap (i_2+(1:Int))))))else none else
 some (.exit (O2,i_2))
def Av:Sum ((List Val)×Int) ((List Val))->Option (((List Val)))
 |.inl (O2,i_2)=>some O2
 |.inr q=>some q
def IU (P3:pY):Option ((List Val)):=bif P3.row.length<=4398046511104 then((af (y9 P3) fuel (P3.row,(0:Int))).bind (Av))else none
theorem abL {P3:pY}{r:(List Val)}(H:IU P3=some r):PTz 52 [.agg (lu P3)] (.val (.one (.lst (r.map cV)))):=by
 unfold IU at H;refine po_ func52 ntmps52 ?_;obtain⟨g1,H⟩:=aq H
 repeat' (first|refine gs5_ ?_|refine b_ rfl rfl rfl rfl rfl rfl rfl ?_)
 refine alM_ (λs:(List Val)×Int=>match s with|(O2,i_2)=>[(3,.one (.c (.lst ([P3.valid.lo,P3.valid.hi,P3.system.lo,P3.system.hi,P3.by_].map (λx=>[AC.int .i64 x]))))),(4,.one (.own (O2.map cV) 1)),(5,.one (.c (.int .i64 i_2)))]) (λs=>match s with|(O2,i_2)=>[.box [.c (.int .i64 P3.id),.c (.int .i64 P3.schema),.c (.lst (P3.row.map cV)),.c (.int .i64 P3.valid.lo),.c (.int .i64 P3.valid.hi),.c (.int .i64 P3.system.lo),.c (.int .i64 P3.system.hi),.c (.int .i64 P3.by_),.c (.int .i64 P3.til)],.spare O2.length 3]) H (λ_=>aia _)
  (fm_ bg [] rfl aQ bq) ?_
 rintro⟨O2,i_2⟩ Qr OZ Po;unfold y9 at OZ;dsimp only at OZ ⊢;obtain⟨PG,OZ⟩|⟨PG,OZ⟩:=ae OZ
 .obtain⟨PK,Tu,i2,SR,OZ⟩:=aw (f:=(λx=>[AC.int .i64 x])) OZ
  obtain⟨PM,c3,OZ⟩:=bd_ OZ;replace c3:=eJ c3;obtain⟨g4,OZ⟩:=aq OZ
  cases OZ
  repeat' (first|refine gs5_ ?_|refine b_ rfl rfl rfl rfl rfl rfl rfl ?_)
  exact⟨_,rfl,fm_ fO [] dU aQ bq⟩
 cases OZ;have O0:Av (.inl (O2,i_2))=some _:=Po;unfold Av at O0;dsimp only at O0
 cases O0
 repeat' (first|refine gs5_ ?_|refine b_ rfl rfl rfl rfl rfl rfl rfl ?_)
 refine az (aE rfl ?_ ?_)
 .repeat' (first|exact t7|rfl|exact ah1 rfl|omega|apply And.intro)
 .first|rfl|(simp only[ah4,ah2,ah6,ahW]<;>rfl)
def rm (O5:(List pY)):((List (List Val))×Int)->Option (Step ((List (List Val))×Int) (aJ)):=λs=>match s with
 |(SX,Qz)=>bif Qz<(O5.length:Int)then(al O5 Qz).bind λQs=>(IU Qs).bind λQN=>bif SX.length+1<=5864062014805 then(some (.next ((SX++[QN]),(i64.wrap (Qz+(1:Int))))))else none else
 some (.exit (SX,Qz))
def rQ (Qx:(List Int)):Sum ((List (List Val))×Int) (aJ)->Option ((aJ))
 |.inl (SX,Qz)=>(fM SX).bind λQ4=>some (⟨Qx,Q4⟩:aJ)
 |.inr q=>some q
def vV:((List Int)×Int)->Option (Step ((List Int)×Int) (aJ)):=λs=>match s with
 |(Qx,i_2)=>bif i_2<(5:Int)then bif Qx.length+1<=17592186044416 then(some (.next ((Qx++[(1:Int)]),(i64.wrap (i_2+(1:Int))))))else none else
 some (.exit (Qx,i_2))
def mo (O5:(List pY)):Sum ((List Int)×Int) (aJ)->Option ((aJ))
 |.inl (Qx,i_2)=>(af (rm O5) fuel ([],(0:Int))).bind (rQ Qx)
 |.inr q=>some q
def wb (O1:(List Int))(O5:(List pY)):Option (aJ):=bif O1.length<=17592186044416 then((af (vV) fuel (O1,(0:Int))).bind (mo O5))else none
theorem OB {O1:(List Int)}{O5:(List pY)}{r:aJ}(H:wb O1 O5=some r):PTz 23 [.one (.lst (O1.map (λx=>[AC.int .i64 x]))),.one (.lst (O5.map lu))] (.val (.agg (bn r))):=by
 unfold wb at H;refine po_ func23 ntmps23 ?_;obtain⟨g1,H⟩:=aq H;refine aS ?_;refine alM_ (λs:(List Int)×Int=>match s with|(Qx,i_2)=>[(1,.one (.c (.lst (O5.map lu)))),(4,.one (.ptr 0 0)),(5,.one (.ptr 1 0)),(6,.one (.c (.int .i64 i_2)))]) (λs=>match s with|(Qx,i_2)=>[.box [.emp,.emp],.box [.own (Qx.map (λx=>[AC.int .i64 x])) 2,.emp],.spare Qx.length 1]) H (λ_=>aia _)
  (fm_ bg [] rfl aQ bq) ?_
 rintro⟨Qx,i_2⟩ Qr OZ Po;unfold vV at OZ;dsimp only at OZ ⊢;obtain⟨PG,OZ⟩|⟨PG,OZ⟩:=ae OZ
 .obtain⟨g2,OZ⟩:=aq OZ
  cases OZ;refine aS ?_;exact⟨_,rfl,fm_ bg [] dU aQ bq⟩
 cases OZ;have O0:mo O5 (.inl (Qx,i_2))=some _:=Po;unfold mo at O0;dsimp only at O0;refine aS ?_;refine gK 1 1 1 rfl rfl ?_;refine alM_ (λs:(List (List Val))×Int=>match s with|(SX,Qz)=>[(1,.one (.c (.lst (O5.map lu)))),(4,.one (.ptr 0 0)),(5,.one (.ptr 1 0)),(7,.one (.c (.int .i64 Qz)))]) (λs=>match s with|(SX,Qz)=>[.box [.emp,.emp],.box [.own (Qx.map (λx=>[AC.int .i64 x])) 2,.own (SX.map (λx=>[AC.lst (x.map cV)])) 3],.spare Qx.length 1,.spare SX.length 1]) O0 (λ_=>aia _)
  (fm_ bg [] rfl aQ bq) ?_
 rintro⟨SX,Qz⟩ st2 Pe RE;unfold rm at Pe;dsimp only at Pe ⊢;obtain⟨Qb,Pe⟩|⟨Qb,Pe⟩:=ae Pe
 .obtain⟨Qs,Ud,i3,TK,Pe⟩:=aw (f:=lu) Pe
  obtain⟨QN,c4,Pe⟩:=bd_ Pe;replace c4:=abL c4;obtain⟨g5,Pe⟩:=aq Pe
  cases Pe;refine aS ?_;exact⟨_,rfl,fm_ bg [] dU aQ bq⟩
 cases Pe;have Px:rQ Qx (.inl (SX,Qz))=some _:=RE;unfold rQ at Px;dsimp only at Px;obtain⟨Q4,c6,Px⟩:=bd_ Px;replace c6:=da c6
 cases Px;exact ao
def wn (Pi:(List aJ)):((List (List Int))×Int)->Option (Step ((List (List Int))×Int) (aJ×Int)):=λs=>match s with
 |(TW,i_2)=>bif i_2<(Pi.length:Int)then(al Pi i_2).bind λPK=>bif TW.length+1<=5864062014805 then(some (.next ((TW++[PK.kinds]),(i64.wrap (i_2+(1:Int))))))else none else
 some (.exit (TW,i_2))
def ru (O3:Pl)(Pi:(List aJ)):Sum ((List (List Int))×Int) (aJ×Int)->Option ((aJ×Int))
 |.inl (TW,i_2)=>(px O3 TW).bind λPM=>bif PM.2≠(0:Int)then some ((⟨[],[]⟩:aJ),PM.2)else
 (lL fuel O3 Pi).bind λQi=>some (Qi,(0:Int))
 |.inr q=>some q
def Fe (O3:Pl)(Pi:(List aJ)):Option (aJ×Int):=(af (wn Pi) fuel ([],(0:Int))).bind (ru O3 Pi)
theorem MP {O3:Pl}{Pi:(List aJ)}{r:aJ×Int}(H:Fe O3 Pi=some r):PTz 63 [.agg (tP O3),.one (.lst (Pi.map bn))] (.tup [.agg (bn r.1),.one (.int .i64 r.2)]):=by
 unfold Fe at H;rw[aD O3];refine po_ func63 ntmps63 ?_;refine aS ?_;refine br 6 1 rfl ?_;refine alM_ (λs:(List (List Int))×Int=>match s with|(TW,i_2)=>[(1,.one (.c (.lst (Pi.map bn)))),(2,.one (.ptr 0 0)),(4,.one (.ptr 1 0)),(6,.one (.own (TW.map (λx=>[AC.lst (x.map (λx=>[AC.int .i64 x]))])) 2)),(7,.one (.c (.int .i64 i_2)))]) (λs=>match s with|(TW,i_2)=>[.box [.c (.int .i64 O3.op),.c (.int .i64 O3.int),.c (.lst (O3.kinds.map (λx=>[AC.int .i64 x]))),.c (.lst (O3.rows.map (λx=>[AC.lst (x.map cV)]))),.c (.int .i64 O3.pred.op),.c (.int .i64 O3.pred.int),.c (.int .i64 O3.pred.v.kind),.c (.int .i64 O3.pred.v.int),.c (.str O3.pred.v.text),.c (.str O3.pred.nm),.c (.lst (O3.pred.args.map tE)),.c (.lst (O3.exprs.map tE)),.c (.lst (O3.keys.map (λx=>[AC.int .i64 x]))),.c (.lst (O3.aggs.map ol)),.c (.lst (O3.inputs.map tP))],.box [.emp,.emp],.spare TW.length 1]) H (λ_=>aia _)
  (fm_ bg [] rfl aQ bq) ?_
 rintro⟨TW,i_2⟩ Qr OZ Po;unfold wn at OZ;dsimp only at OZ ⊢;obtain⟨PG,OZ⟩|⟨PG,OZ⟩:=ae OZ
 .obtain⟨PK,QV,i1,QI,OZ⟩:=aw (f:=bn) OZ
  obtain⟨g2,OZ⟩:=aq OZ
  cases OZ;refine aS ?_;exact⟨_,rfl,fm_ fO [] dU aQ bq⟩
 cases OZ;have O0:ru O3 Pi (.inl (TW,i_2))=some _:=Po;unfold ru at O0;dsimp only at O0;obtain⟨PM,c3,O0⟩:=bd_ O0;replace c3:=HK c3
 try simp only[ah4,ah2,ah6,ahW,ay,aD]at c3
 obtain⟨Qb,O0⟩|⟨Qb,O0⟩:=ae O0
 .cases O0
  exact ao
 obtain⟨Qi,c4,O0⟩:=bd_ O0;replace c4:=yK fuel c4
 try simp only[ah4,ah2,ah6,ahW,ay,aD]at c4
 cases O0;exact ao
def m4 (Pi:(List xP)):((List aJ)×Int)->Option (Step ((List aJ)×Int) (aJ×Int)):=λs=>match s with
 |(W3,i_2)=>bif i_2<(Pi.length:Int)then(al Pi i_2).bind λPK=>(wb PK.kinds PK.versions).bind λPM=>bif W3.length+1<=2932031007402 then(some (.next ((W3++[PM]),(i64.wrap (i_2+(1:Int))))))else none else
 some (.exit (W3,i_2))
def sa (O3:Pl):Sum ((List aJ)×Int) (aJ×Int)->Option ((aJ×Int))
 |.inl (W3,i_2)=>(Fe O3 W3).bind λQW=>some (QW.1,QW.2)
 |.inr q=>some q
def Au (O3:Pl)(Pi:(List xP)):Option (aJ×Int):=(af (m4 Pi) fuel ([],(0:Int))).bind (sa O3)
theorem OH {O3:Pl}{Pi:(List xP)}{r:aJ×Int}(H:Au O3 Pi=some r):PTz 36 [.agg (tP O3),.one (.lst (Pi.map sW))] (.tup [.agg (bn r.1),.one (.int .i64 r.2)]):=by
 unfold Au at H;rw[aD O3];refine po_ func36 ntmps36 ?_;refine aS ?_;refine br 6 2 rfl ?_;refine alM_ (λs:(List aJ)×Int=>match s with|(W3,i_2)=>[(1,.one (.c (.lst (Pi.map sW)))),(2,.one (.ptr 0 0)),(4,.one (.ptr 1 0)),(6,.one (.own (W3.map bn) 2)),(7,.one (.c (.int .i64 i_2)))]) (λs=>match s with|(W3,i_2)=>[.box [.c (.int .i64 O3.op),.c (.int .i64 O3.int),.c (.lst (O3.kinds.map (λx=>[AC.int .i64 x]))),.c (.lst (O3.rows.map (λx=>[AC.lst (x.map cV)]))),.c (.int .i64 O3.pred.op),.c (.int .i64 O3.pred.int),.c (.int .i64 O3.pred.v.kind),.c (.int .i64 O3.pred.v.int),.c (.str O3.pred.v.text),.c (.str O3.pred.nm),.c (.lst (O3.pred.args.map tE)),.c (.lst (O3.exprs.map tE)),.c (.lst (O3.keys.map (λx=>[AC.int .i64 x]))),.c (.lst (O3.aggs.map ol)),.c (.lst (O3.inputs.map tP))],.box [.emp,.emp],.spare W3.length 2]) H (λ_=>aia _)
  (fm_ bg [] rfl aQ bq) ?_
 rintro⟨W3,i_2⟩ Qr OZ Po;unfold m4 at OZ;dsimp only at OZ ⊢;obtain⟨PG,OZ⟩|⟨PG,OZ⟩:=ae OZ
 .obtain⟨PK,QV,i1,QI,OZ⟩:=aw (f:=sW) OZ
  obtain⟨PM,c2,OZ⟩:=bd_ OZ;replace c2:=OB c2;obtain⟨g3,OZ⟩:=aq OZ
  cases OZ;refine aS ?_;exact⟨_,rfl,fm_ fO [] dU aQ bq⟩
 cases OZ;have O0:sa O3 (.inl (W3,i_2))=some _:=Po;unfold sa at O0;dsimp only at O0;obtain⟨QW,c4,O0⟩:=bd_ O0;replace c4:=MP c4
 try simp only[ah4,ah2,ah6,ahW,ay,aD]at c4
 cases O0;exact ao
end
