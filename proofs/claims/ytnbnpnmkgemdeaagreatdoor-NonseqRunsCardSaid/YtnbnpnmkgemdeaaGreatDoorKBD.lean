/- Parts. No condition. -/
import Derived.Test.YtnbnpnmkgemdeaaGreatDoorKBA
set_option maxHeartbeats 8000000
set_option maxRecDepth 100000
set_option linter.unusedSimpArgs false
set_option linter.unusedVariables false
namespace Go.Proofs.YtnbnpnmkgemdeaaGreatDoor
open IntKind (i64)
open Go.RowKit Go.MapKept Tryz
def eO (O_:Int)(O7:Val)(O4:Val):Option (Int):=bif O_=(7:Int)then(Nq O7 O4).bind λPW=>some PW else
 bif O_=(8:Int)then(Nq O7 O4).bind λQQ=>(Ap QQ).bind λPM=>some PM else
 bif O_=(9:Int)then(qK O7 O4).bind λQi=>some Qi else
 bif O_=(11:Int)then(qK O4 O7).bind λQ4=>some Q4 else
 bif O_=(10:Int)then(qK O4 O7).bind λPY=>(Ap PY).bind λQq=>some Qq else
 (qK O7 O4).bind λQp=>(Ap Qp).bind λRe=>some Re
theorem ft {O_:Int}{O7:Val}{O4:Val}{r:Int}(H:eO O_ O7 O4=some r):PTz 266 [.one (.int .i64 O_),.agg (cV O7),.agg (cV O4)] (.val (.one (.int .i64 r))):=by
 unfold eO at H;refine po_ func266 ntmps266 ?_;obtain⟨PT,H⟩|⟨PT,H⟩:=ae H
 .obtain⟨PW,c1,H⟩:=bd_ H
  replace c1:=K5 c1
  cases H;exact ao
 obtain⟨PG,H⟩|⟨PG,H⟩:=ae H
 .obtain⟨QQ,c2,H⟩:=bd_ H
  replace c2:=K5 c2;obtain⟨PM,c3,H⟩:=bd_ H;replace c3:=uc c3
  cases H;exact ao
 refine aS ?_;obtain⟨Qb,H⟩|⟨Qb,H⟩:=ae H
 .obtain⟨Qi,c4,H⟩:=bd_ H
  replace c4:=rx c4
  cases H;exact ao
 obtain⟨Qw,H⟩|⟨Qw,H⟩:=ae H
 .obtain⟨Q4,c5,H⟩:=bd_ H
  replace c5:=rx c5
  cases H;exact ao
 obtain⟨P6,H⟩|⟨P6,H⟩:=ae H
 .obtain⟨PY,c6,H⟩:=bd_ H
  replace c6:=rx c6;obtain⟨Qq,c7,H⟩:=bd_ H;replace c7:=uc c7
  cases H;exact ao
 obtain⟨Qp,c8,H⟩:=bd_ H;replace c8:=rx c8;obtain⟨Re,c9,H⟩:=bd_ H;replace c9:=uc c9
 cases H;exact ao
def N7 (QC:Int):Option (Int):=some (wZ QC (i64.wrap (0-QC)))
theorem Le {QC:Int}{r:Int}(H:N7 QC=some r):PTz 293 [.one (.int .i64 QC)] (.val (.one (.int .i64 r))):=by
 unfold N7 at H;refine po_ func293 ntmps293 ?_
 cases H;exact ao
def cu (O_:Int)(O7:Int)(O4:Int):Option (Val):=bif O_=(13:Int)then(iC (i64.wrap (O7+O4))).bind λPW=>some PW else
 bif O_=(14:Int)then(iC (i64.wrap (O7-O4))).bind λQQ=>some QQ else
 bif O_=(15:Int)then bif O7≠(0:Int)then(N7 O4).bind λQi=>(N7 O7).bind λQN=>bif QN≠0 then(bif (i64.wrap ((1125899906842624:Int).tdiv QN))<Qi then(cq ).bind λPR=>some PR else
 (iC (i64.wrap (O7*O4))).bind λPY=>some PY)else none else
 (iC (i64.wrap (O7*O4))).bind λQq=>some Qq else
 bif O4=(0:Int)then(cq ).bind λRe=>some Re else
 bif O_=(16:Int)then bif O4≠0 then((iC (i64.wrap (O7.tdiv O4))).bind λRL=>some RL)else none else
 bif O4≠0 then((iC (O7.tmod O4)).bind λQD=>some QD)else none
theorem FX {O_:Int}{O7:Int}{O4:Int}{r:Val}(H:cu O_ O7 O4=some r):PTz 271 [.one (.int .i64 O_),.one (.int .i64 O7),.one (.int .i64 O4)] (.val (.agg (cV r))):=by
 unfold cu at H;refine po_ func271 ntmps271 ?_;obtain⟨PT,H⟩|⟨PT,H⟩:=ae H
 .obtain⟨PW,c1,H⟩:=bd_ H
  replace c1:=eJ c1
  cases H;exact ao
 obtain⟨PG,H⟩|⟨PG,H⟩:=ae H
 .obtain⟨QQ,c2,H⟩:=bd_ H
  replace c2:=eJ c2
  cases H;exact ao
 refine aS ?_;obtain⟨Qu,H⟩|⟨Qu,H⟩:=ae H
 .obtain⟨Qb,H⟩|⟨Qb,H⟩:=ae H
  .obtain⟨Qi,c3,H⟩:=bd_ H
   replace c3:=Le c3;obtain⟨QN,c4,H⟩:=bd_ H;replace c4:=Le c4;obtain⟨g5,H⟩:=aq H;obtain⟨Q5,H⟩|⟨Q5,H⟩:=ae H
   .obtain⟨PR,c6,H⟩:=bd_ H
    replace c6:=bI c6
    cases H;exact ao
   obtain⟨PY,c7,H⟩:=bd_ H;replace c7:=eJ c7
   cases H;exact ao
  obtain⟨Qq,c8,H⟩:=bd_ H;replace c8:=eJ c8
  cases H;exact ao
 obtain⟨P2,H⟩|⟨P2,H⟩:=ae H
 .obtain⟨Re,c9,H⟩:=bd_ H
  replace c9:=bI c9
  cases H;exact ao
 obtain⟨QJ,H⟩|⟨QJ,H⟩:=ae H
 .obtain⟨g10,H⟩:=aq H
  obtain⟨RL,SC,H⟩:=bd_ H;replace SC:=eJ SC
  cases H;exact ao
 obtain⟨g12,H⟩:=aq H;obtain⟨QD,R4,H⟩:=bd_ H;replace R4:=eJ R4
 cases H;exact ao
def xY (O5:(List Val))(QF:Int):(Int)->Option (Step (Int) (Bool)):=λs=>match s with
 |i_1=>bif i_1<(O5.length:Int)then(al O5 i_1).bind λRi=>bif Ri.kind≠QF then some (.ret false)else
 some (.next (i64.wrap (i_1+(1:Int))))else
 some (.exit i_1)
def uY:Sum (Int) (Bool)->Option ((Bool))
 |.inl i_1=>some true
 |.inr q=>some q
def GG (O5:(List Val))(QF:Int):Option (Bool):=(af (xY O5 QF) fuel (0:Int)).bind (uY)
theorem ym {O5:(List Val)}{QF:Int}{r:Bool}(H:GG O5 QF=some r):PTz 267 [.one (.lst (O5.map cV)),.one (.int .i64 QF)] (.val (.one (.bool r))):=by
 unfold GG at H;refine po_ func267 ntmps267 ?_;refine aS ?_;refine alM_ (λs:Int=>match s with|i_1=>[(0,.one (.c (.lst (O5.map cV)))),(1,.one (.c (.int .i64 QF))),(5,.one (.c (.int .i64 i_1)))]) (λs=>match s with|i_1=>[]) H (λ_=>aia _)
  (fm_ bg [] rfl aQ trivial) ?_
 rintro i_1 Qr OZ Po;unfold xY at OZ;dsimp only at OZ ⊢;obtain⟨PP,OZ⟩|⟨PP,OZ⟩:=ae OZ
 .obtain⟨Ri,QV,i1,QI,OZ⟩:=aw (f:=cV) OZ
  obtain⟨P1,OZ⟩|⟨P1,OZ⟩:=ae OZ
  .cases OZ
   have O0:uY (.inr false)=some _:=Po;unfold uY at O0;dsimp only at O0
   cases O0;exact ao
  cases OZ;refine aS ?_;exact⟨_,rfl,fm_ bg [] rfl aQ trivial⟩
 cases OZ;have O0:uY (.inl i_1)=some _:=Po;unfold uY at O0;dsimp only at O0
 cases O0;exact ao
def kI (O_:Int)(O5:(List Val)):(Int×Int)->Option (Step (Int×Int) (Val)):=λs=>match s with
 |(Xe,i_4)=>bif i_4<(O5.length:Int)then bif O_=(5:Int)then(al O5 i_4).bind λQs=>(eV Qs).bind λQN=>(AD Xe QN).bind λQ4=>some (.next (Q4,(i64.wrap (i_4+(1:Int)))))else
 (al O5 i_4).bind λSG=>(eV SG).bind λPY=>(I2 Xe PY).bind λQq=>some (.next (Qq,(i64.wrap (i_4+(1:Int)))))else
 some (.exit (Xe,i_4))
def sP:Sum (Int×Int) (Val)->Option ((Val))
 |.inl (Xe,i_4)=>(xN Xe).bind λQp=>some Qp
 |.inr q=>some q
def sb (O_:Int)(O5:(List Val)):Option (Val):=(al O5 (0:Int)).bind λZW=>(eV ZW).bind λPW=>(af (kI O_ O5) fuel (PW,(1:Int))).bind (sP)
theorem zA {O_:Int}{O5:(List Val)}{r:Val}(H:sb O_ O5=some r):PTz 265 [.one (.int .i64 O_),.one (.lst (O5.map cV))] (.val (.agg (cV r))):=by
 unfold sb at H;refine po_ func265 ntmps265 ?_;obtain⟨ZW,QV,i1,QI,H⟩:=aw (f:=cV) H;obtain⟨PW,c2,H⟩:=bd_ H;replace c2:=iN c2;refine aS ?_;refine alM_ (λs:Int×Int=>match s with|(Xe,i_4)=>[(0,.one (.c (.int .i64 O_))),(1,.one (.c (.lst (O5.map cV)))),(4,.one (.ptr 0 0)),(5,.one (.c (.int .i64 Xe))),(6,.one (.c (.int .i64 i_4)))]) (λs=>match s with|(Xe,i_4)=>[.box [.c (.int .i64 (0:Int)),.c (.int .i64 (0:Int)),.c (.str ByteArray.empty)]]) H (λ_=>aia _)
  (fm_ bg [] rfl aQ bq) ?_
 rintro⟨Xe,i_4⟩ Qr OZ Po;unfold kI at OZ;dsimp only at OZ ⊢;obtain⟨Qu,OZ⟩|⟨Qu,OZ⟩:=ae OZ
 .obtain⟨Qb,OZ⟩|⟨Qb,OZ⟩:=ae OZ
  .obtain⟨Qs,Ud,i3,TK,OZ⟩:=aw (f:=cV) OZ
   obtain⟨QN,c4,OZ⟩:=bd_ OZ;replace c4:=iN c4;obtain⟨Q4,c5,OZ⟩:=bd_ OZ;replace c5:=aak c5
   cases OZ;refine aS ?_;exact⟨_,rfl,fm_ bg [] rfl aQ bq⟩
  obtain⟨SG,ZX,i6,ZY,OZ⟩:=aw (f:=cV) OZ;obtain⟨PY,c7,OZ⟩:=bd_ OZ;replace c7:=iN c7;obtain⟨Qq,c8,OZ⟩:=bd_ OZ;replace c8:=acV c8
  cases OZ;refine aS ?_;exact⟨_,rfl,fm_ bg [] rfl aQ bq⟩
 cases OZ;have O0:sP (.inl (Xe,i_4))=some _:=Po;unfold sP at O0;dsimp only at O0;obtain⟨Qp,c9,O0⟩:=bd_ O0;replace c9:=lH c9
 cases O0;exact ao
