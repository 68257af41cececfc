/- Parts. No condition. -/
import Derived.Test.YtnbnpnmkgemdeaaGreatDoorKAJ
set_option maxHeartbeats 8000000
set_option maxRecDepth 100000
set_option linter.unusedSimpArgs false
set_option linter.unusedVariables false
namespace Go.Proofs.YtnbnpnmkgemdeaaGreatDoor
open IntKind (i64)
open Go.RowKit Go.MapKept Tryz
def jm (O_:Int)(O7:Val)(O4:Val):Option (Int):=bif O_=(7:Int)then(OC O7 O4).bind λPW=>some PW else
 bif O_=(8:Int)then(OC O7 O4).bind λQQ=>(BU QQ).bind λPM=>some PM else
 bif O_=(9:Int)then(qG O7 O4).bind λQi=>some Qi else
 bif O_=(11:Int)then(qG O4 O7).bind λQ4=>some Q4 else
 bif O_=(10:Int)then(qG O4 O7).bind λPY=>(BU PY).bind λQq=>some Qq else
 (qG O7 O4).bind λQp=>(BU Qp).bind λRe=>some Re
theorem AA {O_:Int}{O7:Val}{O4:Val}{r:Int}(H:jm O_ O7 O4=some r):PTz 215 [.one (.int .i64 O_),.agg (cV O7),.agg (cV O4)] (.val (.one (.int .i64 r))):=by
 unfold jm at H;refine po_ func215 ntmps215 ?_;obtain⟨PT,H⟩|⟨PT,H⟩:=ae H
 .obtain⟨PW,c1,H⟩:=bd_ H
  replace c1:=K7 c1
  cases H;exact ao
 obtain⟨PG,H⟩|⟨PG,H⟩:=ae H
 .obtain⟨QQ,c2,H⟩:=bd_ H
  replace c2:=K7 c2;obtain⟨PM,c3,H⟩:=bd_ H;replace c3:=oH c3
  cases H;exact ao
 refine aS ?_;obtain⟨Qb,H⟩|⟨Qb,H⟩:=ae H
 .obtain⟨Qi,c4,H⟩:=bd_ H
  replace c4:=qS c4
  cases H;exact ao
 obtain⟨Qw,H⟩|⟨Qw,H⟩:=ae H
 .obtain⟨Q4,c5,H⟩:=bd_ H
  replace c5:=qS c5
  cases H;exact ao
 obtain⟨P6,H⟩|⟨P6,H⟩:=ae H
 .obtain⟨PY,c6,H⟩:=bd_ H
  replace c6:=qS c6;obtain⟨Qq,c7,H⟩:=bd_ H;replace c7:=oH c7
  cases H;exact ao
 obtain⟨Qp,c8,H⟩:=bd_ H;replace c8:=qS c8;obtain⟨Re,c9,H⟩:=bd_ H;replace c9:=oH c9
 cases H;exact ao
def qP (O5:(List Val)):(Int×ByteArray×Int)->Option (Step (Int×ByteArray×Int) (Val)):=λs=>match s with
 |(Rr,V2,Sr)=>bif Sr<(O5.length:Int)then(al O5 Sr).bind λQG=>bif QG.kind≠(2:Int)then(iB ).bind λQi=>some (.ret Qi)else
 bif V2.size+QG.text.size<=9223372036854775807 then(some (.next ((i64.wrap (Rr+(QG.text.size:Int))),(V2++QG.text),(i64.wrap (Sr+(1:Int))))))else none else
 some (.exit (Rr,V2,Sr))
def kj (O_:Int):Sum (Int×ByteArray×Int) (Val)->Option ((Val))
 |.inl (Rr,V2,Sr)=>bif O_=(20:Int)then(jy Rr).bind λQ4=>some Q4 else
 (wj V2).bind λPR=>some PR
 |.inr q=>some q
def qj (O_:Int)(O5:(List Val)):Option (Val):=(af (qP O5) fuel ((0:Int),(⟨#[]⟩:ByteArray),(0:Int))).bind (kj O_)
theorem Ew {O_:Int}{O5:(List Val)}{r:Val}(H:qj O_ O5=some r):PTz 212 [.one (.int .i64 O_),.one (.lst (O5.map cV))] (.val (.agg (cV r))):=by
 unfold qj at H;refine po_ func212 ntmps212 ?_;refine aS ?_;refine alM_ (λs:Int×ByteArray×Int=>match s with|(Rr,V2,Sr)=>[(0,.one (.c (.int .i64 O_))),(4,.one (.ptr 0 0)),(5,.one (.c (.int .i64 Rr))),(6,.one (.c (.str V2))),(9,.one (.c (.lst (O5.map cV)))),(10,.one (.c (.int .i64 (O5.length:Int)))),(11,.one (.c (.int .i64 Sr)))]) (λs=>match s with|(Rr,V2,Sr)=>[.box [.c (.int .i64 (0:Int)),.c (.int .i64 (0:Int)),.c (.str ByteArray.empty)]]) H (λ_=>aia _)
  (fm_ bg [] rfl aQ bq) ?_
 rintro⟨Rr,V2,Sr⟩ Qr OZ Po;unfold qP at OZ;dsimp only at OZ ⊢;obtain⟨P1,OZ⟩|⟨P1,OZ⟩:=ae OZ
 .obtain⟨QG,QV,i1,QI,OZ⟩:=aw (f:=cV) OZ
  obtain⟨Qb,OZ⟩|⟨Qb,OZ⟩:=ae OZ
  .obtain⟨Qi,c2,OZ⟩:=bd_ OZ
   replace c2:=cQ c2
   cases OZ;have O0:kj O_ (.inr Qi)=some _:=Po;unfold kj at O0;dsimp only at O0
   cases O0;exact ao
  obtain⟨g3,OZ⟩:=aq OZ
  cases OZ;refine aS ?_;exact⟨_,rfl,fm_ bg [_] rfl aQ bq⟩
 cases OZ;have O0:kj O_ (.inl (Rr,V2,Sr))=some _:=Po;unfold kj at O0;dsimp only at O0;obtain⟨Qw,O0⟩|⟨Qw,O0⟩:=ae O0
 .obtain⟨Q4,c4,O0⟩:=bd_ O0
  replace c4:=fU c4
  cases O0;exact ao
 obtain⟨PR,c5,O0⟩:=bd_ O0;replace c5:=Nw c5
 cases O0;exact ao
def pP (O7:Int)(O4:Int):Option (Val):=bif O7≠(0:Int)then bif (wZ O7 (i64.wrap (0-O7)))≠0 then(bif (i64.wrap ((1125899906842624:Int).tdiv (wZ O7 (i64.wrap (0-O7)))))<(wZ O4 (i64.wrap (0-O4)))then(iB ).bind λQm=>some Qm else
 (jy (i64.wrap (O7*O4))).bind λQQ=>some QQ)else none else
 (jy (i64.wrap (O7*O4))).bind λPM=>some PM
theorem Gm {O7:Int}{O4:Int}{r:Val}(H:pP O7 O4=some r):PTz 255 [.one (.int .i64 O7),.one (.int .i64 O4)] (.val (.agg (cV r))):=by
 unfold pP at H;refine po_ func255 ntmps255 ?_;obtain⟨PT,H⟩|⟨PT,H⟩:=ae H
 .obtain⟨g1,H⟩:=aq H
  obtain⟨PP,H⟩|⟨PP,H⟩:=ae H
  .obtain⟨Qm,c2,H⟩:=bd_ H
   replace c2:=cQ c2
   cases H;exact ao
  obtain⟨QQ,c3,H⟩:=bd_ H;replace c3:=fU c3
  cases H;exact ao
 obtain⟨PM,c4,H⟩:=bd_ H;replace c4:=fU c4
 cases H;exact ao
def mU (O5:(List Val)):(Int)->Option (Step (Int) (Val)):=λs=>match s with
 |v_1=>bif v_1<(O5.length:Int)then(al O5 v_1).bind λRi=>bif Ri.kind≠(1:Int)then(iB ).bind λPM=>some (.ret PM)else
 some (.next (i64.wrap (v_1+(1:Int))))else
 some (.exit v_1)
def j6 (O_:Int)(O5:(List Val)):Sum (Int) (Val)->Option ((Val))
 |.inl v_1=>(al O5 (0:Int)).bind λRf=>(al O5 (i64.wrap ((O5.length:Int)-(1:Int)))).bind λQs=>bif O_=(13:Int)then(jy (i64.wrap (Rf.int+Qs.int))).bind λQ4=>some Q4 else
 bif O_=(14:Int)then(jy (i64.wrap (Rf.int-Qs.int))).bind λPY=>some PY else
 bif O_=(15:Int)then(pP Rf.int Qs.int).bind λQp=>some Qp else
 bif O_=(18:Int)then(jy (i64.wrap (0-Rf.int))).bind λQ1=>some Q1 else
 bif Qs.int=(0:Int)then(iB ).bind λQD=>some QD else
 bif O_=(16:Int)then bif Qs.int≠0 then((jy (i64.wrap (Rf.int.tdiv Qs.int))).bind λRt=>some Rt)else none else
 bif Qs.int≠0 then((jy (Rf.int.tmod Qs.int)).bind λRu=>some Ru)else none
 |.inr q=>some q
def jF (O_:Int)(O5:(List Val)):Option (Val):=(af (mU O5) fuel (0:Int)).bind (j6 O_ O5)
theorem j9 {O_:Int}{O5:(List Val)}{r:Val}(H:jF O_ O5=some r):PTz 213 [.one (.int .i64 O_),.one (.lst (O5.map cV))] (.val (.agg (cV r))):=by
 unfold jF at H;refine po_ func213 ntmps213 ?_;refine aS ?_;refine alM_ (λs:Int=>match s with|v_1=>[(0,.one (.c (.int .i64 O_))),(1,.one (.c (.lst (O5.map cV)))),(4,.one (.ptr 0 0)),(9,.one (.c (.lst (O5.map cV)))),(10,.one (.c (.int .i64 (O5.length:Int)))),(11,.one (.c (.int .i64 v_1)))]) (λs=>match s with|v_1=>[.box [.c (.int .i64 (0:Int)),.c (.int .i64 (0:Int)),.c (.str ByteArray.empty)]]) H (λ_=>aia _)
  (fm_ bg [] rfl aQ bq) ?_
 rintro v_1 Qr OZ Po;unfold mU at OZ;dsimp only at OZ ⊢;obtain⟨PP,OZ⟩|⟨PP,OZ⟩:=ae OZ
 .obtain⟨Ri,QV,i1,QI,OZ⟩:=aw (f:=cV) OZ
  obtain⟨P1,OZ⟩|⟨P1,OZ⟩:=ae OZ
  .obtain⟨PM,c2,OZ⟩:=bd_ OZ
   replace c2:=cQ c2
   cases OZ;have O0:j6 O_ O5 (.inr PM)=some _:=Po;unfold j6 at O0;dsimp only at O0
   cases O0;exact ao
  cases OZ;refine aS ?_;exact⟨_,rfl,fm_ bg [_] rfl aQ bq⟩
 cases OZ;have O0:j6 O_ O5 (.inl v_1)=some _:=Po;unfold j6 at O0;dsimp only at O0;obtain⟨Rf,Ud,i3,TK,O0⟩:=aw (f:=cV) O0;obtain⟨Qs,VC,i4,U7,O0⟩:=aw (f:=cV) O0;obtain⟨Qw,O0⟩|⟨Qw,O0⟩:=ae O0
 .obtain⟨Q4,c5,O0⟩:=bd_ O0
  replace c5:=fU c5
  cases O0;exact ao
 refine aS ?_;obtain⟨P6,O0⟩|⟨P6,O0⟩:=ae O0
 .obtain⟨PY,c6,O0⟩:=bd_ O0
  replace c6:=fU c6
  cases O0;exact ao
 obtain⟨Qj,O0⟩|⟨Qj,O0⟩:=ae O0
 .obtain⟨Qp,c7,O0⟩:=bd_ O0
  replace c7:=Gm c7
  cases O0;exact ao
 obtain⟨P9,O0⟩|⟨P9,O0⟩:=ae O0
 .obtain⟨Q1,c8,O0⟩:=bd_ O0
  replace c8:=fU c8
  cases O0;exact ao
 refine aS ?_;obtain⟨Rq,O0⟩|⟨Rq,O0⟩:=ae O0
 .obtain⟨QD,c9,O0⟩:=bd_ O0
  replace c9:=cQ c9
  cases O0;exact ao
 obtain⟨QT,O0⟩|⟨QT,O0⟩:=ae O0
 .obtain⟨g10,O0⟩:=aq O0
  obtain⟨Rt,SC,O0⟩:=bd_ O0;replace SC:=fU SC
  cases O0;exact ao
 obtain⟨g12,O0⟩:=aq O0;obtain⟨Ru,R4,O0⟩:=bd_ O0;replace R4:=fU R4
 cases O0;exact ao
def rH (YI:(List Val)):(Int×Int)->Option (Step (Int×Int) (Val)):=λs=>match s with
 |(XC,Tv)=>bif Tv<(YI.length:Int)then(al YI Tv).bind λPL=>(ja PL).bind λQq=>(J1 XC Qq).bind λQp=>some (.next (Qp,(i64.wrap (Tv+(1:Int)))))else
 some (.exit (XC,Tv))
def wG:Sum (Int×Int) (Val)->Option ((Val))
 |.inl (XC,Tv)=>(u_ XC).bind λRe=>some Re
 |.inr q=>some q
def rS (Ue:(List Val)):(Int×Int)->Option (Step (Int×Int) (Val)):=λs=>match s with
 |(UI,Uf)=>bif Uf<(Ue.length:Int)then(al Ue Uf).bind λTz=>(ja Tz).bind λRu=>(yZ UI Ru).bind λSU=>some (.next (SU,(i64.wrap (Uf+(1:Int)))))else
 some (.exit (UI,Uf))
def wy:Sum (Int×Int) (Val)->Option ((Val))
 |.inl (UI,Uf)=>(u_ UI).bind λSD=>some SD
 |.inr q=>some q
def kW (O_:Int)(O5:(List Val)):Option (Val):=(al O5 (0:Int)).bind λZW=>(ja ZW).bind λPW=>bif O_=(4:Int)then(BU PW).bind λQQ=>(u_ QQ).bind λPM=>some PM else
 bif O_=(5:Int)then(gE O5 (1:Int) (O5.length:Int)).bind λYI=>(af (rH YI) fuel (PW,(0:Int))).bind (wG)else
 (gE O5 (1:Int) (O5.length:Int)).bind λUe=>(af (rS Ue) fuel (PW,(0:Int))).bind (wy)
theorem wT {O_:Int}{O5:(List Val)}{r:Val}(H:kW O_ O5=some r):PTz 209 [.one (.int .i64 O_),.one (.lst (O5.map cV))] (.val (.agg (cV r))):=by
 unfold kW at H;refine po_ func209 ntmps209 ?_;obtain⟨ZW,QV,i1,QI,H⟩:=aw (f:=cV) H;obtain⟨PW,c2,H⟩:=bd_ H;replace c2:=kQ c2;obtain⟨PG,H⟩|⟨PG,H⟩:=ae H
 .obtain⟨QQ,c3,H⟩:=bd_ H
  replace c3:=oH c3;obtain⟨PM,c4,H⟩:=bd_ H;replace c4:=tY c4
  cases H;exact ao
 obtain⟨Qb,H⟩|⟨Qb,H⟩:=ae H
 .obtain⟨YI,u5,H⟩:=bd_ H
  obtain⟨⟨u5a,u5b,u5c⟩,u5⟩:=cY u5;have Xb:=xT (f:=cV) u5
  repeat' (first|refine gs_ ?_|rw[Xb]|rw[show((0:Nat):Int)=0 from rfl])
  refine alM_ (λs:Int×Int=>match s with|(XC,Tv)=>[(4,.one (.ptr 0 0)),(5,.one (.c (.int .i64 XC))),(35,.one (.c (.lst (YI.map cV)))),(36,.one (.c (.int .i64 (YI.length:Int)))),(37,.one (.c (.int .i64 Tv)))]) (λs=>match s with|(XC,Tv)=>[.box [.c (.int .i64 (0:Int)),.c (.int .i64 (0:Int)),.c (.str ByteArray.empty)]]) H (λ_=>aia _)
   (fm_ bg [] rfl aQ bq) ?_
  rintro⟨XC,Tv⟩ Qr OZ Po;unfold rH at OZ;dsimp only at OZ ⊢
  repeat' (first|refine gs_ ?_|rw[Xb]|rw[show((0:Nat):Int)=0 from rfl])
  obtain⟨P6,OZ⟩|⟨P6,OZ⟩:=ae OZ
  .obtain⟨PL,ZX,i6,ZY,OZ⟩:=aw (f:=cV) OZ
   obtain⟨Qq,c7,OZ⟩:=bd_ OZ;replace c7:=kQ c7;obtain⟨Qp,c8,OZ⟩:=bd_ OZ;replace c8:=ade c8
   cases OZ
   repeat' (first|refine gs_ ?_|rw[Xb]|rw[show((0:Nat):Int)=0 from rfl])
   exact⟨_,rfl,fm_ bg [_] rfl aQ bq⟩
  cases OZ;have O0:wG (.inl (XC,Tv))=some _:=Po;unfold wG at O0;dsimp only at O0;obtain⟨Re,c9,O0⟩:=bd_ O0;replace c9:=tY c9
  cases O0
  repeat' (first|refine gs_ ?_|rw[Xb]|rw[show((0:Nat):Int)=0 from rfl])
  refine az (aE rfl ?_ ?_)
  .repeat' (first|exact t7|rfl|exact ah1 rfl|omega|apply And.intro)
  .first|rfl|(simp only[ah4,ah2,ah6,ahW]<;>rfl)
 obtain⟨Ue,u10,H⟩:=bd_ H;obtain⟨⟨u10a,u10b,u10c⟩,u10⟩:=cY u10;have XD:=xT (f:=cV) u10
 repeat' (first|refine gs_ ?_|rw[XD]|rw[show((0:Nat):Int)=0 from rfl])
 refine alM_ (λs:Int×Int=>match s with|(UI,Uf)=>[(4,.one (.ptr 0 0)),(5,.one (.c (.int .i64 UI))),(16,.one (.c (.lst (Ue.map cV)))),(17,.one (.c (.int .i64 (Ue.length:Int)))),(18,.one (.c (.int .i64 Uf)))]) (λs=>match s with|(UI,Uf)=>[.box [.c (.int .i64 (0:Int)),.c (.int .i64 (0:Int)),.c (.str ByteArray.empty)]]) H (λ_=>aia _)
  (fm_ bg [] rfl aQ bq) ?_
 rintro⟨UI,Uf⟩ st2 Pe RE;unfold rS at Pe;dsimp only at Pe ⊢
 repeat' (first|refine gs_ ?_|rw[XD]|rw[show((0:Nat):Int)=0 from rfl])
 obtain⟨QT,Pe⟩|⟨QT,Pe⟩:=ae Pe
 .obtain⟨Tz,YJ,i11,YK,Pe⟩:=aw (f:=cV) Pe
  obtain⟨Ru,SJ,Pe⟩:=bd_ Pe;replace SJ:=kQ SJ;obtain⟨SU,R4,Pe⟩:=bd_ Pe;replace R4:=abx R4
  cases Pe
  repeat' (first|refine gs_ ?_|rw[XD]|rw[show((0:Nat):Int)=0 from rfl])
  exact⟨_,rfl,fm_ bg [_] rfl aQ bq⟩
 cases Pe;have Px:wy (.inl (UI,Uf))=some _:=RE;unfold wy at Px;dsimp only at Px;obtain⟨SD,S7,Px⟩:=bd_ Px;replace S7:=tY S7
 cases Px
 repeat' (first|refine gs_ ?_|rw[XD]|rw[show((0:Nat):Int)=0 from rfl])
 refine az (aE rfl ?_ ?_)
 .repeat' (first|exact t7|rfl|exact ah1 rfl|omega|apply And.intro)
 .first|rfl|(simp only[ah4,ah2,ah6,ahW]<;>rfl)
def gAt (Pg:(List Val))(UZ:Int):Option (Val):=bif UZ<(0:Int)then(iB ).bind λPW=>some PW else
 bif (Pg.length:Int)<=UZ then(iB ).bind λQQ=>some QQ else
 (al Pg UZ).bind λQG=>some QG
theorem aeV {Pg:(List Val)}{UZ:Int}{r:Val}(H:gAt Pg UZ=some r):PTz 216 [.one (.lst (Pg.map cV)),.one (.int .i64 UZ)] (.val (.agg (cV r))):=by
 unfold gAt at H;refine po_ func216 ntmps216 ?_;obtain⟨PT,H⟩|⟨PT,H⟩:=ae H
 .obtain⟨PW,c1,H⟩:=bd_ H
  replace c1:=cQ c1
  cases H;exact ao
 obtain⟨PG,H⟩|⟨PG,H⟩:=ae H
 .obtain⟨QQ,c2,H⟩:=bd_ H
  replace c2:=cQ c2
  cases H;exact ao
 obtain⟨QG,Ud,i3,TK,H⟩:=aw (f:=cV) H
 cases H;exact ao
def um (Pg:(List Val))(O5:(List Int)):((List Val)×Int)->Option (Step ((List Val)×Int) ((List Val))):=λs=>match s with
 |(O2,v_2)=>bif v_2<(O5.length:Int)then(al O5 v_2).bind λPK=>(gAt Pg PK).bind λPM=>bif O2.length+1<=4398046511104 then(some (.next ((O2++[PM]),(i64.wrap (v_2+(1:Int))))))else none else
 some (.exit (O2,v_2))
def AQ:Sum ((List Val)×Int) ((List Val))->Option (((List Val)))
 |.inl (O2,v_2)=>some O2
 |.inr q=>some q
def GL (Pg:(List Val))(O5:(List Int)):Option ((List Val)):=bif 0<=(O5.length:Int)then(bif (32:Int)*(O5.length:Int)<=281474976710656 then(bif (O5.length:Int)<=9223372036854775807 then((af (um Pg O5) fuel ([],(0:Int))).bind (AQ))else none)else none)else none
theorem La {p q:Prop}(k:q)(h:Bx q->p:=by
 intro hq
 repeat' (first|refine bQ rfl rfl rfl rfl rfl (ju tab_ok (k:=3) (by_:=32) rfl rfl rfl rfl rfl rfl m9 m0 m0 m0) ?_|refine gs_ ?_|fail)
 exact hq.out):p:=h ⟨k⟩
theorem acX {p:Prop}(h:p:=by
 repeat' (first|refine bQ rfl rfl rfl rfl rfl (ju tab_ok (k:=3) (by_:=32) rfl rfl rfl rfl rfl rfl m9 m0 m0 m0) ?_|refine gs_ ?_|fail)
 refine az (aE rfl ?_ ?_)
 .repeat' (first|exact t7|rfl|exact ah1 rfl|omega|apply And.intro)
 .first|rfl|(simp only[ah4,ah2,ah6,ahW]<;>rfl)):p:=h
theorem abq {Pg:(List Val)}{O5:(List Int)}{r:(List Val)}(H:GL Pg O5=some r):PTz 165 [.one (.lst (Pg.map cV)),.one (.lst (O5.map (λx=>[AC.int .i64 x])))] (.val (.one (.lst (r.map cV)))):=by
 unfold GL at H;refine po_ func165 ntmps165 ?_;obtain⟨g1,H⟩:=aq H;obtain⟨g2,H⟩:=aq H;obtain⟨g3,H⟩:=aq H;refine La ?_;refine alM_ (λs:(List Val)×Int=>match s with|(O2,v_2)=>[(0,.one (.c (.lst (Pg.map cV)))),(5,.one (.own (O2.map cV) 0)),(11,.one (.c (.lst (O5.map (λx=>[AC.int .i64 x]))))),(12,.one (.c (.int .i64 (O5.length:Int)))),(13,.one (.c (.int .i64 v_2)))]) (λs=>match s with|(O2,v_2)=>[.spare O2.length 3]) H (λ_=>aia _)
  (fm_ bg [] rfl aQ bq) ?_
 rintro⟨O2,v_2⟩ Qr OZ Po;unfold um at OZ;dsimp only at OZ ⊢;obtain⟨PG,OZ⟩|⟨PG,OZ⟩:=ae OZ
 .obtain⟨PK,VC,i4,U7,OZ⟩:=aw (f:=(λx=>[AC.int .i64 x])) OZ
  obtain⟨PM,c5,OZ⟩:=bd_ OZ;replace c5:=aeV c5;obtain⟨g6,OZ⟩:=aq OZ
  cases OZ;refine La ?_;exact⟨_,rfl,fm_ fO [] dU aQ bq⟩
 cases OZ;have O0:AQ (.inl (O2,v_2))=some _:=Po;unfold AQ at O0;dsimp only at O0
 cases O0;exact acX
def uO (Pg:(List Val))(UZ:Int):Option (Val):=(GL Pg [UZ]).bind λPh=>(al Ph (0:Int)).bind λXc=>(jN Xc).bind λQm=>bif (!Qm)then(iB ).bind λPM=>some PM else
 some Xc
theorem JA {Pg:(List Val)}{UZ:Int}{r:Val}(H:uO Pg UZ=some r):PTz 208 [.one (.lst (Pg.map cV)),.one (.int .i64 UZ)] (.val (.agg (cV r))):=by
 unfold uO at H;refine po_ func208 ntmps208 ?_;obtain⟨Ph,c1,H⟩:=bd_ H;replace c1:=abq c1
 try simp only[ah4,ah2,ah6,ahW,ay,aD]at c1
 obtain⟨Xc,Tu,i2,SR,H⟩:=aw (f:=cV) H;obtain⟨Qm,c3,H⟩:=bd_ H;replace c3:=n_ c3;obtain⟨P1,H⟩|⟨P1,H⟩:=ae H
 .obtain⟨PM,c4,H⟩:=bd_ H
  replace c4:=cQ c4
  cases H;exact ao
 cases H;exact ao
def Ni (O3:dV)(QE:dV):Option (Int×Bool):=(gPV O3).bind λPh=>bif (!Ph)then some ((0:Int),false)else
 (gPV QE).bind λQm=>bif (!Qm)then some ((0:Int),false)else
 bif O3.hi<QE.lo then some ((0:Int),true)else
 bif O3.hi=QE.lo then some ((1:Int),true)else
 bif QE.hi<O3.lo then some ((12:Int),true)else
 bif QE.hi=O3.lo then some ((11:Int),true)else
 bif (cF [.c (.int .i64 O3.lo),.c (.int .i64 O3.hi)] [.c (.int .i64 QE.lo),.c (.int .i64 QE.hi)])then some ((6:Int),true)else
 bif O3.lo=QE.lo then bif O3.hi<QE.hi then some ((3:Int),true)else
 some ((9:Int),true)else
 bif O3.hi=QE.hi then bif QE.lo<O3.lo then some ((5:Int),true)else
 some ((7:Int),true)else
 bif O3.lo<QE.lo then bif QE.hi<O3.hi then some ((8:Int),true)else
 bif QE.lo<O3.lo then bif O3.hi<QE.hi then some ((4:Int),true)else
 some ((2:Int),true)else
 some ((2:Int),true)else
 bif QE.lo<O3.lo then bif O3.hi<QE.hi then some ((4:Int),true)else
 some ((10:Int),true)else
 some ((10:Int),true)
theorem LZ {O3:dV}{QE:dV}{r:Int×Bool}(H:Ni O3 QE=some r):PTz 94 [.agg (mb O3),.agg (mb QE)] (.tup [.one (.int .i64 r.1),.one (.bool r.2)]):=by
 unfold Ni at H;refine po_ func94 ntmps94 ?_;obtain⟨Ph,c1,H⟩:=bd_ H;replace c1:=JP c1;obtain⟨PP,H⟩|⟨PP,H⟩:=ae H
 .cases H
  exact ao
 obtain⟨Qm,c2,H⟩:=bd_ H;replace c2:=JP c2;obtain⟨P1,H⟩|⟨P1,H⟩:=ae H
 .cases H
  exact ao
 refine aS ?_;obtain⟨Qu,H⟩|⟨Qu,H⟩:=ae H
 .cases H
  exact ao
 obtain⟨Qb,H⟩|⟨Qb,H⟩:=ae H
 .cases H
  exact ao
 obtain⟨QX,H⟩|⟨QX,H⟩:=ae H
 .cases H
  exact ao
 refine aS ?_;obtain⟨Qw,H⟩|⟨Qw,H⟩:=ae H
 .cases H
  exact ao
 obtain⟨Q5,H⟩|⟨Q5,H⟩:=ae H
 .cases H
  exact ao
 obtain⟨P6,H⟩|⟨P6,H⟩:=ae H
 .refine aS ?_
  obtain⟨Qo,H⟩|⟨Qo,H⟩:=ae H
  .cases H
   exact ao
  cases H;exact ao
 refine aS ?_;obtain⟨Qj,H⟩|⟨Qj,H⟩:=ae H
 .obtain⟨P2,H⟩|⟨P2,H⟩:=ae H
  .cases H
   exact ao
  cases H;exact ao
 obtain⟨P9,H⟩|⟨P9,H⟩:=ae H
 .obtain⟨QJ,H⟩|⟨QJ,H⟩:=ae H
  .cases H
   exact ao
  refine aS ?_;obtain⟨Rq,H⟩|⟨Rq,H⟩:=ae H
  .obtain⟨RI,H⟩|⟨RI,H⟩:=ae H
   .cases H
    exact ao
   cases H;exact ao
  cases H;exact ao
 obtain⟨QT,H⟩|⟨QT,H⟩:=ae H
 .refine aS ?_
  obtain⟨R8,H⟩|⟨R8,H⟩:=ae H
  .cases H
   exact ao
  cases H;exact ao
 cases H;exact ao
