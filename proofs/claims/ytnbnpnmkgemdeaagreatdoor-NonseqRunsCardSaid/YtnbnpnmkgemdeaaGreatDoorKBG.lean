/- Parts. No condition. -/
import Derived.Test.YtnbnpnmkgemdeaaGreatDoorKBF
set_option maxHeartbeats 8000000
set_option maxRecDepth 100000
set_option linter.unusedSimpArgs false
set_option linter.unusedVariables false
namespace Go.Proofs.YtnbnpnmkgemdeaaGreatDoor
open IntKind (i64)
open Go.RowKit Go.MapKept Tryz
def rf (O5:(List Int))(QF:Int):(Int)->Option (Step (Int) (Bool)):=λs=>match s with
 |i_1=>bif i_1<(O5.length:Int)then(al O5 i_1).bind λRi=>bif Ri≠QF then bif Ri≠(0:Int)then some (.ret false)else
 some (.next (i64.wrap (i_1+(1:Int))))else
 some (.next (i64.wrap (i_1+(1:Int))))else
 some (.exit i_1)
def mN:Sum (Int) (Bool)->Option ((Bool))
 |.inl i_1=>some true
 |.inr q=>some q
def fm (O5:(List Int))(QF:Int):Option (Bool):=(af (rf O5 QF) fuel (0:Int)).bind (mN)
theorem cN {O5:(List Int)}{QF:Int}{r:Bool}(H:fm O5 QF=some r):PTz 305 [.one (.lst (O5.map (λx=>[AC.int .i64 x]))),.one (.int .i64 QF)] (.val (.one (.bool r))):=by
 unfold fm at H;refine po_ func305 ntmps305 ?_;refine aS ?_;refine alM_ (λs:Int=>match s with|i_1=>[(0,.one (.c (.lst (O5.map (λx=>[AC.int .i64 x]))))),(1,.one (.c (.int .i64 QF))),(5,.one (.c (.int .i64 i_1)))]) (λs=>match s with|i_1=>[]) H (λ_=>aia _)
  (fm_ bg [] rfl aQ trivial) ?_
 rintro i_1 Qr OZ Po;unfold rf at OZ;dsimp only at OZ ⊢;obtain⟨PP,OZ⟩|⟨PP,OZ⟩:=ae OZ
 .obtain⟨Ri,QV,i1,QI,OZ⟩:=aw (f:=(λx=>[AC.int .i64 x])) OZ
  obtain⟨P1,OZ⟩|⟨P1,OZ⟩:=ae OZ
  .obtain⟨Qu,OZ⟩|⟨Qu,OZ⟩:=ae OZ
   .cases OZ
    have O0:mN (.inr false)=some _:=Po;unfold mN at O0;dsimp only at O0
    cases O0;exact ao
   cases OZ;refine aS ?_;exact⟨_,rfl,fm_ bg [] rfl aQ trivial⟩
  cases OZ;refine aS ?_;exact⟨_,rfl,fm_ bg [] rfl aQ trivial⟩
 cases OZ;have O0:mN (.inl i_1)=some _:=Po;unfold mN at O0;dsimp only at O0
 cases O0;exact ao
def yP (O5:(List Int)):(Int×Int)->Option (Step (Int×Int) (Int×Bool)):=λs=>match s with
 |(TW,i_2)=>bif i_2<(O5.length:Int)then(al O5 i_2).bind λPK=>bif PK=(0:Int)then some (.next (TW,(i64.wrap (i_2+(1:Int)))))else
 bif TW≠(0:Int)then bif TW≠PK then some (.ret ((0:Int),false))else
 some (.next (PK,(i64.wrap (i_2+(1:Int)))))else
 some (.next (PK,(i64.wrap (i_2+(1:Int)))))else
 some (.exit (TW,i_2))
def kP:Sum (Int×Int) (Int×Bool)->Option ((Int×Bool))
 |.inl (TW,i_2)=>some (TW,true)
 |.inr q=>some q
def f7 (O5:(List Int)):Option (Int×Bool):=(af (yP O5) fuel ((0:Int),(0:Int))).bind (kP)
theorem eZ {O5:(List Int)}{r:Int×Bool}(H:f7 O5=some r):PTz 306 [.one (.lst (O5.map (λx=>[AC.int .i64 x])))] (.tup [.one (.int .i64 r.1),.one (.bool r.2)]):=by
 unfold f7 at H;refine po_ func306 ntmps306 ?_;refine aS ?_;refine alM_ (λs:Int×Int=>match s with|(TW,i_2)=>[(0,.one (.c (.lst (O5.map (λx=>[AC.int .i64 x]))))),(4,.one (.c (.int .i64 TW))),(5,.one (.c (.int .i64 i_2)))]) (λs=>match s with|(TW,i_2)=>[]) H (λ_=>aia _)
  (fm_ bg [] rfl aQ trivial) ?_
 rintro⟨TW,i_2⟩ Qr OZ Po;unfold yP at OZ;dsimp only at OZ ⊢;obtain⟨PG,OZ⟩|⟨PG,OZ⟩:=ae OZ
 .obtain⟨PK,QV,i1,QI,OZ⟩:=aw (f:=(λx=>[AC.int .i64 x])) OZ
  obtain⟨Qu,OZ⟩|⟨Qu,OZ⟩:=ae OZ
  .cases OZ
   refine aS ?_;exact⟨_,rfl,fm_ bg [] rfl aQ trivial⟩
  obtain⟨Qb,OZ⟩|⟨Qb,OZ⟩:=ae OZ
  .obtain⟨QX,OZ⟩|⟨QX,OZ⟩:=ae OZ
   .cases OZ
    have O0:kP (.inr ((0:Int),false))=some _:=Po;unfold kP at O0;dsimp only at O0
    cases O0;exact ao
   cases OZ;refine aS ?_;exact⟨_,rfl,fm_ bg [] rfl aQ trivial⟩
  cases OZ;refine aS ?_;exact⟨_,rfl,fm_ bg [] rfl aQ trivial⟩
 cases OZ;have O0:kP (.inl (TW,i_2))=some _:=Po;unfold kP at O0;dsimp only at O0
 cases O0;exact ao
def gRs11 (O6:Ex)(O5:(List Int))(O1:(List Int)):Option (Int×Bool):=bif O6.op=(1:Int)then some (O6.v.kind,true)else
 bif O6.op=(2:Int)then(al O1 O6.int).bind λRi=>some (Ri,true)else
 bif O6.op=(4:Int)then(fm O5 (3:Int)).bind λPM=>some ((3:Int),PM)else
 bif O6.op=(5:Int)then(fm O5 (3:Int)).bind λQi=>some ((3:Int),Qi)else
 bif O6.op=(6:Int)then(fm O5 (3:Int)).bind λQ4=>some ((3:Int),Q4)else
 bif O6.op=(7:Int)then(f7 O5).bind λPY=>some ((3:Int),PY.2)else
 bif O6.op=(8:Int)then(f7 O5).bind λQp=>some ((3:Int),Qp.2)else
 bif O6.op=(9:Int)then(f7 O5).bind λQ1=>some ((3:Int),Q1.2)else
 bif O6.op=(10:Int)then(f7 O5).bind λQD=>some ((3:Int),QD.2)else
 bif O6.op=(11:Int)then(f7 O5).bind λRt=>some ((3:Int),Rt.2)else
 bif O6.op=(12:Int)then(f7 O5).bind λSU=>some ((3:Int),SU.2)else
 bif O6.op=(13:Int)then(fm O5 (1:Int)).bind λTQ=>some ((1:Int),TQ)else
 bif O6.op=(14:Int)then(fm O5 (1:Int)).bind λTV=>some ((1:Int),TV)else
 bif O6.op=(15:Int)then(fm O5 (1:Int)).bind λR_=>some ((1:Int),R_)else
 bif O6.op=(16:Int)then(fm O5 (1:Int)).bind λS9=>some ((1:Int),S9)else
 bif O6.op=(17:Int)then(fm O5 (1:Int)).bind λTC=>some ((1:Int),TC)else
 bif O6.op=(18:Int)then(fm O5 (1:Int)).bind λV8=>some ((1:Int),V8)else
 bif O6.op=(19:Int)then(fm O5 (2:Int)).bind λTR=>some ((2:Int),TR)else
 bif O6.op=(20:Int)then(fm O5 (2:Int)).bind λWV=>some ((1:Int),WV)else
 bif O6.op=(21:Int)then some ((3:Int),true)else
 bif O6.op=(22:Int)then(gE O5 (1:Int) (O5.length:Int)).bind λs_40=>(f7 s_40).bind λVI=>bif VI.2 then(gE O5 (0:Int) (1:Int)).bind λs_43=>(fm s_43 (3:Int)).bind λr_44=>some (VI.1,r_44)else
 some (VI.1,false)else
 bif O6.op=(23:Int)then(f7 O5).bind λV_=>some (V_.1,V_.2)else
 (fm O5 (1:Int)).bind λr_47=>some ((3:Int),r_47)
theorem uk {O6:Ex}{O5:(List Int)}{O1:(List Int)}{r:Int×Bool}(H:gRs11 O6 O5 O1=some r):PTz 294 [.agg (tE O6),.one (.lst (O5.map (λx=>[AC.int .i64 x]))),.one (.lst (O1.map (λx=>[AC.int .i64 x])))] (.tup [.one (.int .i64 r.1),.one (.bool r.2)]):=by
 unfold gRs11 at H;rw[ay O6];refine po_ func294 ntmps294 ?_;obtain⟨PT,H⟩|⟨PT,H⟩:=ae H
 .cases H
  exact ao
 obtain⟨PP,H⟩|⟨PP,H⟩:=ae H
 .obtain⟨Ri,QV,i1,QI,H⟩:=aw (f:=(λx=>[AC.int .i64 x])) H
  cases H;exact ao
 refine aS ?_;obtain⟨P1,H⟩|⟨P1,H⟩:=ae H
 .obtain⟨PM,c2,H⟩:=bd_ H
  replace c2:=cN c2
  cases H;exact ao
 obtain⟨Qb,H⟩|⟨Qb,H⟩:=ae H
 .obtain⟨Qi,c3,H⟩:=bd_ H
  replace c3:=cN c3
  cases H;exact ao
 obtain⟨Qw,H⟩|⟨Qw,H⟩:=ae H
 .obtain⟨Q4,c4,H⟩:=bd_ H
  replace c4:=cN c4
  cases H;exact ao
 refine aS ?_;obtain⟨P6,H⟩|⟨P6,H⟩:=ae H
 .obtain⟨PY,c5,H⟩:=bd_ H
  replace c5:=eZ c5
  cases H;exact ao
 obtain⟨Qj,H⟩|⟨Qj,H⟩:=ae H
 .obtain⟨Qp,c6,H⟩:=bd_ H
  replace c6:=eZ c6
  cases H;exact ao
 obtain⟨P9,H⟩|⟨P9,H⟩:=ae H
 .obtain⟨Q1,c7,H⟩:=bd_ H
  replace c7:=eZ c7
  cases H;exact ao
 refine aS ?_;obtain⟨Rq,H⟩|⟨Rq,H⟩:=ae H
 .obtain⟨QD,c8,H⟩:=bd_ H
  replace c8:=eZ c8
  cases H;exact ao
 obtain⟨QT,H⟩|⟨QT,H⟩:=ae H
 .obtain⟨Rt,c9,H⟩:=bd_ H
  replace c9:=eZ c9
  cases H;exact ao
 obtain⟨RJ,H⟩|⟨RJ,H⟩:=ae H
 .obtain⟨SU,Ug,H⟩:=bd_ H
  replace Ug:=eZ Ug
  cases H;exact ao
 refine aS ?_;obtain⟨SS,H⟩|⟨SS,H⟩:=ae H
 .obtain⟨TQ,SC,H⟩:=bd_ H
  replace SC:=cN SC
  cases H;exact ao
 obtain⟨U8,H⟩|⟨U8,H⟩:=ae H
 .obtain⟨TV,SJ,H⟩:=bd_ H
  replace SJ:=cN SJ
  cases H;exact ao
 obtain⟨VH,H⟩|⟨VH,H⟩:=ae H
 .obtain⟨R_,R4,H⟩:=bd_ H
  replace R4:=cN R4
  cases H;exact ao
 refine aS ?_;obtain⟨TS,H⟩|⟨TS,H⟩:=ae H
 .obtain⟨S9,S7,H⟩:=bd_ H
  replace S7:=cN S7
  cases H;exact ao
 obtain⟨Va,H⟩|⟨Va,H⟩:=ae H
 .obtain⟨TC,WM,H⟩:=bd_ H
  replace WM:=cN WM
  cases H;exact ao
 obtain⟨Vh,H⟩|⟨Vh,H⟩:=ae H
 .obtain⟨V8,VO,H⟩:=bd_ H
  replace VO:=cN VO
  cases H;exact ao
 refine aS ?_;obtain⟨VG,H⟩|⟨VG,H⟩:=ae H
 .obtain⟨TR,UK,H⟩:=bd_ H
  replace UK:=cN UK
  cases H;exact ao
 obtain⟨UM,H⟩|⟨UM,H⟩:=ae H
 .obtain⟨WV,Yg,H⟩:=bd_ H
  replace Yg:=cN Yg
  cases H;exact ao
 obtain⟨XN,H⟩|⟨XN,H⟩:=ae H
 .cases H
  exact ao
 refine aS ?_;obtain⟨YS,H⟩|⟨YS,H⟩:=ae H
 .obtain⟨s_40,u19,H⟩:=bd_ H
  obtain⟨⟨u19a,u19b,u19c⟩,u19⟩:=cY u19;have u19x:=xT (f:=(λx=>[AC.int .i64 x])) u19;obtain⟨VI,VJ,H⟩:=bd_ H;replace VJ:=eZ VJ;obtain⟨V9,H⟩|⟨V9,H⟩:=ae H
  .obtain⟨s_43,u21,H⟩:=bd_ H
   obtain⟨⟨u21a,u21b,u21c⟩,u21⟩:=cY u21;have u21x:=xT (f:=(λx=>[AC.int .i64 x])) u21;obtain⟨r_44,c22,H⟩:=bd_ H;replace c22:=cN c22
   cases H
   repeat' (first|refine gs_ ?_|rw[u19x]|rw[u21x]|rw[show((0:Nat):Int)=0 from rfl])
   refine az (aE rfl ?_ ?_)
   .repeat' (first|exact t7|rfl|exact ah1 rfl|omega|apply And.intro)
   .first|rfl|(simp only[ah4,ah2,ah6,ahW]<;>rfl)
  cases H
  repeat' (first|refine gs_ ?_|rw[u19x]|rw[show((0:Nat):Int)=0 from rfl])
  refine az (aE rfl ?_ ?_)
  .repeat' (first|exact t7|rfl|exact ah1 rfl|omega|apply And.intro)
  .first|rfl|(simp only[ah4,ah2,ah6,ahW]<;>rfl)
 obtain⟨WQ,H⟩|⟨WQ,H⟩:=ae H
 .obtain⟨V_,c23,H⟩:=bd_ H
  replace c23:=eZ c23
  cases H;exact ao
 obtain⟨r_47,c24,H⟩:=bd_ H;replace c24:=cN c24
 cases H;exact ao
def de (O6:Ex)(rec:Ex->Option Int):(Int×Int)->Option (Step (Int×Int) (Int)):=λs=>match s with
 |(Rr,i_2)=>bif i_2<(O6.args.length:Int)then(al O6.args i_2).bind λPK=>(rec PK).bind λPM=>some (.next ((wZ Rr PM),(i64.wrap (i_2+(1:Int)))))else
 some (.exit (Rr,i_2))
def oh:Sum (Int×Int) (Int)->Option ((Int))
 |.inl (Rr,i_2)=>some (i64.wrap (Rr+(1:Int)))
 |.inr q=>some q
def mr (rec:Ex->Option Int)(O6:Ex):Option (Int):=(af (de O6 rec) fuel ((0:Int),(0:Int))).bind (oh)
theorem EM {rec:Ex->Option Int}  (Pq:∀ {x:Ex} {r:Int},rec x=some r->PTz 272 [.agg (tE x)] (.val (.one (.int .i64 r)))){O6:Ex}{r:Int}(H:mr rec O6=some r):PTz 272 [.agg (tE O6)] (.val (.one (.int .i64 r))):=by
 unfold mr at H;rw[ay O6];refine po_ func272 ntmps272 ?_;refine aS ?_;refine alM_ (λs:Int×Int=>match s with|(Rr,i_2)=>[(1,.one (.ptr 0 0)),(3,.one (.c (.int .i64 Rr))),(4,.one (.c (.int .i64 i_2)))]) (λs=>match s with|(Rr,i_2)=>[.box [.c (.int .i64 O6.op),.c (.int .i64 O6.int),.c (.int .i64 O6.v.kind),.c (.int .i64 O6.v.int),.c (.str O6.v.text),.c (.str O6.nm),.c (.lst (O6.args.map tE))]]) H (λ_=>aia _)
  (fm_ bg [] rfl aQ bq) ?_
 rintro⟨Rr,i_2⟩ Qr OZ Po;unfold de at OZ;dsimp only at OZ ⊢;obtain⟨PG,OZ⟩|⟨PG,OZ⟩:=ae OZ
 .obtain⟨PK,QV,i1,QI,OZ⟩:=aw (f:=tE) OZ
  simp only[ah4,ah2,ah6,ahW,ay]at QI;obtain⟨PM,c2,OZ⟩:=bd_ OZ;replace c2:=Pq c2
  try simp only[ah4,ah2,ah6,ahW,ay,aD]at c2
  cases OZ;refine aS ?_;exact⟨_,rfl,fm_ bg [] rfl aQ bq⟩
 cases OZ;have O0:oh (.inl (Rr,i_2))=some _:=Po;unfold oh at O0;dsimp only at O0
 cases O0;exact ao
def kU:Nat->Ex->Option Int
 |0,_=>none
 |n+1,x=>mr (kU n) x
theorem xa:∀ (n:Nat) {x:Ex} {r:Int},kU n x=some r->PTz 272 [.agg (tE x)] (.val (.one (.int .i64 r)))
 |0,_,_,h=>nomatch h
 |n+1,_,_,h=>EM (xa n) h
def jW (O6:Ex)(O1:(List Int))(rec:Ex->List Int->Option (Int×Int)):((List Int)×Int)->Option (Step ((List Int)×Int) (Int×Int)):=λs=>match s with
 |(W1,TD)=>bif TD<(O6.args.length:Int)then(al O6.args TD).bind λPL=>(rec PL O1).bind λQq=>bif Qq.2≠(0:Int)then some (.ret ((0:Int),Qq.2))else
 bif W1.length+1<=17592186044416 then(some (.next ((W1++[Qq.1]),(i64.wrap (TD+(1:Int))))))else none else
 some (.exit (W1,TD))
def iy (O6:Ex)(O1:(List Int)):Sum ((List Int)×Int) (Int×Int)->Option ((Int×Int))
 |.inl (W1,TD)=>(gRs11 O6 W1 O1).bind λRe=>bif (!Re.2)then some ((0:Int),(7:Int))else
 some (Re.1,(0:Int))
 |.inr q=>some q
def ci (O6:Ex)(O1:(List Int))(rec:Ex->List Int->Option (Int×Int)):((List Int)×Int)->Option (Step ((List Int)×Int) (Int×Int)):=λs=>match s with
 |(TX,Ul)=>bif Ul<(O6.args.length:Int)then(al O6.args Ul).bind λTz=>(rec Tz O1).bind λRu=>bif Ru.2≠(0:Int)then some (.ret ((0:Int),Ru.2))else
 bif TX.length+1<=17592186044416 then(some (.next ((TX++[Ru.1]),(i64.wrap (Ul+(1:Int))))))else none else
 some (.exit (TX,Ul))
def fp (O6:Ex)(O1:(List Int)):Sum ((List Int)×Int) (Int×Int)->Option ((Int×Int))
 |.inl (TX,Ul)=>(gRs11 O6 TX O1).bind λSD=>bif (!SD.2)then some ((0:Int),(7:Int))else
 some (SD.1,(0:Int))
 |.inr q=>some q
def mI (rec:Ex->List Int->Option (Int×Int))(O6:Ex)(O1:(List Int)):Option (Int×Int):=(qN O6.op).bind λPh=>bif Ph.1<(0:Int)then some ((0:Int),(7:Int))else
 (ir O6).bind λQm=>bif (!Qm)then some ((0:Int),(8:Int))else
 bif O6.op=(2:Int)then bif O6.int<(0:Int)then some ((0:Int),(13:Int))else
 bif (O1.length:Int)<=O6.int then some ((0:Int),(13:Int))else
 (af (jW O6 O1 rec) fuel ([],(0:Int))).bind (iy O6 O1)else
 (af (ci O6 O1 rec) fuel ([],(0:Int))).bind (fp O6 O1)
theorem F2 {rec:Ex->List Int->Option (Int×Int)}  (Pq:∀ {x:Ex} {y:List Int} {r:Int×Int},rec x y=some r->PTz 273 [.agg (tE x),.one (.lst (y.map (λx=>[AC.int .i64 x])))] (.tup [.one (.int .i64 r.1),.one (.int .i64 r.2)])){O6:Ex}{O1:(List Int)}{r:Int×Int}(H:mI rec O6 O1=some r):PTz 273 [.agg (tE O6),.one (.lst (O1.map (λx=>[AC.int .i64 x])))] (.tup [.one (.int .i64 r.1),.one (.int .i64 r.2)]):=by
 unfold mI at H;rw[ay O6];refine po_ func273 ntmps273 ?_;obtain⟨Ph,c1,H⟩:=bd_ H;replace c1:=C6 c1;obtain⟨PP,H⟩|⟨PP,H⟩:=ae H
 .cases H
  exact ao
 obtain⟨Qm,c2,H⟩:=bd_ H;replace c2:=xF c2
 try simp only[ah4,ah2,ah6,ahW,ay,aD]at c2
 obtain⟨P1,H⟩|⟨P1,H⟩:=ae H
 .cases H
  exact ao
 obtain⟨Qu,H⟩|⟨Qu,H⟩:=ae H
 .obtain⟨Qb,H⟩|⟨Qb,H⟩:=ae H
  .cases H
   exact ao
  obtain⟨QX,H⟩|⟨QX,H⟩:=ae H
  .cases H
   exact ao
  refine aS ?_;refine br 8 1 rfl ?_;refine alM_ (λs:(List Int)×Int=>match s with|(W1,TD)=>[(1,.one (.c (.lst (O1.map (λx=>[AC.int .i64 x]))))),(2,.one (.ptr 0 0)),(8,.one (.own (W1.map (λx=>[AC.int .i64 x])) 1)),(9,.one (.c (.int .i64 TD)))]) (λs=>match s with|(W1,TD)=>[.box [.c (.int .i64 O6.op),.c (.int .i64 O6.int),.c (.int .i64 O6.v.kind),.c (.int .i64 O6.v.int),.c (.str O6.v.text),.c (.str O6.nm),.c (.lst (O6.args.map tE))],.spare W1.length 1]) H (λ_=>aia _)
   (fm_ bg [] rfl aQ bq) ?_
  rintro⟨W1,TD⟩ Qr OZ Po;unfold jW at OZ;dsimp only at OZ ⊢;obtain⟨P6,OZ⟩|⟨P6,OZ⟩:=ae OZ
  .obtain⟨PL,Ud,i3,TK,OZ⟩:=aw (f:=tE) OZ
   simp only[ah4,ah2,ah6,ahW,ay]at TK;obtain⟨Qq,c4,OZ⟩:=bd_ OZ;replace c4:=Pq c4
   try simp only[ah4,ah2,ah6,ahW,ay,aD]at c4
   obtain⟨P2,OZ⟩|⟨P2,OZ⟩:=ae OZ
   .cases OZ
    have O0:iy O6 O1 (.inr ((0:Int),Qq.2))=some _:=Po;unfold iy at O0;dsimp only at O0
    cases O0;exact ao
   obtain⟨g5,OZ⟩:=aq OZ
   cases OZ;refine aS ?_;exact⟨_,rfl,fm_ fO [] dU aQ bq⟩
  cases OZ;have O0:iy O6 O1 (.inl (W1,TD))=some _:=Po;unfold iy at O0;dsimp only at O0;obtain⟨Re,c6,O0⟩:=bd_ O0;replace c6:=uk c6
  try simp only[ah4,ah2,ah6,ahW,ay,aD]at c6
  obtain⟨QJ,O0⟩|⟨QJ,O0⟩:=ae O0
  .cases O0
   exact ao
  cases O0;exact ao
 refine aS ?_;refine br 8 1 rfl ?_;refine alM_ (λs:(List Int)×Int=>match s with|(TX,Ul)=>[(1,.one (.c (.lst (O1.map (λx=>[AC.int .i64 x]))))),(2,.one (.ptr 0 0)),(8,.one (.own (TX.map (λx=>[AC.int .i64 x])) 1)),(9,.one (.c (.int .i64 Ul)))]) (λs=>match s with|(TX,Ul)=>[.box [.c (.int .i64 O6.op),.c (.int .i64 O6.int),.c (.int .i64 O6.v.kind),.c (.int .i64 O6.v.int),.c (.str O6.v.text),.c (.str O6.nm),.c (.lst (O6.args.map tE))],.spare TX.length 1]) H (λ_=>aia _)
  (fm_ bg [] rfl aQ bq) ?_
 rintro⟨TX,Ul⟩ st2 Pe RE;unfold ci at Pe;dsimp only at Pe ⊢;obtain⟨QT,Pe⟩|⟨QT,Pe⟩:=ae Pe
 .obtain⟨Tz,Yi,i7,XY,Pe⟩:=aw (f:=tE) Pe
  simp only[ah4,ah2,ah6,ahW,ay]at XY;obtain⟨Ru,c8,Pe⟩:=bd_ Pe;replace c8:=Pq c8
  try simp only[ah4,ah2,ah6,ahW,ay,aD]at c8
  obtain⟨RB,Pe⟩|⟨RB,Pe⟩:=ae Pe
  .cases Pe
   have Px:fp O6 O1 (.inr ((0:Int),Ru.2))=some _:=RE;unfold fp at Px;dsimp only at Px
   cases Px;exact ao
  obtain⟨g9,Pe⟩:=aq Pe
  cases Pe;refine aS ?_;exact⟨_,rfl,fm_ fO [] dU aQ bq⟩
 cases Pe;have Px:fp O6 O1 (.inl (TX,Ul))=some _:=RE;unfold fp at Px;dsimp only at Px;obtain⟨SD,Ug,Px⟩:=bd_ Px;replace Ug:=uk Ug
 try simp only[ah4,ah2,ah6,ahW,ay,aD]at Ug
 obtain⟨SB,Px⟩|⟨SB,Px⟩:=ae Px
 .cases Px
  exact ao
 cases Px;exact ao
def ij:Nat->Ex->List Int->Option (Int×Int)
 |0,_,_=>none
 |n+1,x,y=>mI (ij n) x y
theorem xb:∀ (n:Nat) {x:Ex} {y:List Int} {r:Int×Int},ij n x y=some r->PTz 273 [.agg (tE x),.one (.lst (y.map (λx=>[AC.int .i64 x])))] (.tup [.one (.int .i64 r.1),.one (.int .i64 r.2)])
 |0,_,_,_,h=>nomatch h
 |n+1,_,_,_,h=>F2 (xb n) h
def pE (O6:Ex)(O1:(List Int)):Option (Int×Int):=(kU fuel O6).bind λPh=>bif (24:Int)<Ph then some ((0:Int),(26:Int))else
 (ij fuel O6 O1).bind λQm=>some (Qm.1,Qm.2)
theorem DL {O6:Ex}{O1:(List Int)}{r:Int×Int}(H:pE O6 O1=some r):PTz 225 [.agg (tE O6),.one (.lst (O1.map (λx=>[AC.int .i64 x])))] (.tup [.one (.int .i64 r.1),.one (.int .i64 r.2)]):=by
 unfold pE at H;rw[ay O6];refine po_ func225 ntmps225 ?_;obtain⟨Ph,c1,H⟩:=bd_ H;replace c1:=xa fuel c1
 try simp only[ah4,ah2,ah6,ahW,ay,aD]at c1
 obtain⟨PP,H⟩|⟨PP,H⟩:=ae H
 .cases H
  exact ao
 obtain⟨Qm,c2,H⟩:=bd_ H;replace c2:=xb fuel c2
 try simp only[ah4,ah2,ah6,ahW,ay,aD]at c2
 cases H;exact ao
def j4 (O6:Ex)(O1:(List Int)):Option (Int):=(pE O6 O1).bind λPh=>bif Ph.2≠(0:Int)then some Ph.2 else
 bif Ph.1≠(3:Int)then bif Ph.1≠(0:Int)then some (7:Int)else
 some (0:Int)else
 some (0:Int)
theorem tu {O6:Ex}{O1:(List Int)}{r:Int}(H:j4 O6 O1=some r):PTz 222 [.agg (tE O6),.one (.lst (O1.map (λx=>[AC.int .i64 x])))] (.val (.one (.int .i64 r))):=by
 unfold j4 at H;rw[ay O6];refine po_ func222 ntmps222 ?_;obtain⟨Ph,c1,H⟩:=bd_ H;replace c1:=DL c1
 try simp only[ah4,ah2,ah6,ahW,ay,aD]at c1
 obtain⟨PP,H⟩|⟨PP,H⟩:=ae H
 .cases H
  exact ao
 obtain⟨PG,H⟩|⟨PG,H⟩:=ae H
 .obtain⟨P1,H⟩|⟨P1,H⟩:=ae H
  .cases H
   exact ao
  cases H;exact ao
 cases H;exact ao
def bO (O1:(List Int))(O5:(List Ex)):((List Int)×Int)->Option (Step ((List Int)×Int) ((List Int)×Int)):=λs=>match s with
 |(O2,i_2)=>bif i_2<(O5.length:Int)then(al O5 i_2).bind λPK=>(pE PK O1).bind λPM=>bif PM.2≠(0:Int)then some (.ret ([],PM.2))else
 bif PM.1=(0:Int)then some (.ret ([],(7:Int)))else
 bif O2.length+1<=17592186044416 then(some (.next ((O2++[PM.1]),(i64.wrap (i_2+(1:Int))))))else none else
 some (.exit (O2,i_2))
def dB:Sum ((List Int)×Int) ((List Int)×Int)->Option (((List Int)×Int))
 |.inl (O2,i_2)=>some (O2,(0:Int))
 |.inr q=>some q
def ik (O1:(List Int))(O5:(List Ex)):Option ((List Int)×Int):=(af (bO O1 O5) fuel ([],(0:Int))).bind (dB)
theorem yr {O1:(List Int)}{O5:(List Ex)}{r:(List Int)×Int}(H:ik O1 O5=some r):PTz 173 [.one (.lst (O1.map (λx=>[AC.int .i64 x]))),.one (.lst (O5.map tE))] (.tup [.one (.lst (r.1.map (λx=>[AC.int .i64 x]))),.one (.int .i64 r.2)]):=by
 unfold ik at H;refine po_ func173 ntmps173 ?_;refine aS ?_;refine br 6 1 rfl ?_;refine alM_ (λs:(List Int)×Int=>match s with|(O2,i_2)=>[(0,.one (.c (.lst (O1.map (λx=>[AC.int .i64 x]))))),(1,.one (.c (.lst (O5.map tE)))),(6,.one (.own (O2.map (λx=>[AC.int .i64 x])) 0)),(7,.one (.c (.int .i64 i_2)))]) (λs=>match s with|(O2,i_2)=>[.spare O2.length 1]) H (λ_=>aia _)
  (fm_ bg [] rfl aQ bq) ?_
 rintro⟨O2,i_2⟩ Qr OZ Po;unfold bO at OZ;dsimp only at OZ ⊢;obtain⟨PG,OZ⟩|⟨PG,OZ⟩:=ae OZ
 .obtain⟨PK,QV,i1,QI,OZ⟩:=aw (f:=tE) OZ
  simp only[ah4,ah2,ah6,ahW,ay]at QI;obtain⟨PM,c2,OZ⟩:=bd_ OZ;replace c2:=DL c2
  try simp only[ah4,ah2,ah6,ahW,ay,aD]at c2
  obtain⟨Qb,OZ⟩|⟨Qb,OZ⟩:=ae OZ
  .cases OZ
   have O0:dB (.inr ([],PM.2))=some _:=Po;unfold dB at O0;dsimp only at O0
   cases O0;exact ao
  obtain⟨QX,OZ⟩|⟨QX,OZ⟩:=ae OZ
  .cases OZ
   have O0:dB (.inr ([],(7:Int)))=some _:=Po;unfold dB at O0;dsimp only at O0
   cases O0;exact ao
  obtain⟨g3,OZ⟩:=aq OZ
  cases OZ;refine aS ?_;exact⟨_,rfl,fm_ fO [] dU aQ bq⟩
 cases OZ;have O0:dB (.inl (O2,i_2))=some _:=Po;unfold dB at O0;dsimp only at O0
 cases O0;exact ao
def dq (O6:Ex)(Pj:Int)(rec:Ex->Int->Option Int):(Int×Int)->Option (Step (Int×Int) (Int)):=λs=>match s with
 |(Rr,i_2)=>bif i_2<(O6.args.length:Int)then bif Rr<Pj then(al O6.args i_2).bind λQG=>(rec QG (i64.wrap (Pj-Rr))).bind λQW=>some (.next ((i64.wrap (Rr+QW)),(i64.wrap (i_2+(1:Int)))))else
 some (.exit (Rr,i_2))else
 some (.exit (Rr,i_2))
def jx:Sum (Int×Int) (Int)->Option ((Int))
 |.inl (Rr,i_2)=>some Rr
 |.inr q=>some q
def qC (rec:Ex->Int->Option Int)(O6:Ex)(Pj:Int):Option (Int):=(af (dq O6 Pj rec) fuel ((1:Int),(0:Int))).bind (jx)
theorem GE {rec:Ex->Int->Option Int}  (Pq:∀ {x:Ex} {y:Int} {r:Int},rec x y=some r->PTz 89 [.agg (tE x),.one (.int .i64 y)] (.val (.one (.int .i64 r)))){O6:Ex}{Pj:Int}{r:Int}(H:qC rec O6 Pj=some r):PTz 89 [.agg (tE O6),.one (.int .i64 Pj)] (.val (.one (.int .i64 r))):=by
 unfold qC at H;rw[ay O6];refine po_ func89 ntmps89 ?_;refine aS ?_;refine alM_ (λs:Int×Int=>match s with|(Rr,i_2)=>[(1,.one (.c (.int .i64 Pj))),(2,.one (.ptr 0 0)),(5,.one (.c (.int .i64 Rr))),(6,.one (.c (.int .i64 i_2)))]) (λs=>match s with|(Rr,i_2)=>[.box [.c (.int .i64 O6.op),.c (.int .i64 O6.int),.c (.int .i64 O6.v.kind),.c (.int .i64 O6.v.int),.c (.str O6.v.text),.c (.str O6.nm),.c (.lst (O6.args.map tE))]]) H (λ_=>aia _)
  (fm_ bg [] rfl aQ bq) ?_
 rintro⟨Rr,i_2⟩ Qr OZ Po;unfold dq at OZ;dsimp only at OZ ⊢;obtain⟨PG,OZ⟩|⟨PG,OZ⟩:=ae OZ
 .obtain⟨P1,OZ⟩|⟨P1,OZ⟩:=ae OZ
  .obtain⟨QG,QV,i1,QI,OZ⟩:=aw (f:=tE) OZ
   simp only[ah4,ah2,ah6,ahW,ay]at QI;obtain⟨QW,c2,OZ⟩:=bd_ OZ;replace c2:=Pq c2
   try simp only[ah4,ah2,ah6,ahW,ay,aD]at c2
   cases OZ;refine aS ?_;exact⟨_,rfl,fm_ bg [] rfl aQ bq⟩
  cases OZ;have O0:jx (.inl (Rr,i_2))=some _:=Po;unfold jx at O0;dsimp only at O0
  cases O0;exact ao
 cases OZ;have O0:jx (.inl (Rr,i_2))=some _:=Po;unfold jx at O0;dsimp only at O0
 cases O0;exact ao
def lT:Nat->Ex->Int->Option Int
 |0,_,_=>none
 |n+1,x,y=>qC (lT n) x y
theorem tt:∀ (n:Nat) {x:Ex} {y:Int} {r:Int},lT n x y=some r->PTz 89 [.agg (tE x),.one (.int .i64 y)] (.val (.one (.int .i64 r)))
 |0,_,_,_,h=>nomatch h
 |n+1,_,_,_,h=>GE (tt n) h
noncomputable section
def kf (O6:Ex)(Pg:(List Val)):Option (Int):=(fJ fuel O6 Pg).bind λPh=>(eV Ph).bind λPW=>some PW
theorem ve {O6:Ex}{Pg:(List Val)}{r:Int}(H:kf O6 Pg=some r):PTz 172 [.agg (tE O6),.one (.lst (Pg.map cV))] (.val (.one (.int .i64 r))):=by
 unfold kf at H;rw[ay O6];refine po_ func172 ntmps172 ?_;obtain⟨Ph,c1,H⟩:=bd_ H;replace c1:=vD fuel c1
 try simp only[ah4,ah2,ah6,ahW,ay,aD]at c1
 obtain⟨PW,c2,H⟩:=bd_ H;replace c2:=iN c2
 cases H;exact ao
def nl (O7:(List Val))(O4:(List Val)):Option ((List Val)):=bif O7.length<=4398046511104 then(bif O7.length+O4.length<=4398046511104 then(some (O7++O4))else none)else none
theorem xy {O7:(List Val)}{O4:(List Val)}{r:(List Val)}(H:nl O7 O4=some r):PTz 180 [.one (.lst (O7.map cV)),.one (.lst (O4.map cV))] (.val (.one (.lst (r.map cV)))):=by
 unfold nl at H;refine po_ func180 ntmps180 ?_;obtain⟨g1,H⟩:=aq H;obtain⟨g2,H⟩:=aq H
 cases H;exact ao
def gF (QC:Int):((List Val)×Int)->Option (Step ((List Val)×Int) ((List Val))):=λs=>match s with
 |(O2,i_2)=>bif i_2<QC then bif QC<=(4096:Int)then(cq ).bind λPM=>bif O2.length+1<=4398046511104 then(some (.next ((O2++[PM]),(i64.wrap (i_2+(1:Int))))))else none else
 some (.exit (O2,i_2))else
 some (.exit (O2,i_2))
def kV:Sum ((List Val)×Int) ((List Val))->Option (((List Val)))
 |.inl (O2,i_2)=>some O2
 |.inr q=>some q
def un (QC:Int):Option ((List Val)):=(af (gF QC) fuel ([],(0:Int))).bind (kV)
theorem Jj {QC:Int}{r:(List Val)}(H:un QC=some r):PTz 181 [.one (.int .i64 QC)] (.val (.one (.lst (r.map cV)))):=by
 unfold un at H;refine po_ func181 ntmps181 ?_;refine aS ?_;refine br 3 3 rfl ?_;refine alM_ (λs:(List Val)×Int=>match s with|(O2,i_2)=>[(0,.one (.c (.int .i64 QC))),(3,.one (.own (O2.map cV) 0)),(4,.one (.c (.int .i64 i_2)))]) (λs=>match s with|(O2,i_2)=>[.spare O2.length 3]) H (λ_=>aia _)
  (fm_ bg [] rfl aQ bq) ?_
 rintro⟨O2,i_2⟩ Qr OZ Po;unfold gF at OZ;dsimp only at OZ ⊢;obtain⟨PG,OZ⟩|⟨PG,OZ⟩:=ae OZ
 .obtain⟨P1,OZ⟩|⟨P1,OZ⟩:=ae OZ
  .obtain⟨PM,c1,OZ⟩:=bd_ OZ
   replace c1:=bI c1;obtain⟨g2,OZ⟩:=aq OZ
   cases OZ;refine aS ?_;exact⟨_,rfl,fm_ fO [] dU aQ bq⟩
  cases OZ;have O0:kV (.inl (O2,i_2))=some _:=Po;unfold kV at O0;dsimp only at O0
  cases O0;exact ao
 cases OZ;have O0:kV (.inl (O2,i_2))=some _:=Po;unfold kV at O0;dsimp only at O0
 cases O0;exact ao
def om (O7:(List Int))(O4:(List Int)):Option ((List Int)):=bif O7.length<=17592186044416 then(bif O7.length+O4.length<=17592186044416 then(some (O7++O4))else none)else none
theorem tw {O7:(List Int)}{O4:(List Int)}{r:(List Int)}(H:om O7 O4=some r):PTz 179 [.one (.lst (O7.map (λx=>[AC.int .i64 x]))),.one (.lst (O4.map (λx=>[AC.int .i64 x])))] (.val (.one (.lst (r.map (λx=>[AC.int .i64 x]))))):=by
 unfold om at H;refine po_ func179 ntmps179 ?_;obtain⟨g1,H⟩:=aq H;obtain⟨g2,H⟩:=aq H
 cases H;exact ao
def nM (O5:(List Ex))(Pg:(List Val)):((List Val)×Int)->Option (Step ((List Val)×Int) ((List Val))):=λs=>match s with
 |(O2,i_2)=>bif i_2<(O5.length:Int)then(al O5 i_2).bind λPK=>(fJ fuel PK Pg).bind λPM=>bif O2.length+1<=4398046511104 then(some (.next ((O2++[PM]),(i64.wrap (i_2+(1:Int))))))else none else
 some (.exit (O2,i_2))
def tO:Sum ((List Val)×Int) ((List Val))->Option (((List Val)))
 |.inl (O2,i_2)=>some O2
 |.inr q=>some q
def uN (O5:(List Ex))(Pg:(List Val)):Option ((List Val)):=(af (nM O5 Pg) fuel ([],(0:Int))).bind (tO)
theorem J0 {O5:(List Ex)}{Pg:(List Val)}{r:(List Val)}(H:uN O5 Pg=some r):PTz 174 [.one (.lst (O5.map tE)),.one (.lst (Pg.map cV))] (.val (.one (.lst (r.map cV)))):=by
 unfold uN at H;refine po_ func174 ntmps174 ?_;refine aS ?_;refine br 5 3 rfl ?_;refine alM_ (λs:(List Val)×Int=>match s with|(O2,i_2)=>[(0,.one (.c (.lst (O5.map tE)))),(1,.one (.c (.lst (Pg.map cV)))),(5,.one (.own (O2.map cV) 0)),(6,.one (.c (.int .i64 i_2)))]) (λs=>match s with|(O2,i_2)=>[.spare O2.length 3]) H (λ_=>aia _)
  (fm_ bg [] rfl aQ bq) ?_
 rintro⟨O2,i_2⟩ Qr OZ Po;unfold nM at OZ;dsimp only at OZ ⊢;obtain⟨PG,OZ⟩|⟨PG,OZ⟩:=ae OZ
 .obtain⟨PK,QV,i1,QI,OZ⟩:=aw (f:=tE) OZ
  simp only[ah4,ah2,ah6,ahW,ay]at QI;obtain⟨PM,c2,OZ⟩:=bd_ OZ;replace c2:=vD fuel c2
  try simp only[ah4,ah2,ah6,ahW,ay,aD]at c2
  obtain⟨g3,OZ⟩:=aq OZ
  cases OZ;refine aS ?_;exact⟨_,rfl,fm_ fO [] dU aQ bq⟩
 cases OZ;have O0:tO (.inl (O2,i_2))=some _:=Po;unfold tO at O0;dsimp only at O0
 cases O0;exact ao
def jY (O4:aJ)(O6:Ex):((List (List Val))×Int)->Option (Step ((List (List Val))×Int) (aJ)):=λs=>match s with
 |(Qx,i_2)=>bif i_2<(O4.rows.length:Int)then(al O4.rows i_2).bind λPK=>(kf O6 PK).bind λPM=>bif PM=(2:Int)then bif Qx.length+1<=5864062014805 then(some (.next ((Qx++[PK]),(i64.wrap (i_2+(1:Int))))))else none else
 some (.next (Qx,(i64.wrap (i_2+(1:Int)))))else
 some (.exit (Qx,i_2))
def jO (O4:aJ):Sum ((List (List Val))×Int) (aJ)->Option ((aJ))
 |.inl (Qx,i_2)=>(fM Qx).bind λQi=>some (⟨O4.kinds,Qi⟩:aJ)
 |.inr q=>some q
def iR (O4:aJ)(O6:Ex):Option (aJ):=(af (jY O4 O6) fuel ([],(0:Int))).bind (jO O4)
theorem EG {O4:aJ}{O6:Ex}{r:aJ}(H:iR O4 O6=some r):PTz 131 [.agg (bn O4),.agg (tE O6)] (.val (.agg (bn r))):=by
 unfold iR at H;rw[ay O6];refine po_ func131 ntmps131 ?_;refine aS ?_;refine gK 3 1 1 rfl rfl ?_;refine alM_ (λs:(List (List Val))×Int=>match s with|(Qx,i_2)=>[(2,.one (.ptr 0 0)),(3,.one (.ptr 1 0)),(4,.one (.ptr 2 0)),(5,.one (.ptr 3 0)),(6,.one (.c (.int .i64 i_2)))]) (λs=>match s with|(Qx,i_2)=>[.box [.c (.lst (O4.kinds.map (λx=>[AC.int .i64 x]))),.c (.lst (O4.rows.map (λx=>[AC.lst (x.map cV)])))],.box [.c (.int .i64 O6.op),.c (.int .i64 O6.int),.c (.int .i64 O6.v.kind),.c (.int .i64 O6.v.int),.c (.str O6.v.text),.c (.str O6.nm),.c (.lst (O6.args.map tE))],.box [.emp,.emp],.box [.c (.lst (O4.kinds.map (λx=>[AC.int .i64 x]))),.own (Qx.map (λx=>[AC.lst (x.map cV)])) 4],.spare Qx.length 1]) H (λ_=>aia _)
  (fm_ bg [] rfl aQ bq) ?_
 rintro⟨Qx,i_2⟩ Qr OZ Po;unfold jY at OZ;dsimp only at OZ ⊢;obtain⟨PG,OZ⟩|⟨PG,OZ⟩:=ae OZ
 .obtain⟨PK,QV,i1,QI,OZ⟩:=aw (f:=(λx=>[AC.lst (x.map cV)])) OZ
  obtain⟨PM,c2,OZ⟩:=bd_ OZ;replace c2:=ve c2
  try simp only[ah4,ah2,ah6,ahW,ay,aD]at c2
  obtain⟨Qb,OZ⟩|⟨Qb,OZ⟩:=ae OZ
  .obtain⟨g3,OZ⟩:=aq OZ
   cases OZ;refine aS ?_;exact⟨_,rfl,fm_ bg [] dU aQ bq⟩
  cases OZ;refine aS ?_;exact⟨_,rfl,fm_ bg [] dU aQ bq⟩
 cases OZ;have O0:jO O4 (.inl (Qx,i_2))=some _:=Po;unfold jO at O0;dsimp only at O0;obtain⟨Qi,c4,O0⟩:=bd_ O0;replace c4:=da c4
 cases O0;exact ao
def jc (O4:aJ)(O5:(List Ex)):((List (List Val))×Int)->Option (Step ((List (List Val))×Int) (aJ)):=λs=>match s with
 |(Rj,Qk)=>bif Qk<(O4.rows.length:Int)then(al O4.rows Qk).bind λQG=>(uN O5 QG).bind λQW=>bif Rj.length+1<=5864062014805 then(some (.next ((Rj++[QW]),(i64.wrap (Qk+(1:Int))))))else none else
 some (.exit (Rj,Qk))
def jd (Ph:(List Int)×Int):Sum ((List (List Val))×Int) (aJ)->Option ((aJ))
 |.inl (Rj,Qk)=>(fM Rj).bind λQi=>some (⟨Ph.1,Qi⟩:aJ)
 |.inr q=>some q
def iW (O4:aJ)(O5:(List Ex)):Option (aJ):=(ik O4.kinds O5).bind λPh=>(af (jc O4 O5) fuel ([],(0:Int))).bind (jd Ph)
theorem CE {O4:aJ}{O5:(List Ex)}{r:aJ}(H:iW O4 O5=some r):PTz 132 [.agg (bn O4),.one (.lst (O5.map tE))] (.val (.agg (bn r))):=by
 unfold iW at H;refine po_ func132 ntmps132 ?_;obtain⟨Ph,c1,H⟩:=bd_ H;replace c1:=yr c1;refine aS ?_;refine gK 2 1 1 rfl rfl ?_;refine alM_ (λs:(List (List Val))×Int=>match s with|(Rj,Qk)=>[(1,.one (.c (.lst (O5.map tE)))),(2,.one (.ptr 0 0)),(4,.one (.ptr 1 0)),(7,.one (.ptr 2 0)),(8,.one (.c (.int .i64 Qk)))]) (λs=>match s with|(Rj,Qk)=>[.box [.c (.lst (O4.kinds.map (λx=>[AC.int .i64 x]))),.c (.lst (O4.rows.map (λx=>[AC.lst (x.map cV)])))],.box [.emp,.emp],.box [.c (.lst (Ph.1.map (λx=>[AC.int .i64 x]))),.own (Rj.map (λx=>[AC.lst (x.map cV)])) 3],.spare Rj.length 1]) H (λ_=>aia _)
  (fm_ bg [] rfl aQ bq) ?_
 rintro⟨Rj,Qk⟩ Qr OZ Po;unfold jc at OZ;dsimp only at OZ ⊢;obtain⟨P1,OZ⟩|⟨P1,OZ⟩:=ae OZ
 .obtain⟨QG,Tu,i2,SR,OZ⟩:=aw (f:=(λx=>[AC.lst (x.map cV)])) OZ
  obtain⟨QW,c3,OZ⟩:=bd_ OZ;replace c3:=J0 c3;obtain⟨g4,OZ⟩:=aq OZ
  cases OZ;refine aS ?_;exact⟨_,rfl,fm_ bg [] dU aQ bq⟩
 cases OZ;have O0:jd Ph (.inl (Rj,Qk))=some _:=Po;unfold jd at O0;dsimp only at O0;obtain⟨Qi,c5,O0⟩:=bd_ O0;replace c5:=da c5
 cases O0;exact ao
def ll (O7:aJ)(O4:aJ)(O6:Ex)(Qk:Int):((List (List Val))×Bool×Int)->Option (Step ((List (List Val))×Bool×Int) (aJ)):=λs=>match s with
 |(Vr,Q3,k_7)=>bif k_7<(O4.rows.length:Int)then(al O7.rows Qk).bind λUx=>(al O4.rows k_7).bind λSG=>(nl Ux SG).bind λPY=>(kf O6 PY).bind λQq=>bif Qq=(2:Int)then bif Vr.length+1<=5864062014805 then(some (.next ((Vr++[PY]),true,(i64.wrap (k_7+(1:Int))))))else none else
 some (.next (Vr,Q3,(i64.wrap (k_7+(1:Int)))))else
 some (.exit (Vr,Q3,k_7))
def oC (O7:aJ)(O4:aJ)(P7:Bool)(Qk:Int):Sum ((List (List Val))×Bool×Int) (aJ)->Option (Step ((List (List Val))×Int) (aJ))
 |.inl (Vr,Q3,k_7)=>bif P7 then bif (!Q3)then(al O7.rows Qk).bind λTA=>(un (O4.kinds.length:Int)).bind λQD=>(nl TA QD).bind λWO=>bif Vr.length+1<=5864062014805 then(some (.next ((Vr++[WO]),(i64.wrap (Qk+(1:Int))))))else none else
 some (.next (Vr,(i64.wrap (Qk+(1:Int)))))else
 some (.next (Vr,(i64.wrap (Qk+(1:Int)))))
 |.inr q=>some (.ret q)
def oG (O7:aJ)(O4:aJ)(O6:Ex)(P7:Bool):((List (List Val))×Int)->Option (Step ((List (List Val))×Int) (aJ)):=λs=>match s with
 |(Rj,Qk)=>bif Qk<(O7.rows.length:Int)then(af (ll O7 O4 O6 Qk) fuel (Rj,false,(0:Int))).bind (oC O7 O4 P7 Qk)else
 some (.exit (Rj,Qk))
def nJ (Ph:(List Int)):Sum ((List (List Val))×Int) (aJ)->Option ((aJ))
 |.inl (Rj,Qk)=>(fM Rj).bind λRt=>some (⟨Ph,Rt⟩:aJ)
 |.inr q=>some q
def nU (O7:aJ)(O4:aJ)(O6:Ex)(P7:Bool):Option (aJ):=(om O7.kinds O4.kinds).bind λPh=>(af (oG O7 O4 O6 P7) fuel ([],(0:Int))).bind (nJ Ph)
theorem Bn {O7:aJ}{O4:aJ}{O6:Ex}{P7:Bool}{r:aJ}(H:nU O7 O4 O6 P7=some r):PTz 135 [.agg (bn O7),.agg (bn O4),.agg (tE O6),.one (.bool P7)] (.val (.agg (bn r))):=by
 unfold nU at H;rw[ay O6];refine po_ func135 ntmps135 ?_;obtain⟨Ph,c1,H⟩:=bd_ H;replace c1:=tw c1;refine aS ?_;refine gK 4 1 1 rfl rfl ?_;refine alM_ (λs:(List (List Val))×Int=>match s with|(Rj,Qk)=>[(3,.one (.c (.bool P7))),(4,.one (.ptr 0 0)),(5,.one (.ptr 1 0)),(6,.one (.ptr 2 0)),(8,.one (.ptr 3 0)),(9,.one (.ptr 4 0)),(10,.one (.c (.int .i64 Qk)))]) (λs=>match s with|(Rj,Qk)=>[.box [.c (.lst (O7.kinds.map (λx=>[AC.int .i64 x]))),.c (.lst (O7.rows.map (λx=>[AC.lst (x.map cV)])))],.box [.c (.lst (O4.kinds.map (λx=>[AC.int .i64 x]))),.c (.lst (O4.rows.map (λx=>[AC.lst (x.map cV)])))],.box [.c (.int .i64 O6.op),.c (.int .i64 O6.int),.c (.int .i64 O6.v.kind),.c (.int .i64 O6.v.int),.c (.str O6.v.text),.c (.str O6.nm),.c (.lst (O6.args.map tE))],.box [.emp,.emp],.box [.c (.lst (Ph.map (λx=>[AC.int .i64 x]))),.own (Rj.map (λx=>[AC.lst (x.map cV)])) 5],.spare Rj.length 1]) H (λ_=>aia _)
  (fm_ bg [] rfl aQ bq) ?_
 rintro⟨Rj,Qk⟩ st3 PZ hk3;unfold oG at PZ;dsimp only at PZ ⊢;obtain⟨P1,PZ⟩|⟨P1,PZ⟩:=ae PZ
 .refine aS ?_
  refine alM_ (λs:(List (List Val))×Bool×Int=>match s with|(Vr,Q3,k_7)=>[(3,.one (.c (.bool P7))),(4,.one (.ptr 0 0)),(5,.one (.ptr 1 0)),(6,.one (.ptr 2 0)),(8,.one (.ptr 3 0)),(9,.one (.ptr 4 0)),(10,.one (.c (.int .i64 Qk))),(11,.one (.c (.bool Q3))),(12,.one (.c (.int .i64 k_7)))]) (λs=>match s with|(Vr,Q3,k_7)=>[.box [.c (.lst (O7.kinds.map (λx=>[AC.int .i64 x]))),.c (.lst (O7.rows.map (λx=>[AC.lst (x.map cV)])))],.box [.c (.lst (O4.kinds.map (λx=>[AC.int .i64 x]))),.c (.lst (O4.rows.map (λx=>[AC.lst (x.map cV)])))],.box [.c (.int .i64 O6.op),.c (.int .i64 O6.int),.c (.int .i64 O6.v.kind),.c (.int .i64 O6.v.int),.c (.str O6.v.text),.c (.str O6.nm),.c (.lst (O6.args.map tE))],.box [.emp,.emp],.box [.c (.lst (Ph.map (λx=>[AC.int .i64 x]))),.own (Vr.map (λx=>[AC.lst (x.map cV)])) 5],.spare Vr.length 1]) PZ (λ_=>aia _)
   (fm_ bg [] rfl aQ bq) ?_
  rintro⟨Vr,Q3,k_7⟩ Zk Py VD;unfold ll at Py;dsimp only at Py ⊢;obtain⟨Qw,Py⟩|⟨Qw,Py⟩:=ae Py
  .obtain⟨Ux,Tu,i2,SR,Py⟩:=aw (f:=(λx=>[AC.lst (x.map cV)])) Py
   obtain⟨SG,Ud,i3,TK,Py⟩:=aw (f:=(λx=>[AC.lst (x.map cV)])) Py;obtain⟨PY,c4,Py⟩:=bd_ Py;replace c4:=xy c4;obtain⟨Qq,c5,Py⟩:=bd_ Py;replace c5:=ve c5
   try simp only[ah4,ah2,ah6,ahW,ay,aD]at c5
   obtain⟨P2,Py⟩|⟨P2,Py⟩:=ae Py
   .obtain⟨g6,Py⟩:=aq Py
    cases Py;refine aS ?_;exact⟨_,rfl,fm_ bg [] dU aQ bq⟩
   cases Py;refine aS ?_;exact⟨_,rfl,fm_ bg [] dU aQ bq⟩
  cases Py;have Qc:oC O7 O4 P7 Qk (.inl (Vr,Q3,k_7))=some _:=VD;unfold oC at Qc;dsimp only at Qc;obtain⟨P9,Qc⟩|⟨P9,Qc⟩:=ae Qc
  .obtain⟨QJ,Qc⟩|⟨QJ,Qc⟩:=ae Qc
   .obtain⟨TA,Yi,i7,XY,Qc⟩:=aw (f:=(λx=>[AC.lst (x.map cV)])) Qc
    obtain⟨QD,c8,Qc⟩:=bd_ Qc;replace c8:=Jj c8;obtain⟨WO,c9,Qc⟩:=bd_ Qc;replace c9:=xy c9;obtain⟨g10,Qc⟩:=aq Qc
    cases Qc;refine aS ?_;exact⟨_,rfl,fm_ bg [] dU aQ bq⟩
   cases Qc;refine aS ?_;exact⟨_,rfl,fm_ bg [] dU aQ bq⟩
  cases Qc;refine aS ?_;exact⟨_,rfl,fm_ bg [] dU aQ bq⟩
 cases PZ;have Rh:nJ Ph (.inl (Rj,Qk))=some _:=hk3;unfold nJ at Rh;dsimp only at Rh;obtain⟨Rt,SC,Rh⟩:=bd_ Rh;replace SC:=da SC
 cases Rh;exact ao
def mX (O7:aJ)(O4:aJ):Option (aJ):=bif O7.rows.length<=5864062014805 then(bif O7.rows.length+O4.rows.length<=5864062014805 then((fM (O7.rows++O4.rows)).bind λPh=>some (⟨O7.kinds,Ph⟩:aJ))else none)else none
theorem HN {O7:aJ}{O4:aJ}{r:aJ}(H:mX O7 O4=some r):PTz 136 [.agg (bn O7),.agg (bn O4)] (.val (.agg (bn r))):=by
 unfold mX at H;refine po_ func136 ntmps136 ?_;obtain⟨g1,H⟩:=aq H;obtain⟨g2,H⟩:=aq H;obtain⟨Ph,c3,H⟩:=bd_ H;replace c3:=da c3
 try simp only[ah4,ah2,ah6,ahW,ay,aD]at c3
 cases H;exact ao
def dw (Ph:(List (List Val))):((List (List Val))×Int)->Option (Step ((List (List Val))×Int) ((List (List Val)))):=λs=>match s with
 |(Rk,Qk)=>bif Qk<(Ph.length:Int)then bif Qk=(0:Int)then(al Ph Qk).bind λRf=>bif Rk.length+1<=5864062014805 then(some (.next ((Rk++[Rf]),(i64.wrap (Qk+(1:Int))))))else none else
 (al Ph (i64.wrap (Qk-(1:Int)))).bind λQs=>(al Ph Qk).bind λUu=>(em Qs Uu).bind λQ4=>bif (!Q4)then bif Rk.length+1<=5864062014805 then(some (.next ((Rk++[Uu]),(i64.wrap (Qk+(1:Int))))))else none else
 some (.next (Rk,(i64.wrap (Qk+(1:Int)))))else
 some (.exit (Rk,Qk))
def mh:Sum ((List (List Val))×Int) ((List (List Val)))->Option (((List (List Val))))
 |.inl (Rk,Qk)=>some Rk
 |.inr q=>some q
def kF (O5:(List (List Val))):Option ((List (List Val))):=(fM O5).bind λPh=>(af (dw Ph) fuel ([],(0:Int))).bind (mh)
theorem BQ {O5:(List (List Val))}{r:(List (List Val))}(H:kF O5=some r):PTz 112 [.one (.lst (O5.map (λx=>[AC.lst (x.map cV)])))] (.val (.one (.lst (r.map (λx=>[AC.lst (x.map cV)]))))):=by
 unfold kF at H;refine po_ func112 ntmps112 ?_;obtain⟨Ph,c1,H⟩:=bd_ H;replace c1:=da c1;refine aS ?_;refine br 4 1 rfl ?_;refine alM_ (λs:(List (List Val))×Int=>match s with|(Rk,Qk)=>[(3,.one (.c (.lst (Ph.map (λx=>[AC.lst (x.map cV)]))))),(4,.one (.own (Rk.map (λx=>[AC.lst (x.map cV)])) 0)),(5,.one (.c (.int .i64 Qk)))]) (λs=>match s with|(Rk,Qk)=>[.spare Rk.length 1]) H (λ_=>aia _)
  (fm_ bg [] rfl aQ bq) ?_
 rintro⟨Rk,Qk⟩ Qr OZ Po;unfold dw at OZ;dsimp only at OZ ⊢;obtain⟨P1,OZ⟩|⟨P1,OZ⟩:=ae OZ
 .obtain⟨Qu,OZ⟩|⟨Qu,OZ⟩:=ae OZ
  .obtain⟨Rf,Tu,i2,SR,OZ⟩:=aw (f:=(λx=>[AC.lst (x.map cV)])) OZ
   obtain⟨g3,OZ⟩:=aq OZ
   cases OZ;refine aS ?_;exact⟨_,rfl,fm_ fO [] dU aQ bq⟩
  obtain⟨Qs,VC,i4,U7,OZ⟩:=aw (f:=(λx=>[AC.lst (x.map cV)])) OZ;obtain⟨Uu,i5z,i5,i5x,OZ⟩:=aw (f:=(λx=>[AC.lst (x.map cV)])) OZ;obtain⟨Q4,c6,OZ⟩:=bd_ OZ;replace c6:=li c6;obtain⟨P6,OZ⟩|⟨P6,OZ⟩:=ae OZ
  .obtain⟨g7,OZ⟩:=aq OZ
   cases OZ;refine aS ?_;exact⟨_,rfl,fm_ fO [] dU aQ bq⟩
  cases OZ;refine aS ?_;exact⟨_,rfl,fm_ fO [] dU aQ bq⟩
 cases OZ;have O0:mh (.inl (Rk,Qk))=some _:=Po;unfold mh at O0;dsimp only at O0
 cases O0;exact ao
def gL (O4:aJ):Option (aJ):=(kF O4.rows).bind λPh=>some (⟨O4.kinds,Ph⟩:aJ)
theorem As {O4:aJ}{r:aJ}(H:gL O4=some r):PTz 133 [.agg (bn O4)] (.val (.agg (bn r))):=by
 unfold gL at H;refine po_ func133 ntmps133 ?_;obtain⟨Ph,c1,H⟩:=bd_ H;replace c1:=BQ c1
 cases H;exact ao
end
