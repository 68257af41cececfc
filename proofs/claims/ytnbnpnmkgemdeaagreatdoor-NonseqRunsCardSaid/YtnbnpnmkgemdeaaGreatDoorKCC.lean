/- Parts. No condition. -/
import Derived.Test.YtnbnpnmkgemdeaaGreatDoorKBJ
set_option maxHeartbeats 8000000
set_option maxRecDepth 100000
set_option linter.unusedSimpArgs false
set_option linter.unusedVariables false
namespace Go.Proofs.YtnbnpnmkgemdeaaGreatDoor
open IntKind (i64)
open Go.RowKit Go.MapKept Tryz
noncomputable section
def pi (O_:Int):Option (Int):=bif O_=(1:Int)then some (0:Int)else
 bif O_=(2:Int)then some (0:Int)else
 bif O_=(3:Int)then some (1:Int)else
 bif O_=(4:Int)then some (1:Int)else
 bif O_=(10:Int)then some (1:Int)else
 bif O_=(11:Int)then some (1:Int)else
 bif O_=(5:Int)then some (2:Int)else
 bif O_=(6:Int)then some (2:Int)else
 bif O_=(7:Int)then some (2:Int)else
 bif O_=(8:Int)then some (2:Int)else
 bif O_=(9:Int)then some (2:Int)else
 some (-1:Int)
theorem Ip {O_:Int}{r:Int}(H:pi O_=some r):PTz 170 [.one (.int .i64 O_)] (.val (.one (.int .i64 r))):=by
 unfold pi at H;refine po_ func170 ntmps170 ?_;obtain⟨PT,H⟩|⟨PT,H⟩:=ae H
 .cases H
  exact ao
 obtain⟨PP,H⟩|⟨PP,H⟩:=ae H
 .cases H
  exact ao
 obtain⟨PG,H⟩|⟨PG,H⟩:=ae H
 .cases H
  exact ao
 obtain⟨P1,H⟩|⟨P1,H⟩:=ae H
 .cases H
  exact ao
 obtain⟨Qu,H⟩|⟨Qu,H⟩:=ae H
 .cases H
  exact ao
 obtain⟨Qb,H⟩|⟨Qb,H⟩:=ae H
 .cases H
  exact ao
 obtain⟨QX,H⟩|⟨QX,H⟩:=ae H
 .cases H
  exact ao
 obtain⟨Qw,H⟩|⟨Qw,H⟩:=ae H
 .cases H
  exact ao
 obtain⟨Q5,H⟩|⟨Q5,H⟩:=ae H
 .cases H
  exact ao
 obtain⟨P6,H⟩|⟨P6,H⟩:=ae H
 .cases H
  exact ao
 obtain⟨Qo,H⟩|⟨Qo,H⟩:=ae H
 .cases H
  exact ao
 cases H;exact ao
def A5 (O3:Pl)(Pi:(List (List Int))):Option ((List Int)×Int):=bif O3.int<(0:Int)then some ([],(6:Int))else
 bif (Pi.length:Int)<=O3.int then some ([],(6:Int))else
 (al Pi O3.int).bind λRi=>(kL Ri).bind λQQ=>bif (!QQ)then some ([],(7:Int))else
 some (Ri,(0:Int))
theorem MU {O3:Pl}{Pi:(List (List Int))}{r:(List Int)×Int}(H:A5 O3 Pi=some r):PTz 220 [.agg (tP O3),.one (.lst (Pi.map (λx=>[AC.lst (x.map (λx=>[AC.int .i64 x]))])))] (.tup [.one (.lst (r.1.map (λx=>[AC.int .i64 x]))),.one (.int .i64 r.2)]):=by
 unfold A5 at H;rw[aD O3];refine po_ func220 ntmps220 ?_;obtain⟨PT,H⟩|⟨PT,H⟩:=ae H
 .cases H
  exact ao
 obtain⟨PP,H⟩|⟨PP,H⟩:=ae H
 .cases H
  exact ao
 obtain⟨Ri,QV,i1,QI,H⟩:=aw (f:=(λx=>[AC.lst (x.map (λx=>[AC.int .i64 x]))])) H;obtain⟨QQ,c2,H⟩:=bd_ H;replace c2:=wF c2;obtain⟨Qu,H⟩|⟨Qu,H⟩:=ae H
 .cases H
  exact ao
 cases H;exact ao
def je (O3:Pl):(Int)->Option (Step (Int) ((List Int)×Int)):=λs=>match s with
 |i_4=>bif i_4<(O3.rows.length:Int)then(al O3.rows i_4).bind λRf=>(fK Rf O3.kinds).bind λQi=>bif (!Qi)then some (.ret ([],(8:Int)))else
 some (.next (i64.wrap (i_4+(1:Int))))else
 some (.exit i_4)
def fW (O3:Pl):Sum (Int) ((List Int)×Int)->Option (((List Int)×Int))
 |.inl i_4=>some (O3.kinds,(0:Int))
 |.inr q=>some q
def lq (O3:Pl):Option ((List Int)×Int):=bif (4096:Int)<(O3.rows.length:Int)then some ([],(5:Int))else
 (kL O3.kinds).bind λPW=>bif (!PW)then some ([],(7:Int))else
 (af (je O3) fuel (0:Int)).bind (fW O3)
theorem BX {O3:Pl}{r:(List Int)×Int}(H:lq O3=some r):PTz 221 [.agg (tP O3)] (.tup [.one (.lst (r.1.map (λx=>[AC.int .i64 x]))),.one (.int .i64 r.2)]):=by
 unfold lq at H;rw[aD O3];refine po_ func221 ntmps221 ?_;obtain⟨PT,H⟩|⟨PT,H⟩:=ae H
 .cases H
  exact ao
 obtain⟨PW,c1,H⟩:=bd_ H;replace c1:=wF c1;obtain⟨PG,H⟩|⟨PG,H⟩:=ae H
 .cases H
  exact ao
 refine aS ?_;refine alM_ (λs:Int=>match s with|i_4=>[(1,.one (.ptr 0 0)),(4,.one (.c (.int .i64 i_4)))]) (λs=>match s with|i_4=>[.box [.c (.int .i64 O3.op),.c (.int .i64 O3.int),.c (.lst (O3.kinds.map (λx=>[AC.int .i64 x]))),.c (.lst (O3.rows.map (λx=>[AC.lst (x.map cV)]))),.c (.int .i64 O3.pred.op),.c (.int .i64 O3.pred.int),.c (.int .i64 O3.pred.v.kind),.c (.int .i64 O3.pred.v.int),.c (.str O3.pred.v.text),.c (.str O3.pred.nm),.c (.lst (O3.pred.args.map tE)),.c (.lst (O3.exprs.map tE)),.c (.lst (O3.keys.map (λx=>[AC.int .i64 x]))),.c (.lst (O3.aggs.map ol)),.c (.lst (O3.inputs.map tP))]]) H (λ_=>aia _)
  (fm_ bg [] rfl aQ bq) ?_
 rintro i_4 Qr OZ Po;unfold je at OZ;dsimp only at OZ ⊢;obtain⟨Qu,OZ⟩|⟨Qu,OZ⟩:=ae OZ
 .obtain⟨Rf,Tu,i2,SR,OZ⟩:=aw (f:=(λx=>[AC.lst (x.map cV)])) OZ
  obtain⟨Qi,c3,OZ⟩:=bd_ OZ;replace c3:=Ep c3;obtain⟨Qw,OZ⟩|⟨Qw,OZ⟩:=ae OZ
  .cases OZ
   have O0:fW O3 (.inr ([],(8:Int)))=some _:=Po;unfold fW at O0;dsimp only at O0
   cases O0;exact ao
  cases OZ;refine aS ?_;exact⟨_,rfl,fm_ bg [] rfl aQ bq⟩
 cases OZ;have O0:fW O3 (.inl i_4)=some _:=Po;unfold fW at O0;dsimp only at O0
 cases O0;exact ao
def bH (O3:Pl)(Pi:(List (List Int)))(Uy:(List (List Int))):Option ((List Int)×Int):=bif O3.op=(1:Int)then(A5 O3 Pi).bind λPW=>some (PW.1,PW.2)else
 bif O3.op=(2:Int)then(lq O3).bind λQQ=>some (QQ.1,QQ.2)else
 bif O3.op=(4:Int)then(al Uy (0:Int)).bind λRf=>(ik Rf O3.exprs).bind λQi=>some (Qi.1,Qi.2)else
 bif O3.op=(11:Int)then(al Uy (0:Int)).bind λUx=>(dA Ux O3.keys O3.aggs).bind λPR=>some (PR.1,PR.2)else
 bif O3.op=(10:Int)then(al Uy (0:Int)).bind λR9=>some (R9,(0:Int))else
 bif O3.op=(3:Int)then(al Uy (0:Int)).bind λUN=>(j4 O3.pred UN).bind λQ1=>some (UN,Q1)else
 bif O3.op=(5:Int)then(al Uy (0:Int)).bind λV5=>(al Uy (1:Int)).bind λS8=>(om V5 S8).bind λRt=>(j4 O3.pred Rt).bind λRu=>some (Rt,Ru)else
 bif O3.op=(6:Int)then(al Uy (0:Int)).bind λVb=>(al Uy (1:Int)).bind λTU=>(om Vb TU).bind λWa=>(j4 O3.pred Wa).bind λTV=>some (Wa,TV)else
 (al Uy (0:Int)).bind λWI=>(al Uy (1:Int)).bind λUj=>bif (WI.length:Int)≠(Uj.length:Int)then some ([],(13:Int))else
 (dE WI Uj).bind λS9=>bif (!S9)then some ([],(7:Int))else
 some (WI,(0:Int))
theorem Ft {O3:Pl}{Pi:(List (List Int))}{Uy:(List (List Int))}{r:(List Int)×Int}(H:bH O3 Pi Uy=some r):PTz 171 [.agg (tP O3),.one (.lst (Pi.map (λx=>[AC.lst (x.map (λx=>[AC.int .i64 x]))]))),.one (.lst (Uy.map (λx=>[AC.lst (x.map (λx=>[AC.int .i64 x]))])))] (.tup [.one (.lst (r.1.map (λx=>[AC.int .i64 x]))),.one (.int .i64 r.2)]):=by
 unfold bH at H;rw[aD O3];refine po_ func171 ntmps171 ?_;obtain⟨PT,H⟩|⟨PT,H⟩:=ae H
 .obtain⟨PW,c1,H⟩:=bd_ H
  replace c1:=MU c1
  try simp only[ah4,ah2,ah6,ahW,ay,aD]at c1
  cases H;exact ao
 obtain⟨PG,H⟩|⟨PG,H⟩:=ae H
 .obtain⟨QQ,c2,H⟩:=bd_ H
  replace c2:=BX c2
  try simp only[ah4,ah2,ah6,ahW,ay,aD]at c2
  cases H;exact ao
 obtain⟨Qu,H⟩|⟨Qu,H⟩:=ae H
 .obtain⟨Rf,Ud,i3,TK,H⟩:=aw (f:=(λx=>[AC.lst (x.map (λx=>[AC.int .i64 x]))])) H
  obtain⟨Qi,c4,H⟩:=bd_ H;replace c4:=yr c4
  cases H;exact ao
 obtain⟨Qw,H⟩|⟨Qw,H⟩:=ae H
 .obtain⟨Ux,i5z,i5,i5x,H⟩:=aw (f:=(λx=>[AC.lst (x.map (λx=>[AC.int .i64 x]))])) H
  obtain⟨PR,c6,H⟩:=bd_ H;replace c6:=sL c6
  cases H;exact ao
 obtain⟨Qo,H⟩|⟨Qo,H⟩:=ae H
 .obtain⟨R9,Yi,i7,XY,H⟩:=aw (f:=(λx=>[AC.lst (x.map (λx=>[AC.int .i64 x]))])) H
  cases H;exact ao
 obtain⟨P2,H⟩|⟨P2,H⟩:=ae H
 .obtain⟨UN,i8z,i8,i8x,H⟩:=aw (f:=(λx=>[AC.lst (x.map (λx=>[AC.int .i64 x]))])) H
  obtain⟨Q1,c9,H⟩:=bd_ H;replace c9:=tu c9
  try simp only[ah4,ah2,ah6,ahW,ay,aD]at c9
  cases H;exact ao
 obtain⟨Rq,H⟩|⟨Rq,H⟩:=ae H
 .obtain⟨V5,WP,Zl,V6,H⟩:=aw (f:=(λx=>[AC.lst (x.map (λx=>[AC.int .i64 x]))])) H
  obtain⟨S8,YJ,i11,YK,H⟩:=aw (f:=(λx=>[AC.lst (x.map (λx=>[AC.int .i64 x]))])) H;obtain⟨Rt,SJ,H⟩:=bd_ H;replace SJ:=tw SJ;obtain⟨Ru,R4,H⟩:=bd_ H;replace R4:=tu R4
  try simp only[ah4,ah2,ah6,ahW,ay,aD]at R4
  cases H;exact ao
 obtain⟨RB,H⟩|⟨RB,H⟩:=ae H
 .obtain⟨Vb,i14z,i14,i14x,H⟩:=aw (f:=(λx=>[AC.lst (x.map (λx=>[AC.int .i64 x]))])) H
  obtain⟨TU,XU,i15,XV,H⟩:=aw (f:=(λx=>[AC.lst (x.map (λx=>[AC.int .i64 x]))])) H;obtain⟨Wa,VO,H⟩:=bd_ H;replace VO:=tw VO;obtain⟨TV,UK,H⟩:=bd_ H;replace UK:=tu UK
  try simp only[ah4,ah2,ah6,ahW,ay,aD]at UK
  cases H;exact ao
 obtain⟨WI,i18z,i18,i18x,H⟩:=aw (f:=(λx=>[AC.lst (x.map (λx=>[AC.int .i64 x]))])) H;obtain⟨Uj,i19z,i19,i19x,H⟩:=aw (f:=(λx=>[AC.lst (x.map (λx=>[AC.int .i64 x]))])) H;obtain⟨TS,H⟩|⟨TS,H⟩:=ae H
 .cases H
  exact ao
 obtain⟨S9,VJ,H⟩:=bd_ H;replace VJ:=sw VJ;obtain⟨Va,H⟩|⟨Va,H⟩:=ae H
 .cases H
  exact ao
 cases H;exact ao
end
noncomputable section
def bm (O3:Pl)(Pi:(List (List Int)))(Ph:Int)(rec:Pl->List (List Int)->Option (List Int×Int)):((List (List Int))×Int)->Option (Step ((List (List Int))×Int) ((List Int)×Int)):=λs=>match s with
 |(UA,Qz)=>bif Qz<Ph then(al O3.inputs Qz).bind λQs=>(rec Qs Pi).bind λQN=>bif QN.2≠(0:Int)then some (.ret ([],QN.2))else
 bif UA.length+1<=5864062014805 then(some (.next ((UA++[QN.1]),(i64.wrap (Qz+(1:Int))))))else none else
 some (.exit (UA,Qz))
def db (O3:Pl)(Pi:(List (List Int))):Sum ((List (List Int))×Int) ((List Int)×Int)->Option (((List Int)×Int))
 |.inl (UA,Qz)=>(bH O3 Pi UA).bind λPR=>bif PR.2≠(0:Int)then some ([],PR.2)else
 bif (PR.1.length:Int)=(0:Int)then some ([],(13:Int))else
 bif (48:Int)<(PR.1.length:Int)then some ([],(13:Int))else
 some (PR.1,(0:Int))
 |.inr q=>some q
def qg (rec:Pl->List (List Int)->Option (List Int×Int))(O3:Pl)(Pi:(List (List Int))):Option ((List Int)×Int):=(pi O3.op).bind λPh=>bif Ph<(0:Int)then some ([],(7:Int))else
 bif (O3.inputs.length:Int)≠Ph then some ([],(8:Int))else
 (af (bm O3 Pi Ph rec) fuel ([],(0:Int))).bind (db O3 Pi)
theorem MO {rec:Pl->List (List Int)->Option (List Int×Int)}  (Pq:∀ {x:Pl} {y:List (List Int)} {r:List Int×Int},rec x y=some r->PTz 130 [.agg (tP x),.one (.lst (y.map (λx=>[AC.lst (x.map (λx=>[AC.int .i64 x]))])))] (.tup [.one (.lst (r.1.map (λx=>[AC.int .i64 x]))),.one (.int .i64 r.2)])){O3:Pl}{Pi:(List (List Int))}{r:(List Int)×Int}(H:qg rec O3 Pi=some r):PTz 130 [.agg (tP O3),.one (.lst (Pi.map (λx=>[AC.lst (x.map (λx=>[AC.int .i64 x]))])))] (.tup [.one (.lst (r.1.map (λx=>[AC.int .i64 x]))),.one (.int .i64 r.2)]):=by
 unfold qg at H;rw[aD O3];refine po_ func130 ntmps130 ?_;obtain⟨Ph,c1,H⟩:=bd_ H;replace c1:=Ip c1;obtain⟨PP,H⟩|⟨PP,H⟩:=ae H
 .cases H
  exact ao
 obtain⟨PG,H⟩|⟨PG,H⟩:=ae H
 .cases H
  exact ao
 refine aS ?_;refine br 7 1 rfl ?_;refine alM_ (λs:(List (List Int))×Int=>match s with|(UA,Qz)=>[(1,.one (.c (.lst (Pi.map (λx=>[AC.lst (x.map (λx=>[AC.int .i64 x]))]))))),(2,.one (.ptr 0 0)),(6,.one (.c (.int .i64 Ph))),(7,.one (.own (UA.map (λx=>[AC.lst (x.map (λx=>[AC.int .i64 x]))])) 1)),(8,.one (.c (.int .i64 Qz)))]) (λs=>match s with|(UA,Qz)=>[.box [.c (.int .i64 O3.op),.c (.int .i64 O3.int),.c (.lst (O3.kinds.map (λx=>[AC.int .i64 x]))),.c (.lst (O3.rows.map (λx=>[AC.lst (x.map cV)]))),.c (.int .i64 O3.pred.op),.c (.int .i64 O3.pred.int),.c (.int .i64 O3.pred.v.kind),.c (.int .i64 O3.pred.v.int),.c (.str O3.pred.v.text),.c (.str O3.pred.nm),.c (.lst (O3.pred.args.map tE)),.c (.lst (O3.exprs.map tE)),.c (.lst (O3.keys.map (λx=>[AC.int .i64 x]))),.c (.lst (O3.aggs.map ol)),.c (.lst (O3.inputs.map tP))],.spare UA.length 1]) H (λ_=>aia _)
  (fm_ bg [] rfl aQ bq) ?_
 rintro⟨UA,Qz⟩ Qr OZ Po;unfold bm at OZ;dsimp only at OZ ⊢;obtain⟨Qb,OZ⟩|⟨Qb,OZ⟩:=ae OZ
 .obtain⟨Qs,Tu,i2,SR,OZ⟩:=aw (f:=tP) OZ
  simp only[ah4,ah2,ah6,ahW,aD]at SR;obtain⟨QN,c3,OZ⟩:=bd_ OZ;replace c3:=Pq c3
  try simp only[ah4,ah2,ah6,ahW,ay,aD]at c3
  obtain⟨Q5,OZ⟩|⟨Q5,OZ⟩:=ae OZ
  .cases OZ
   have O0:db O3 Pi (.inr ([],QN.2))=some _:=Po;unfold db at O0;dsimp only at O0
   cases O0;exact ao
  obtain⟨g4,OZ⟩:=aq OZ
  cases OZ;refine aS ?_;exact⟨_,rfl,fm_ fO [] dU aQ bq⟩
 cases OZ;have O0:db O3 Pi (.inl (UA,Qz))=some _:=Po;unfold db at O0;dsimp only at O0;obtain⟨PR,c5,O0⟩:=bd_ O0;replace c5:=Ft c5
 try simp only[ah4,ah2,ah6,ahW,ay,aD]at c5
 obtain⟨Qo,O0⟩|⟨Qo,O0⟩:=ae O0
 .cases O0
  exact ao
 obtain⟨Qj,O0⟩|⟨Qj,O0⟩:=ae O0
 .cases O0
  exact ao
 obtain⟨P2,O0⟩|⟨P2,O0⟩:=ae O0
 .cases O0
  exact ao
 cases O0;exact ao
def mg:Nat->Pl->List (List Int)->Option (List Int×Int)
 |0,_,_=>none
 |n+1,x,y=>qg (mg n) x y
theorem Dy:∀ (n:Nat) {x:Pl} {y:List (List Int)} {r:List Int×Int},mg n x y=some r->PTz 130 [.agg (tP x),.one (.lst (y.map (λx=>[AC.lst (x.map (λx=>[AC.int .i64 x]))])))] (.tup [.one (.lst (r.1.map (λx=>[AC.int .i64 x]))),.one (.int .i64 r.2)])
 |0,_,_,_,h=>nomatch h
 |n+1,_,_,_,h=>MO (Dy n) h
def dc (O3:Pl)(rec:Pl->Option Int):(Int×Int)->Option (Step (Int×Int) (Int)):=λs=>match s with
 |(Rr,i_2)=>bif i_2<(O3.inputs.length:Int)then(al O3.inputs i_2).bind λPK=>(rec PK).bind λPM=>some (.next ((wZ Rr PM),(i64.wrap (i_2+(1:Int)))))else
 some (.exit (Rr,i_2))
def nG:Sum (Int×Int) (Int)->Option ((Int))
 |.inl (Rr,i_2)=>some (i64.wrap (Rr+(1:Int)))
 |.inr q=>some q
def np (rec:Pl->Option Int)(O3:Pl):Option (Int):=(af (dc O3 rec) fuel ((0:Int),(0:Int))).bind (nG)
theorem F9 {rec:Pl->Option Int}  (Pq:∀ {x:Pl} {r:Int},rec x=some r->PTz 129 [.agg (tP x)] (.val (.one (.int .i64 r)))){O3:Pl}{r:Int}(H:np rec O3=some r):PTz 129 [.agg (tP O3)] (.val (.one (.int .i64 r))):=by
 unfold np at H;rw[aD O3];refine po_ func129 ntmps129 ?_;refine aS ?_;refine alM_ (λs:Int×Int=>match s with|(Rr,i_2)=>[(1,.one (.ptr 0 0)),(3,.one (.c (.int .i64 Rr))),(4,.one (.c (.int .i64 i_2)))]) (λs=>match s with|(Rr,i_2)=>[.box [.c (.int .i64 O3.op),.c (.int .i64 O3.int),.c (.lst (O3.kinds.map (λx=>[AC.int .i64 x]))),.c (.lst (O3.rows.map (λx=>[AC.lst (x.map cV)]))),.c (.int .i64 O3.pred.op),.c (.int .i64 O3.pred.int),.c (.int .i64 O3.pred.v.kind),.c (.int .i64 O3.pred.v.int),.c (.str O3.pred.v.text),.c (.str O3.pred.nm),.c (.lst (O3.pred.args.map tE)),.c (.lst (O3.exprs.map tE)),.c (.lst (O3.keys.map (λx=>[AC.int .i64 x]))),.c (.lst (O3.aggs.map ol)),.c (.lst (O3.inputs.map tP))]]) H (λ_=>aia _)
  (fm_ bg [] rfl aQ bq) ?_
 rintro⟨Rr,i_2⟩ Qr OZ Po;unfold dc at OZ;dsimp only at OZ ⊢;obtain⟨PG,OZ⟩|⟨PG,OZ⟩:=ae OZ
 .obtain⟨PK,QV,i1,QI,OZ⟩:=aw (f:=tP) OZ
  simp only[ah4,ah2,ah6,ahW,aD]at QI;obtain⟨PM,c2,OZ⟩:=bd_ OZ;replace c2:=Pq c2
  try simp only[ah4,ah2,ah6,ahW,ay,aD]at c2
  cases OZ;refine aS ?_;exact⟨_,rfl,fm_ bg [] rfl aQ bq⟩
 cases OZ;have O0:nG (.inl (Rr,i_2))=some _:=Po;unfold nG at O0;dsimp only at O0
 cases O0;exact ao
def lc:Nat->Pl->Option Int
 |0,_=>none
 |n+1,x=>np (lc n) x
theorem xB:∀ (n:Nat) {x:Pl} {r:Int},lc n x=some r->PTz 129 [.agg (tP x)] (.val (.one (.int .i64 r)))
 |0,_,_,h=>nomatch h
 |n+1,_,_,h=>F9 (xB n) h
def px (O3:Pl)(Pi:(List (List Int))):Option ((List Int)×Int):=(lc fuel O3).bind λPh=>bif (24:Int)<Ph then some ([],(26:Int))else
 (mg fuel O3 Pi).bind λQm=>some (Qm.1,Qm.2)
theorem HK {O3:Pl}{Pi:(List (List Int))}{r:(List Int)×Int}(H:px O3 Pi=some r):PTz 92 [.agg (tP O3),.one (.lst (Pi.map (λx=>[AC.lst (x.map (λx=>[AC.int .i64 x]))])))] (.tup [.one (.lst (r.1.map (λx=>[AC.int .i64 x]))),.one (.int .i64 r.2)]):=by
 unfold px at H;rw[aD O3];refine po_ func92 ntmps92 ?_;obtain⟨Ph,c1,H⟩:=bd_ H;replace c1:=xB fuel c1
 try simp only[ah4,ah2,ah6,ahW,ay,aD]at c1
 obtain⟨PP,H⟩|⟨PP,H⟩:=ae H
 .cases H
  exact ao
 obtain⟨Qm,c2,H⟩:=bd_ H;replace c2:=Dy fuel c2
 try simp only[ah4,ah2,ah6,ahW,ay,aD]at c2
 cases H;exact ao
def fq (O3:Pl)(Pj:Int)(rec:Pl->Int->Option Int):(Int×Int)->Option (Step (Int×Int) (Int)):=λs=>match s with
 |(Wb,i_4)=>bif i_4<(O3.inputs.length:Int)then bif Wb<Pj then(al O3.inputs i_4).bind λQs=>(rec Qs (i64.wrap (Pj-Wb))).bind λQN=>some (.next ((i64.wrap (Wb+QN)),(i64.wrap (i_4+(1:Int)))))else
 some (.exit (Wb,i_4))else
 some (.exit (Wb,i_4))
def mC:Sum (Int×Int) (Int)->Option ((Int))
 |.inl (Wb,i_4)=>some Wb
 |.inr q=>some q
def A7 (rec:Pl->Int->Option Int)(O3:Pl)(Pj:Int):Option (Int):=(lT fuel O3.pred Pj).bind λPh=>(lT fuel (Ex.mk (0:Int) (0:Int) (⟨(0:Int),(0:Int),ByteArray.empty⟩:Val) ByteArray.empty O3.exprs) Pj).bind λPW=>(af (fq O3 Pj rec) fuel ((i64.wrap ((i64.wrap ((i64.wrap ((i64.wrap ((i64.wrap ((i64.wrap ((1:Int)+Ph))+PW))+(pe (O3.rows.length:Int) Pj)))+(pe (O3.keys.length:Int) Pj)))+(pe (O3.aggs.length:Int) Pj)))+(pe (O3.kinds.length:Int) Pj))),(0:Int))).bind (mC)
theorem NZ {rec:Pl->Int->Option Int}  (Pq:∀ {x:Pl} {y:Int} {r:Int},rec x y=some r->PTz 60 [.agg (tP x),.one (.int .i64 y)] (.val (.one (.int .i64 r)))){O3:Pl}{Pj:Int}{r:Int}(H:A7 rec O3 Pj=some r):PTz 60 [.agg (tP O3),.one (.int .i64 Pj)] (.val (.one (.int .i64 r))):=by
 unfold A7 at H;rw[aD O3];refine po_ func60 ntmps60 ?_;obtain⟨Ph,c1,H⟩:=bd_ H;replace c1:=tt fuel c1
 try simp only[ah4,ah2,ah6,ahW,ay,aD]at c1
 obtain⟨PW,c2,H⟩:=bd_ H;replace c2:=tt fuel c2
 try simp only[ah4,ah2,ah6,ahW,ay,aD]at c2
 refine aS ?_;refine alM_ (λs:Int×Int=>match s with|(Wb,i_4)=>[(1,.one (.c (.int .i64 Pj))),(2,.one (.ptr 0 0)),(5,.one (.c (.int .i64 Wb))),(6,.one (.c (.int .i64 i_4)))]) (λs=>match s with|(Wb,i_4)=>[.box [.c (.int .i64 O3.op),.c (.int .i64 O3.int),.c (.lst (O3.kinds.map (λx=>[AC.int .i64 x]))),.c (.lst (O3.rows.map (λx=>[AC.lst (x.map cV)]))),.c (.int .i64 O3.pred.op),.c (.int .i64 O3.pred.int),.c (.int .i64 O3.pred.v.kind),.c (.int .i64 O3.pred.v.int),.c (.str O3.pred.v.text),.c (.str O3.pred.nm),.c (.lst (O3.pred.args.map tE)),.c (.lst (O3.exprs.map tE)),.c (.lst (O3.keys.map (λx=>[AC.int .i64 x]))),.c (.lst (O3.aggs.map ol)),.c (.lst (O3.inputs.map tP))]]) H (λ_=>aia _)
  (fm_ bg [] rfl aQ bq) ?_
 rintro⟨Wb,i_4⟩ Qr OZ Po;unfold fq at OZ;dsimp only at OZ ⊢;obtain⟨Qu,OZ⟩|⟨Qu,OZ⟩:=ae OZ
 .obtain⟨Qb,OZ⟩|⟨Qb,OZ⟩:=ae OZ
  .obtain⟨Qs,Ud,i3,TK,OZ⟩:=aw (f:=tP) OZ
   simp only[ah4,ah2,ah6,ahW,aD]at TK;obtain⟨QN,c4,OZ⟩:=bd_ OZ;replace c4:=Pq c4
   try simp only[ah4,ah2,ah6,ahW,ay,aD]at c4
   cases OZ;refine aS ?_;exact⟨_,rfl,fm_ bg [] rfl aQ bq⟩
  cases OZ;have O0:mC (.inl (Wb,i_4))=some _:=Po;unfold mC at O0;dsimp only at O0
  cases O0;exact ao
 cases OZ;have O0:mC (.inl (Wb,i_4))=some _:=Po;unfold mC at O0;dsimp only at O0
 cases O0;exact ao
def Ad:Nat->Pl->Int->Option Int
 |0,_,_=>none
 |n+1,x,y=>A7 (Ad n) x y
theorem HU:∀ (n:Nat) {x:Pl} {y:Int} {r:Int},Ad n x y=some r->PTz 60 [.agg (tP x),.one (.int .i64 y)] (.val (.one (.int .i64 r)))
 |0,_,_,_,h=>nomatch h
 |n+1,_,_,_,h=>NZ (HU n) h
end
