/- Parts. No condition. -/
import Derived.Test.YtnbnpnmkgemdeaaGreatDoorKAZ
import Derived.Test.YtnbnpnmkgemdeaaGreatDoorKAY
set_option maxHeartbeats 8000000
set_option maxRecDepth 100000
set_option linter.unusedSimpArgs false
set_option linter.unusedVariables false
namespace Go.Proofs.YtnbnpnmkgemdeaaGreatDoor
open IntKind (i64)
open Go.RowKit Go.MapKept Tryz
noncomputable section
def r9 (Pg:(List Val))(O1:(List Int)):(Int)->Option (Step (Int) (Bool)):=λs=>match s with
 |v_2=>bif v_2<(Pg.length:Int)then(al Pg v_2).bind λPK=>(jN PK).bind λPM=>bif (!PM)then some (.ret false)else
 (al O1 v_2).bind λQs=>bif PK.kind≠Qs then bif PK.kind≠(0:Int)then some (.ret false)else
 some (.next (i64.wrap (v_2+(1:Int))))else
 some (.next (i64.wrap (v_2+(1:Int))))else
 some (.exit v_2)
def gI:Sum (Int) (Bool)->Option ((Bool))
 |.inl v_2=>some true
 |.inr q=>some q
def yq (Pg:(List Val))(O1:(List Int)):Option (Bool):=bif (Pg.length:Int)≠(O1.length:Int)then some false else
 (af (r9 Pg O1) fuel (0:Int)).bind (gI)
theorem MQ {Pg:(List Val)}{O1:(List Int)}{r:Bool}(H:yq Pg O1=some r):PTz 204 [.one (.lst (Pg.map cV)),.one (.lst (O1.map (λx=>[AC.int .i64 x])))] (.val (.one (.bool r))):=by
 unfold yq at H;refine po_ func204 ntmps204 ?_;obtain⟨PT,H⟩|⟨PT,H⟩:=ae H
 .cases H
  exact ao
 refine aS ?_;refine alM_ (λs:Int=>match s with|v_2=>[(1,.one (.c (.lst (O1.map (λx=>[AC.int .i64 x]))))),(12,.one (.c (.lst (Pg.map cV)))),(13,.one (.c (.int .i64 (Pg.length:Int)))),(14,.one (.c (.int .i64 v_2)))]) (λs=>match s with|v_2=>[]) H (λ_=>aia _)
  (fm_ bg [] rfl aQ trivial) ?_
 rintro v_2 Qr OZ Po;unfold r9 at OZ;dsimp only at OZ ⊢;obtain⟨PG,OZ⟩|⟨PG,OZ⟩:=ae OZ
 .obtain⟨PK,QV,i1,QI,OZ⟩:=aw (f:=cV) OZ
  obtain⟨PM,c2,OZ⟩:=bd_ OZ;replace c2:=n_ c2;obtain⟨Qb,OZ⟩|⟨Qb,OZ⟩:=ae OZ
  .cases OZ
   have O0:gI (.inr false)=some _:=Po;unfold gI at O0;dsimp only at O0
   cases O0;exact ao
  obtain⟨Qs,Ud,i3,TK,OZ⟩:=aw (f:=(λx=>[AC.int .i64 x])) OZ;obtain⟨Qw,OZ⟩|⟨Qw,OZ⟩:=ae OZ
  .obtain⟨Q5,OZ⟩|⟨Q5,OZ⟩:=ae OZ
   .cases OZ
    have O0:gI (.inr false)=some _:=Po;unfold gI at O0;dsimp only at O0
    cases O0;exact ao
   cases OZ;refine aS ?_;exact⟨_,rfl,fm_ bg [_] rfl aQ trivial⟩
  cases OZ;refine aS ?_;exact⟨_,rfl,fm_ bg [_] rfl aQ trivial⟩
 cases OZ;have O0:gI (.inl v_2)=some _:=Po;unfold gI at O0;dsimp only at O0
 cases O0;exact ao
def nL (O1:(List Int)):(Int)->Option (Step (Int) (Bool)):=λs=>match s with
 |v_1=>bif v_1<(O1.length:Int)then(al O1 v_1).bind λRi=>bif Ri<(1:Int)then some (.ret false)else
 bif (3:Int)<Ri then some (.ret false)else
 some (.next (i64.wrap (v_1+(1:Int))))else
 some (.exit v_1)
def fc:Sum (Int) (Bool)->Option ((Bool))
 |.inl v_1=>some true
 |.inr q=>some q
def sc (O1:(List Int)):Option (Bool):=(af (nL O1) fuel (0:Int)).bind (fc)
theorem zm {O1:(List Int)}{r:Bool}(H:sc O1=some r):PTz 156 [.one (.lst (O1.map (λx=>[AC.int .i64 x])))] (.val (.one (.bool r))):=by
 unfold sc at H;refine po_ func156 ntmps156 ?_;refine aS ?_;refine alM_ (λs:Int=>match s with|v_1=>[(5,.one (.c (.lst (O1.map (λx=>[AC.int .i64 x]))))),(6,.one (.c (.int .i64 (O1.length:Int)))),(7,.one (.c (.int .i64 v_1)))]) (λs=>match s with|v_1=>[]) H (λ_=>aia _)
  (fm_ bg [] rfl aQ trivial) ?_
 rintro v_1 Qr OZ Po;unfold nL at OZ;dsimp only at OZ ⊢;obtain⟨PP,OZ⟩|⟨PP,OZ⟩:=ae OZ
 .obtain⟨Ri,QV,i1,QI,OZ⟩:=aw (f:=(λx=>[AC.int .i64 x])) OZ
  obtain⟨P1,OZ⟩|⟨P1,OZ⟩:=ae OZ
  .cases OZ
   have O0:fc (.inr false)=some _:=Po;unfold fc at O0;dsimp only at O0
   cases O0;exact ao
  obtain⟨Qu,OZ⟩|⟨Qu,OZ⟩:=ae OZ
  .cases OZ
   have O0:fc (.inr false)=some _:=Po;unfold fc at O0;dsimp only at O0
   cases O0;exact ao
  cases OZ;refine aS ?_;exact⟨_,rfl,fm_ bg [] rfl aQ trivial⟩
 cases OZ;have O0:fc (.inl v_1)=some _:=Po;unfold fc at O0;dsimp only at O0
 cases O0;exact ao
def fe (O_:Int):Option (Int):=bif O_=(1:Int)then some (0:Int)else
 bif O_=(2:Int)then some (0:Int)else
 bif O_=(3:Int)then some (1:Int)else
 bif O_=(4:Int)then some (1:Int)else
 bif O_=(10:Int)then some (1:Int)else
 bif O_=(11:Int)then some (1:Int)else
 bif O_=(5:Int)then some (2:Int)else
 bif O_=(6:Int)then some (2:Int)else
 bif O_=(7:Int)then some (2:Int)else
 bif O_=(8:Int)then some (2:Int)else
 bif O_=(9:Int)then some (2:Int)else
 some (-1:Int)
theorem HQ {O_:Int}{r:Int}(H:fe O_=some r):PTz 118 [.one (.int .i64 O_)] (.val (.one (.int .i64 r))):=by
 unfold fe at H;refine po_ func118 ntmps118 ?_;obtain⟨PT,H⟩|⟨PT,H⟩:=ae H
 .cases H
  exact ao
 obtain⟨PP,H⟩|⟨PP,H⟩:=ae H
 .cases H
  exact ao
 obtain⟨PG,H⟩|⟨PG,H⟩:=ae H
 .cases H
  exact ao
 obtain⟨P1,H⟩|⟨P1,H⟩:=ae H
 .cases H
  exact ao
 obtain⟨Qu,H⟩|⟨Qu,H⟩:=ae H
 .cases H
  exact ao
 obtain⟨Qb,H⟩|⟨Qb,H⟩:=ae H
 .cases H
  exact ao
 obtain⟨QX,H⟩|⟨QX,H⟩:=ae H
 .cases H
  exact ao
 obtain⟨Qw,H⟩|⟨Qw,H⟩:=ae H
 .cases H
  exact ao
 obtain⟨Q5,H⟩|⟨Q5,H⟩:=ae H
 .cases H
  exact ao
 obtain⟨P6,H⟩|⟨P6,H⟩:=ae H
 .cases H
  exact ao
 obtain⟨Qo,H⟩|⟨Qo,H⟩:=ae H
 .cases H
  exact ao
 cases H;exact ao
def sQ (O6:Ex)(O1:(List Int)):Option (Int):=(Bv O6 O1).bind λPh=>bif Ph.2≠(0:Int)then some Ph.2 else
 bif Ph.1≠(3:Int)then bif Ph.1≠(0:Int)then some (7:Int)else
 some (0:Int)else
 some (0:Int)
theorem wa {O6:Ex}{O1:(List Int)}{r:Int}(H:sQ O6 O1=some r):PTz 158 [.agg (tE O6),.one (.lst (O1.map (λx=>[AC.int .i64 x])))] (.val (.one (.int .i64 r))):=by
 unfold sQ at H;rw[ay O6];refine po_ func158 ntmps158 ?_;obtain⟨Ph,c1,H⟩:=bd_ H;replace c1:=H3 c1
 try simp only[ah4,ah2,ah6,ahW,ay,aD]at c1
 obtain⟨PP,H⟩|⟨PP,H⟩:=ae H
 .cases H
  exact ao
 obtain⟨PG,H⟩|⟨PG,H⟩:=ae H
 .obtain⟨P1,H⟩|⟨P1,H⟩:=ae H
  .cases H
   exact ao
  cases H;exact ao
 cases H;exact ao
def jV (O5:(List Ag))(O1:(List Int)):((List Int)×Int)->Option (Step ((List Int)×Int) ((List Int)×Int)):=λs=>match s with
 |(Pv,Tv)=>bif Tv<(O5.length:Int)then(al O5 Tv).bind λPL=>bif PL.op<(1:Int)then some (.ret ([],(7:Int)))else
 bif (4:Int)<PL.op then some (.ret ([],(7:Int)))else
 bif PL.arg=(-1:Int)then bif PL.op=(1:Int)then bif Pv.length+1<=17592186044416 then(some (.next ((Pv++[(1:Int)]),(i64.wrap (Tv+(1:Int))))))else none else
 some (.ret ([],(6:Int)))else
 bif PL.arg<(0:Int)then some (.ret ([],(6:Int)))else
 bif (O1.length:Int)<=PL.arg then some (.ret ([],(6:Int)))else
 bif PL.op=(2:Int)then(al O1 PL.arg).bind λVb=>bif Vb≠(1:Int)then some (.ret ([],(7:Int)))else
 bif Pv.length+1<=17592186044416 then(some (.next ((Pv++[(1:Int)]),(i64.wrap (Tv+(1:Int))))))else none else
 bif PL.op=(3:Int)then(al O1 PL.arg).bind λUj=>bif Pv.length+1<=17592186044416 then(some (.next ((Pv++[Uj]),(i64.wrap (Tv+(1:Int))))))else none else
 bif PL.op=(4:Int)then(al O1 PL.arg).bind λVd=>bif Pv.length+1<=17592186044416 then(some (.next ((Pv++[Vd]),(i64.wrap (Tv+(1:Int))))))else none else
 bif Pv.length+1<=17592186044416 then(some (.next ((Pv++[(1:Int)]),(i64.wrap (Tv+(1:Int))))))else none else
 some (.exit (Pv,Tv))
def bv:Sum ((List Int)×Int) ((List Int)×Int)->Option (((List Int)×Int))
 |.inl (Pv,Tv)=>some (Pv,(0:Int))
 |.inr q=>some q
def nK (PN:(List Int))(O1:(List Int)):((List Int)×Int)->Option (Step ((List Int)×Int) ((List Int)×Int)):=λs=>match s with
 |(O2,v_2)=>bif v_2<(PN.length:Int)then(al PN v_2).bind λPK=>bif PK<(0:Int)then some (.ret ([],(6:Int)))else
 bif (O1.length:Int)<=PK then some (.ret ([],(6:Int)))else
 (al O1 PK).bind λQs=>bif O2.length+1<=17592186044416 then(some (.next ((O2++[Qs]),(i64.wrap (v_2+(1:Int))))))else none else
 some (.exit (O2,v_2))
def cI (O5:(List Ag))(O1:(List Int)):Sum ((List Int)×Int) ((List Int)×Int)->Option (((List Int)×Int))
 |.inl (O2,v_2)=>(af (jV O5 O1) fuel (O2,(0:Int))).bind (bv)
 |.inr q=>some q
def nh (PN:(List Int))(O5:(List Ag))(O1:(List Int)):Option ((List Int)×Int):=(af (nK PN O1) fuel ([],(0:Int))).bind (cI O5 O1)
theorem FA {PN:(List Int)}{O5:(List Ag)}{O1:(List Int)}{r:(List Int)×Int}(H:nh PN O5 O1=some r):PTz 160 [.one (.lst (PN.map (λx=>[AC.int .i64 x]))),.one (.lst (O5.map ol)),.one (.lst (O1.map (λx=>[AC.int .i64 x])))] (.tup [.one (.lst (r.1.map (λx=>[AC.int .i64 x]))),.one (.int .i64 r.2)]):=by
 unfold nh at H;refine po_ func160 ntmps160 ?_;refine aS ?_;refine br 8 1 rfl ?_;refine alM_ (λs:(List Int)×Int=>match s with|(O2,v_2)=>[(1,.one (.c (.lst (O5.map ol)))),(2,.one (.c (.lst (O1.map (λx=>[AC.int .i64 x]))))),(8,.one (.own (O2.map (λx=>[AC.int .i64 x])) 0)),(13,.one (.c (.lst (PN.map (λx=>[AC.int .i64 x]))))),(14,.one (.c (.int .i64 (PN.length:Int)))),(15,.one (.c (.int .i64 v_2)))]) (λs=>match s with|(O2,v_2)=>[.spare O2.length 1]) H (λ_=>aia _)
  (fm_ bg [] rfl aQ bq) ?_
 rintro⟨O2,v_2⟩ Qr OZ Po;unfold nK at OZ;dsimp only at OZ ⊢;obtain⟨PG,OZ⟩|⟨PG,OZ⟩:=ae OZ
 .obtain⟨PK,QV,i1,QI,OZ⟩:=aw (f:=(λx=>[AC.int .i64 x])) OZ
  obtain⟨Qu,OZ⟩|⟨Qu,OZ⟩:=ae OZ
  .cases OZ
   have O0:cI O5 O1 (.inr ([],(6:Int)))=some _:=Po;unfold cI at O0;dsimp only at O0
   cases O0;exact ao
  obtain⟨Qb,OZ⟩|⟨Qb,OZ⟩:=ae OZ
  .cases OZ
   have O0:cI O5 O1 (.inr ([],(6:Int)))=some _:=Po;unfold cI at O0;dsimp only at O0
   cases O0;exact ao
  obtain⟨Qs,Tu,i2,SR,OZ⟩:=aw (f:=(λx=>[AC.int .i64 x])) OZ;obtain⟨g3,OZ⟩:=aq OZ
  cases OZ;refine aS ?_;exact⟨_,rfl,fm_ fO [] dU aQ bq⟩
 cases OZ;have O0:cI O5 O1 (.inl (O2,v_2))=some _:=Po;unfold cI at O0;dsimp only at O0;refine aS ?_;refine alM_ (λs:(List Int)×Int=>match s with|(Pv,Tv)=>[(2,.one (.c (.lst (O1.map (λx=>[AC.int .i64 x]))))),(8,.one (.own (Pv.map (λx=>[AC.int .i64 x])) 0)),(35,.one (.c (.lst (O5.map ol)))),(36,.one (.c (.int .i64 (O5.length:Int)))),(37,.one (.c (.int .i64 Tv)))]) (λs=>match s with|(Pv,Tv)=>[.spare Pv.length 1]) O0 (λ_=>aia _)
  (fm_ bg [] rfl aQ bq) ?_
 rintro⟨Pv,Tv⟩ st2 Pe RE;unfold jV at Pe;dsimp only at Pe ⊢;obtain⟨P6,Pe⟩|⟨P6,Pe⟩:=ae Pe
 .obtain⟨PL,VC,i4,U7,Pe⟩:=aw (f:=ol) Pe
  obtain⟨Qj,Pe⟩|⟨Qj,Pe⟩:=ae Pe
  .cases Pe
   have Px:bv (.inr ([],(7:Int)))=some _:=RE;unfold bv at Px;dsimp only at Px
   cases Px;exact ao
  obtain⟨P2,Pe⟩|⟨P2,Pe⟩:=ae Pe
  .cases Pe
   have Px:bv (.inr ([],(7:Int)))=some _:=RE;unfold bv at Px;dsimp only at Px
   cases Px;exact ao
  obtain⟨P9,Pe⟩|⟨P9,Pe⟩:=ae Pe
  .obtain⟨QJ,Pe⟩|⟨QJ,Pe⟩:=ae Pe
   .have Rq:(decide (PL.op=(3:Int)))=false:=by rw[aii QJ];decide
    have RI:(decide (PL.op=(4:Int)))=false:=by rw[aii QJ];decide
    obtain⟨g5,Pe⟩:=aq Pe
    cases Pe;refine aS ?_;exact⟨_,rfl,fm_ fO [_] dU aQ bq⟩
   have QT:(decide (PL.arg<(0:Int)))=true:=by rw[aii P9];decide
   cases Pe;have Px:bv (.inr ([],(6:Int)))=some _:=RE;unfold bv at Px;dsimp only at Px
   cases Px;exact ao
  obtain⟨R8,Pe⟩|⟨R8,Pe⟩:=ae Pe
  .cases Pe
   have Px:bv (.inr ([],(6:Int)))=some _:=RE;unfold bv at Px;dsimp only at Px
   cases Px;exact ao
  obtain⟨RJ,Pe⟩|⟨RJ,Pe⟩:=ae Pe
  .cases Pe
   have Px:bv (.inr ([],(6:Int)))=some _:=RE;unfold bv at Px;dsimp only at Px
   cases Px;exact ao
  obtain⟨RB,Pe⟩|⟨RB,Pe⟩:=ae Pe
  .obtain⟨Vb,ZX,i6,ZY,Pe⟩:=aw (f:=(λx=>[AC.int .i64 x])) Pe
   obtain⟨SB,Pe⟩|⟨SB,Pe⟩:=ae Pe
   .cases Pe
    have Px:bv (.inr ([],(7:Int)))=some _:=RE;unfold bv at Px;dsimp only at Px
    cases Px;exact ao
   have U8:(decide (PL.op=(3:Int)))=false:=by rw[aii RB];decide
   have VF:(decide (PL.op=(4:Int)))=false:=by rw[aii RB];decide
   obtain⟨g7,Pe⟩:=aq Pe
   cases Pe;refine aS ?_;exact⟨_,rfl,fm_ fO [_] dU aQ bq⟩
  obtain⟨VH,Pe⟩|⟨VH,Pe⟩:=ae Pe
  .obtain⟨Uj,i8z,i8,i8x,Pe⟩:=aw (f:=(λx=>[AC.int .i64 x])) Pe
   obtain⟨g9,Pe⟩:=aq Pe
   cases Pe;refine aS ?_;exact⟨_,rfl,fm_ fO [_] dU aQ bq⟩
  obtain⟨TS,Pe⟩|⟨TS,Pe⟩:=ae Pe
  .obtain⟨Vd,WP,Zl,V6,Pe⟩:=aw (f:=(λx=>[AC.int .i64 x])) Pe
   obtain⟨g11,Pe⟩:=aq Pe
   cases Pe;refine aS ?_;exact⟨_,rfl,fm_ fO [_] dU aQ bq⟩
  obtain⟨g12,Pe⟩:=aq Pe
  cases Pe;refine aS ?_;exact⟨_,rfl,fm_ fO [_] dU aQ bq⟩
 cases Pe;have Px:bv (.inl (Pv,Tv))=some _:=RE;unfold bv at Px;dsimp only at Px
 cases Px;exact ao
def e_ (O3:Pl):(Int)->Option (Step (Int) (Int)):=λs=>match s with
 |v_4=>bif v_4<(O3.rows.length:Int)then(al O3.rows v_4).bind λRf=>(yq Rf O3.kinds).bind λQi=>bif (!Qi)then some (.ret (8:Int))else
 some (.next (i64.wrap (v_4+(1:Int))))else
 some (.exit v_4)
def ji:Sum (Int) (Int)->Option ((Int))
 |.inl v_4=>some (0:Int)
 |.inr q=>some q
def ql (O3:Pl):Option (Int):=bif (4096:Int)<(O3.rows.length:Int)then some (5:Int)else
 (sc O3.kinds).bind λPW=>bif (!PW)then some (7:Int)else
 (af (e_ O3) fuel (0:Int)).bind (ji)
theorem Gt {O3:Pl}{r:Int}(H:ql O3=some r):PTz 157 [.agg (tP O3)] (.val (.one (.int .i64 r))):=by
 unfold ql at H;rw[aD O3];refine po_ func157 ntmps157 ?_;obtain⟨PT,H⟩|⟨PT,H⟩:=ae H
 .cases H
  exact ao
 obtain⟨PW,c1,H⟩:=bd_ H;replace c1:=zm c1;obtain⟨PG,H⟩|⟨PG,H⟩:=ae H
 .cases H
  exact ao
 refine aS ?_;refine alM_ (λs:Int=>match s with|v_4=>[(1,.one (.ptr 0 0)),(14,.one (.c (.lst (O3.rows.map (λx=>[AC.lst (x.map cV)]))))),(15,.one (.c (.int .i64 (O3.rows.length:Int)))),(16,.one (.c (.int .i64 v_4)))]) (λs=>match s with|v_4=>[.box [.c (.int .i64 O3.op),.c (.int .i64 O3.int),.c (.lst (O3.kinds.map (λx=>[AC.int .i64 x]))),.c (.lst (O3.rows.map (λx=>[AC.lst (x.map cV)]))),.c (.int .i64 O3.pred.op),.c (.int .i64 O3.pred.int),.c (.int .i64 O3.pred.v.kind),.c (.int .i64 O3.pred.v.int),.c (.str O3.pred.v.text),.c (.str O3.pred.nm),.c (.lst (O3.pred.args.map tE)),.c (.lst (O3.exprs.map tE)),.c (.lst (O3.keys.map (λx=>[AC.int .i64 x]))),.c (.lst (O3.aggs.map ol)),.c (.lst (O3.inputs.map tP))]]) H (λ_=>aia _)
  (fm_ bg [] rfl aQ bq) ?_
 rintro v_4 Qr OZ Po;unfold e_ at OZ;dsimp only at OZ ⊢;obtain⟨Qu,OZ⟩|⟨Qu,OZ⟩:=ae OZ
 .obtain⟨Rf,Tu,i2,SR,OZ⟩:=aw (f:=(λx=>[AC.lst (x.map cV)])) OZ
  obtain⟨Qi,c3,OZ⟩:=bd_ OZ;replace c3:=MQ c3;obtain⟨Qw,OZ⟩|⟨Qw,OZ⟩:=ae OZ
  .cases OZ
   have O0:ji (.inr (8:Int))=some _:=Po;unfold ji at O0;dsimp only at O0
   cases O0;exact ao
  cases OZ;refine aS ?_;exact⟨_,rfl,fm_ bg [] rfl aQ bq⟩
 cases OZ;have O0:ji (.inl v_4)=some _:=Po;unfold ji at O0;dsimp only at O0
 cases O0;exact ao
def oo (O7:(List Int))(O4:(List Int)):(Int)->Option (Step (Int) (Int)):=λs=>match s with
 |v_2=>bif v_2<(O7.length:Int)then(al O7 v_2).bind λPK=>(al O4 v_2).bind λQG=>bif PK≠QG then some (.ret (7:Int))else
 some (.next (i64.wrap (v_2+(1:Int))))else
 some (.exit v_2)
def kZ:Sum (Int) (Int)->Option ((Int))
 |.inl v_2=>some (0:Int)
 |.inr q=>some q
def oy (O7:(List Int))(O4:(List Int)):Option (Int):=bif (O7.length:Int)≠(O4.length:Int)then some (13:Int)else
 (af (oo O7 O4) fuel (0:Int)).bind (kZ)
theorem tz {O7:(List Int)}{O4:(List Int)}{r:Int}(H:oy O7 O4=some r):PTz 161 [.one (.lst (O7.map (λx=>[AC.int .i64 x]))),.one (.lst (O4.map (λx=>[AC.int .i64 x])))] (.val (.one (.int .i64 r))):=by
 unfold oy at H;refine po_ func161 ntmps161 ?_;obtain⟨PT,H⟩|⟨PT,H⟩:=ae H
 .cases H
  exact ao
 refine aS ?_;refine alM_ (λs:Int=>match s with|v_2=>[(0,.one (.c (.lst (O7.map (λx=>[AC.int .i64 x]))))),(1,.one (.c (.lst (O4.map (λx=>[AC.int .i64 x]))))),(12,.one (.c (.int .i64 (O7.length:Int)))),(13,.one (.c (.int .i64 v_2)))]) (λs=>match s with|v_2=>[]) H (λ_=>aia _)
  (fm_ bg [] rfl aQ trivial) ?_
 rintro v_2 Qr OZ Po;unfold oo at OZ;dsimp only at OZ ⊢;obtain⟨PG,OZ⟩|⟨PG,OZ⟩:=ae OZ
 .obtain⟨PK,QV,i1,QI,OZ⟩:=aw (f:=(λx=>[AC.int .i64 x])) OZ
  obtain⟨QG,Tu,i2,SR,OZ⟩:=aw (f:=(λx=>[AC.int .i64 x])) OZ;obtain⟨Qb,OZ⟩|⟨Qb,OZ⟩:=ae OZ
  .cases OZ
   have O0:kZ (.inr (7:Int))=some _:=Po;unfold kZ at O0;dsimp only at O0
   cases O0;exact ao
  cases OZ;refine aS ?_;exact⟨_,rfl,fm_ bg [] rfl aQ trivial⟩
 cases OZ;have O0:kZ (.inl v_2)=some _:=Po;unfold kZ at O0;dsimp only at O0
 cases O0;exact ao
end
noncomputable section
def Ax (O3:Pl)(Pi:(List (List Int)))(QU:(List (List Int))):Option ((List Int)×Int):=bif O3.op=(1:Int)then bif O3.int<(0:Int)then some ([],(6:Int))else
 bif (Pi.length:Int)<=O3.int then some ([],(6:Int))else
 (al Pi O3.int).bind λPK=>(sc PK).bind λPM=>bif (!PM)then some ([],(7:Int))else
 some (PK,(0:Int))else
 bif O3.op=(2:Int)then(ql O3).bind λQN=>some (O3.kinds,QN)else
 bif O3.op=(3:Int)then(al QU (0:Int)).bind λSG=>(sQ O3.pred SG).bind λPY=>some (SG,PY)else
 bif O3.op=(4:Int)then(al QU (0:Int)).bind λYL=>(tF O3.exprs YL).bind λRe=>some (Re.1,Re.2)else
 bif O3.op=(11:Int)then(al QU (0:Int)).bind λTA=>(nh O3.keys O3.aggs TA).bind λQD=>some (QD.1,QD.2)else
 bif O3.op=(5:Int)then(al QU (0:Int)).bind λTz=>bif Tz.length<=17592186044416 then((al QU (1:Int)).bind λXT=>bif Tz.length+XT.length<=17592186044416 then((sQ O3.pred (Tz++XT)).bind λSU=>some ((Tz++XT),SU))else none)else none else
 bif O3.op=(6:Int)then(al QU (0:Int)).bind λTU=>bif TU.length<=17592186044416 then((al QU (1:Int)).bind λRQ=>bif TU.length+RQ.length<=17592186044416 then((sQ O3.pred (TU++RQ)).bind λTV=>some ((TU++RQ),TV))else none)else none else
 bif O3.op=(7:Int)then(al QU (0:Int)).bind λUj=>(al QU (1:Int)).bind λWU=>(oy Uj WU).bind λS9=>some (Uj,S9)else
 bif O3.op=(8:Int)then(al QU (0:Int)).bind λXL=>(al QU (1:Int)).bind λV7=>(oy XL V7).bind λV8=>some (XL,V8)else
 bif O3.op=(9:Int)then(al QU (0:Int)).bind λY0=>(al QU (1:Int)).bind λx_36=>(oy Y0 x_36).bind λWV=>some (Y0,WV)else
 (al QU (0:Int)).bind λVe=>some (Ve,(0:Int))
theorem Na {O3:Pl}{Pi:(List (List Int))}{QU:(List (List Int))}{r:(List Int)×Int}(H:Ax O3 Pi QU=some r):PTz 119 [.agg (tP O3),.one (.lst (Pi.map (λx=>[AC.lst (x.map (λx=>[AC.int .i64 x]))]))),.one (.lst (QU.map (λx=>[AC.lst (x.map (λx=>[AC.int .i64 x]))])))] (.tup [.one (.lst (r.1.map (λx=>[AC.int .i64 x]))),.one (.int .i64 r.2)]):=by
 unfold Ax at H;rw[aD O3];refine po_ func119 ntmps119 ?_;obtain⟨PT,H⟩|⟨PT,H⟩:=ae H
 .obtain⟨PP,H⟩|⟨PP,H⟩:=ae H
  .cases H
   exact ao
  obtain⟨PG,H⟩|⟨PG,H⟩:=ae H
  .cases H
   exact ao
  obtain⟨PK,QV,i1,QI,H⟩:=aw (f:=(λx=>[AC.lst (x.map (λx=>[AC.int .i64 x]))])) H;obtain⟨PM,c2,H⟩:=bd_ H;replace c2:=zm c2;obtain⟨Qb,H⟩|⟨Qb,H⟩:=ae H
  .cases H
   exact ao
  cases H;exact ao
 obtain⟨QX,H⟩|⟨QX,H⟩:=ae H
 .obtain⟨QN,c3,H⟩:=bd_ H
  replace c3:=Gt c3
  try simp only[ah4,ah2,ah6,ahW,ay,aD]at c3
  cases H;exact ao
 obtain⟨Q5,H⟩|⟨Q5,H⟩:=ae H
 .obtain⟨SG,VC,i4,U7,H⟩:=aw (f:=(λx=>[AC.lst (x.map (λx=>[AC.int .i64 x]))])) H
  obtain⟨PY,c5,H⟩:=bd_ H;replace c5:=wa c5
  try simp only[ah4,ah2,ah6,ahW,ay,aD]at c5
  cases H;exact ao
 obtain⟨Qj,H⟩|⟨Qj,H⟩:=ae H
 .obtain⟨YL,ZX,i6,ZY,H⟩:=aw (f:=(λx=>[AC.lst (x.map (λx=>[AC.int .i64 x]))])) H
  obtain⟨Re,c7,H⟩:=bd_ H;replace c7:=CY c7
  cases H;exact ao
 obtain⟨QJ,H⟩|⟨QJ,H⟩:=ae H
 .obtain⟨TA,i8z,i8,i8x,H⟩:=aw (f:=(λx=>[AC.lst (x.map (λx=>[AC.int .i64 x]))])) H
  obtain⟨QD,c9,H⟩:=bd_ H;replace c9:=FA c9
  cases H;exact ao
 obtain⟨QT,H⟩|⟨QT,H⟩:=ae H
 .obtain⟨Tz,WP,Zl,V6,H⟩:=aw (f:=(λx=>[AC.lst (x.map (λx=>[AC.int .i64 x]))])) H
  obtain⟨g11,H⟩:=aq H;obtain⟨XT,i12z,i12,i12x,H⟩:=aw (f:=(λx=>[AC.lst (x.map (λx=>[AC.int .i64 x]))])) H;obtain⟨g13,H⟩:=aq H;obtain⟨SU,S7,H⟩:=bd_ H;replace S7:=wa S7
  try simp only[ah4,ah2,ah6,ahW,ay,aD]at S7
  cases H;exact ao
 obtain⟨SS,H⟩|⟨SS,H⟩:=ae H
 .obtain⟨TU,XU,i15,XV,H⟩:=aw (f:=(λx=>[AC.lst (x.map (λx=>[AC.int .i64 x]))])) H
  obtain⟨g16,H⟩:=aq H;obtain⟨RQ,i17z,i17,i17x,H⟩:=aw (f:=(λx=>[AC.lst (x.map (λx=>[AC.int .i64 x]))])) H;obtain⟨g18,H⟩:=aq H;obtain⟨TV,c19,H⟩:=bd_ H;replace c19:=wa c19
  try simp only[ah4,ah2,ah6,ahW,ay,aD]at c19
  cases H;exact ao
 obtain⟨VH,H⟩|⟨VH,H⟩:=ae H
 .obtain⟨Uj,i20z,i20,i20x,H⟩:=aw (f:=(λx=>[AC.lst (x.map (λx=>[AC.int .i64 x]))])) H
  obtain⟨WU,i21z,i21,i21x,H⟩:=aw (f:=(λx=>[AC.lst (x.map (λx=>[AC.int .i64 x]))])) H;obtain⟨S9,c22,H⟩:=bd_ H;replace c22:=tz c22
  cases H;exact ao
 obtain⟨Va,H⟩|⟨Va,H⟩:=ae H
 .obtain⟨XL,i23z,i23,i23x,H⟩:=aw (f:=(λx=>[AC.lst (x.map (λx=>[AC.int .i64 x]))])) H
  obtain⟨V7,i24z,i24,i24x,H⟩:=aw (f:=(λx=>[AC.lst (x.map (λx=>[AC.int .i64 x]))])) H;obtain⟨V8,c25,H⟩:=bd_ H;replace c25:=tz c25
  cases H;exact ao
 obtain⟨VG,H⟩|⟨VG,H⟩:=ae H
 .obtain⟨Y0,i26z,i26,i26x,H⟩:=aw (f:=(λx=>[AC.lst (x.map (λx=>[AC.int .i64 x]))])) H
  obtain⟨x_36,i27z,i27,i27x,H⟩:=aw (f:=(λx=>[AC.lst (x.map (λx=>[AC.int .i64 x]))])) H;obtain⟨WV,c28,H⟩:=bd_ H;replace c28:=tz c28
  cases H;exact ao
 obtain⟨Ve,i29z,i29,i29x,H⟩:=aw (f:=(λx=>[AC.lst (x.map (λx=>[AC.int .i64 x]))])) H
 cases H;exact ao
end
noncomputable section
def ng (inn:List (List Int)):List Ob:=[.box [.clo 117 [.ptr 0 0,.ptr 1 0]],.box [.c (.lst (inn.map (λx=>[AC.lst (x.map (λx=>[AC.int .i64 x]))])))]]
theorem Ll {P:Program}{ti:TI}{N:Nat}{ds:List (Option Tmp)}{K:Tm->List Ob->Prop}{rest:List Oper}{o:Oper}{T:Tm}{L:List Ob}(σ:List Nat){g:FuncId}{L0 L1:List Ob}{args as0:List AV}{r:AV}{d:Nat}(hd:o.dst=some d)(hN:Nat.blt d N=true)(hg:fN ds T o.guard=some true)(hp:dp ti (look T) o.op=some (g,as0))(hc:Run P g L0 args L1 r)(ha:as0=args.map (AV.ren σ))(hF:ig σ L0 args L)
  (hr:r.ren (dx σ L.length L1.length)=r) (hL:joinL σ L L1=L) (h:aK P ti N ds K rest ((d,r)::T) L):aK P ti N ds K (o::rest) T L:=cl σ hd hN hg hp hc ha hF hr hL h
theorem rz {n f:Nat}(h:2<=n):(Ob.box [.clo f [.ptr 0 0,.ptr 1 0]]).below n:=by
 intro x hx;simp only[ah8,List.not_mem_nil,or_false]at hx;subst hx;intro c hc;simp only[ah8,List.not_mem_nil,or_false]at hc;obtain rfl|rfl:=hc
 .show 0<n;omega
 .show 1<n;omega
theorem eu (inn:List (List Int)):∀ x∈ng inn,x.below (ng inn).length:=by
 intro x hx;simp only[ng,ah8,List.not_mem_nil,or_false]at hx;obtain rfl|rfl:=hx
 .exact rz (ah7 2)
 .exact fi rfl
theorem DD {n:Nat}:∀ (l:List AC),(AV.agg (l.map .c)).below n:=λl x hx=>by
 simp only[aip]at hx;obtain⟨y,_,rfl⟩:=hx;trivial
theorem NT {inn:List (List Int)}(l:List AC)(Lr:List Ob):ig [0,1] (ng inn) [.agg (l.map .c),.one (.ptr 0 0),.one (.ptr 1 0)] (ng inn++Lr):=by
 refine⟨rfl,by decide,?_,eu inn,?_⟩
 .intro i x hx
  match i,hx with
  |0,hx=>obtain rfl:=aim hx;rfl
  |1,hx=>obtain rfl:=aim hx;rfl
  |_+2,hx=>cases hx
 .intro x hx
  simp only[ah8,List.not_mem_nil,or_false]at hx;obtain rfl|rfl|rfl:=hx
  .exact DD l
  .show 0<2;omega
  .show 1<2;omega
def iH (O3:Pl)(rec:Pl->Option (List Int×Int)):((List (List Int))×Int)->Option (Step ((List (List Int))×Int) ((List Int)×Int)):=λs=>match s with
 |(RX,Uk)=>bif Uk<(O3.inputs.length:Int)then(al O3.inputs Uk).bind λQs=>(rec Qs).bind λQN=>bif QN.2≠(0:Int)then some (.ret ([],QN.2))else
 bif RX.length+1<=5864062014805 then(some (.next ((RX++[QN.1]),(i64.wrap (Uk+(1:Int))))))else none else
 some (.exit (RX,Uk))
def ku (O3:Pl)(inn:List (List Int)):Sum ((List (List Int))×Int) ((List Int)×Int)->Option (((List Int)×Int))
 |.inl (RX,Uk)=>(Ax O3 inn RX).bind λPR=>bif PR.2≠(0:Int)then some ([],PR.2)else
 bif (PR.1.length:Int)<(1:Int)then some ([],(13:Int))else
 bif (48:Int)<(PR.1.length:Int)then some ([],(13:Int))else
 some (PR.1,(0:Int))
 |.inr q=>some q
def A8 (rec:Pl->Option (List Int×Int))(inn:List (List Int))(O3:Pl):Option ((List Int)×Int):=(fe O3.op).bind λPh=>bif Ph<(0:Int)then some ([],(7:Int))else
 bif Ph≠(O3.inputs.length:Int)then some ([],(8:Int))else
 (af (iH O3 rec) fuel ([],(0:Int))).bind (ku O3 inn)
theorem Ou {rec:Pl->Option (List Int×Int)}{inn:List (List Int)}  (Pq:∀ {x:Pl} {r:List Int×Int},rec x=some r->RTz 117 (ng inn) [.agg ((tP x).map .c),.one (.ptr 0 0),.one (.ptr 1 0)] (ng inn) (.tup [.one (.lst (r.1.map (λx=>[AC.int .i64 x]))),.one (.int .i64 r.2)])){O3:Pl}{r:(List Int)×Int}(H:A8 rec inn O3=some r):RTz 117 (ng inn) [.agg ((tP O3).map .c),.one (.ptr 0 0),.one (.ptr 1 0)] (ng inn) (.tup [.one (.lst (r.1.map (λx=>[AC.int .i64 x]))),.one (.int .i64 r.2)]):=by
 unfold A8 at H;rw[aD O3];refine bB bu func117 rfl rfl ntmps117 m5 ?_;simp only[gp,ng,ah2,ah6];obtain⟨Ph,c1,H⟩:=bd_ H;replace c1:=HQ c1;obtain⟨PP,H⟩|⟨PP,H⟩:=ae H
 .cases H
  repeat' (first|refine st_nil ?_|refine p_ rfl rfl rfl rfl rfl ?_|refine st_nil ?_|refine x_ rfl rfl rfl rfl rfl rfl rfl rfl ?_|refine l_ rfl rfl rfl rfl ?_|refine s_ rfl rfl rfl ?_|refine t_ rfl rfl rfl rfl ?_|refine k_ rfl rfl rfl ?_|refine k0_ rfl rfl ?_|refine c_ rfl rfl rfl rfl ?_|refine pick_t rfl rfl rfl rfl rfl rfl rfl ?_|refine pick_f rfl rfl rfl rfl rfl rfl rfl ?_|refine aw_seq ?_|refine aw_region bu _ rfl ?_|refine aw_drawn2 bZ _ rfl mixed (by decide +kernel) ?_|refine aw_condT rfl ?_|refine aw_condF rfl ?_|refine aw_block ?_|refine aw_exit ?_|refine aw_ret ?_|refine aw_skip ?_|rw[ah3]|rw[mn_norm]|rw[mx_norm])
  exact⟨.inr rfl,⟨.inr ⟨_,aE rfl (by repeat' (first|exact t7|apply And.intro)) rfl,rfl⟩,⟨_,rfl⟩,ah7 _,eu inn,t7⟩⟩
 obtain⟨PG,H⟩|⟨PG,H⟩:=ae H
 .cases H
  repeat' (first|refine st_nil ?_|refine p_ rfl rfl rfl rfl rfl ?_|refine st_nil ?_|refine x_ rfl rfl rfl rfl rfl rfl rfl rfl ?_|refine l_ rfl rfl rfl rfl ?_|refine s_ rfl rfl rfl ?_|refine t_ rfl rfl rfl rfl ?_|refine k_ rfl rfl rfl ?_|refine k0_ rfl rfl ?_|refine c_ rfl rfl rfl rfl ?_|refine pick_t rfl rfl rfl rfl rfl rfl rfl ?_|refine pick_f rfl rfl rfl rfl rfl rfl rfl ?_|refine aw_seq ?_|refine aw_region bu _ rfl ?_|refine aw_drawn2 bZ _ rfl mixed (by decide +kernel) ?_|refine aw_condT rfl ?_|refine aw_condF rfl ?_|refine aw_block ?_|refine aw_exit ?_|refine aw_ret ?_|refine aw_skip ?_|rw[ah3]|rw[mn_norm]|rw[mx_norm])
  exact⟨.inr rfl,⟨.inr ⟨_,aE rfl (by repeat' (first|exact t7|apply And.intro)) rfl,rfl⟩,⟨_,rfl⟩,ah7 _,eu inn,t7⟩⟩
 repeat' (first|refine st_nil ?_|refine p_ rfl rfl rfl rfl rfl ?_|refine st_nil ?_|refine x_ rfl rfl rfl rfl rfl rfl rfl rfl ?_|refine l_ rfl rfl rfl rfl ?_|refine s_ rfl rfl rfl ?_|refine t_ rfl rfl rfl rfl ?_|refine k_ rfl rfl rfl ?_|refine k0_ rfl rfl ?_|refine c_ rfl rfl rfl rfl ?_|refine pick_t rfl rfl rfl rfl rfl rfl rfl ?_|refine pick_f rfl rfl rfl rfl rfl rfl rfl ?_|refine aw_seq ?_|refine aw_region bu _ rfl ?_|refine aw_drawn2 bZ _ rfl mixed (by decide +kernel) ?_|refine aw_condT rfl ?_|refine aw_condF rfl ?_|refine aw_block ?_|refine aw_exit ?_|refine aw_ret ?_|refine aw_skip ?_|rw[ah3]|rw[mn_norm]|rw[mx_norm])
 refine br 7 1 rfl ?_;refine alM_ (λs:(List (List Int))×Int=>match s with|(RX,Uk)=>[(1,.one (.ptr 0 0)),(2,.one (.ptr 1 0)),(3,.one (.ptr 2 0)),(7,.one (.own (RX.map (λx=>[AC.lst (x.map (λx=>[AC.int .i64 x]))])) 3)),(25,.one (.c (.lst (O3.inputs.map tP)))),(26,.one (.c (.int .i64 (O3.inputs.length:Int)))),(27,.one (.c (.int .i64 Uk)))]) (λs=>match s with|(RX,Uk)=>[.box [.clo 117 [.ptr 0 0,.ptr 1 0]],.box [.c (.lst (inn.map (λx=>[AC.lst (x.map (λx=>[AC.int .i64 x]))])))],.box [.c (.int .i64 O3.op),.c (.int .i64 O3.int),.c (.lst (O3.kinds.map (λx=>[AC.int .i64 x]))),.c (.lst (O3.rows.map (λx=>[AC.lst (x.map cV)]))),.c (.int .i64 O3.pred.op),.c (.int .i64 O3.pred.int),.c (.int .i64 O3.pred.v.kind),.c (.int .i64 O3.pred.v.int),.c (.str O3.pred.v.text),.c (.str O3.pred.nm),.c (.lst (O3.pred.args.map tE)),.c (.lst (O3.exprs.map tE)),.c (.lst (O3.keys.map (λx=>[AC.int .i64 x]))),.c (.lst (O3.aggs.map ol)),.c (.lst (O3.inputs.map tP))],.spare RX.length 1]) H (λs=>by obtain⟨_,_⟩:=s;exact ah1 rfl)
  (fm_ bg [] rfl aQ ⟨rz (ah1 rfl),fi r5,fi r5,t7,t7⟩) ?_
 rintro⟨RX,Uk⟩ Qr OZ Po;unfold iH at OZ;dsimp only at OZ ⊢;obtain⟨Qb,OZ⟩|⟨Qb,OZ⟩:=ae OZ
 .obtain⟨Qs,Tu,i2,SR,OZ⟩:=aw (f:=tP) OZ
  simp only[ah4,ah2,ah6,ahW,aD]at SR;obtain⟨QN,c3,OZ⟩:=bd_ OZ;replace c3:=Pq c3
  try simp only[ah4,ah2,ah6,ahW,ay,aD]at c3
  have c3f := @NT inn (tP Qs);simp only[ah4,ah2,ah6,ahW,ay,aD]at c3f;obtain⟨Q5,OZ⟩|⟨Q5,OZ⟩:=ae OZ
  .cases OZ
   have O0:ku O3 inn (.inr ([],QN.2))=some _:=Po;unfold ku at O0;dsimp only at O0
   cases O0
   repeat' (first|refine st_nil ?_|refine Ll [0,1] rfl rfl rfl rfl c3 rfl (c3f _) rfl rfl ?_|refine p_ rfl rfl rfl rfl rfl ?_|refine st_nil ?_|refine x_ rfl rfl rfl rfl rfl rfl rfl rfl ?_|refine l_ rfl rfl rfl rfl ?_|refine s_ rfl rfl rfl ?_|refine t_ rfl rfl rfl rfl ?_|refine k_ rfl rfl rfl ?_|refine k0_ rfl rfl ?_|refine c_ rfl rfl rfl rfl ?_|refine pick_t rfl rfl rfl rfl rfl rfl rfl ?_|refine pick_f rfl rfl rfl rfl rfl rfl rfl ?_|refine aw_seq ?_|refine aw_region bu _ rfl ?_|refine aw_drawn2 bZ _ rfl mixed (by decide +kernel) ?_|refine aw_condT rfl ?_|refine aw_condF rfl ?_|refine aw_block ?_|refine aw_exit ?_|refine aw_ret ?_|refine aw_skip ?_|rw[ah3]|rw[mn_norm]|rw[mx_norm])
   exact⟨.inr rfl,⟨.inr ⟨_,aE rfl (by repeat' (first|exact t7|apply And.intro)) rfl,rfl⟩,⟨_,rfl⟩,ah7 _,eu inn,t7⟩⟩
  obtain⟨g4,OZ⟩:=aq OZ
  cases OZ
  repeat' (first|refine st_nil ?_|refine Ll [0,1] rfl rfl rfl rfl c3 rfl (c3f _) rfl rfl ?_|refine p_ rfl rfl rfl rfl rfl ?_|refine st_nil ?_|refine x_ rfl rfl rfl rfl rfl rfl rfl rfl ?_|refine l_ rfl rfl rfl rfl ?_|refine s_ rfl rfl rfl ?_|refine t_ rfl rfl rfl rfl ?_|refine k_ rfl rfl rfl ?_|refine k0_ rfl rfl ?_|refine c_ rfl rfl rfl rfl ?_|refine pick_t rfl rfl rfl rfl rfl rfl rfl ?_|refine pick_f rfl rfl rfl rfl rfl rfl rfl ?_|refine aw_seq ?_|refine aw_region bu _ rfl ?_|refine aw_drawn2 bZ _ rfl mixed (by decide +kernel) ?_|refine aw_condT rfl ?_|refine aw_condF rfl ?_|refine aw_block ?_|refine aw_exit ?_|refine aw_ret ?_|refine aw_skip ?_|rw[ah3]|rw[mn_norm]|rw[mx_norm])
  exact⟨_,rfl,fm_ fO [_] dU aQ ⟨rz (ah1 rfl),fi r5,fi r5,t7,t7⟩⟩
 cases OZ;have O0:ku O3 inn (.inl (RX,Uk))=some _:=Po;unfold ku at O0;dsimp only at O0;obtain⟨PR,c5,O0⟩:=bd_ O0;replace c5:=Na c5
 try simp only[ah4,ah2,ah6,ahW,ay,aD]at c5
 obtain⟨Qo,O0⟩|⟨Qo,O0⟩:=ae O0
 .cases O0
  repeat' (first|refine st_nil ?_|refine p_ rfl rfl rfl rfl rfl ?_|refine st_nil ?_|refine x_ rfl rfl rfl rfl rfl rfl rfl rfl ?_|refine l_ rfl rfl rfl rfl ?_|refine s_ rfl rfl rfl ?_|refine t_ rfl rfl rfl rfl ?_|refine k_ rfl rfl rfl ?_|refine k0_ rfl rfl ?_|refine c_ rfl rfl rfl rfl ?_|refine pick_t rfl rfl rfl rfl rfl rfl rfl ?_|refine pick_f rfl rfl rfl rfl rfl rfl rfl ?_|refine aw_seq ?_|refine aw_region bu _ rfl ?_|refine aw_drawn2 bZ _ rfl mixed (by decide +kernel) ?_|refine aw_condT rfl ?_|refine aw_condF rfl ?_|refine aw_block ?_|refine aw_exit ?_|refine aw_ret ?_|refine aw_skip ?_|rw[ah3]|rw[mn_norm]|rw[mx_norm])
  exact⟨.inr rfl,⟨.inr ⟨_,aE rfl (by repeat' (first|exact t7|apply And.intro)) rfl,rfl⟩,⟨_,rfl⟩,ah7 _,eu inn,t7⟩⟩
 obtain⟨Qj,O0⟩|⟨Qj,O0⟩:=ae O0
 .cases O0
  repeat' (first|refine st_nil ?_|refine p_ rfl rfl rfl rfl rfl ?_|refine st_nil ?_|refine x_ rfl rfl rfl rfl rfl rfl rfl rfl ?_|refine l_ rfl rfl rfl rfl ?_|refine s_ rfl rfl rfl ?_|refine t_ rfl rfl rfl rfl ?_|refine k_ rfl rfl rfl ?_|refine k0_ rfl rfl ?_|refine c_ rfl rfl rfl rfl ?_|refine pick_t rfl rfl rfl rfl rfl rfl rfl ?_|refine pick_f rfl rfl rfl rfl rfl rfl rfl ?_|refine aw_seq ?_|refine aw_region bu _ rfl ?_|refine aw_drawn2 bZ _ rfl mixed (by decide +kernel) ?_|refine aw_condT rfl ?_|refine aw_condF rfl ?_|refine aw_block ?_|refine aw_exit ?_|refine aw_ret ?_|refine aw_skip ?_|rw[ah3]|rw[mn_norm]|rw[mx_norm])
  exact⟨.inr rfl,⟨.inr ⟨_,aE rfl (by repeat' (first|exact t7|apply And.intro)) rfl,rfl⟩,⟨_,rfl⟩,ah7 _,eu inn,t7⟩⟩
 obtain⟨P2,O0⟩|⟨P2,O0⟩:=ae O0
 .cases O0
  repeat' (first|refine st_nil ?_|refine p_ rfl rfl rfl rfl rfl ?_|refine st_nil ?_|refine x_ rfl rfl rfl rfl rfl rfl rfl rfl ?_|refine l_ rfl rfl rfl rfl ?_|refine s_ rfl rfl rfl ?_|refine t_ rfl rfl rfl rfl ?_|refine k_ rfl rfl rfl ?_|refine k0_ rfl rfl ?_|refine c_ rfl rfl rfl rfl ?_|refine pick_t rfl rfl rfl rfl rfl rfl rfl ?_|refine pick_f rfl rfl rfl rfl rfl rfl rfl ?_|refine aw_seq ?_|refine aw_region bu _ rfl ?_|refine aw_drawn2 bZ _ rfl mixed (by decide +kernel) ?_|refine aw_condT rfl ?_|refine aw_condF rfl ?_|refine aw_block ?_|refine aw_exit ?_|refine aw_ret ?_|refine aw_skip ?_|rw[ah3]|rw[mn_norm]|rw[mx_norm])
  exact⟨.inr rfl,⟨.inr ⟨_,aE rfl (by repeat' (first|exact t7|apply And.intro)) rfl,rfl⟩,⟨_,rfl⟩,ah7 _,eu inn,t7⟩⟩
 cases O0
 repeat' (first|refine st_nil ?_|refine p_ rfl rfl rfl rfl rfl ?_|refine st_nil ?_|refine x_ rfl rfl rfl rfl rfl rfl rfl rfl ?_|refine l_ rfl rfl rfl rfl ?_|refine s_ rfl rfl rfl ?_|refine t_ rfl rfl rfl rfl ?_|refine k_ rfl rfl rfl ?_|refine k0_ rfl rfl ?_|refine c_ rfl rfl rfl rfl ?_|refine pick_t rfl rfl rfl rfl rfl rfl rfl ?_|refine pick_f rfl rfl rfl rfl rfl rfl rfl ?_|refine aw_seq ?_|refine aw_region bu _ rfl ?_|refine aw_drawn2 bZ _ rfl mixed (by decide +kernel) ?_|refine aw_condT rfl ?_|refine aw_condF rfl ?_|refine aw_block ?_|refine aw_exit ?_|refine aw_ret ?_|refine aw_skip ?_|rw[ah3]|rw[mn_norm]|rw[mx_norm])
 exact⟨.inr rfl,⟨.inr ⟨_,aE rfl (by repeat' (first|exact t7|apply And.intro)) rfl,rfl⟩,⟨_,rfl⟩,ah7 _,eu inn,t7⟩⟩
end
noncomputable section
def dW (O3:Pl)(Pj:Int)(rec:Pl->Int->Option Int):(Int×Int)->Option (Step (Int×Int) (Int)):=λs=>match s with
 |(UL,Sr)=>bif Sr<(O3.inputs.length:Int)then(al O3.inputs Sr).bind λQG=>(rec QG (i64.wrap (Pj-(1:Int)))).bind λQW=>some (.next ((wZ UL QW),(i64.wrap (Sr+(1:Int)))))else
 some (.exit (UL,Sr))
def qL:Sum (Int×Int) (Int)->Option ((Int))
 |.inl (UL,Sr)=>some (i64.wrap (UL+(1:Int)))
 |.inr q=>some q
def pJ (rec:Pl->Int->Option Int)(O3:Pl)(Pj:Int):Option (Int):=bif Pj<=(0:Int)then some (1:Int)else
 (af (dW O3 Pj rec) fuel ((0:Int),(0:Int))).bind (qL)
theorem H_ {rec:Pl->Int->Option Int}  (Pq:∀ {x:Pl} {y:Int} {r:Int},rec x y=some r->PTz 116 [.agg (tP x),.one (.int .i64 y)] (.val (.one (.int .i64 r)))){O3:Pl}{Pj:Int}{r:Int}(H:pJ rec O3 Pj=some r):PTz 116 [.agg (tP O3),.one (.int .i64 Pj)] (.val (.one (.int .i64 r))):=by
 unfold pJ at H;rw[aD O3];refine po_ func116 ntmps116 ?_;obtain⟨PT,H⟩|⟨PT,H⟩:=ae H
 .cases H
  exact ao
 refine aS ?_;refine alM_ (λs:Int×Int=>match s with|(UL,Sr)=>[(1,.one (.c (.int .i64 Pj))),(5,.one (.c (.int .i64 UL))),(11,.one (.c (.lst (O3.inputs.map tP)))),(12,.one (.c (.int .i64 (O3.inputs.length:Int)))),(13,.one (.c (.int .i64 Sr)))]) (λs=>match s with|(UL,Sr)=>[.box [.c (.int .i64 O3.op),.c (.int .i64 O3.int),.c (.lst (O3.kinds.map (λx=>[AC.int .i64 x]))),.c (.lst (O3.rows.map (λx=>[AC.lst (x.map cV)]))),.c (.int .i64 O3.pred.op),.c (.int .i64 O3.pred.int),.c (.int .i64 O3.pred.v.kind),.c (.int .i64 O3.pred.v.int),.c (.str O3.pred.v.text),.c (.str O3.pred.nm),.c (.lst (O3.pred.args.map tE)),.c (.lst (O3.exprs.map tE)),.c (.lst (O3.keys.map (λx=>[AC.int .i64 x]))),.c (.lst (O3.aggs.map ol)),.c (.lst (O3.inputs.map tP))]]) H (λ_=>aia _)
  (fm_ bg [] rfl aQ bq) ?_
 rintro⟨UL,Sr⟩ Qr OZ Po;unfold dW at OZ;dsimp only at OZ ⊢;obtain⟨P1,OZ⟩|⟨P1,OZ⟩:=ae OZ
 .obtain⟨QG,QV,i1,QI,OZ⟩:=aw (f:=tP) OZ
  simp only[ah4,ah2,ah6,ahW,aD]at QI;obtain⟨QW,c2,OZ⟩:=bd_ OZ;replace c2:=Pq c2
  try simp only[ah4,ah2,ah6,ahW,ay,aD]at c2
  cases OZ;refine aS ?_;exact⟨_,rfl,fm_ bg [_] rfl aQ bq⟩
 cases OZ;have O0:qL (.inl (UL,Sr))=some _:=Po;unfold qL at O0;dsimp only at O0
 cases O0;exact ao
def n3:Nat->Pl->Int->Option Int
 |0,_,_=>none
 |n+1,x,y=>pJ (n3 n) x y
theorem zB:∀ (n:Nat) {x:Pl} {y:Int} {r:Int},n3 n x y=some r->PTz 116 [.agg (tP x),.one (.int .i64 y)] (.val (.one (.int .i64 r)))
 |0,_,_,_,h=>nomatch h
 |n+1,_,_,_,h=>H_ (zB n) h
end
noncomputable section
def gb (inn:List (List Int)):Nat->Pl->Option (List Int×Int)
 |0,_=>none
 |n+1,p=>A8 (gb inn n) inn p
theorem DK {inn:List (List Int)}:∀ (n:Nat) {x:Pl} {r:List Int×Int},gb inn n x=some r->RTz 117 (ng inn) [.agg ((tP x).map .c),.one (.ptr 0 0),.one (.ptr 1 0)] (ng inn) (.tup [.one (.lst (r.1.map (λx=>[AC.int .i64 x]))),.one (.int .i64 r.2)])
 |0,_,_,h=>nomatch h
 |n+1,_,_,h=>Ou (DK n) h
def pw (p:Pl)(inn:List (List Int)):Option (List Int×Int):=(n3 fuel p 24).bind λdd =>
 bif decide (24<dd)then some ([],26)else(gb inn fuel p).bind λr=>bif decide (r.2≠0)then some ([],r.2)else bif decide (r.1.length<=17592186044416)then some (r.1,0)else none
theorem JF {inn:List (List Int)}(l:List AC)(A:Ob):ig [2,1] (ng inn) [.agg (l.map .c),.one (.ptr 0 0),.one (.ptr 1 0)] [A,.box [.c (.lst (inn.map (λx=>[AC.lst (x.map (λx=>[AC.int .i64 x]))])))],.box [.clo 117 [.ptr 2 0,.ptr 1 0]]]:=by
 refine⟨rfl,by decide,?_,eu inn,?_⟩
 .intro i x hx
  match i,hx with
  |0,hx=>obtain rfl:=aim hx;rfl
  |1,hx=>obtain rfl:=aim hx;rfl
  |_+2,hx=>cases hx
 .intro x hx
  simp only[ah8,List.not_mem_nil,or_false]at hx;obtain rfl|rfl|rfl:=hx
  .exact DD l
  .show 0<2;omega
  .show 1<2;omega
theorem G3 {p:Pl}{inn:List (List Int)}{r:List Int×Int}(H:pw p inn=some r):PTz 90 [.agg (tP p),.one (.lst (inn.map (λx=>[AC.lst (x.map (λx=>[AC.int .i64 x]))])))] (.tup [.one (.lst (r.1.map (λx=>[AC.int .i64 x]))),.one (.int .i64 r.2)]):=by
 unfold pw at H;obtain⟨dd,Uo,H⟩:=bd_ H;replace Uo:=zB fuel Uo;rw[aD]at Uo ⊢;refine pa_ bu func90 rfl rfl ntmps90 m5 ?_;simp only[argT,PV.av,ah2,ah6];rcases Bool.eq_false_or_eq_true (decide (24<dd))with q|q
 .rw[q,ahT]at H
  obtain rfl:=aim H
  repeat' (first|refine p_ rfl rfl rfl rfl rfl ?_|refine st_nil ?_|refine x_ rfl rfl rfl rfl rfl rfl rfl rfl ?_|refine l_ rfl rfl rfl rfl ?_|refine s_ rfl rfl rfl ?_|refine t_ rfl rfl rfl rfl ?_|refine k_ rfl rfl rfl ?_|refine k0_ rfl rfl ?_|refine c_ rfl rfl rfl rfl ?_|refine pick_t rfl rfl rfl rfl rfl rfl rfl ?_|refine pick_f rfl rfl rfl rfl rfl rfl rfl ?_|refine aw_seq ?_|refine aw_region bu _ rfl ?_|refine aw_drawn2 bZ _ rfl mixed (by decide +kernel) ?_|refine aw_condT rfl ?_|refine aw_condF rfl ?_|refine aw_block ?_|refine aw_exit ?_|refine aw_ret ?_|refine aw_skip ?_|rw[ah3]|rw[mn_norm]|rw[mx_norm])
  exact az (aE rfl (by repeat' (first|exact t7|apply And.intro)) rfl)
 .rw[q,ahS]at H
  obtain⟨v,c1,H⟩:=bd_ H;replace c1:=DK fuel c1;have QZ := @JF inn (tP p);rw[aD]at c1 QZ;simp only[ah2,ah6]at c1 QZ;rcases Bool.eq_false_or_eq_true (decide (v.2≠0))with q2|q2
  .rw[q2,ahT]at H
   obtain rfl:=aim H
   repeat' (first|refine bQ rfl rfl rfl rfl rfl (oz rfl) ?_|refine Ll [2,1] rfl rfl rfl rfl c1 rfl (QZ _) rfl rfl ?_|refine p_ rfl rfl rfl rfl rfl ?_|refine st_nil ?_|refine x_ rfl rfl rfl rfl rfl rfl rfl rfl ?_|refine l_ rfl rfl rfl rfl ?_|refine s_ rfl rfl rfl ?_|refine t_ rfl rfl rfl rfl ?_|refine k_ rfl rfl rfl ?_|refine k0_ rfl rfl ?_|refine c_ rfl rfl rfl rfl ?_|refine pick_t rfl rfl rfl rfl rfl rfl rfl ?_|refine pick_f rfl rfl rfl rfl rfl rfl rfl ?_|refine aw_seq ?_|refine aw_region bu _ rfl ?_|refine aw_drawn2 bZ _ rfl mixed (by decide +kernel) ?_|refine aw_condT rfl ?_|refine aw_condF rfl ?_|refine aw_block ?_|refine aw_exit ?_|refine aw_ret ?_|refine aw_skip ?_|rw[ah3]|rw[mn_norm]|rw[mx_norm])
   exact az (aE rfl (by repeat' (first|exact t7|apply And.intro)) rfl)
  .rw[q2,ahS]at H
   obtain⟨g1,H⟩:=ie H;replace g1:=aii g1;obtain rfl:=aim H
   repeat' (first|refine bQ rfl rfl rfl rfl rfl (oz rfl) ?_|refine Ll [2,1] rfl rfl rfl rfl c1 rfl (QZ _) rfl rfl ?_|refine p_ rfl rfl rfl rfl rfl ?_|refine st_nil ?_|refine x_ rfl rfl rfl rfl rfl rfl rfl rfl ?_|refine l_ rfl rfl rfl rfl ?_|refine s_ rfl rfl rfl ?_|refine t_ rfl rfl rfl rfl ?_|refine k_ rfl rfl rfl ?_|refine k0_ rfl rfl ?_|refine c_ rfl rfl rfl rfl ?_|refine pick_t rfl rfl rfl rfl rfl rfl rfl ?_|refine pick_f rfl rfl rfl rfl rfl rfl rfl ?_|refine aw_seq ?_|refine aw_region bu _ rfl ?_|refine aw_drawn2 bZ _ rfl mixed (by decide +kernel) ?_|refine aw_condT rfl ?_|refine aw_condF rfl ?_|refine aw_block ?_|refine aw_exit ?_|refine aw_ret ?_|refine aw_skip ?_|rw[ah3]|rw[mn_norm]|rw[mx_norm])
   exact az (aE rfl (by repeat' (first|exact t7|apply And.intro)) rfl)
end
theorem yT (k:List Int)(l:List (List Val))(hk:k.length<=1000000)(hl:l.length<=700)(hr:∀ r∈l,r≠[]/\r.length<=1000000):PTz 120 [.one (be k),.one (bA l)] (.val (.agg [be k,bA (aH l)])):=by
 have h:gW k l=some ⟨k,aH l⟩:=by
  unfold gW nC;rw[ahV (show k.length<=17592186044416 by omega),ahT,rZ hl hr];rfl
 exact fP h
theorem yY (ky:List Val->ByteArray)(rows:List (List Val)):∀ g∈(gN ky rows).G,g.length<=rows.length:=by
 have:∀ (rows:List (List Val)) (s:Gs) (b:Nat),(∀ g∈s.G,g.length<=b) ->∀ g∈(rows.foldl (gV ky) s).G,g.length<=b+rows.length:=by
  intro rows
  induction rows with
  |nil=>intro s b h g hg;simpa using h g hg
  |cons r rows ih =>
   intro s b h g hg;rw[aiC]at hg;have:=ih (gV ky s r) (b+1) (λg hg=>by
    unfold gV at hg
    cases hb:fS s.M (ky r)with
    |true =>
     rw[hb,ahT]at hg;obtain hg|rfl:=List.mem_or_eq_of_mem_set hg
     .have:=h g hg;omega
     .rw[ahZ,List.length_singleton,aiE]
      cases hq:s.G[(b9 s.M (ky r)).toNat]? with
      |none=>simp
      |some x=>have:=h x (ahX hq);simp;omega
    |false =>
     rw[hb,ahS]at hg;obtain hg|hg:=aih.1 hg
     .have:=h g hg;omega
     .simp at hg;subst hg;simp) g hg
   simp only[aib];omega
 have h:=this rows ⟨[],[]⟩ 0 (λg hg=>by cases hg);intro g hg;have:=h g hg;omega
theorem OI (ky:List Val->ByteArray)(rows:List (List Val)):∀ g∈(gN ky rows).G,∀ r∈g,r∈rows:=by
 have:∀ (rows:List (List Val)) (s:Gs),∀ g∈(rows.foldl (gV ky) s).G,∀ x∈g,(∃ g'∈s.G,x∈g')\/x∈rows:=by
  intro rows
  induction rows with
  |nil=>intro s g hg x hx;exact .inl ⟨g,hg,hx⟩
  |cons r rows ih =>
   intro s g hg x hx;rw[aiC]at hg;obtain⟨g',RO,RF⟩|h:=ih (gV ky s r) g hg x hx
   .unfold gV at RO
    cases hb:fS s.M (ky r)with
    |true =>
     rw[hb,ahT]at RO;obtain RO|rfl:=List.mem_or_eq_of_mem_set RO
     .exact .inl ⟨g',RO,RF⟩
     .obtain RF|RF:=aih.1 RF
      .rw[aiE]at RF
       cases hq:s.G[(b9 s.M (ky r)).toNat]? with
       |none=>rw[hq]at RF;simp at RF
       |some y=>rw[hq]at RF;exact .inl ⟨y,ahX hq,RF⟩
      .simp at RF;exact .inr (by rw[RF];simp)
    |false =>
     rw[hb,ahS]at RO;obtain RO|RO:=aih.1 RO
     .exact .inl ⟨g',RO,RF⟩
     .simp at RO;subst RO;simp at RF;exact .inr (by rw[RF];simp)
   .exact .inr (aid _ h)
 intro g hg x hx;obtain⟨g',RO,_⟩|h:=this rows ⟨[],[]⟩ g hg x hx
 .cases RO
 .exact h
def DC (G:iY):AV:=match G with
 |[] => .one .emp
 |_::_ => .one (.sl 4 (37+65536*G.length) 0 G.length)
def KD (kk:List Int)(rows:List (List Val))(S:Gs):List Ob:=match S.G with
 |[]=>hd3 kk rows S.M
 |_::_=>v7 kk rows S.M S.G
theorem tp {kk:List Int}{rows:List (List Val)}{S:Gs}(h:S.G≠[]):KD kk rows S=v7 kk rows S.M S.G:=by
 unfold KD;split
 .rename_i e;exact absurd e h
 .rfl
theorem qm {G:iY}(h:G≠[]):DC G = .one (.sl 4 (37+65536*G.length) 0 G.length):=by
 cases G with
 |nil=>exact absurd rfl h
 |cons g r=>rfl
theorem HG {kk:List Int}{rows:List (List Val)}{S:Gs}:(DC S.G).below (KD kk rows S).length:=by
 by_cases h:S.G=[]
 .rw[h];trivial
 .rw[qm h,tp h,ye h]
  show 4<4+2*S.G.length
  cases hG:S.G with
  |nil=>exact absurd hG h
  |cons g r=>simp
theorem rP {kk:List Int}{rows:List (List Val)}{S:Gs}:zT (KD kk rows S).length (KD kk rows S):=by
 by_cases h:S.G=[]
 .unfold KD;rw[h];exact⟨aR,bz _,bC _ _,t7⟩
 .rw[tp h,ye h];exact Ef (Nc (ah7 _))
theorem ae5 {kk:List Int}{rows:List (List Val)}{S:Gs}:3<=(KD kk rows S).length:=by
 by_cases h:S.G=[]
 .unfold KD;rw[h];exact ah7 _
 .rw[tp h,ye h];omega
theorem IX:∀ (G:iY) (k:Nat),jk (sr k G)=some (G.map λg=>[AC.lst (eF g)])
 |[],_=>rfl
 |g::r,k=>by
  have:=IX r (k+1);simp only[sr,jk,jh,SV.norm,this,ah2]
def Hf (G:iY):AC := .lst (G.map λg=>[AC.lst (eF g)])
theorem xg (kinds:List Int):∀ (keys acc:List Int),(cm kinds keys acc).1.length<=acc.length+keys.length
 |[],acc=>by simp[cm]
 |k::ks,acc=>by
  unfold cm
  cases o_ kinds k with
  |true=>rw[ahT];have:=xg kinds ks (acc++[kinds.getD k.toNat 0]);simp at this ⊢;omega
  |false=>rw[ahS];simp
theorem xz (kinds:List Int):∀ (l:List Do) (acc:List Int),(cW kinds l acc).1.length<=acc.length+l.length
 |[],acc=>by simp[cW]
 |a::l,acc=>by
  unfold cW
  cases decide (cB kinds a=0)with
  |true=>rw[ahT];have:=xz kinds l (acc++[cS kinds a]);simp at this ⊢;omega
  |false=>rw[ahS];simp
theorem Bc (kinds keys:List Int)(aggs:List Do):(fL kinds keys aggs).1.length<=keys.length+aggs.length:=by
 unfold fL;have h1:=xg kinds keys [];have h2:=xz kinds aggs (cm kinds keys []).1
 cases decide ((cm kinds keys []).2=0)with
 |true=>rw[ahT];simp at h1;omega
 |false=>rw[ahS];simp
def jH (keys:List Int)(aggs:List Do)(g:List (List Val)):List Val:=a_ (g.headD []) keys++aggs.map λa=>cT a.1 a.2 g
theorem rG {kk keys:List Int}{aggs:List Do}{rows:List (List Val)}(S:Gs)(a b:Int):Fj (KD kk rows S).length [(0,.agg [.c (be kk),.c (bA rows)]),(1,.one (.c (be keys))),(2,.one (.c (eU aggs))),(3,.one (.ptr 0 0)),(6,.one (.ptr 1 0)),(7,.one (.mp 2)),(8,DC S.G),(31,.one (.c (bA rows))),(32,.one (.c (.int .i64 a))),(33,.one (.c (.int .i64 b)))]:=by
 have hle:=ae5 (kk:=kk) (rows:=rows) (S:=S);refine⟨λx hx=>?_,t7,t7,by show 0<_;omega,by show 1<_;omega,by show 2<_;omega,HG,t7,t7,t7,t7⟩;obtain rfl|hx:=ah8.1 hx
 .trivial
 obtain rfl|hx:=ah8.1 hx
 .trivial
 cases hx
theorem Jh (it:Int->ByteArray)(kk keys:List Int)(aggs:List Do)(rows:List (List Val))(h1:kk.length<=100000)(h2:keys.length<=100000)(h3:aggs.length<=100000)(hl:rows.length<=700)(h0:keys≠[])(hr:∀ r∈rows,r.length<=1000000)(hk:∀ r∈rows,PTz 164 [.one (bD (a_ r keys))] (.val (.one (.str (cg it (a_ r keys)))))):PTz 124 [.agg [be kk,bA rows],.one (be keys),.one (eU aggs)] (.val (.agg [be (fL kk keys aggs).1,bA <|aH ((gN (λr=>cg it (a_ r keys)) rows).G.map (jH keys aggs))])):=by
 refine pa_ aW func124 rfl rfl ntmps124 m5 ?_;simp only[argT,PV.av,ah2,ah6];obtain⟨n,hn⟩:∃ n,rows.length=n:=⟨_,rfl⟩;have SE:(((rows.map λr=>[bD r]).length:Nat):Int)=n:=by simp[hn]
 have hkz:decide ((((keys.map λx=>[AC.int .i64 x]).length:Nat):Int)=0)=false:=by
  cases keys with
  |nil=>exact absurd rfl h0
  |cons x l=>simp;omega
 obtain⟨inf,Qa,hiz⟩:∃ inf,prog.info? 37=some inf/\inf.zero=some (.slice none 0 0):=by
  have hh:(prog.info? 37).bind (·.zero)=some (.slice none 0 0):=k7
  cases hi:prog.info? 37 with
  |none=>rw[hi]at hh;cases hh
  |some j=>rw[hi]at hh;exact⟨j,rfl,by simpa using hh⟩
 obtain⟨ky,hky⟩:∃ ky:List Val->ByteArray,ky=λr=>cg it (a_ r keys):=⟨_,rfl⟩
 rw[<- hky];have hkP:∀ r∈rows,PTz 164 [.one (bD (a_ r keys))] (.val (.one (.str (ky r)))):=λr h=>by rw[hky];exact hk r h
 repeat' (first|rw[hkz]|refine gv_ aW ar ?_|refine gi_ (λhb=>?_) (λhb=>?_)<;>try exact(fx_ hb).elim|(refine bQ rfl rfl rfl rfl rfl gR ?_)|fail)
 refine b7 (λi:Nat=>[(0,.agg [.c (be kk),.c (bA rows)]),(1,.one (.c (be keys))),(2,.one (.c (eU aggs))),(3,.one (.ptr 0 0)),(6,.one (.ptr 1 0)),(7,.one (.mp 2)),(8,DC (gN ky (rows.take i)).G),(31,.one (.c (bA rows))),(32,.one (.c (.int .i64 n))),(33,.one (.c (.int .i64 i)))]) (λi=>KD kk rows (gN ky (rows.take i))) (λi=>i<=n) (λi=>n-i) 0 m0 (λ_ _=>aia _)
  (fm_ ⟨rfl,rfl,rfl,rfl,rfl,rfl,rfl,rfl,aL SE,rfl,t7⟩ [] rfl (rG _ _ _) rP) ?_
 intro i hi;have Rb:=OS ky (rows.take i);have Y1:=NP ky (rows.take i);have Vo:=yY ky (rows.take i);rw[aiD]at Y1;by_cases O8:i<n
 .obtain⟨r,hx⟩:=gol_ (show i<rows.length by omega)
  have hrm:=ahX hx;have QR:gN ky (rows.take (i+1))=gV ky (gN ky (rows.take i)) r:=by rw[bG hx];exact zz _ _ _
  have hN:decide ((i:Int)<n)=true:=by simp;exact O8
  have Ye:=Dm r keys (hr r hrm) m0;have XW:=hkP r hrm;generalize gN ky (rows.take i)=S at Rb Y1 Vo QR;obtain⟨M,G⟩:=S;unfold gV at QR;dsimp only at Rb Y1 Vo QR ⊢;have Sz:rows.length<=700:=hl
  cases G with
  |nil =>
   have WW:fS M (ky r)=false:=by
    cases hh:fS M (ky r)with
    |false=>rfl
    |true=>have:=Rb.idx _ hh;simp at this;omega
   rw[WW,ahS]at QR;have e1:KD kk rows ⟨M,[]⟩=hd3 kk rows M:=rfl;have e2:DC [] = .one .emp:=rfl;rw[e1,e2]
   repeat' (first|rw[hN]|rw[WW]|(refine bQ rfl rfl rfl rfl rfl (pq (E:=37) (k:=1) (by_:=24) (xs:=[[.emp]]) aW rfl rfl rfl ⟨rfl,_,rfl,by decide⟩ rfl m9 rfl rfl rfl m9 m9 m9 m9) ?_)|(refine bQ rfl rfl rfl rfl rfl (n9 (E:=37) aW rfl m9 rfl rfl Qa hiz) ?_)|(refine aO rfl rfl rfl rfl rfl rfl rfl rfl (aU hx) ?_ ?_;· exact⟨m0,rfl⟩)|refine au rfl rfl rfl rfl Ye rfl ?_|refine au rfl rfl rfl rfl XW rfl ?_|refine gv_ aW ar ?_|refine gi_ (λhb=>?_) (λhb=>?_)<;>try exact(fx_ hb).elim|(refine cf rfl rfl rfl rfl rfl (nv (M:=M) aW rfl rfl rfl rfl rfl rfl) ?_)|(refine nZ rfl rfl rfl rfl (rT (M:=M) aW rfl rfl rfl rfl rfl rfl) ?_)|fail)
   exact⟨i+1,m0,m0,by rw[QR];exact fm_ ⟨rfl,rfl,rfl,rfl,rfl,rfl,rfl,rfl,rfl,aL (a8 m0 m0),t7⟩ [] (rfl) (rG _ _ _) rP⟩
  |cons g0 G0 =>
   generalize hGe:g0::G0=G at Rb Y1 Vo QR ⊢;have Wn:G≠[]:=by rw[<- hGe];simp
   have e1:KD kk rows ⟨M,G⟩=v7 kk rows M G:=tp Wn;rw[e1,qm Wn];have hLl:=ye (kk:=kk) (rows:=rows) (M:=M) Wn
   cases WW:fS M (ky r)with
   |true =>
    rw[WW,ahT]at QR;obtain⟨Zm,Xr⟩:=Rb.idx _ WW;dsimp only at Zm Xr;obtain⟨j,hjj⟩:∃ j:Nat,b9 M (ky r)=j:=⟨(b9 M (ky r)).toNat,m0⟩;rw[hjj]at QR Zm Xr;obtain⟨g,hg⟩:=gol_ (show j<G.length by omega);have ej:0+((j:Nat):Int).toNat=j:=by simp
    have hgj:(sr 0 G)[0+((j:Nat):Int).toNat]?=some [.own (eF g) (5+2*(0+j))]:=by rw[ej];exact LK G 0 j g hg
    have hgD:G.getD ((j:Nat):Int).toNat []=g:=by rw[aiE];simp[hg]
    rw[hgD]at QR;have ej2:((j:Nat):Int).toNat=j:=by simp
    rw[ej2]at QR;have hLj:(v7 kk rows M G)[5+2*(0+j)]?=some (.spare g.length 1):=by
     unfold v7;rw[ahY (by simp[hd3]<;>omega)];have e5:5+2*(0+j)-(hd3 kk rows M++[ed,Ob.row (37+65536*G.length) (sr 0 G) 1]).length=2*j:=by simp[hd3]<;>omega
     rw[e5];exact acL hg
    have Ww:(v7 kk rows M G).set (5+2*(0+j)) (.spare (g.length+1) 1)=hd3 kk rows M++[ed,.row (37+65536*G.length) (sr 0 G) 1]++Es (G.set j (g++[r])):=by
     unfold v7;rw[List.set_append_right _ _ (by simp[hd3]<;>omega)];have e5:5+2*(0+j)-(hd3 kk rows M++[ed,Ob.row (37+65536*G.length) (sr 0 G) 1]).length=2*j:=by simp[hd3]<;>omega
     have e6:g.length+1=(g++[r]).length:=by simp
     rw[e5,e6,acs (g++[r]) m0]
    have VW:(eF g).length=g.length:=by simp[eF]
    have hgb2:=Vo g (ahX hg);rw[aiD]at hgb2;have Y2:(hd3 kk rows M++[ed,.row (37+65536*G.length) (sr 0 G) 1]++Es (G.set j (g++[r]))).set 4 (.row (37+65536*G.length) ((sr 0 G).set (0+((j:Nat):Int).toNat) [.own (eF g++[[bD r]]) (5+2*(0+j))]) 1)=v7 kk rows M (G.set j (g++[r])):=by
     have e7:eF g++[[bD r]]=eF (g++[r]):=by simp[eF]
     rw[ej,e7,LY G 0 j (g++[r]) m0];unfold v7;rw[List.length_set];rfl
    have hG2:G.set j (g++[r])≠[]:=by intro e;have:=congrArg List.length e;simp at this;exact Wn this
    repeat' (first|rw[hN]|rw[WW]|rw[hjj]|(refine pO rfl rfl rfl rfl rfl rfl rfl (e:=[.own (eF g) (5+2*(0+j))]) (by exact hgj) rfl ?_)|(refine KW (k:=1) (by_:=24) rfl rfl rfl rfl rfl rfl rfl rfl rfl rfl (by exact hLj) ⟨rfl,VW,⟨rfl,by decide⟩,by intro e he;simp at he;subst he;rfl,by show(_+1)*24<=_;omega,by show _+1<=_;omega⟩ (by exact Ww) ?_)|(refine pu rfl rfl rfl rfl rfl rfl (e:=[.own (eF g) (5+2*(0+j))]) (by exact hgj) ⟨ah7 _,rfl⟩ (by exact Y2) ?_)|(refine aO rfl rfl rfl rfl rfl rfl rfl rfl (aU hx) ?_ ?_;· exact⟨m0,rfl⟩)|refine au rfl rfl rfl rfl Ye rfl ?_|refine au rfl rfl rfl rfl XW rfl ?_|refine gv_ aW ar ?_|refine gi_ (λhb=>?_) (λhb=>?_)<;>try exact(fx_ hb).elim|(refine cf rfl rfl rfl rfl rfl (nv (M:=M) aW rfl rfl rfl rfl rfl rfl) ?_)|fail)
    exact⟨i+1,m0,m0,by rw[QR];exact fm_ ⟨rfl,rfl,rfl,rfl,rfl,rfl,(by rw[qm hG2,List.length_set];rfl),rfl,rfl,aL (a8 m0 m0),t7⟩ [] (by rw[tp hG2];exact(aio _).symm) (rG _ _ _) rP⟩
   |false =>
    rw[WW,ahS]at QR;obtain⟨M2,hM2⟩:∃ M2,M2=cP M (ky r) (G.length:Nat):=⟨_,rfl⟩;rw[<- hM2]at QR;have VZ:(v7 kk rows M G).set 2 (.map (cE (cP M (ky r) (G.length:Nat))))=v7 kk rows M2 G:=by rw[hM2];rfl
    have S5:IW (v7 kk rows M2 G++[ed]) (.one (.sl (v7 kk rows M2 G).length (37+65536) 0 1))=some [[SV.emp]]:=by simp[IW,ed]
    have hsok:yS afR (v7 kk rows M2 G++[ed]) 1 195 (.one (.sl (v7 kk rows M2 G).length (37+65536) 0 1)):=⟨rfl,[[SV.emp]],by simp[ed],by decide⟩;have hL2:(v7 kk rows M2 G++[ed]).set 4 (Ob.row (37+65536*G.length+65536) (sr 0 G++[[SV.emp]]) 1)=hd3 kk rows M2++[ed,Ob.row (37+65536*G.length+65536) (sr 0 G++[[SV.emp]]) 1]++(Es G++[ed]):=by
     unfold v7 hd3;simp
    have hL2l:(hd3 kk rows M2++[ed,Ob.row (37+65536*G.length+65536) (sr 0 G++[[SV.emp]]) 1]++(Es G++[ed])).length=5+2*G.length:=by
     have:=LP Wn;simp[hd3];omega
    have eG:0+(G.length:Int).toNat=G.length:=by simp
    have hgG:(sr 0 G++[[SV.emp]])[0+(G.length:Int).toNat]?=some [.emp]:=by
     rw[eG,ahY (by rw[sd];exact ah7 _),sd];simp
    have Y2:((hd3 kk rows M2++[ed,Ob.row (37+65536*G.length+65536) (sr 0 G++[[SV.emp]]) 1]++(Es G++[ed]))++[Ob.spare 1 1]).set 4 (Ob.row (37+65536*G.length+65536) ((sr 0 G++[[SV.emp]]).set (0+(G.length:Int).toNat) [SV.own [[bD r]] (hd3 kk rows M2++[ed,Ob.row (37+65536*G.length+65536) (sr 0 G++[[SV.emp]]) 1]++(Es G++[ed])).length]) 1)=v7 kk rows M2 (G++[[r]]):=by
     have e8:(sr 0 G++[[SV.emp]]).set G.length [SV.own [[bD r]] (5+2*G.length)]=sr 0 (G++[[r]]):=by
      rw[GU,List.set_append_right _ _ (by rw[sd];exact ah7 _),sd];simp[eF]
     rw[eG,hL2l,e8];have e9:37+65536*G.length+65536=37+65536*(G++[[r]]).length:=by rw[ahZ];simp;omega
     rw[e9];unfold v7;rw[aaw [r] Wn];unfold hd3;simp
    have hG2:G++[[r]]≠[]:=by simp
    have e9:37+65536*(G++[[r]]).length=37+65536*G.length+65536:=by rw[ahZ];simp;omega
    have e10:(G++[[r]]).length=G.length+1:=by simp
    repeat' (first|rw[hN]|rw[WW]|(refine nZ (L':=v7 kk rows M2 G) rfl rfl rfl rfl (by rw[<- VZ];exact rT (M:=M) aW rfl rfl rfl rfl rfl rfl) ?_)|(refine bQ (L':=v7 kk rows M2 G++[ed]) rfl rfl rfl rfl rfl (n9 (E:=37) aW rfl m9 rfl rfl Qa hiz) ?_)|(refine bQ (v := .one (.sl 4 (37+65536*G.length+65536) 0 (G.length+1))) (L':=hd3 kk rows M2++[ed,Ob.row (37+65536*G.length+65536) (sr 0 G++[[SV.emp]]) 1]++(Es G++[ed])) rfl rfl rfl rfl rfl (by rw[<- hL2];exact jf (k:=1) (by_:=24) (xs:=[[SV.emp]]) aW rfl rfl rfl S5 hsok rfl (by show(37+65536*G.length)%65536=37;omega) rfl rfl rfl m9 (sd G 0) (by show(_+1)*24<=_;omega) (by show _+1<=_;omega)) ?_)|(refine pO rfl rfl rfl rfl rfl rfl rfl (e:=[SV.emp]) (by exact hgG) rfl ?_)|(refine pu rfl rfl rfl rfl rfl rfl (e:=[SV.emp]) (by exact hgG) ⟨ah7 _,rfl⟩ (by exact Y2) ?_)|(refine aO rfl rfl rfl rfl rfl rfl rfl rfl (aU hx) ?_ ?_;· exact⟨m0,rfl⟩)|refine au rfl rfl rfl rfl Ye rfl ?_|refine au rfl rfl rfl rfl XW rfl ?_|refine gv_ aW ar ?_|refine gi_ (λhb=>?_) (λhb=>?_)<;>try exact(fx_ hb).elim|(refine cf rfl rfl rfl rfl rfl (nv (M:=M) aW rfl rfl rfl rfl rfl rfl) ?_)|fail)
    exact⟨i+1,m0,m0,by rw[QR];exact fm_ ⟨rfl,rfl,rfl,rfl,rfl,rfl,(by rw[qm hG2,e9,e10];rfl),rfl,rfl,aL (a8 m0 m0),t7⟩ [] (by rw[tp hG2];exact(aio _).symm) (rG _ _ _) rP⟩
 .have Rw:rows.take i=rows:=aiu m0
  have hN:decide ((i:Int)<n)=false:=by simp;omega
  rw[Rw]at Rb Y1 ⊢;have Vo:=yY ky rows;have hgm:=OI ky rows;generalize gN ky rows=S at Rb Y1 Vo hgm;obtain⟨M,G⟩:=S;dsimp only at Rb Y1 Vo hgm ⊢;suffices hmain:Aw prog 111 0 _ _ [(1,.one (.c (be keys))),(2,.one (.c (eU aggs))),(3,.one (.ptr 0 0)),(6,.one (.ptr 1 0)),(8,.one (.c (Hf G))),(32,.one (.c (.int .i64 n))),(33,.one (.c (.int .i64 i)))] [.box [.c (be kk),.c (bA rows)],.box [.emp,.emp]]by
   by_cases Wn:G=[]
   .have hs8:DC G = .one .emp:=by rw[Wn];rfl
    have hgS:KD kk rows ⟨M,G⟩=hd3 kk rows M:=by unfold KD;rw[Wn]
    have htG:Hf G = .lst []:=by rw[Wn];rfl
    rw[hs8,hgS];rw[htG]at hmain;refine acI 8 (x := .emp) (y := .lst []) rfl rfl ?_;exact aaY (T1:=[(1,.one (.c (be keys))),(2,.one (.c (eU aggs))),(3,.one (.ptr 0 0)),(6,.one (.ptr 1 0)),(8,.one (.c (.lst []))),(32,.one (.c (.int .i64 n))),(33,.one (.c (.int .i64 i)))]) (L1:=[.box [.c (be kk),.c (bA rows)],.box [.emp,.emp]]) (aia _) (fm_ ⟨rfl,rfl,rfl,rfl,rfl,rfl,rfl,t7⟩ [_] rfl ⟨t7,t7,by show 0<2;omega,by show 1<2;omega,t7,t7,t7,t7⟩ ⟨aR,bz _,t7⟩) hmain
   .rw[show KD kk rows ⟨M,G⟩=v7 kk rows M G from tp Wn,qm Wn]
    refine ga 4 8 (L:=v7 kk rows M G) rfl (IX G 0) rfl m5 ?_;exact aaY (T1:=[(1,.one (.c (be keys))),(2,.one (.c (eU aggs))),(3,.one (.ptr 0 0)),(6,.one (.ptr 1 0)),(8,.one (.c (Hf G))),(32,.one (.c (.int .i64 n))),(33,.one (.c (.int .i64 i)))]) (L1:=[.box [.c (be kk),.c (bA rows)],.box [.emp,.emp]]) (aia _) (fm_ ⟨rfl,rfl,rfl,rfl,rfl,rfl,rfl,t7⟩ _ rfl ⟨t7,t7,by show 0<2;omega,by show 1<2;omega,t7,t7,t7,t7⟩ ⟨aR,bz _,t7⟩) hmain
  obtain⟨m,hm⟩:∃ m,G.length=m:=⟨_,rfl⟩;have hmG:(((G.map λg=>[AC.lst (eF g)]).length:Nat):Int)=m:=by simp[hm]
  have XJ:=nN kk keys aggs h1 h2 h3;have VW:=Bc kk keys aggs;have Vf:=yT (fL kk keys aggs).1 (G.map (jH keys aggs)) m0 (by rw[ah3];omega) (λr Ui=>by
   obtain⟨g,hg,rfl⟩:=aip.1 Ui;have hlen:(jH keys aggs g).length=keys.length+aggs.length:=by simp[jH,a_]
   have Po:0<keys.length:=by cases keys with|nil=>exact absurd rfl h0|cons x l=>simp
   exact⟨by intro e;rw[e]at hlen;simp at hlen;omega,m0⟩)
  have hkg:decide ((0:Int)<((keys.map λx=>[AC.int .i64 x]).length:Nat))=true:=by
   cases keys with
   |nil=>exact absurd rfl h0
   |cons x l=>simp<;>omega
  repeat' (first|rw[hN]|refine gv_ aW ar ?_|refine gi_ (λhb=>?_) (λhb=>?_)<;>try exact(fx_ hb).elim|fail)
  refine br 14 1 rfl ?_;refine b7 (λj:Nat=>[(1,.one (.c (be keys))),(2,.one (.c (eU aggs))),(3,.one (.ptr 0 0)),(6,.one (.ptr 1 0)),(14,.one (.own (((G.take j).map (jH keys aggs)).map λr=>[bD r]) 2)),(68,.one (.c (Hf G))),(69,.one (.c (.int .i64 m))),(70,.one (.c (.int .i64 j)))]) (λj=>[.box [.c (be kk),.c (bA rows)],.box [.emp,.emp],.spare j 1]) (λj=>j<=m) (λj=>m-j) 0 m0 (λ_ _=>aia _)
   (fm_ ⟨rfl,rfl,rfl,rfl,rfl,rfl,aL hmG,rfl,t7⟩ [] rfl ⟨t7,t7,by show 0<3;omega,by show 1<3;omega,by show 2<3;omega,t7,t7,t7,t7⟩ ⟨aR,bz _,t7,t7⟩) ?_
  intro j hj;by_cases Zf:j<m
  .obtain⟨g,hg⟩:=gol_ (show j<G.length by omega)
   have VP:=ahX hg;have hNj:decide ((j:Int)<m)=true:=by simp;exact Zf
   obtain⟨x,g',hgx⟩:∃ x g',g=x::g':=by
    cases g with
    |nil=>exact absurd rfl (Rb.ne [] VP)
    |cons x g'=>exact⟨x,g',rfl⟩
   have hxr:=hr x (hgm g VP x (by rw[hgx];simp));have hga:∀ r∈g,r.length<=1000000:=λr h=>hr r (hgm g VP r h)
   have XX:=Vo g VP;have hout:((G.take (j+1)).map (jH keys aggs)).map (λr=>[bD r])=((G.take j).map (jH keys aggs)).map (λr=>[bD r])++[[bD (jH keys aggs g)]]:=by rw[bG hg];simp
   have Vg:(((G.take j).map (jH keys aggs)).map λr=>[bD r]).length=j:=by simp;omega
   have Rx:(G.map λg=>[AC.lst (eF g)])[((j:Nat):Int).toNat]?=some [.lst (eF g)]:=aU hg;have hhead:g.headD []=x:=by rw[hgx];rfl
   subst hgx;generalize hOut:((G.take j).map (jH keys aggs)).map (λr=>[bD r])=Out at Vg hout
   repeat' (first|rw[hNj]|rw[hkg]|(refine aO rfl rfl rfl rfl rfl rfl rfl rfl Rx ?_ ?_;· exact⟨m0,rfl⟩)|(refine cl [] (r' := .one (.own ((a_ x keys).map cV) 3)) (L':=[.box [.c (be kk),.c (bA rows)],.box [.emp,.emp],.spare j 1,.spare keys.length 3]) rfl rfl rfl rfl (aaN x keys hxr m0) rfl ⟨rfl,m5,λi x hx=>by simp at hx,λx hx=>by simp at hx,iO ⟨t7,t7,t7⟩⟩ rfl rfl ?_)|refine gv_ aW ar ?_|refine gi_ (λhb=>?_) (λhb=>?_)<;>try exact(fx_ hb).elim|fail)
   obtain⟨q,hq⟩:∃ q,aggs.length=q:=⟨_,rfl⟩;have hqm:(((aggs.map cA).length:Nat):Int)=q:=by simp[hq]
   have Zt:(a_ x keys).length=keys.length:=by simp[a_]
   refine b7 (λa:Nat=>[(1,.one (.c (be keys))),(2,.one (.c (eU aggs))),(3,.one (.ptr 0 0)),(6,.one (.ptr 1 0)),(14,.one (.own Out 2)),(16,.one (.c (.lst (eF (x::g'))))),(17,.one (.own ((a_ x keys++(aggs.take a).map λz=>cT z.1 z.2 (x::g')).map cV) 3)),(68,.one (.c (Hf G))),(69,.one (.c (.int .i64 m))),(70,.one (.c (.int .i64 j))),(82,.one (.c (eU aggs))),(83,.one (.c (.int .i64 q))),(84,.one (.c (.int .i64 a)))]) (λa=>[.box [.c (be kk),.c (bA rows)],.box [.emp,.emp],.spare j 1,.spare (keys.length+a) 3]) (λa=>a<=q) (λa=>q-a) 0 m0 (λ_ _=>aia _)
    (fm_ ⟨rfl,rfl,rfl,rfl,rfl,rfl,bY m5,rfl,rfl,rfl,rfl,aL hqm,rfl,t7⟩ [] rfl ⟨t7,t7,by show 0<4;omega,by show 1<4;omega,by show 2<4;omega,t7,by show 3<4;omega,t7,t7,t7,t7,t7,t7,t7⟩ ⟨aR,bz _,t7,t7,t7⟩) ?_
   intro a ha;by_cases hla:a<q
   .obtain⟨z,hz⟩:=gol_ (show a<aggs.length by omega)
    have WX:decide ((a:Int)<q)=true:=by simp;exact hla
    have hzi:(aggs.map cA)[((a:Nat):Int).toNat]?=some [.int .i64 z.1,.int .i64 z.2]:=aU hz;have S1:=Ae z.1 z.2 (x::g') (by simp only[aib]at XX ⊢;omega) hga;have SN:(a_ x keys++(aggs.take (a+1)).map λz=>cT z.1 z.2 (x::g')).map cV=(a_ x keys++(aggs.take a).map λz=>cT z.1 z.2 (x::g')).map cV++[cV (cT z.1 z.2 (x::g'))]:=by rw[bG hz];simp
    have S_:((a_ x keys++(aggs.take a).map λz=>cT z.1 z.2 (x::g')).map cV).length=keys.length+a:=by simp[a_];omega
    generalize (a_ x keys++(aggs.take a).map λz=>cT z.1 z.2 (x::g')).map cV=Row at SN S_
    repeat' (first|rw[WX]|(refine aO rfl rfl rfl rfl rfl rfl rfl rfl hzi ?_ ?_;· exact⟨m0,rfl⟩)|refine au rfl rfl rfl rfl S1 rfl ?_|refine gv_ aW ar ?_|refine gi_ (λhb=>?_) (λhb=>?_)<;>try exact(fx_ hb).elim|(refine st_pop rfl rfl rfl rfl ?_ ?_;· (repeat' (first|exact t7|rfl|exact ah1 rfl|omega|(intro e he;simp at he;subst he;rfl)|exact S_|(show(_+1)*32<=_;omega)|(show _+1<=_;omega)|apply And.intro)))|(refine st_lop rfl rfl rfl rfl ?_ ?_;· (repeat' (first|exact t7|rfl|exact ah1 rfl|omega|(intro e he;simp at he;subst he;rfl)|exact S_|(show(_+1)*32<=_;omega)|(show _+1<=_;omega)|apply And.intro)))|(refine sS_ rfl rfl rfl ?_ ?_;· (repeat' (first|exact t7|rfl|exact ah1 rfl|omega|(intro e he;simp at he;subst he;rfl)|exact S_|(show(_+1)*32<=_;omega)|(show _+1<=_;omega)|apply And.intro)))|(refine st_lit rfl rfl rfl rfl ?_ ?_;· (repeat' (first|exact t7|rfl|exact ah1 rfl|omega|(intro e he;simp at he;subst he;rfl)|exact S_|(show(_+1)*32<=_;omega)|(show _+1<=_;omega)|apply And.intro)))|fail)
    exact⟨a+1,m0,m0,fm_ ⟨rfl,rfl,rfl,rfl,rfl,rfl,bY (by rw[SN];rfl),rfl,rfl,rfl,rfl,rfl,aL (a8 m0 m0),t7⟩ [_] rfl ⟨t7,t7,by show 0<4;omega,by show 1<4;omega,by show 2<4;omega,t7,by show 3<4;omega,t7,t7,t7,t7,t7,t7,t7⟩ ⟨aR,bz _,t7,t7,t7⟩⟩
   .have WX:decide ((a:Int)<q)=false:=by simp;omega
    have hta:aggs.take a=aggs:=aiu m0;rw[hta];have hgrow:jH keys aggs (x::g')=a_ x keys++aggs.map λz=>cT z.1 z.2 (x::g'):=rfl
    rw[<- hgrow]
    repeat' (first|rw[WX]|refine gv_ aW ar ?_|refine gi_ (λhb=>?_) (λhb=>?_)<;>try exact(fx_ hb).elim|(refine st_pop rfl rfl rfl rfl ?_ ?_;· (repeat' (first|exact t7|rfl|exact ah1 rfl|omega|(intro e he;simp at he;subst he;rfl)|exact Vg|(show(_+1)*24<=_;omega)|(show _+1<=_;omega)|apply And.intro)))|(refine st_lop rfl rfl rfl rfl ?_ ?_;· (repeat' (first|exact t7|rfl|exact ah1 rfl|omega|(intro e he;simp at he;subst he;rfl)|exact Vg|(show(_+1)*24<=_;omega)|(show _+1<=_;omega)|apply And.intro)))|(refine sS_ rfl rfl rfl ?_ ?_;· (repeat' (first|exact t7|rfl|exact ah1 rfl|omega|(intro e he;simp at he;subst he;rfl)|exact Vg|(show(_+1)*24<=_;omega)|(show _+1<=_;omega)|apply And.intro)))|(refine st_lit rfl rfl rfl rfl ?_ ?_;· (repeat' (first|exact t7|rfl|exact ah1 rfl|omega|(intro e he;simp at he;subst he;rfl)|exact Vg|(show(_+1)*24<=_;omega)|(show _+1<=_;omega)|apply And.intro)))|fail)
    exact⟨j+1,m0,m0,fm_ ⟨rfl,rfl,rfl,rfl,bY (by rw[hout];rfl),rfl,rfl,aL (a8 m0 m0),t7⟩ [_] rfl ⟨t7,t7,by show 0<3;omega,by show 1<3;omega,by show 2<3;omega,t7,t7,t7,t7⟩ ⟨aR,bz _,t7,t7⟩⟩
  .have hNj:decide ((j:Int)<m)=false:=by simp;omega
   have htj:G.take j=G:=aiu m0;rw[htj]
   repeat' (first|rw[hNj]|refine au rfl rfl rfl rfl XJ rfl ?_|refine au rfl rfl rfl rfl Vf rfl ?_|refine gv_ aW ar ?_|refine gi_ (λhb=>?_) (λhb=>?_)<;>try exact(fx_ hb).elim|fail)
   exact az (aE rfl ⟨ah7 2,t7⟩ rfl)
theorem HZ (kk:List Int)(aggs:List Do)(h1:kk.length<=100000)(h3:aggs.length<=100000)(h0:aggs≠[]):PTz 124 [.agg [be kk,bA []],.one (be []),.one (eU aggs)] (.val (.agg [be (fL kk [] aggs).1,bA <|aH [aggs.map λz=>cT z.1 z.2 []]])):=by
 refine pa_ aW func124 rfl rfl ntmps124 m5 ?_;simp only[argT,PV.av,ah2,ah6];obtain⟨inf,Qa,hiz⟩:∃ inf,prog.info? 37=some inf/\inf.zero=some (.slice none 0 0):=by
  have hh:(prog.info? 37).bind (·.zero)=some (.slice none 0 0):=k7
  cases hi:prog.info? 37 with
  |none=>rw[hi]at hh;cases hh
  |some j=>rw[hi]at hh;exact⟨j,rfl,by simpa using hh⟩
 have XJ:=nN kk [] aggs h1 (aia _) h3;have VW:=Bc kk [] aggs;simp only[aik]at VW;have Vf:=yT (fL kk [] aggs).1 [aggs.map λz=>cT z.1 z.2 []] m0 m5 (λr Ui=>by
  simp at Ui;subst Ui;exact⟨by intro e;exact h0 (List.map_eq_nil_iff.1 e),by simp;omega⟩)
 repeat' (first|(refine bQ rfl rfl rfl rfl rfl (pq (E:=37) (k:=1) (by_:=24) (xs:=[[.emp]]) aW rfl rfl rfl ⟨rfl,_,rfl,by decide⟩ rfl m9 rfl rfl rfl m9 m9 m9 m9) ?_)|(refine bQ rfl rfl rfl rfl rfl (n9 (E:=37) aW rfl m9 rfl rfl Qa hiz) ?_)|refine gv_ aW ar ?_|refine gi_ (λhb=>?_) (λhb=>?_)<;>try exact(fx_ hb).elim|(refine bQ rfl rfl rfl rfl rfl gR ?_)|(refine nZ rfl rfl rfl rfl (rT (M:=[]) aW rfl rfl rfl rfl rfl rfl) ?_)|fail)
 refine b7 (λ_:Unit=>[(1,.one (.c (be []))),(2,.one (.c (eU aggs))),(3,.one (.ptr 0 0)),(6,.one (.ptr 1 0)),(8,.one (.sl 4 (37+65536) 0 1)),(32,.one (.c (.int .i64 0))),(33,.one (.c (.int .i64 0)))]) (λ_=>[.box [.c (be kk),.c (bA [])],.box [.emp,.emp],.map (cE [(⟨#[]⟩,0)]),ed,.row (37+65536) [[.emp]] 1]) (λ_=>True) (λ_=>0) () trivial (λ_ _=>aia _)
  (fm_ ⟨rfl,rfl,rfl,rfl,rfl,rfl,rfl,t7⟩ [] rfl ⟨t7,t7,by show 0<5;omega,by show 1<5;omega,by show 4<5;omega,t7,t7,t7⟩ ⟨aR,bz _,bC _ _,ca _,ca _,t7⟩) ?_
 intro _ _;refine ga 4 8 rfl (cs:=[[.lst []]]) rfl rfl rfl ?_
 repeat' (first|refine gv_ aW ar ?_|refine gi_ (λhb=>?_) (λhb=>?_)<;>try exact(fx_ hb).elim|fail)
 refine br 14 1 rfl ?_;refine b7 (λj:Nat=>[(1,.one (.c (be []))),(2,.one (.c (eU aggs))),(3,.one (.ptr 0 0)),(6,.one (.ptr 1 0)),(14,.one (.own (((List.replicate j (aggs.map λz=>cT z.1 z.2 [])).map λr=>[bD r])) 5)),(68,.one (.c (.lst [[.lst []]]))),(69,.one (.c (.int .i64 1))),(70,.one (.c (.int .i64 j)))]) (λj=>[.box [.c (be kk),.c (bA [])],.box [.emp,.emp],.map (cE [(⟨#[]⟩,0)]),ed,.dead,.spare j 1]) (λj=>j<=1) (λj=>1-j) 0 m0 (λ_ _=>aia _)
  (fm_ ⟨rfl,rfl,rfl,rfl,rfl,rfl,rfl,rfl,t7⟩ [] rfl ⟨t7,t7,by show 0<6;omega,by show 1<6;omega,by show 5<6;omega,t7,t7,t7,t7⟩ ⟨aR,bz _,bC _ _,ca _,t7,t7,t7⟩) ?_
 intro j hj;have hj':j=0\/j=1:=m0
 obtain rfl|rfl:=hj'
 .repeat' (first|refine gv_ aW ar ?_|refine gi_ (λhb=>?_) (λhb=>?_)<;>try exact(fx_ hb).elim|fail)
  refine br 17 3 rfl ?_;obtain⟨q,hq⟩:∃ q,aggs.length=q:=⟨_,rfl⟩;have hqm:(((aggs.map cA).length:Nat):Int)=q:=by simp[hq]
  refine b7 (λa:Nat=>[(1,.one (.c (be []))),(2,.one (.c (eU aggs))),(3,.one (.ptr 0 0)),(6,.one (.ptr 1 0)),(14,.one (.own [] 5)),(16,.one (.c (.lst []))),(17,.one (.own (((aggs.take a).map λz=>cT z.1 z.2 []).map cV) 6)),(68,.one (.c (.lst [[.lst []]]))),(69,.one (.c (.int .i64 1))),(70,.one (.c (.int .i64 0))),(82,.one (.c (eU aggs))),(83,.one (.c (.int .i64 q))),(84,.one (.c (.int .i64 a)))]) (λa=>[.box [.c (be kk),.c (bA [])],.box [.emp,.emp],.map (cE [(⟨#[]⟩,0)]),ed,.dead,.spare 0 1,.spare a 3]) (λa=>a<=q) (λa=>q-a) 0 m0 (λ_ _=>aia _)
   (fm_ ⟨rfl,rfl,rfl,rfl,rfl,rfl,rfl,rfl,rfl,rfl,rfl,aL hqm,rfl,t7⟩ [] rfl ⟨t7,t7,by show 0<7;omega,by show 1<7;omega,by show 5<7;omega,t7,by show 6<7;omega,t7,t7,t7,t7,t7,t7,t7⟩ ⟨aR,bz _,bC _ _,ca _,t7,t7,t7,t7⟩) ?_
  intro a ha;by_cases hla:a<q
  .obtain⟨z,hz⟩:=gol_ (show a<aggs.length by omega)
   have WX:decide ((a:Int)<q)=true:=by simp;exact hla
   have hzi:(aggs.map cA)[((a:Nat):Int).toNat]?=some [.int .i64 z.1,.int .i64 z.2]:=aU hz;have S1:=Ae z.1 z.2 [] m5 m5;have SN:((aggs.take (a+1)).map λz=>cT z.1 z.2 []).map cV=((aggs.take a).map λz=>cT z.1 z.2 []).map cV++[cV (cT z.1 z.2 [])]:=by rw[bG hz];simp
   have S_:(((aggs.take a).map λz=>cT z.1 z.2 []).map cV).length=a:=by simp;omega
   generalize ((aggs.take a).map λz=>cT z.1 z.2 []).map cV=Row at SN S_
   repeat' (first|rw[WX]|(refine aO rfl rfl rfl rfl rfl rfl rfl rfl hzi ?_ ?_;· exact⟨m0,rfl⟩)|refine au rfl rfl rfl rfl S1 rfl ?_|refine gv_ aW ar ?_|refine gi_ (λhb=>?_) (λhb=>?_)<;>try exact(fx_ hb).elim|(refine st_pop rfl rfl rfl rfl ?_ ?_;· (repeat' (first|exact t7|rfl|exact ah1 rfl|omega|(intro e he;simp at he;subst he;rfl)|exact S_|(show(_+1)*32<=_;omega)|(show _+1<=_;omega)|apply And.intro)))|(refine st_lop rfl rfl rfl rfl ?_ ?_;· (repeat' (first|exact t7|rfl|exact ah1 rfl|omega|(intro e he;simp at he;subst he;rfl)|exact S_|(show(_+1)*32<=_;omega)|(show _+1<=_;omega)|apply And.intro)))|(refine sS_ rfl rfl rfl ?_ ?_;· (repeat' (first|exact t7|rfl|exact ah1 rfl|omega|(intro e he;simp at he;subst he;rfl)|exact S_|(show(_+1)*32<=_;omega)|(show _+1<=_;omega)|apply And.intro)))|(refine st_lit rfl rfl rfl rfl ?_ ?_;· (repeat' (first|exact t7|rfl|exact ah1 rfl|omega|(intro e he;simp at he;subst he;rfl)|exact S_|(show(_+1)*32<=_;omega)|(show _+1<=_;omega)|apply And.intro)))|fail)
   exact⟨a+1,m0,m0,fm_ ⟨rfl,rfl,rfl,rfl,rfl,rfl,bY (by rw[SN];rfl),rfl,rfl,rfl,rfl,rfl,aL (a8 m0 m0),t7⟩ [_] rfl ⟨t7,t7,by show 0<7;omega,by show 1<7;omega,by show 5<7;omega,t7,by show 6<7;omega,t7,t7,t7,t7,t7,t7,t7⟩ ⟨aR,bz _,bC _ _,ca _,t7,t7,t7,t7⟩⟩
  .have WX:decide ((a:Int)<q)=false:=by simp;omega
   have hta:aggs.take a=aggs:=aiu m0;rw[hta]
   repeat' (first|rw[WX]|refine gv_ aW ar ?_|refine gi_ (λhb=>?_) (λhb=>?_)<;>try exact(fx_ hb).elim|fail)
   exact⟨1,m0,m0,fm_ ⟨rfl,rfl,rfl,rfl,rfl,rfl,rfl,rfl,t7⟩ [_] rfl ⟨t7,t7,by show 0<6;omega,by show 1<6;omega,by show 5<6;omega,t7,t7,t7,t7⟩ ⟨aR,bz _,bC _ _,ca _,t7,t7,t7⟩⟩
 .repeat' (first|refine au rfl rfl rfl rfl XJ rfl ?_|refine au rfl rfl rfl rfl Vf rfl ?_|refine gv_ aW ar ?_|refine gi_ (λhb=>?_) (λhb=>?_)<;>try exact(fx_ hb).elim|fail)
  exact az (aE rfl ⟨ah7 2,t7⟩ rfl)
def pn (kk:List Int)(rows:List (List Val)):Nat->List Ob
 |0=>[.box [.c (be kk),.c (bA rows)],.box [.emp,.emp],.map (cE [(⟨#[]⟩,0)]),ed,.row (37+65536) [[.emp]] 1]
 |i+1=>[.box [.c (be kk),.c (bA rows)],.box [.emp,.emp],.map (cE [(⟨#[]⟩,0)]),ed,.row (37+65536) [[.own (eF (rows.take (i+1))) 5]] 1,.spare (i+1) 1]
theorem J3 (n v:Nat):(Ob.row v [[.emp]] 1).below n:=by
 intro e he x hx;simp at he;subst he;simp at hx;subst hx;trivial
theorem xo (v:Nat)(es:List (List AC)):(Ob.row v [[.own es 5]] 1).below 6:=by
 intro e he x hx;simp at he;subst he;simp at hx;subst hx;show 5<6;omega
theorem Ha (kk:List Int)(aggs:List Do)(rows:List (List Val))(h1:kk.length<=100000)(h3:aggs.length<=100000)(h0:aggs≠[])(hl:rows.length<=700)(PE:rows≠[])(hr:∀ r∈rows,r.length<=1000000):PTz 124 [.agg [be kk,bA rows],.one (be []),.one (eU aggs)] (.val (.agg [be (fL kk [] aggs).1,bA [aggs.map λz=>cT z.1 z.2 rows]])):=by
 refine pa_ aW func124 rfl rfl ntmps124 m5 ?_;simp only[argT,PV.av,ah2,ah6];obtain⟨inf,Qa,hiz⟩:∃ inf,prog.info? 37=some inf/\inf.zero=some (.slice none 0 0):=by
  have hh:(prog.info? 37).bind (·.zero)=some (.slice none 0 0):=k7
  cases hi:prog.info? 37 with
  |none=>rw[hi]at hh;cases hh
  |some j=>rw[hi]at hh;exact⟨j,rfl,by simpa using hh⟩
 have XJ:=nN kk [] aggs h1 (aia _) h3;have VW:=Bc kk [] aggs;simp only[aik]at VW;have Vf:PTz 120 [.one (be (fL kk [] aggs).1),.one (bA [aggs.map λz=>cT z.1 z.2 rows])] (.val (.agg [be (fL kk [] aggs).1,bA [aggs.map λz=>cT z.1 z.2 rows]])):=by
  have:=yT (fL kk [] aggs).1 [aggs.map λz=>cT z.1 z.2 rows] m0 m5 (λr Ui=>by
   simp at Ui;subst Ui;exact⟨by intro e;exact h0 (List.map_eq_nil_iff.1 e),by simp;omega⟩)
  exact this
 obtain⟨n,hn⟩:∃ n,rows.length=n:=⟨_,rfl⟩;have SE:(((rows.map λr=>[bD r]).length:Nat):Int)=n:=by simp[hn]
 have Ua:0<n:=by rw[<- hn];exact List.length_pos_iff.2 PE
 repeat' (first|(refine bQ rfl rfl rfl rfl rfl (pq (E:=37) (k:=1) (by_:=24) (xs:=[[.emp]]) aW rfl rfl rfl ⟨rfl,_,rfl,by decide⟩ rfl m9 rfl rfl rfl m9 m9 m9 m9) ?_)|(refine bQ rfl rfl rfl rfl rfl (n9 (E:=37) aW rfl m9 rfl rfl Qa hiz) ?_)|refine gv_ aW ar ?_|refine gi_ (λhb=>?_) (λhb=>?_)<;>try exact(fx_ hb).elim|(refine bQ rfl rfl rfl rfl rfl gR ?_)|(refine nZ rfl rfl rfl rfl (rT (M:=[]) aW rfl rfl rfl rfl rfl rfl) ?_)|fail)
 refine b7 (λi:Nat=>[(1,.one (.c (be []))),(2,.one (.c (eU aggs))),(3,.one (.ptr 0 0)),(6,.one (.ptr 1 0)),(7,.one (.mp 2)),(8,.one (.sl 4 (37+65536) 0 1)),(31,.one (.c (bA rows))),(32,.one (.c (.int .i64 n))),(33,.one (.c (.int .i64 i)))]) (λi=>pn kk rows i) (λi=>i<=n) (λi=>n-i) 0 (aia _) (λ_ _=>aia _)
  (fm_ ⟨rfl,rfl,rfl,rfl,rfl,rfl,rfl,aL SE,rfl,t7⟩ [] rfl ⟨t7,t7,by show 0<_;simp[pn],by show 1<_;simp[pn],by show 2<_;simp[pn],by show 4<_;simp[pn],t7,t7,t7,t7⟩ ⟨aR,bz _,bC _ _,ca _,J3 _ _,t7⟩) ?_
 intro i hi;by_cases O8:i<n
 .obtain⟨r,hx⟩:=gol_ (show i<rows.length by omega)
  have hrm:=ahX hx;have Rw:=bG hx;have hN:decide ((i:Int)<n)=true:=by simp;exact O8
  have Ye:=Dm r [] (hr r hrm) m5;have XW:PTz 164 [.one (bD (a_ r []))] (.val (.one (.str ⟨#[]⟩))):=mD [] m5 (λv hv=>by cases hv);have hmg:b9 [((⟨#[]⟩:ByteArray),(0:Int))] ⟨#[]⟩=0:=by simp[b9]
  have WW:fS [((⟨#[]⟩:ByteArray),(0:Int))] ⟨#[]⟩=true:=by simp[fS,cE,fF]
  match i,hi,O8,hx,Rw,hN with
  |0,hi,O8,hx,Rw,hN =>
   have R6:eF (rows.take (0+1))=[[bD r]]:=by rw[Rw];rfl
   have Wm:pn kk rows 1=[.box [.c (be kk),.c (bA rows)],.box [.emp,.emp],.map (cE [(⟨#[]⟩,0)]),ed,.row (37+65536) [[.own [[bD r]] 5]] 1,.spare 1 1]:=by
    show [.box [.c (be kk),.c (bA rows)],.box [.emp,.emp],.map (cE [(⟨#[]⟩,0)]),ed,.row (37+65536) [[.own (eF (rows.take (0+1))) 5]] 1,.spare (0+1) 1]=_;rw[R6]
   repeat' (first|rw[hN]|rw[WW]|rw[hmg]|(refine pO rfl rfl rfl rfl rfl rfl rfl (e:=[.emp]) rfl rfl ?_)|(refine pu rfl rfl rfl rfl rfl rfl (e:=[.emp]) rfl ⟨ah7 _,rfl⟩ rfl ?_)|(refine aO rfl rfl rfl rfl rfl rfl rfl rfl (aU hx) ?_ ?_;· exact⟨m0,rfl⟩)|refine au rfl rfl rfl rfl Ye rfl ?_|refine au rfl rfl rfl rfl XW rfl ?_|refine gv_ aW ar ?_|refine gi_ (λhb=>?_) (λhb=>?_)<;>try exact(fx_ hb).elim|(refine cf rfl rfl rfl rfl rfl (nv (M:=[(⟨#[]⟩,0)]) aW rfl rfl rfl rfl rfl rfl) ?_)|fail)
   exact⟨1,O8,m0,fm_ ⟨rfl,rfl,rfl,rfl,rfl,rfl,rfl,rfl,rfl,t7⟩ [] (by rw[Wm];rfl) ⟨t7,t7,by show 0<_;simp[pn],by show 1<_;simp[pn],by show 2<_;simp[pn],by show 4<_;simp[pn],t7,t7,t7,t7⟩ (by rw[Wm];exact⟨aR,bz _,bC _ _,ca _,xo _ _,t7,t7⟩)⟩
  |j+1,hi,O8,hx,Rw,hN =>
   have XX:(eF (rows.take (j+1))).length=j+1:=by unfold eF;rw[ah3,aiD];omega
   have hg2:eF (rows.take (j+1+1))=eF (rows.take (j+1))++[[bD r]]:=by rw[Rw];unfold eF;rw[ah4];rfl
   have hO:pn kk rows (j+1)=[.box [.c (be kk),.c (bA rows)],.box [.emp,.emp],.map (cE [(⟨#[]⟩,0)]),ed,.row (37+65536) [[.own (eF (rows.take (j+1))) 5]] 1,.spare (j+1) 1]:=rfl;have Zp:pn kk rows (j+1+1)=[.box [.c (be kk),.c (bA rows)],.box [.emp,.emp],.map (cE [(⟨#[]⟩,0)]),ed,.row (37+65536) [[.own (eF (rows.take (j+1))++[[bD r]]) 5]] 1,.spare (j+1+1) 1]:=by
    show [.box [.c (be kk),.c (bA rows)],.box [.emp,.emp],.map (cE [(⟨#[]⟩,0)]),ed,.row (37+65536) [[.own (eF (rows.take (j+1+1))) 5]] 1,.spare (j+1+1) 1]=_;rw[hg2]
   rw[hO];generalize eF (rows.take (j+1))=gg at XX hg2 Zp
   repeat' (first|rw[hN]|rw[WW]|rw[hmg]|(refine pO rfl rfl rfl rfl rfl rfl rfl (e:=[.own gg 5]) rfl rfl ?_)|(refine KW (k:=1) (by_:=24) rfl rfl rfl rfl rfl rfl rfl rfl rfl rfl rfl ⟨rfl,XX,⟨rfl,by decide⟩,by intro e he;simp at he;subst he;rfl,by show(_+1)*24<=_;omega,by show _+1<=_;omega⟩ rfl ?_)|(refine pu rfl rfl rfl rfl rfl rfl (e:=[.own gg 5]) rfl ⟨ah7 _,rfl⟩ rfl ?_)|(refine aO rfl rfl rfl rfl rfl rfl rfl rfl (aU hx) ?_ ?_;· exact⟨m0,rfl⟩)|refine au rfl rfl rfl rfl Ye rfl ?_|refine au rfl rfl rfl rfl XW rfl ?_|refine gv_ aW ar ?_|refine gi_ (λhb=>?_) (λhb=>?_)<;>try exact(fx_ hb).elim|(refine cf rfl rfl rfl rfl rfl (nv (M:=[(⟨#[]⟩,0)]) aW rfl rfl rfl rfl rfl rfl) ?_)|fail)
   exact⟨j+1+1,O8,m0,fm_ ⟨rfl,rfl,rfl,rfl,rfl,rfl,rfl,rfl,aL (a8 m0 m0),t7⟩ [] (by rw[Zp];rfl) ⟨t7,t7,by show 0<_;simp[pn],by show 1<_;simp[pn],by show 2<_;simp[pn],by show 4<_;simp[pn],t7,t7,t7,t7⟩ (by rw[Zp];exact⟨aR,bz _,bC _ _,ca _,xo _ _,t7,t7⟩)⟩
 .have SI:i=n:=m0
  subst SI;have hN:decide (((i:Nat):Int)<((i:Nat):Int))=false:=by simp
  obtain⟨m,rfl⟩:∃ m,i=m+1:=⟨i-1,m0⟩;have Rw:rows.take (m+1)=rows:=aiu m0;have hO:pn kk rows (m+1)=[.box [.c (be kk),.c (bA rows)],.box [.emp,.emp],.map (cE [(⟨#[]⟩,0)]),ed,.row (37+65536) [[.own (eF rows) 5]] 1,.spare (m+1) 1]:=by
   show [.box [.c (be kk),.c (bA rows)],.box [.emp,.emp],.map (cE [(⟨#[]⟩,0)]),ed,.row (37+65536) [[.own (eF (rows.take (m+1))) 5]] 1,.spare (m+1) 1]=_;rw[Rw]
  rw[hO];refine ga 4 8 rfl (cs:=[[.lst (eF rows)]]) rfl rfl rfl ?_
  repeat' (first|rw[hN]|refine gv_ aW ar ?_|refine gi_ (λhb=>?_) (λhb=>?_)<;>try exact(fx_ hb).elim|fail)
  refine br 14 1 rfl ?_;refine b7 (λj:Nat=>[(1,.one (.c (be []))),(2,.one (.c (eU aggs))),(3,.one (.ptr 0 0)),(6,.one (.ptr 1 0)),(14,.one (.own (((List.replicate j (aggs.map λz=>cT z.1 z.2 rows)).map λr=>[bD r])) 6)),(68,.one (.c (.lst [[.lst (eF rows)]]))),(69,.one (.c (.int .i64 1))),(70,.one (.c (.int .i64 j)))]) (λj=>[.box [.c (be kk),.c (bA rows)],.box [.emp,.emp],.map (cE [(⟨#[]⟩,0)]),ed,.dead,.spare (m+1) 1,.spare j 1]) (λj=>j<=1) (λj=>1-j) 0 m0 (λ_ _=>aia _)
   (fm_ ⟨rfl,rfl,rfl,rfl,rfl,rfl,rfl,rfl,t7⟩ [] rfl ⟨t7,t7,by show 0<7;omega,by show 1<7;omega,by show 6<7;omega,t7,t7,t7,t7⟩ ⟨aR,bz _,bC _ _,ca _,t7,t7,t7,t7⟩) ?_
  intro j hj;have hj':j=0\/j=1:=m0
  obtain rfl|rfl:=hj'
  .repeat' (first|refine gv_ aW ar ?_|refine gi_ (λhb=>?_) (λhb=>?_)<;>try exact(fx_ hb).elim|fail)
   refine br 17 3 rfl ?_;obtain⟨q,hq⟩:∃ q,aggs.length=q:=⟨_,rfl⟩;have hqm:(((aggs.map cA).length:Nat):Int)=q:=by simp[hq]
   refine b7 (λa:Nat=>[(1,.one (.c (be []))),(2,.one (.c (eU aggs))),(3,.one (.ptr 0 0)),(6,.one (.ptr 1 0)),(14,.one (.own [] 6)),(16,.one (.c (.lst (eF rows)))),(17,.one (.own (((aggs.take a).map λz=>cT z.1 z.2 rows).map cV) 7)),(68,.one (.c (.lst [[.lst (eF rows)]]))),(69,.one (.c (.int .i64 1))),(70,.one (.c (.int .i64 0))),(82,.one (.c (eU aggs))),(83,.one (.c (.int .i64 q))),(84,.one (.c (.int .i64 a)))]) (λa=>[.box [.c (be kk),.c (bA rows)],.box [.emp,.emp],.map (cE [(⟨#[]⟩,0)]),ed,.dead,.spare (m+1) 1,.spare 0 1,.spare a 3]) (λa=>a<=q) (λa=>q-a) 0 m0 (λ_ _=>aia _)
    (fm_ ⟨rfl,rfl,rfl,rfl,rfl,rfl,rfl,rfl,rfl,rfl,rfl,aL hqm,rfl,t7⟩ [] rfl ⟨t7,t7,by show 0<8;omega,by show 1<8;omega,by show 6<8;omega,t7,by show 7<8;omega,t7,t7,t7,t7,t7,t7,t7⟩ ⟨aR,bz _,bC _ _,ca _,t7,t7,t7,t7,t7⟩) ?_
   intro a ha;by_cases hla:a<q
   .obtain⟨z,hz⟩:=gol_ (show a<aggs.length by omega)
    have WX:decide ((a:Int)<q)=true:=by simp;exact hla
    have hzi:(aggs.map cA)[((a:Nat):Int).toNat]?=some [.int .i64 z.1,.int .i64 z.2]:=aU hz;have S1:=Ae z.1 z.2 rows m0 hr;have SN:((aggs.take (a+1)).map λz=>cT z.1 z.2 rows).map cV=((aggs.take a).map λz=>cT z.1 z.2 rows).map cV++[cV (cT z.1 z.2 rows)]:=by rw[bG hz];simp
    have S_:(((aggs.take a).map λz=>cT z.1 z.2 rows).map cV).length=a:=by simp;omega
    generalize ((aggs.take a).map λz=>cT z.1 z.2 rows).map cV=Row at SN S_
    repeat' (first|rw[WX]|(refine aO rfl rfl rfl rfl rfl rfl rfl rfl hzi ?_ ?_;· exact⟨m0,rfl⟩)|refine au rfl rfl rfl rfl S1 rfl ?_|refine gv_ aW ar ?_|refine gi_ (λhb=>?_) (λhb=>?_)<;>try exact(fx_ hb).elim|(refine st_pop rfl rfl rfl rfl ?_ ?_;· (repeat' (first|exact t7|rfl|exact ah1 rfl|omega|(intro e he;simp at he;subst he;rfl)|exact S_|(show(_+1)*32<=_;omega)|(show _+1<=_;omega)|apply And.intro)))|(refine st_lop rfl rfl rfl rfl ?_ ?_;· (repeat' (first|exact t7|rfl|exact ah1 rfl|omega|(intro e he;simp at he;subst he;rfl)|exact S_|(show(_+1)*32<=_;omega)|(show _+1<=_;omega)|apply And.intro)))|(refine sS_ rfl rfl rfl ?_ ?_;· (repeat' (first|exact t7|rfl|exact ah1 rfl|omega|(intro e he;simp at he;subst he;rfl)|exact S_|(show(_+1)*32<=_;omega)|(show _+1<=_;omega)|apply And.intro)))|(refine st_lit rfl rfl rfl rfl ?_ ?_;· (repeat' (first|exact t7|rfl|exact ah1 rfl|omega|(intro e he;simp at he;subst he;rfl)|exact S_|(show(_+1)*32<=_;omega)|(show _+1<=_;omega)|apply And.intro)))|fail)
    exact⟨a+1,m0,m0,fm_ ⟨rfl,rfl,rfl,rfl,rfl,rfl,bY (by rw[SN];rfl),rfl,rfl,rfl,rfl,rfl,aL (a8 m0 m0),t7⟩ [_] rfl ⟨t7,t7,by show 0<8;omega,by show 1<8;omega,by show 6<8;omega,t7,by show 7<8;omega,t7,t7,t7,t7,t7,t7,t7⟩ ⟨aR,bz _,bC _ _,ca _,t7,t7,t7,t7,t7⟩⟩
   .have WX:decide ((a:Int)<q)=false:=by simp;omega
    have hta:aggs.take a=aggs:=aiu m0;rw[hta]
    repeat' (first|rw[WX]|refine gv_ aW ar ?_|refine gi_ (λhb=>?_) (λhb=>?_)<;>try exact(fx_ hb).elim|fail)
    exact⟨1,m0,m0,fm_ ⟨rfl,rfl,rfl,rfl,rfl,rfl,rfl,rfl,t7⟩ [_] rfl ⟨t7,t7,by show 0<7;omega,by show 1<7;omega,by show 6<7;omega,t7,t7,t7,t7⟩ ⟨aR,bz _,bC _ _,ca _,t7,t7,t7,t7⟩⟩
  .repeat' (first|refine au rfl rfl rfl rfl XJ rfl ?_|refine au rfl rfl rfl rfl Vf rfl ?_|refine gv_ aW ar ?_|refine gi_ (λhb=>?_) (λhb=>?_)<;>try exact(fx_ hb).elim|fail)
   exact az (aE rfl ⟨ah7 2,t7⟩ rfl)
instance vokDec (v : Val) : Decidable (KO v) := by unfold KO; infer_instance
def aeQ (r:List Val):Bool:=decide (r.length<=1000)&&r.all λv=>decide (KO v)
def vn (l:List (List Val)):Bool:=decide (l.length<=1000000)&&l.all aeQ
theorem t6 {l:List (List Val)}(h:vn l=true):l.length<=1000000 /\ ∀ r∈l,r.length<=1000 /\ ∀ v∈r,KO v:=by
 unfold vn at h;rw[ah9]at h;refine⟨aii h.1,λr hr=>?_⟩;have h2:=aiB.1 h.2 r hr;unfold aeQ at h2;rw[ah9]at h2;exact⟨aii h2.1,λv hv=>aii (aiB.1 h2.2 v hv)⟩
theorem abn {l:List (List Val)}(h:l.length<=1000000)(h2:∀ r∈l,r.length<=1000 /\ ∀ v∈r,KO v):vn l=true:=by
 unfold vn;rw[ah9];refine⟨ahV h,aiB.2 λr hr=>?_⟩;unfold aeQ;rw[ah9];exact⟨ahV (h2 r hr).1,aiB.2 λv hv=>ahV ((h2 r hr).2 v hv)⟩
def iQ (b:aJ):Option aJ:=bif vn b.rows then gW b.kinds (dst b.rows).O else none
theorem pG {n:Nat}{x y:AC}:(Ob.box [.c x,.c y]).below n:=by
 intro w hw;obtain rfl|hw:=ah8.1 hw
 .trivial
 obtain rfl|hw:=ah8.1 hw
 .trivial
 .cases hw
theorem qf {n:Nat}:(Ob.box [.emp,.emp]).below n:=by
 intro w hw;obtain rfl|hw:=ah8.1 hw
 .trivial
 obtain rfl|hw:=ah8.1 hw
 .trivial
 .cases hw
theorem B3 {b r:aJ}(H:iQ b=some r):PTz 123 [.agg (bn b)] (.val (.agg (bn r))):=by
 unfold iQ at H;obtain⟨g,H⟩:=ie H;obtain⟨hl,hk⟩:=t6 g;have Vf:=fP H;obtain⟨kinds,l⟩:=b;simp only at hl hk Vf;obtain⟨n,hn⟩:∃ n,l.length=n:=⟨_,rfl⟩;refine pa_ bu func123 rfl rfl ntmps123 m5 ?_;simp only[argT,PV.av,ah2,ah6]
 repeat' (first|refine gv_ bu bZ ?_|refine gi_ (λhb=>?_) (λhb=>?_)<;>try exact(fx_ hb).elim|(refine bQ rfl rfl rfl rfl rfl gR ?_)|fail)
 refine br 4 1 rfl ?_;refine b7 (λi:Nat=>[(1,.one (.ptr 0 0)),(2,.one (.ptr 1 0)),(3,.one (.mp 2)),(4,.one (.own ((dst (l.take i)).O.map λr=>[bD r]) 3)),(10,.one (.c (bA l))),(11,.one (.c (.int .i64 n))),(12,.one (.c (.int .i64 i)))]) (λi=>[.box [.c (be kinds),.c (bA l)],.box [.emp,.emp],.map (na AC.bool (dst (l.take i)).M),.spare (dst (l.take i)).O.length 1]) (λi=>i<=n) (λi=>n-i) 0 m0 (λ_ _=>aia _)
  (fm_ ⟨rfl,rfl,rfl,rfl,rfl,aL (by simp[hn]),rfl,t7⟩ [] rfl ⟨by show 0<4;omega,by show 1<4;omega,by show 2<4;omega,by show 3<4;omega,t7,t7,t7,t7⟩ ⟨pG,qf,tK _ _ _,t7,t7⟩) ?_
 intro i hi;by_cases O8:i<n
 .obtain⟨r,hx⟩:=gol_ (show i<l.length by omega)
  have U0:dst (l.take (i+1))=zM (dst (l.take i)) r:=by rw[bG hx];exact ab' _ _
  have Yh:(dst (l.take i)).O.length<=i:=by have:=qV (l.take i);rw[aiD]at this;omega
  have hlen:((dst (l.take i)).O.map λr=>[bD r]).length=(dst (l.take i)).O.length:=ah3 _;have XW:=mD r (hk r (ahX hx)).1 (hk r (ahX hx)).2
  cases hg:lB false (dst (l.take i)).M (df r)with
  |true =>
   have Y3:dst (l.take (i+1))=dst (l.take i):=by rw[U0];unfold zM;rw[hg];rfl
   repeat' (first|rw[hg]|(refine aO rfl rfl rfl rfl rfl rfl rfl rfl (aU hx) ?_ ?_;· exact⟨m0,rfl⟩)|refine au rfl rfl rfl rfl XW rfl ?_|refine gv_ bu bZ ?_|refine gi_ (λhb=>?_) (λhb=>?_)<;>try exact(fx_ hb).elim|(refine cf rfl rfl rfl rfl rfl (HE AC.bool false (M:=(dst (l.take i)).M) bu rfl rfl rfl rfl rfl rfl) ?_)|fail)
   exact⟨i+1,m0,m0,by rw[Y3];exact fm_ ⟨rfl,rfl,rfl,rfl,rfl,rfl,aL (a8 m0 m0),t7⟩ [] rfl ⟨by show 0<4;omega,by show 1<4;omega,by show 2<4;omega,by show 3<4;omega,t7,t7,t7,t7⟩ ⟨pG,qf,tK _ _ _,t7,t7⟩⟩
  |false =>
   have Y3:dst (l.take (i+1))=⟨tk (dst (l.take i)).M (df r) true,(dst (l.take i)).O++[r]⟩:=by rw[U0];unfold zM;rw[hg];rfl
   repeat' (first|rw[hg]|(refine aO rfl rfl rfl rfl rfl rfl rfl rfl (aU hx) ?_ ?_;· exact⟨m0,rfl⟩)|refine au rfl rfl rfl rfl XW rfl ?_|refine gv_ bu bZ ?_|refine gi_ (λhb=>?_) (λhb=>?_)<;>try exact(fx_ hb).elim|(refine st_pop rfl rfl rfl rfl ?_ ?_;· (repeat' (first|exact t7|rfl|exact ah1 rfl|omega|(intro e he;simp at he;subst he;rfl)|exact hlen|(show(_+1)*24<=_;omega)|(show _+1<=_;omega)|apply And.intro)))|(refine st_lop rfl rfl rfl rfl ?_ ?_;· (repeat' (first|exact t7|rfl|exact ah1 rfl|omega|(intro e he;simp at he;subst he;rfl)|exact hlen|(show(_+1)*24<=_;omega)|(show _+1<=_;omega)|apply And.intro)))|(refine sS_ rfl rfl rfl ?_ ?_;· (repeat' (first|exact t7|rfl|exact ah1 rfl|omega|(intro e he;simp at he;subst he;rfl)|exact hlen|(show(_+1)*24<=_;omega)|(show _+1<=_;omega)|apply And.intro)))|(refine st_lit rfl rfl rfl rfl ?_ ?_;· (repeat' (first|exact t7|rfl|exact ah1 rfl|omega|(intro e he;simp at he;subst he;rfl)|exact hlen|(show(_+1)*24<=_;omega)|(show _+1<=_;omega)|apply And.intro)))|(refine cf rfl rfl rfl rfl rfl (HE AC.bool false (M:=(dst (l.take i)).M) bu rfl rfl rfl rfl rfl rfl) ?_)|(refine nZ rfl rfl rfl rfl (abj AC.bool (n:=true) (M:=(dst (l.take i)).M) bu rfl rfl rfl rfl rfl rfl) ?_)|fail)
   exact⟨i+1,m0,m0,by rw[Y3];exact fm_ ⟨rfl,rfl,rfl,bY (by rw[ah4];rfl),rfl,rfl,aL (a8 m0 m0),t7⟩ [] (by simp only[ahZ];rfl) ⟨by show 0<4;omega,by show 1<4;omega,by show 2<4;omega,by show 3<4;omega,t7,t7,t7,t7⟩ ⟨pG,qf,tK _ _ _,t7,t7⟩⟩
 .have Rw:l.take i=l:=aiu m0
  rw[Rw]
  repeat' (first|refine au rfl rfl rfl rfl Vf rfl ?_|refine gv_ bu bZ ?_|refine gi_ (λhb=>?_) (λhb=>?_)<;>try exact(fx_ hb).elim|fail)
  exact az (aE rfl ⟨ah7 2,t7⟩ rfl)
def rB (a b:aJ):Option (List (List Val)×List (List Val)):=bif vn a.rows&&vn b.rows then some (gY (λr=>b.rows.count r) a.rows)else none
theorem yw {a b:aJ}{r:List (List Val)×List (List Val)}(H:rB a b=some r):PTz 169 [.agg (bn a),.agg (bn b)] (.tup [.one (.lst (r.1.map (λx=>[AC.lst (x.map cV)]))),.one (.lst (r.2.map (λx=>[AC.lst (x.map cV)])))]):=by
 unfold rB at H;obtain⟨g,H⟩:=ie H;obtain rfl:=aim H;rw[ah9]at g;obtain⟨ha,hka⟩:=t6 g.1;obtain⟨hb,hkb⟩:=t6 g.2;have:=Jb ce a.kinds b.kinds a.rows b.rows ha hb (λr hr=>mD r (hka r hr).1 (hka r hr).2) (λr hr=>mD r (hkb r hr).1 (hkb r hr).2);rw[(aaI a.rows b.rows).1,(aaI a.rows b.rows).2]at this;exact this
noncomputable section
def nt (O7:aJ)(O4:aJ):Option (aJ):=(rB O7 O4).bind λPh=>(gW O7.kinds Ph.2).bind λPW=>some PW
theorem G2 {O7:aJ}{O4:aJ}{r:aJ}(H:nt O7 O4=some r):PTz 127 [.agg (bn O7),.agg (bn O4)] (.val (.agg (bn r))):=by
 unfold nt at H;refine po_ func127 ntmps127 ?_;obtain⟨Ph,c1,H⟩:=bd_ H;replace c1:=yw c1;obtain⟨PW,c2,H⟩:=bd_ H;replace c2:=fP c2
 cases H;exact ao
def ri (O7:aJ)(O4:aJ):Option (aJ):=(rB O7 O4).bind λPh=>(gW O7.kinds Ph.1).bind λPW=>some PW
theorem Jt {O7:aJ}{O4:aJ}{r:aJ}(H:ri O7 O4=some r):PTz 128 [.agg (bn O7),.agg (bn O4)] (.val (.agg (bn r))):=by
 unfold ri at H;refine po_ func128 ntmps128 ?_;obtain⟨Ph,c1,H⟩:=bd_ H;replace c1:=yw c1;obtain⟨PW,c2,H⟩:=bd_ H;replace c2:=fP c2
 cases H;exact ao
end
