/- Parts. No condition. -/
import Derived.Test.YtnbnpnmkgemdeaaGreatDoorKBG
set_option maxHeartbeats 8000000
set_option maxRecDepth 100000
set_option linter.unusedSimpArgs false
set_option linter.unusedVariables false
namespace Go.Proofs.YtnbnpnmkgemdeaaGreatDoor
open IntKind (i64)
open Go.RowKit Go.MapKept Tryz
noncomputable section
def rl (Pg:(List Val))(O5:(List Int)):((List Val)×Int)->Option (Step ((List Val)×Int) ((List Val))):=λs=>match s with
 |(O2,i_2)=>bif i_2<(O5.length:Int)then(al O5 i_2).bind λPK=>(Gv Pg PK).bind λPM=>bif O2.length+1<=4398046511104 then(some (.next ((O2++[PM]),(i64.wrap (i_2+(1:Int))))))else none else
 some (.exit (O2,i_2))
def wv:Sum ((List Val)×Int) ((List Val))->Option (((List Val)))
 |.inl (O2,i_2)=>some O2
 |.inr q=>some q
def yB (Pg:(List Val))(O5:(List Int)):Option ((List Val)):=(af (rl Pg O5) fuel ([],(0:Int))).bind (wv)
theorem NR {Pg:(List Val)}{O5:(List Int)}{r:(List Val)}(H:yB Pg O5=some r):PTz 176 [.one (.lst (Pg.map cV)),.one (.lst (O5.map (λx=>[AC.int .i64 x])))] (.val (.one (.lst (r.map cV)))):=by
 unfold yB at H;refine po_ func176 ntmps176 ?_;refine aS ?_;refine br 5 3 rfl ?_;refine alM_ (λs:(List Val)×Int=>match s with|(O2,i_2)=>[(0,.one (.c (.lst (Pg.map cV)))),(1,.one (.c (.lst (O5.map (λx=>[AC.int .i64 x]))))),(5,.one (.own (O2.map cV) 0)),(6,.one (.c (.int .i64 i_2)))]) (λs=>match s with|(O2,i_2)=>[.spare O2.length 3]) H (λ_=>aia _)
  (fm_ bg [] rfl aQ bq) ?_
 rintro⟨O2,i_2⟩ Qr OZ Po;unfold rl at OZ;dsimp only at OZ ⊢;obtain⟨PG,OZ⟩|⟨PG,OZ⟩:=ae OZ
 .obtain⟨PK,QV,i1,QI,OZ⟩:=aw (f:=(λx=>[AC.int .i64 x])) OZ
  obtain⟨PM,c2,OZ⟩:=bd_ OZ;replace c2:=yl c2;obtain⟨g3,OZ⟩:=aq OZ
  cases OZ;refine aS ?_;exact⟨_,rfl,fm_ fO [] dU aQ bq⟩
 cases OZ;have O0:wv (.inl (O2,i_2))=some _:=Po;unfold wv at O0;dsimp only at O0
 cases O0;exact ao
def co (O1:(List Int))(O5:(List Ag)):((List Int)×Int)->Option (Step ((List Int)×Int) ((List Int)×Int)):=λs=>match s with
 |(Pv,TD)=>bif TD<(O5.length:Int)then(al O5 TD).bind λPL=>bif PL.op≠(1:Int)then bif PL.op≠(2:Int)then bif PL.op≠(3:Int)then bif PL.op≠(4:Int)then some (.ret ([],(7:Int)))else
 bif PL.arg=(-1:Int)then some (.ret ([],(6:Int)))else
 bif PL.arg<(0:Int)then some (.ret ([],(6:Int)))else
 bif (O1.length:Int)<=PL.arg then some (.ret ([],(6:Int)))else
 (al O1 PL.arg).bind λRQ=>bif Pv.length+1<=17592186044416 then(some (.next ((Pv++[RQ]),(i64.wrap (TD+(1:Int))))))else none else
 bif PL.arg=(-1:Int)then some (.ret ([],(6:Int)))else
 bif PL.arg<(0:Int)then some (.ret ([],(6:Int)))else
 bif (O1.length:Int)<=PL.arg then some (.ret ([],(6:Int)))else
 (al O1 PL.arg).bind λV7=>bif Pv.length+1<=17592186044416 then(some (.next ((Pv++[V7]),(i64.wrap (TD+(1:Int))))))else none else
 bif PL.arg=(-1:Int)then some (.ret ([],(6:Int)))else
 bif PL.arg<(0:Int)then some (.ret ([],(6:Int)))else
 bif (O1.length:Int)<=PL.arg then some (.ret ([],(6:Int)))else
 (al O1 PL.arg).bind λW0=>bif W0≠(1:Int)then some (.ret ([],(7:Int)))else
 bif Pv.length+1<=17592186044416 then(some (.next ((Pv++[(1:Int)]),(i64.wrap (TD+(1:Int))))))else none else
 bif PL.arg=(-1:Int)then bif Pv.length+1<=17592186044416 then(some (.next ((Pv++[(1:Int)]),(i64.wrap (TD+(1:Int))))))else none else
 bif PL.arg<(0:Int)then some (.ret ([],(6:Int)))else
 bif (O1.length:Int)<=PL.arg then some (.ret ([],(6:Int)))else
 bif Pv.length+1<=17592186044416 then(some (.next ((Pv++[(1:Int)]),(i64.wrap (TD+(1:Int))))))else none else
 some (.exit (Pv,TD))
def aF:Sum ((List Int)×Int) ((List Int)×Int)->Option (((List Int)×Int))
 |.inl (Pv,TD)=>some (Pv,(0:Int))
 |.inr q=>some q
def cL (O1:(List Int))(PN:(List Int)):((List Int)×Int)->Option (Step ((List Int)×Int) ((List Int)×Int)):=λs=>match s with
 |(O2,i_2)=>bif i_2<(PN.length:Int)then(al PN i_2).bind λPK=>bif PK<(0:Int)then some (.ret ([],(6:Int)))else
 bif (O1.length:Int)<=PK then some (.ret ([],(6:Int)))else
 (al O1 PK).bind λQs=>bif O2.length+1<=17592186044416 then(some (.next ((O2++[Qs]),(i64.wrap (i_2+(1:Int))))))else none else
 some (.exit (O2,i_2))
def bR (O1:(List Int))(O5:(List Ag)):Sum ((List Int)×Int) ((List Int)×Int)->Option (((List Int)×Int))
 |.inl (O2,i_2)=>(af (co O1 O5) fuel (O2,(0:Int))).bind (aF)
 |.inr q=>some q
def dA (O1:(List Int))(PN:(List Int))(O5:(List Ag)):Option ((List Int)×Int):=(af (cL O1 PN) fuel ([],(0:Int))).bind (bR O1 O5)
theorem sL {O1:(List Int)}{PN:(List Int)}{O5:(List Ag)}{r:(List Int)×Int}(H:dA O1 PN O5=some r):PTz 175 [.one (.lst (O1.map (λx=>[AC.int .i64 x]))),.one (.lst (PN.map (λx=>[AC.int .i64 x]))),.one (.lst (O5.map ol))] (.tup [.one (.lst (r.1.map (λx=>[AC.int .i64 x]))),.one (.int .i64 r.2)]):=by
 unfold dA at H;refine po_ func175 ntmps175 ?_;refine aS ?_;refine br 8 1 rfl ?_;refine alM_ (λs:(List Int)×Int=>match s with|(O2,i_2)=>[(0,.one (.c (.lst (O1.map (λx=>[AC.int .i64 x]))))),(1,.one (.c (.lst (PN.map (λx=>[AC.int .i64 x]))))),(2,.one (.c (.lst (O5.map ol)))),(8,.one (.own (O2.map (λx=>[AC.int .i64 x])) 0)),(9,.one (.c (.int .i64 i_2)))]) (λs=>match s with|(O2,i_2)=>[.spare O2.length 1]) H (λ_=>aia _)
  (fm_ bg [] rfl aQ bq) ?_
 rintro⟨O2,i_2⟩ Qr OZ Po;unfold cL at OZ;dsimp only at OZ ⊢;obtain⟨PG,OZ⟩|⟨PG,OZ⟩:=ae OZ
 .obtain⟨PK,QV,i1,QI,OZ⟩:=aw (f:=(λx=>[AC.int .i64 x])) OZ
  obtain⟨Qu,OZ⟩|⟨Qu,OZ⟩:=ae OZ
  .cases OZ
   have O0:bR O1 O5 (.inr ([],(6:Int)))=some _:=Po;unfold bR at O0;dsimp only at O0
   cases O0;exact ao
  obtain⟨Qb,OZ⟩|⟨Qb,OZ⟩:=ae OZ
  .cases OZ
   have O0:bR O1 O5 (.inr ([],(6:Int)))=some _:=Po;unfold bR at O0;dsimp only at O0
   cases O0;exact ao
  obtain⟨Qs,Tu,i2,SR,OZ⟩:=aw (f:=(λx=>[AC.int .i64 x])) OZ;obtain⟨g3,OZ⟩:=aq OZ
  cases OZ;refine aS ?_;exact⟨_,rfl,fm_ fO [] dU aQ bq⟩
 cases OZ;have O0:bR O1 O5 (.inl (O2,i_2))=some _:=Po;unfold bR at O0;dsimp only at O0;refine aS ?_;refine alM_ (λs:(List Int)×Int=>match s with|(Pv,TD)=>[(0,.one (.c (.lst (O1.map (λx=>[AC.int .i64 x]))))),(2,.one (.c (.lst (O5.map ol)))),(8,.one (.own (Pv.map (λx=>[AC.int .i64 x])) 0)),(10,.one (.c (.int .i64 TD)))]) (λs=>match s with|(Pv,TD)=>[.spare Pv.length 1]) O0 (λ_=>aia _)
  (fm_ bg [] rfl aQ bq) ?_
 rintro⟨Pv,TD⟩ st2 Pe RE;unfold co at Pe;dsimp only at Pe ⊢;obtain⟨P6,Pe⟩|⟨P6,Pe⟩:=ae Pe
 .obtain⟨PL,VC,i4,U7,Pe⟩:=aw (f:=ol) Pe
  obtain⟨Qj,Pe⟩|⟨Qj,Pe⟩:=ae Pe
  .obtain⟨P2,Pe⟩|⟨P2,Pe⟩:=ae Pe
   .obtain⟨P9,Pe⟩|⟨P9,Pe⟩:=ae Pe
    .obtain⟨QJ,Pe⟩|⟨QJ,Pe⟩:=ae Pe
     .cases Pe
      have Px:aF (.inr ([],(7:Int)))=some _:=RE;unfold aF at Px;dsimp only at Px
      cases Px;exact ao
     obtain⟨Rq,Pe⟩|⟨Rq,Pe⟩:=ae Pe
     .have RI:(decide (PL.op=(1:Int)))=false:=by rw[Decidable.not_not.1 (of_decide_eq_false QJ)];decide
      have QT:(decide (PL.arg<(0:Int)))=true:=by rw[aii Rq];decide
      cases Pe;have Px:aF (.inr ([],(6:Int)))=some _:=RE;unfold aF at Px;dsimp only at Px
      cases Px;exact ao
     obtain⟨R8,Pe⟩|⟨R8,Pe⟩:=ae Pe
     .cases Pe
      have Px:aF (.inr ([],(6:Int)))=some _:=RE;unfold aF at Px;dsimp only at Px
      cases Px;exact ao
     obtain⟨RJ,Pe⟩|⟨RJ,Pe⟩:=ae Pe
     .cases Pe
      have Px:aF (.inr ([],(6:Int)))=some _:=RE;unfold aF at Px;dsimp only at Px
      cases Px;exact ao
     have RB:(decide (PL.op=(2:Int)))=false:=by rw[Decidable.not_not.1 (of_decide_eq_false QJ)];decide
     have SS:(decide (PL.op=(3:Int)))=false:=by rw[Decidable.not_not.1 (of_decide_eq_false QJ)];decide
     have SB:(decide (PL.op=(4:Int)))=true:=by rw[Decidable.not_not.1 (of_decide_eq_false QJ)];decide
     obtain⟨RQ,i5z,i5,i5x,Pe⟩:=aw (f:=(λx=>[AC.int .i64 x])) Pe;obtain⟨g6,Pe⟩:=aq Pe
     cases Pe;refine aS ?_;exact⟨_,rfl,fm_ fO [_] dU aQ bq⟩
    obtain⟨VF,Pe⟩|⟨VF,Pe⟩:=ae Pe
    .have VH:(decide (PL.op=(1:Int)))=false:=by rw[Decidable.not_not.1 (of_decide_eq_false P9)];decide
     have U_:(decide (PL.arg<(0:Int)))=true:=by rw[aii VF];decide
     cases Pe;have Px:aF (.inr ([],(6:Int)))=some _:=RE;unfold aF at Px;dsimp only at Px
     cases Px;exact ao
    obtain⟨TS,Pe⟩|⟨TS,Pe⟩:=ae Pe
    .cases Pe
     have Px:aF (.inr ([],(6:Int)))=some _:=RE;unfold aF at Px;dsimp only at Px
     cases Px;exact ao
    obtain⟨Y6,Pe⟩|⟨Y6,Pe⟩:=ae Pe
    .cases Pe
     have Px:aF (.inr ([],(6:Int)))=some _:=RE;unfold aF at Px;dsimp only at Px
     cases Px;exact ao
    have Va:(decide (PL.op=(2:Int)))=false:=by rw[Decidable.not_not.1 (of_decide_eq_false P9)];decide
    have Z_:(decide (PL.op=(3:Int)))=true:=by rw[Decidable.not_not.1 (of_decide_eq_false P9)];decide
    obtain⟨V7,Yi,i7,XY,Pe⟩:=aw (f:=(λx=>[AC.int .i64 x])) Pe;obtain⟨g8,Pe⟩:=aq Pe
    cases Pe;refine aS ?_;exact⟨_,rfl,fm_ fO [_] dU aQ bq⟩
   obtain⟨V4,Pe⟩|⟨V4,Pe⟩:=ae Pe
   .have VG:(decide (PL.op=(1:Int)))=false:=by rw[Decidable.not_not.1 (of_decide_eq_false P2)];decide
    have XM:(decide (PL.arg<(0:Int)))=true:=by rw[aii V4];decide
    cases Pe;have Px:aF (.inr ([],(6:Int)))=some _:=RE;unfold aF at Px;dsimp only at Px
    cases Px;exact ao
   obtain⟨UM,Pe⟩|⟨UM,Pe⟩:=ae Pe
   .cases Pe
    have Px:aF (.inr ([],(6:Int)))=some _:=RE;unfold aF at Px;dsimp only at Px
    cases Px;exact ao
   obtain⟨Y4,Pe⟩|⟨Y4,Pe⟩:=ae Pe
   .cases Pe
    have Px:aF (.inr ([],(6:Int)))=some _:=RE;unfold aF at Px;dsimp only at Px
    cases Px;exact ao
   have XN:(decide (PL.op=(2:Int)))=true:=by rw[Decidable.not_not.1 (of_decide_eq_false P2)];decide
   obtain⟨W0,i9z,i9,i9x,Pe⟩:=aw (f:=(λx=>[AC.int .i64 x])) Pe;obtain⟨q_40,Pe⟩|⟨q_40,Pe⟩:=ae Pe
   .cases Pe
    have Px:aF (.inr ([],(7:Int)))=some _:=RE;unfold aF at Px;dsimp only at Px
    cases Px;exact ao
   have q_41:(decide (PL.op=(3:Int)))=false:=by rw[Decidable.not_not.1 (of_decide_eq_false P2)];decide
   have V9:(decide (PL.op=(4:Int)))=false:=by rw[Decidable.not_not.1 (of_decide_eq_false P2)];decide
   obtain⟨g10,Pe⟩:=aq Pe
   cases Pe;refine aS ?_;exact⟨_,rfl,fm_ fO [_] dU aQ bq⟩
  obtain⟨q_43,Pe⟩|⟨q_43,Pe⟩:=ae Pe
  .have q_44:(decide (PL.op=(1:Int)))=true:=by rw[Decidable.not_not.1 (of_decide_eq_false Qj)];decide
   obtain⟨g11,Pe⟩:=aq Pe
   cases Pe;refine aS ?_;exact⟨_,rfl,fm_ fO [_] dU aQ bq⟩
  obtain⟨WQ,Pe⟩|⟨WQ,Pe⟩:=ae Pe
  .cases Pe
   have Px:aF (.inr ([],(6:Int)))=some _:=RE;unfold aF at Px;dsimp only at Px
   cases Px;exact ao
  obtain⟨q_46,Pe⟩|⟨q_46,Pe⟩:=ae Pe
  .cases Pe
   have Px:aF (.inr ([],(6:Int)))=some _:=RE;unfold aF at Px;dsimp only at Px
   cases Px;exact ao
  have XO:(decide (PL.op=(2:Int)))=false:=by rw[Decidable.not_not.1 (of_decide_eq_false Qj)];decide
  have q_48:(decide (PL.op=(3:Int)))=false:=by rw[Decidable.not_not.1 (of_decide_eq_false Qj)];decide
  have q_49:(decide (PL.op=(4:Int)))=false:=by rw[Decidable.not_not.1 (of_decide_eq_false Qj)];decide
  obtain⟨g12,Pe⟩:=aq Pe
  cases Pe;refine aS ?_;exact⟨_,rfl,fm_ fO [_] dU aQ bq⟩
 cases Pe;have Px:aF (.inl (Pv,TD))=some _:=RE;unfold aF at Px;dsimp only at Px
 cases Px;exact ao
end
