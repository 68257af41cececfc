/- Parts. No condition. -/
import Derived.Test.YtnbnpnmkgemdeaaGreatDoorKBA
set_option maxHeartbeats 8000000
set_option maxRecDepth 100000
set_option linter.unusedSimpArgs false
set_option linter.unusedVariables false
namespace Go.Proofs.YtnbnpnmkgemdeaaGreatDoor
open Go.RowKit Go.MapKept Tryz
def fY (Qn:Int)(O3:dV)(QE:dV):Option (Bool):=bif Qn=(0:Int)then some (decide (O3.hi<QE.lo))else
 bif Qn=(1:Int)then some (decide (O3.hi=QE.lo))else
 bif Qn=(2:Int)then bif O3.lo<QE.lo then bif QE.lo<O3.hi then some (decide (O3.hi<QE.hi))else
 some false else
 some false else
 bif Qn=(3:Int)then bif O3.lo=QE.lo then some (decide (O3.hi<QE.hi))else
 some false else
 bif Qn=(4:Int)then bif QE.lo<O3.lo then some (decide (O3.hi<QE.hi))else
 some false else
 bif Qn=(5:Int)then bif O3.hi=QE.hi then some (decide (QE.lo<O3.lo))else
 some false else
 bif Qn=(6:Int)then some (cF [.c (.int .i64 O3.lo),.c (.int .i64 O3.hi)] [.c (.int .i64 QE.lo),.c (.int .i64 QE.hi)])else
 bif Qn=(7:Int)then bif O3.hi=QE.hi then some (decide (O3.lo<QE.lo))else
 some false else
 bif Qn=(8:Int)then bif O3.lo<QE.lo then some (decide (QE.hi<O3.hi))else
 some false else
 bif Qn=(9:Int)then bif O3.lo=QE.lo then some (decide (QE.hi<O3.hi))else
 some false else
 bif Qn=(10:Int)then bif QE.lo<O3.lo then bif O3.lo<QE.hi then some (decide (QE.hi<O3.hi))else
 some false else
 some false else
 bif Qn=(11:Int)then some (decide (QE.hi=O3.lo))else
 bif Qn=(12:Int)then some (decide (QE.hi<O3.lo))else
 some false
theorem acE {Qn:Int}{O3:dV}{QE:dV}{r:Bool}(H:fY Qn O3 QE=some r):PTz 312 [.one (.int .i64 Qn),.agg (mb O3),.agg (mb QE)] (.val (.one (.bool r))):=by
 unfold fY at H;refine po_ func312 ntmps312 ?_;obtain⟨PT,H⟩|⟨PT,H⟩:=ae H
 .cases H
  exact ao
 obtain⟨PP,H⟩|⟨PP,H⟩:=ae H
 .cases H
  exact ao
 refine aS ?_;obtain⟨PG,H⟩|⟨PG,H⟩:=ae H
 .obtain⟨P1,H⟩|⟨P1,H⟩:=ae H
  .obtain⟨Qu,H⟩|⟨Qu,H⟩:=ae H
   .cases H
    exact ao
   cases H;exact ao
  cases H;exact ao
 obtain⟨Qb,H⟩|⟨Qb,H⟩:=ae H
 .obtain⟨QX,H⟩|⟨QX,H⟩:=ae H
  .cases H
   exact ao
  cases H;exact ao
 obtain⟨Qw,H⟩|⟨Qw,H⟩:=ae H
 .refine aS ?_
  obtain⟨Q5,H⟩|⟨Q5,H⟩:=ae H
  .cases H
   exact ao
  cases H;exact ao
 refine aS ?_;obtain⟨P6,H⟩|⟨P6,H⟩:=ae H
 .obtain⟨Qo,H⟩|⟨Qo,H⟩:=ae H
  .cases H
   exact ao
  cases H;exact ao
 obtain⟨Qj,H⟩|⟨Qj,H⟩:=ae H
 .cases H
  exact ao
 obtain⟨P2,H⟩|⟨P2,H⟩:=ae H
 .refine aS ?_
  obtain⟨P9,H⟩|⟨P9,H⟩:=ae H
  .cases H
   exact ao
  cases H;exact ao
 refine aS ?_;obtain⟨QJ,H⟩|⟨QJ,H⟩:=ae H
 .obtain⟨Rq,H⟩|⟨Rq,H⟩:=ae H
  .cases H
   exact ao
  cases H;exact ao
 obtain⟨RI,H⟩|⟨RI,H⟩:=ae H
 .obtain⟨QT,H⟩|⟨QT,H⟩:=ae H
  .cases H
   exact ao
  cases H;exact ao
 obtain⟨R8,H⟩|⟨R8,H⟩:=ae H
 .refine aS ?_
  obtain⟨RJ,H⟩|⟨RJ,H⟩:=ae H
  .obtain⟨RB,H⟩|⟨RB,H⟩:=ae H
   .cases H
    exact ao
   cases H;exact ao
  cases H;exact ao
 refine aS ?_;obtain⟨SS,H⟩|⟨SS,H⟩:=ae H
 .cases H
  exact ao
 obtain⟨SB,H⟩|⟨SB,H⟩:=ae H
 .cases H
  exact ao
 cases H;exact ao
def vh (Qn:Int)(O3:dV)(QE:dV):Option (Bool):=(rj O3).bind λPh=>bif Ph then(rj QE).bind λQm=>bif Qm then(fY Qn O3 QE).bind λPM=>some PM else
 some false else
 some false
theorem Kr {Qn:Int}{O3:dV}{QE:dV}{r:Bool}(H:vh Qn O3 QE=some r):PTz 304 [.one (.int .i64 Qn),.agg (mb O3),.agg (mb QE)] (.val (.one (.bool r))):=by
 unfold vh at H;refine po_ func304 ntmps304 ?_;obtain⟨Ph,c1,H⟩:=bd_ H;replace c1:=AU c1;obtain⟨PP,H⟩|⟨PP,H⟩:=ae H
 .obtain⟨Qm,c2,H⟩:=bd_ H
  replace c2:=AU c2;obtain⟨P1,H⟩|⟨P1,H⟩:=ae H
  .obtain⟨PM,c3,H⟩:=bd_ H
   replace c3:=acE c3
   cases H;exact ao
  cases H;exact ao
 cases H;exact ao
def mA (O3:dV)(QE:dV):(Int)->Option (Step (Int) (Int×Bool)):=λs=>match s with
 |rel_1=>bif rel_1<(13:Int)then(vh rel_1 O3 QE).bind λQm=>bif Qm then some (.ret (rel_1,true))else
 some (.next (IntKind.i64.wrap (rel_1+(1:Int))))else
 some (.exit rel_1)
def pm:Sum (Int) (Int×Bool)->Option ((Int×Bool))
 |.inl rel_1=>some ((0:Int),false)
 |.inr q=>some q
def IV (O3:dV)(QE:dV):Option (Int×Bool):=(af (mA O3 QE) fuel (0:Int)).bind (pm)
theorem abD {O3:dV}{QE:dV}{r:Int×Bool}(H:IV O3 QE=some r):PTz 292 [.agg (mb O3),.agg (mb QE)] (.tup [.one (.int .i64 r.1),.one (.bool r.2)]):=by
 unfold IV at H;refine po_ func292 ntmps292 ?_;refine aS ?_;refine alM_ (λs:Int=>match s with|rel_1=>[(2,.one (.ptr 0 0)),(3,.one (.ptr 1 0)),(6,.one (.c (.int .i64 rel_1)))]) (λs=>match s with|rel_1=>[.box [.c (.int .i64 O3.lo),.c (.int .i64 O3.hi)],.box [.c (.int .i64 QE.lo),.c (.int .i64 QE.hi)]]) H (λ_=>aia _)
  (fm_ bg [] rfl aQ bq) ?_
 rintro rel_1 Qr OZ Po;unfold mA at OZ;dsimp only at OZ ⊢;obtain⟨PP,OZ⟩|⟨PP,OZ⟩:=ae OZ
 .obtain⟨Qm,c1,OZ⟩:=bd_ OZ
  replace c1:=Kr c1;obtain⟨P1,OZ⟩|⟨P1,OZ⟩:=ae OZ
  .cases OZ
   have O0:pm (.inr (rel_1,true))=some _:=Po;unfold pm at O0;dsimp only at O0
   cases O0;exact ao
  cases OZ;refine aS ?_;exact⟨_,rfl,fm_ bg [] rfl aQ bq⟩
 cases OZ;have O0:pm (.inl rel_1)=some _:=Po;unfold pm at O0;dsimp only at O0
 cases O0;exact ao
