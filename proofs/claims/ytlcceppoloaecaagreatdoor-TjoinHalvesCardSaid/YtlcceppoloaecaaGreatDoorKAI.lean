/- Parts. No condition. -/
import Derived.Test.YtlcceppoloaecaaGreatDoorKAH
set_option maxHeartbeats 8000000
set_option maxRecDepth 100000
set_option linter.unusedSimpArgs false
set_option linter.unusedVariables false
namespace Go.Proofs.YtlcceppoloaecaaGreatDoor
open Go.RowKit Go.MapKept
def g8 (x y:Int):Int:=if x<y then -1 else if y<x then 1 else 0
def q6 (v w:Val):Int:=if g8 v.kind w.kind≠0 then g8 v.kind w.kind else if g8 v.int w.int≠0 then g8 v.int w.int else qb v.text w.text
def bK:List Val->List Val->Int
 |[],[]=>0
 |[],_::_ => -1
 |_::_,[]=>1
 |a::xs,b::ys=>if q6 a b≠0 then q6 a b else bK xs ys
def b8 (l:List Val):AC := .lst (l.map cV)
def anP (l:List Int):AC := .lst (l.map fun x=>[.int .i64 x])
theorem KA (a b:ByteArray):PTz 273 [.one (.str a),.one (.str b)] (.val (.one (.int .i64 (qb a b)))):=by
 refine pa_ am Tryz.func273 rfl rfl Tryz.ntmps273 m5 ?_;simp only[argT,PV.av,aqj,aqn]
 repeat' (first|(refine b7 rfl rfl rfl rfl rfl (DV rfl rfl Tryz.func292 k7 k7 k7 k7) ?_)|refine gw_ am tabS_ok ?_|refine gi_ (fun hb=>?_) (fun hb=>?_)|fail)
 exact⟨.inr rfl,bg rfl (by repeat' (first|exact t7|rfl|exact aqi rfl|omega|apply And.intro)) rfl⟩
theorem adQ (a b:ByteArray):PTz 249 [.one (.str a),.one (.str b)] (.val (.one (.int .i64 (qb a b)))):=by
 have c:=KA a b;refine po_ Tryz.func249 Tryz.ntmps249 ?_;exact Fa
def C4 (a_x:Int):Option (Bool):=some (decide (a_x≠a_x))
instance gIsNaN_ok {a_x : Int} {r : Bool} : OkC (C4 a_x = some r) (PTz 82 [.one (.int .i64 a_x)] (.val (.one (.bool r)))) := .mk fun H => by
 unfold C4 at H;refine po_ Tryz.func82 Tryz.ntmps82 ?_;exact ay H
def He (a_x:Int)(Yr:Int):Option (Int):=(C4 a_x).bind fun O7=>(C4 Yr).bind fun Qd=>bif O7 then bif Qd then some (0:Int)else
 some (-1:Int)else
 bif Qd then some (1:Int)else
 bif (decide (a_x<Yr))then some (-1:Int)else
 bif (decide (Yr<a_x))then some (1:Int)else
 some (0:Int)
instance gICmp_ok {a_x : Int} {Yr : Int} {r : Int} : OkC (He a_x Yr = some r) (PTz 41 [.one (.int .i64 a_x), .one (.int .i64 Yr)] (.val (.one (.int .i64 r)))) := .mk fun H => by
 unfold He at H;refine po_ Tryz.func41 Tryz.ntmps41 ?_;exact ay H
def Jp (QI:(List Int)):(Int)->Option (Step (Int) (Int)):=fun s=>match s with
 |v_1=>bif (decide (v_1<((QI.length:Nat):Int)))then(aF QI v_1).bind fun RV=>bif (decide (RV≠(0:Int)))then some (.ret RV)else
 some (.next (IntKind.i64.wrap (v_1+(1:Int))))else
 some (.exit v_1)
def Cb:Sum (Int) (Int)->Option ((Int))
 |.inl v_1=>some (0:Int)
 |.inr q=>some q
def gOr (QI:(List Int)):Option (Int):=(ao (Jp QI) fuel (0:Int)).bind (Cb)
instance gOr_ok {QI : (List Int)} {r : Int} : OkC (gOr QI = some r) (PTz 206 [.one (.lst (QI.map (fun x => [AC.int .i64 x])))] (.val (.one (.int .i64 r)))) := .mk fun H => by
 unfold gOr at H;refine po_ Tryz.func206 Tryz.ntmps206 ?_;refine aY ?_;refine alM_ (fun s:Int=>match s with|v_1=>[(3,.one (.c (.int .i64 (0:Int)))),(6,.one (.c (.lst (QI.map (fun x=>[AC.int .i64 x]))))),(7,.one (.c (.int .i64 ((QI.length:Nat):Int)))),(8,.one (.c (.int .i64 v_1)))]) (fun s=>match s with|v_1=>[]) H (fun _=>aqu _)
  (fm_ bF [] rfl bn trivial) ?_
 rintro v_1 st1 OU Py;unfold Jp at OU;dsimp only at OU ⊢;rcases aj OU with⟨Qq,OU⟩|⟨Qq,OU⟩
 ·obtain⟨RV,SG,i1,R9,OU⟩:=bw (f:=(fun x=>[AC.int .i64 x])) OU
  rcases aj OU with⟨P9,OU⟩|⟨P9,OU⟩
  ·exact br OU Py
  cases OU;refine aY ?_;exact⟨_,rfl,fm_ bF [] rfl bn trivial⟩
 exact br OU Py
def sd (OV:Val)(OW:Val):Option (Int):=(He OV.kind OW.kind).bind fun O7=>(He OV.int OW.int).bind fun Qd=>(gOr [O7,Qd,(qb OV.text OW.text)]).bind fun Qp=>some Qp
instance gVCmp_ok {OV : Val} {OW : Val} {r : Int} : OkC (sd OV OW = some r) (PTz 232 [.agg (cV OV), .agg (cV OW)] (.val (.one (.int .i64 r)))) := .mk fun H => by
 unfold sd at H;refine po_ Tryz.func232 Tryz.ntmps232 ?_;obtain⟨O7,c1,H⟩:=bd_ H;replace c1:=gICmp_ok c1;obtain⟨Qd,c2,H⟩:=bd_ H;replace c2:=gICmp_ok c2;have XJ:=adQ OV.text OW.text
 try simp only[aql,aqj,aqn,aqd,aC]at XJ
 exact ay H
def iW (RB:(List Val))(R_:(List Val))(a_cmp:Val->Val->Option (Int)):(Int)->Option (Step (Int) (Int)):=fun s=>match s with
 |v_1=>bif (decide (v_1<((RB.length:Nat):Int)))then(aF RB v_1).bind fun RV=>bif (decide (((R_.length:Nat):Int)<=v_1))then some (.ret (1:Int))else
 (aF R_ v_1).bind fun P3=>(a_cmp RV P3).bind fun Qc=>bif (decide (Qc≠(0:Int)))then some (.ret Qc)else
 some (.next (IntKind.i64.wrap (v_1+(1:Int))))else
 some (.exit v_1)
def od (RB:(List Val))(R_:(List Val)):Sum (Int) (Int)->Option ((Int))
 |.inl v_1=>bif (decide (((RB.length:Nat):Int)<((R_.length:Nat):Int)))then some (-1:Int)else
 some (0:Int)
 |.inr q=>some q
def JO (RB:(List Val))(R_:(List Val))(a_cmp:Val->Val->Option (Int)):Option (Int):=(ao (iW RB R_ a_cmp) fuel (0:Int)).bind (od RB R_)
theorem afE {RB:(List Val)}{R_:(List Val)}{a_cmp:Val->Val->Option (Int)}{r:Int}{zr:FuncId}{zc:List AC}(zj:∀ (y0:Val) (y1:Val) (r:Int),a_cmp y0 y1=some r->PTz zr ([.agg (cV y0),.agg (cV y1)]++zc.map .one) (.val (.one (.int .i64 r))))(H:JO RB R_ a_cmp=some r):PTz 255 [.one (.lst (RB.map cV)),.one (.lst (R_.map cV)),.one (.fn zr zc)] (.val (.one (.int .i64 r))):=by
 unfold JO at H;refine po_ Tryz.func255 Tryz.ntmps255 ?_;refine aY ?_;refine alM_ (fun s:Int=>match s with|v_1=>[(0,.one (.c (.lst (RB.map cV)))),(1,.one (.c (.lst (R_.map cV)))),(2,.one (.c (.fn zr zc))),(11,.one (.c (.lst (RB.map cV)))),(12,.one (.c (.int .i64 ((RB.length:Nat):Int)))),(13,.one (.c (.int .i64 v_1)))]) (fun s=>match s with|v_1=>[]) H (fun _=>aqu _)
  (fm_ bF [] rfl bn trivial) ?_
 rintro v_1 st1 OU Py;unfold iW at OU;dsimp only at OU ⊢;rcases aj OU with⟨Qq,OU⟩|⟨Qq,OU⟩
 ·obtain⟨RV,SG,i1,R9,OU⟩:=bw (f:=cV) OU
  rcases aj OU with⟨P9,OU⟩|⟨P9,OU⟩
  ·exact br OU Py
  obtain⟨P3,Wq,i2,Ws,OU⟩:=bw (f:=cV) OU;obtain⟨Qc,c3,OU⟩:=bd_ OU;replace c3:=zj _ _ _ c3
  try simp only[aql,aqj,aqn,aqd,aC]at c3
  rcases aj OU with⟨SH,OU⟩|⟨SH,OU⟩
  ·exact br OU Py
  cases OU;refine aY ?_;exact⟨_,rfl,fm_ bF [_,_] rfl bn trivial⟩
 exact br OU Py
def NO (OV:(List Val))(OW:(List Val)):Option (Int):=(JO OV OW (fun x0 x1=>sd x0 x1)).bind fun O7=>some O7
instance gTCmp_ok {OV : (List Val)} {OW : (List Val)} {r : Int} : OkC (NO OV OW = some r) (PTz 240 [.one (.lst (OV.map cV)), .one (.lst (OW.map cV))] (.val (.one (.int .i64 r)))) := .mk fun H => by
 unfold NO at H;refine po_ Tryz.func240 Tryz.ntmps240 ?_;obtain⟨O7,c1,H⟩:=bd_ H;replace c1:=afE (zr:=232) (zc:=[]) (fun x0 x1 r h=>gVCmp_ok h) c1
 try simp only[aql,aqj,aqn,aqd,aC]at c1
 exact ay H
