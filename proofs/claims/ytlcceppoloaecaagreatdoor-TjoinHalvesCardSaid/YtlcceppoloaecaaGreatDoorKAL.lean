/- Parts. No condition. -/
import Derived.Test.YtlcceppoloaecaaGreatDoorKAJ
set_option maxHeartbeats 8000000
set_option maxRecDepth 100000
set_option linter.unusedSimpArgs false
set_option linter.unusedVariables false
namespace Go.Proofs.YtlcceppoloaecaaGreatDoor
open Go.RowKit Go.MapKept
def o8 (OV:Val)(OW:Val)(Ti:Bool):Option (Int):=bif (decide (OV.kind=(0:Int)))then some (1:Int)else
 bif (decide (OV.kind≠OW.kind))then some (1:Int)else
 bif Ti then some (2:Int)else
 some (0:Int)
instance gDecide_ok {OV : Val} {OW : Val} {Ti : Bool} {r : Int} : OkC (o8 OV OW Ti = some r) (PTz 231 [.agg (cV OV), .agg (cV OW), .one (.bool Ti)] (.val (.one (.int .i64 r)))) := .mk fun H => by
 unfold o8 at H;refine po_ Tryz.func231 Tryz.ntmps231 ?_;exact ay H
def ae_ (OV:Val)(OW:Val):Option (Int):=(sd OV OW).bind fun O7=>(o8 OV OW (decide (O7=(0:Int)))).bind fun Qd=>some Qd
instance gEqV_ok {OV : Val} {OW : Val} {r : Int} : OkC (ae_ OV OW = some r) (PTz 188 [.agg (cV OV), .agg (cV OW)] (.val (.one (.int .i64 r)))) := .mk fun H => by
 unfold ae_ at H;refine po_ Tryz.func188 Tryz.ntmps188 ?_;exact ay H
def rT (OV:Val)(OW:Val):Option (Int):=(sd OV OW).bind fun O7=>(o8 OV OW (decide (O7<(0:Int)))).bind fun Qd=>some Qd
instance gLessV_ok {OV : Val} {OW : Val} {r : Int} : OkC (rT OV OW = some r) (PTz 189 [.agg (cV OV), .agg (cV OW)] (.val (.one (.int .i64 r)))) := .mk fun H => by
 unfold rT at H;refine po_ Tryz.func189 Tryz.ntmps189 ?_;exact ay H
def mm (SZ:Int):Option (Int):=bif (decide (SZ≠(0:Int)))then bif (decide (SZ≠(2:Int)))then some (1:Int)else
 some SZ else
 some SZ
instance gNormal_ok {SZ : Int} {r : Int} : OkC (mm SZ = some r) (PTz 187 [.one (.int .i64 SZ)] (.val (.one (.int .i64 r)))) := .mk fun H => by
 unfold mm at H;refine po_ Tryz.func187 Tryz.ntmps187 ?_;exact ay H
def FR (OV:Int):Option (Int):=(mm OV).bind fun O7=>some (IntKind.i64.wrap ((2:Int)-O7))
instance gNot_ok {OV : Int} {r : Int} : OkC (FR OV = some r) (PTz 180 [.one (.int .i64 OV)] (.val (.one (.int .i64 r)))) := .mk fun H => by
 unfold FR at H;refine po_ Tryz.func180 Tryz.ntmps180 ?_;exact ay H
def tp (a_l:(List Int)):(Int×Int)->Option (Step (Int×Int) (Int)):=fun s=>match s with
 |(W9,P6)=>bif (decide (P6<((a_l.length:Nat):Int)))then(aF a_l P6).bind fun P7=>(mm P7).bind fun P2=>some (.next ((mnI W9 P2),(IntKind.i64.wrap (P6+(1:Int)))))else
 some (.exit (W9,P6))
def adL:Sum (Int×Int) (Int)->Option ((Int))
 |.inl (W9,P6)=>some W9
 |.inr q=>some q
def xX (a_l:(List Int)):Option (Int):=(ao (tp a_l) fuel ((2:Int),(0:Int))).bind (adL)
instance gLeast_ok {a_l : (List Int)} {r : Int} : OkC (xX a_l = some r) (PTz 229 [.one (.lst (a_l.map (fun x => [AC.int .i64 x])))] (.val (.one (.int .i64 r)))) := .mk fun H => by
 unfold xX at H;refine po_ Tryz.func229 Tryz.ntmps229 ?_;refine aY ?_;refine alM_ (fun s:Int×Int=>match s with|(W9,P6)=>[(3,.one (.c (.int .i64 W9))),(6,.one (.c (.lst (a_l.map (fun x=>[AC.int .i64 x]))))),(7,.one (.c (.int .i64 ((a_l.length:Nat):Int)))),(8,.one (.c (.int .i64 P6)))]) (fun s=>match s with|(W9,P6)=>[]) H (fun _=>aqu _)
  (fm_ bF [] rfl bn trivial) ?_
 rintro⟨W9,P6⟩ st1 OU Py;unfold tp at OU;dsimp only at OU ⊢;rcases aj OU with⟨Qf,OU⟩|⟨Qf,OU⟩
 ·obtain⟨P7,SG,i1,R9,OU⟩:=bw (f:=(fun x=>[AC.int .i64 x])) OU
  obtain⟨P2,c2,OU⟩:=bd_ OU;replace c2:=gNormal_ok c2
  cases OU;refine aY ?_;exact⟨_,rfl,fm_ bF [] rfl bn trivial⟩
 exact br OU Py
def abJ (OV:Int)(OW:Int):Option (Int):=(xX [OV,OW]).bind fun O7=>some O7
instance gAnd_ok {OV : Int} {OW : Int} {r : Int} : OkC (abJ OV OW = some r) (PTz 181 [.one (.int .i64 OV), .one (.int .i64 OW)] (.val (.one (.int .i64 r)))) := .mk fun H => by
 unfold abJ at H;refine po_ Tryz.func181 Tryz.ntmps181 ?_;exact ay H
def B5 (OV:Int)(OW:Int):Option (Int):=(FR OV).bind fun O7=>(FR OW).bind fun Qd=>(xX [O7,Qd]).bind fun PT=>(FR PT).bind fun Qp=>some Qp
instance gOr3v_ok {OV : Int} {OW : Int} {r : Int} : OkC (B5 OV OW = some r) (PTz 182 [.one (.int .i64 OV), .one (.int .i64 OW)] (.val (.one (.int .i64 r)))) := .mk fun H => by
 unfold B5 at H;refine po_ Tryz.func182 Tryz.ntmps182 ?_;exact ay H
def jv (Qw:Val):Option (Int):=(qU true).bind fun O7=>bif (cg [.c (.int .i64 Qw.kind),.c (.int .i64 Qw.int),.c (.str Qw.text)] [.c (.int .i64 O7.kind),.c (.int .i64 O7.int),.c (.str O7.text)])then some (2:Int)else
 (qU false).bind fun PT=>bif (cg [.c (.int .i64 Qw.kind),.c (.int .i64 Qw.int),.c (.str Qw.text)] [.c (.int .i64 PT.kind),.c (.int .i64 PT.int),.c (.str PT.text)])then some (0:Int)else
 some (1:Int)
instance gTruthV_ok {Qw : Val} {r : Int} : OkC (jv Qw = some r) (PTz 143 [.agg (cV Qw)] (.val (.one (.int .i64 r)))) := .mk fun H => by
 unfold jv at H;refine po_ Tryz.func143 Tryz.ntmps143 ?_;exact ay H
def wb (SZ:Int):Option (Val):=(mm SZ).bind fun O7=>bif (decide (O7=(1:Int)))then(jS ).bind fun PT=>some PT else
 (qU (decide (O7=(2:Int)))).bind fun Qp=>some Qp
instance gOfV2_ok {SZ : Int} {r : Val} : OkC (wb SZ = some r) (PTz 118 [.one (.int .i64 SZ)] (.val (.agg (cV r)))) := .mk fun H => by
 unfold wb at H;refine po_ Tryz.func118 Tryz.ntmps118 ?_;exact ay H
