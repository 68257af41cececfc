/- Parts. No condition. -/
import Derived.Test.YtlcceppoloaecaaGreatDoorKAH
set_option maxHeartbeats 8000000
set_option maxRecDepth 100000
set_option linter.unusedSimpArgs false
set_option linter.unusedVariables false
namespace Go.Proofs.YtlcceppoloaecaaGreatDoor
open Go.RowKit Go.MapKept
def pH (OX:Val)(OY:Val)(TQ:Bool):Option (Int):=bif OX.kind=(0:Int)then some (1:Int)else
 bif OX.kind≠OY.kind then some (1:Int)else
 bif TQ then some (2:Int)else
 some (0:Int)
instance gDecide_ok {OX : Val} {OY : Val} {TQ : Bool} {r : Int} : OkC (pH OX OY TQ = some r) (PTz 231 [.agg (cV OX), .agg (cV OY), .one (.bool TQ)] (.val (.one (.int .i64 r)))) := .mk λH => by
 unfold pH at H;refine po_ Tryz.func231 Tryz.ntmps231 ?_;exact ay H
def agB (OX:Val)(OY:Val):Option (Int):=(uv OX OY).bind λO7=>(pH OX OY (decide (O7=(0:Int)))).bind λQd=>some Qd
instance gEqV_ok {OX : Val} {OY : Val} {r : Int} : OkC (agB OX OY = some r) (PTz 188 [.agg (cV OX), .agg (cV OY)] (.val (.one (.int .i64 r)))) := .mk λH => by
 unfold agB at H;refine po_ Tryz.func188 Tryz.ntmps188 ?_;exact ay H
def sJ (OX:Val)(OY:Val):Option (Int):=(uv OX OY).bind λO7=>(pH OX OY (decide (O7<(0:Int)))).bind λQd=>some Qd
instance gLessV_ok {OX : Val} {OY : Val} {r : Int} : OkC (sJ OX OY = some r) (PTz 189 [.agg (cV OX), .agg (cV OY)] (.val (.one (.int .i64 r)))) := .mk λH => by
 unfold sJ at H;refine po_ Tryz.func189 Tryz.ntmps189 ?_;exact ay H
def mE (Qc:Int):Option (Int):=bif Qc≠(0:Int)then bif Qc≠(2:Int)then some (1:Int)else
 some Qc else
 some Qc
instance gNormal_ok {Qc : Int} {r : Int} : OkC (mE Qc = some r) (PTz 187 [.one (.int .i64 Qc)] (.val (.one (.int .i64 r)))) := .mk λH => by
 unfold mE at H;refine po_ Tryz.func187 Tryz.ntmps187 ?_;exact ay H
def JD (OX:Int):Option (Int):=(mE OX).bind λO7=>some (IntKind.i64.wrap ((2:Int)-O7))
instance gNot_ok {OX : Int} {r : Int} : OkC (JD OX = some r) (PTz 180 [.one (.int .i64 OX)] (.val (.one (.int .i64 r)))) := .mk λH => by
 unfold JD at H;refine po_ Tryz.func180 Tryz.ntmps180 ?_;exact ay H
def rL (OZ:(List Int)):(Int×Int)->Option (Step (Int×Int) (Int)):=λs=>match s with
 |(XA,Qi)=>bif Qi<(OZ.length:Int)then(aF OZ Qi).bind λPK=>(mE PK).bind λPW=>some (.next ((mnI XA PW),(IntKind.i64.wrap (Qi+(1:Int)))))else
 some (.exit (XA,Qi))
def abb:Sum (Int×Int) (Int)->Option ((Int))
 |.inl (XA,Qi)=>some XA
 |.inr q=>some q
def Ap (OZ:(List Int)):Option (Int):=(ao (rL OZ) fuel ((2:Int),(0:Int))).bind (abb)
instance gLeast_ok {OZ : (List Int)} {r : Int} : OkC (Ap OZ = some r) (PTz 229 [.one (.lst (OZ.map (λx => [AC.int .i64 x])))] (.val (.one (.int .i64 r)))) := .mk λH => by
 unfold Ap at H;refine po_ Tryz.func229 Tryz.ntmps229 ?_;refine a6 ?_;refine alM_ (λs:Int×Int=>match s with|(XA,Qi)=>[(3,.one (.c (.int .i64 XA))),(6,.one (.c (.lst (OZ.map (λx=>[AC.int .i64 x]))))),(7,.one (.c (.int .i64 (OZ.length:Int)))),(8,.one (.c (.int .i64 Qi)))]) (λs=>match s with|(XA,Qi)=>[]) H (λ_=>aqL _)
  (fm_ bE [] rfl bm trivial) ?_
 rintro⟨XA,Qi⟩ QF OU Pz;unfold rL at OU;dsimp only at OU ⊢;obtain⟨P9,OU⟩|⟨P9,OU⟩:=aj OU
 ·obtain⟨PK,Rw,i1,Ri,OU⟩:=br (f:=(λx=>[AC.int .i64 x])) OU
  obtain⟨PW,c2,OU⟩:=bd_ OU;replace c2:=gNormal_ok c2
  cases OU;refine a6 ?_;exact⟨_,rfl,fm_ bE [] rfl bm trivial⟩
 exact bA OU Pz
def aei (OX:Int)(OY:Int):Option (Int):=(Ap [OX,OY]).bind λO7=>some O7
instance gAnd_ok {OX : Int} {OY : Int} {r : Int} : OkC (aei OX OY = some r) (PTz 181 [.one (.int .i64 OX), .one (.int .i64 OY)] (.val (.one (.int .i64 r)))) := .mk λH => by
 unfold aei at H;refine po_ Tryz.func181 Tryz.ntmps181 ?_;exact ay H
def FX (OX:Int)(OY:Int):Option (Int):=(JD OX).bind λO7=>(JD OY).bind λQd=>(Ap [O7,Qd]).bind λPY=>(JD PY).bind λQm=>some Qm
instance gOr3v_ok {OX : Int} {OY : Int} {r : Int} : OkC (FX OX OY = some r) (PTz 182 [.one (.int .i64 OX), .one (.int .i64 OY)] (.val (.one (.int .i64 r)))) := .mk λH => by
 unfold FX at H;refine po_ Tryz.func182 Tryz.ntmps182 ?_;exact ay H
def jL (QR:Val):Option (Int):=(sW true).bind λO7=>bif (cl [.c (.int .i64 QR.kind),.c (.int .i64 QR.int),.c (.str QR.text)] [.c (.int .i64 O7.kind),.c (.int .i64 O7.int),.c (.str O7.text)])then some (2:Int)else
 (sW false).bind λPY=>bif (cl [.c (.int .i64 QR.kind),.c (.int .i64 QR.int),.c (.str QR.text)] [.c (.int .i64 PY.kind),.c (.int .i64 PY.int),.c (.str PY.text)])then some (0:Int)else
 some (1:Int)
instance gTruthV_ok {QR : Val} {r : Int} : OkC (jL QR = some r) (PTz 143 [.agg (cV QR)] (.val (.one (.int .i64 r)))) := .mk λH => by
 unfold jL at H;refine po_ Tryz.func143 Tryz.ntmps143 ?_;exact ay H
def x7 (Qc:Int):Option (Val):=(mE Qc).bind λO7=>bif O7=(1:Int)then(j9 ).bind λPY=>some PY else
 (sW (decide (O7=(2:Int)))).bind λQm=>some Qm
instance gOfV2_ok {Qc : Int} {r : Val} : OkC (x7 Qc = some r) (PTz 118 [.one (.int .i64 Qc)] (.val (.agg (cV r)))) := .mk λH => by
 unfold x7 at H;refine po_ Tryz.func118 Tryz.ntmps118 ?_;exact ay H
