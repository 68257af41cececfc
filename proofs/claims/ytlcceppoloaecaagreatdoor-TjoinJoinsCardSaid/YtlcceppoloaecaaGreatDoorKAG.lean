/- Parts. No condition. -/
import Derived.Test.YtlcceppoloaecaaGreatDoorKAF
set_option maxHeartbeats 8000000
set_option maxRecDepth 100000
set_option linter.unusedSimpArgs false
set_option linter.unusedVariables false
namespace Go.Proofs.YtlcceppoloaecaaGreatDoor
open Go.RowKit Go.MapKept
def iw (x y:Int):Int:=if x<y then -1 else if y<x then 1 else 0
def uD (v w:Val):Int:=if iw v.kind w.kind≠0 then iw v.kind w.kind else if iw v.int w.int≠0 then iw v.int w.int else rp v.text w.text
def bL:List Val->List Val->Int
 |[],[]=>0
 |[],_::_ => -1
 |_::_,[]=>1
 |a::xs,b::ys=>if uD a b≠0 then uD a b else bL xs ys
def ce (l:List Val):AC := .lst (l.map cV)
def amz (l:List Int):AC := .lst (l.map λx=>[.int .i64 x])
theorem Hg (a b:ByteArray):PTz 273 [.one (.str a),.one (.str b)] (.val (.one (.int .i64 (rp a b)))):=by
 refine pa_ am Tryz.func273 rfl rfl Tryz.ntmps273 m5 ?_;simp only[argT,PV.av,aqB,aqF]
 repeat' (first|(refine b9 rfl rfl rfl rfl rfl (yU rfl rfl Tryz.func292 k7 k7 k7 k7) ?_)|refine gw_ am tabS_ok ?_|refine gi_ (λhb=>?_) (λhb=>?_)|fail)
 exact⟨.inr rfl,bg rfl (by repeat' (first|exact t7|rfl|exact aqA rfl|omega|apply And.intro)) rfl⟩
theorem N8 (a b:ByteArray):PTz 249 [.one (.str a),.one (.str b)] (.val (.one (.int .i64 (rp a b)))):=by
 have c:=Hg a b;refine po_ Tryz.func249 Tryz.ntmps249 ?_;exact LI
def E_ (a_x:Int):Option (Bool):=some (decide (a_x≠a_x))
instance gIsNaN_ok {a_x : Int} {r : Bool} : OkC (E_ a_x = some r) (PTz 82 [.one (.int .i64 a_x)] (.val (.one (.bool r)))) := .mk λH => by
 unfold E_ at H;refine po_ Tryz.func82 Tryz.ntmps82 ?_;exact ay H
def I4 (a_x:Int)(Y1:Int):Option (Int):=(E_ a_x).bind λO7=>(E_ Y1).bind λQd=>bif O7 then bif Qd then some (0:Int)else
 some (-1:Int)else
 bif Qd then some (1:Int)else
 bif a_x<Y1 then some (-1:Int)else
 bif Y1<a_x then some (1:Int)else
 some (0:Int)
instance gICmp_ok {a_x : Int} {Y1 : Int} {r : Int} : OkC (I4 a_x Y1 = some r) (PTz 41 [.one (.int .i64 a_x), .one (.int .i64 Y1)] (.val (.one (.int .i64 r)))) := .mk λH => by
 unfold I4 at H;refine po_ Tryz.func41 Tryz.ntmps41 ?_;exact ay H
def Ln (Q0:(List Int)):(Int)->Option (Step (Int) (Int)):=λs=>match s with
 |v_1=>bif v_1<(Q0.length:Int)then(aF Q0 v_1).bind λRD=>bif RD≠(0:Int)then some (.ret RD)else
 some (.next (IntKind.i64.wrap (v_1+(1:Int))))else
 some (.exit v_1)
def DX:Sum (Int) (Int)->Option ((Int))
 |.inl v_1=>some (0:Int)
 |.inr q=>some q
def gOr (Q0:(List Int)):Option (Int):=(ao (Ln Q0) fuel (0:Int)).bind (DX)
instance gOr_ok {Q0 : (List Int)} {r : Int} : OkC (gOr Q0 = some r) (PTz 206 [.one (.lst (Q0.map (λx => [AC.int .i64 x])))] (.val (.one (.int .i64 r)))) := .mk λH => by
 unfold gOr at H;refine po_ Tryz.func206 Tryz.ntmps206 ?_;refine a6 ?_;refine alM_ (λs:Int=>match s with|v_1=>[(3,.one (.c (.int .i64 (0:Int)))),(6,.one (.c (.lst (Q0.map (λx=>[AC.int .i64 x]))))),(7,.one (.c (.int .i64 (Q0.length:Int)))),(8,.one (.c (.int .i64 v_1)))]) (λs=>match s with|v_1=>[]) H (λ_=>aqL _)
  (fm_ bE [] rfl bm trivial) ?_
 rintro v_1 QF OU Pz;unfold Ln at OU;dsimp only at OU ⊢;obtain⟨Qr,OU⟩|⟨Qr,OU⟩:=aj OU
 ·obtain⟨RD,Rw,i1,Ri,OU⟩:=br (f:=(λx=>[AC.int .i64 x])) OU
  obtain⟨Qf,OU⟩|⟨Qf,OU⟩:=aj OU
  ·exact bA OU Pz
  cases OU;refine a6 ?_;exact⟨_,rfl,fm_ bE [] rfl bm trivial⟩
 exact bA OU Pz
def uv (OX:Val)(OY:Val):Option (Int):=(I4 OX.kind OY.kind).bind λO7=>(I4 OX.int OY.int).bind λQd=>(gOr [O7,Qd,(rp OX.text OY.text)]).bind λQm=>some Qm
instance gVCmp_ok {OX : Val} {OY : Val} {r : Int} : OkC (uv OX OY = some r) (PTz 232 [.agg (cV OX), .agg (cV OY)] (.val (.one (.int .i64 r)))) := .mk λH => by
 unfold uv at H;refine po_ Tryz.func232 Tryz.ntmps232 ?_;obtain⟨O7,c1,H⟩:=bd_ H;replace c1:=gICmp_ok c1;obtain⟨Qd,c2,H⟩:=bd_ H;replace c2:=gICmp_ok c2;have UA:=N8 OX.text OY.text
 try simp only[aqD,aqB,aqF,aqv,aC]at UA
 exact ay H
def jm (R9:(List Val))(SR:(List Val))(a_cmp:Val->Val->Option (Int)):(Int)->Option (Step (Int) (Int)):=λs=>match s with
 |v_1=>bif v_1<(R9.length:Int)then(aF R9 v_1).bind λRD=>bif (SR.length:Int)<=v_1 then some (.ret (1:Int))else
 (aF SR v_1).bind λQa=>(a_cmp RD Qa).bind λP1=>bif P1≠(0:Int)then some (.ret P1)else
 some (.next (IntKind.i64.wrap (v_1+(1:Int))))else
 some (.exit v_1)
def nw (R9:(List Val))(SR:(List Val)):Sum (Int) (Int)->Option ((Int))
 |.inl v_1=>bif (R9.length:Int)<(SR.length:Int)then some (-1:Int)else
 some (0:Int)
 |.inr q=>some q
def IA (R9:(List Val))(SR:(List Val))(a_cmp:Val->Val->Option (Int)):Option (Int):=(ao (jm R9 SR a_cmp) fuel (0:Int)).bind (nw R9 SR)
theorem NI {R9:(List Val)}{SR:(List Val)}{a_cmp:Val->Val->Option (Int)}{r:Int}{zr:FuncId}{zc:List AC}(zj:∀ (y0:Val) (y1:Val) (r:Int),a_cmp y0 y1=some r->PTz zr ([.agg (cV y0),.agg (cV y1)]++zc.map .one) (.val (.one (.int .i64 r))))(H:IA R9 SR a_cmp=some r):PTz 255 [.one (.lst (R9.map cV)),.one (.lst (SR.map cV)),.one (.fn zr zc)] (.val (.one (.int .i64 r))):=by
 unfold IA at H;refine po_ Tryz.func255 Tryz.ntmps255 ?_;refine a6 ?_;refine alM_ (λs:Int=>match s with|v_1=>[(0,.one (.c (.lst (R9.map cV)))),(1,.one (.c (.lst (SR.map cV)))),(2,.one (.c (.fn zr zc))),(11,.one (.c (.lst (R9.map cV)))),(12,.one (.c (.int .i64 (R9.length:Int)))),(13,.one (.c (.int .i64 v_1)))]) (λs=>match s with|v_1=>[]) H (λ_=>aqL _)
  (fm_ bE [] rfl bm trivial) ?_
 rintro v_1 QF OU Pz;unfold jm at OU;dsimp only at OU ⊢;obtain⟨Qr,OU⟩|⟨Qr,OU⟩:=aj OU
 ·obtain⟨RD,Rw,i1,Ri,OU⟩:=br (f:=cV) OU
  obtain⟨Qf,OU⟩|⟨Qf,OU⟩:=aj OU
  ·exact bA OU Pz
  obtain⟨Qa,U0,i2,U2,OU⟩:=br (f:=cV) OU;obtain⟨P1,c3,OU⟩:=bd_ OU;replace c3:=zj _ _ _ c3
  try simp only[aqD,aqB,aqF,aqv,aC]at c3
  obtain⟨R_,OU⟩|⟨R_,OU⟩:=aj OU
  ·exact bA OU Pz
  cases OU;refine a6 ?_;exact⟨_,rfl,fm_ bE [_,_] rfl bm trivial⟩
 exact bA OU Pz
def aaX (OX:(List Val))(OY:(List Val)):Option (Int):=(IA OX OY (λx0 x1=>uv x0 x1)).bind λO7=>some O7
instance gTCmp_ok {OX : (List Val)} {OY : (List Val)} {r : Int} : OkC (aaX OX OY = some r) (PTz 240 [.one (.lst (OX.map cV)), .one (.lst (OY.map cV))] (.val (.one (.int .i64 r)))) := .mk λH => by
 unfold aaX at H;refine po_ Tryz.func240 Tryz.ntmps240 ?_;obtain⟨O7,c1,H⟩:=bd_ H;replace c1:=NI (zr:=232) (zc:=[]) (λx0 x1 r h=>gVCmp_ok h) c1
 try simp only[aqD,aqB,aqF,aqv,aC]at c1
 exact ay H
