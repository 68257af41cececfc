/- Parts. No condition. -/
import Derived.Test.YtnbnpnmkgemdeaaGreatDoorKAF
set_option maxHeartbeats 8000000
set_option maxRecDepth 100000
set_option linter.unusedSimpArgs false
set_option linter.unusedVariables false
namespace Go.Proofs.YtnbnpnmkgemdeaaGreatDoor
open Go.RowKit Go.MapKept Tryz
def gq (x y:Int):Int:=if x<y then -1 else if y<x then 1 else 0
def jl (v w:Val):Int:=if gq v.kind w.kind≠0 then gq v.kind w.kind else if gq v.int w.int≠0 then gq v.int w.int else pd v.text w.text
def aX:List Val->List Val->Int
 |[],[]=>0
 |[],_::_ => -1
 |_::_,[]=>1
 |a::xs,b::ys=>if jl a b≠0 then jl a b else aX xs ys
def bD (l:List Val):AC := .lst (l.map cV)
def be (l:List Int):AC := .lst (l.map λx=>[.int .i64 x])
theorem Oy (a b:ByteArray):PTz 151 [.one (.str a),.one (.str b)] (.val (.one (.int .i64 (pd a b)))):=(wd adQ 8).1 _ _ _ k7
def zP (a_x:Int):Option (Bool):=some (decide (a_x≠a_x))
theorem C_ {a_x:Int}{r:Bool}(H:zP a_x=some r):PTz 144 [.one (.int .i64 a_x)] (.val (.one (.bool r))):=by
 unfold zP at H;refine po_ func144 ntmps144 ?_
 cases H;exact ao
def DJ (a_x:Int)(Zj:Int):Option (Int):=(zP a_x).bind λPh=>(zP Zj).bind λPW=>bif Ph then bif PW then some (0:Int)else
 some (-1:Int)else
 bif PW then some (1:Int)else
 bif a_x<Zj then some (-1:Int)else
 bif Zj<a_x then some (1:Int)else
 some (0:Int)
theorem GT {a_x:Int}{Zj:Int}{r:Int}(H:DJ a_x Zj=some r):PTz 101 [.one (.int .i64 a_x),.one (.int .i64 Zj)] (.val (.one (.int .i64 r))):=by
 unfold DJ at H;refine po_ func101 ntmps101 ?_;obtain⟨Ph,c1,H⟩:=bd_ H;replace c1:=C_ c1;obtain⟨PW,c2,H⟩:=bd_ H;replace c2:=C_ c2;obtain⟨PG,H⟩|⟨PG,H⟩:=ae H
 .obtain⟨P1,H⟩|⟨P1,H⟩:=ae H
  .cases H
   exact ao
  cases H;exact ao
 obtain⟨Qu,H⟩|⟨Qu,H⟩:=ae H
 .cases H
  exact ao
 obtain⟨Qb,H⟩|⟨Qb,H⟩:=ae H
 .cases H
  exact ao
 obtain⟨QX,H⟩|⟨QX,H⟩:=ae H
 .cases H
  exact ao
 cases H;exact ao
def F4 (RH:(List Int)):(Int)->Option (Step (Int) (Int)):=λs=>match s with
 |v_1=>bif v_1<(RH.length:Int)then(al RH v_1).bind λRi=>bif Ri≠(0:Int)then some (.ret Ri)else
 some (.next (IntKind.i64.wrap (v_1+(1:Int))))else
 some (.exit v_1)
def oJ:Sum (Int) (Int)->Option ((Int))
 |.inl v_1=>some (0:Int)
 |.inr q=>some q
def gOr (RH:(List Int)):Option (Int):=(af (F4 RH) fuel (0:Int)).bind (oJ)
theorem ael {RH:(List Int)}{r:Int}(H:gOr RH=some r):PTz 100 [.one (.lst (RH.map (λx=>[AC.int .i64 x])))] (.val (.one (.int .i64 r))):=by
 unfold gOr at H;refine po_ func100 ntmps100 ?_;refine aS ?_;refine alM_ (λs:Int=>match s with|v_1=>[(3,.one (.c (.int .i64 (0:Int)))),(6,.one (.c (.lst (RH.map (λx=>[AC.int .i64 x]))))),(7,.one (.c (.int .i64 (RH.length:Int)))),(8,.one (.c (.int .i64 v_1)))]) (λs=>match s with|v_1=>[]) H (λ_=>aia _)
  (fm_ bg [] rfl aQ trivial) ?_
 rintro v_1 Qr OZ Po;unfold F4 at OZ;dsimp only at OZ ⊢;obtain⟨PP,OZ⟩|⟨PP,OZ⟩:=ae OZ
 .obtain⟨Ri,QV,i1,QI,OZ⟩:=aw (f:=(λx=>[AC.int .i64 x])) OZ
  obtain⟨P1,OZ⟩|⟨P1,OZ⟩:=ae OZ
  .cases OZ
   have O0:oJ (.inr Ri)=some _:=Po;unfold oJ at O0;dsimp only at O0
   cases O0;exact ao
  cases OZ;refine aS ?_;exact⟨_,rfl,fm_ bg [] rfl aQ trivial⟩
 cases OZ;have O0:oJ (.inl v_1)=some _:=Po;unfold oJ at O0;dsimp only at O0
 cases O0;exact ao
def pU (O7:Val)(O4:Val):Option (Int):=(DJ O7.kind O4.kind).bind λPh=>(DJ O7.int O4.int).bind λPW=>(gOr [Ph,PW,(pd O7.text O4.text)]).bind λQQ=>some QQ
theorem u9 {O7:Val}{O4:Val}{r:Int}(H:pU O7 O4=some r):PTz 108 [.agg (cV O7),.agg (cV O4)] (.val (.one (.int .i64 r))):=by
 unfold pU at H;refine po_ func108 ntmps108 ?_;obtain⟨Ph,c1,H⟩:=bd_ H;replace c1:=GT c1;obtain⟨PW,c2,H⟩:=bd_ H;replace c2:=GT c2;have YH:=Oy O7.text O4.text
 try simp only[ah4,ah2,ah6,ahW,ay,aD]at YH
 obtain⟨QQ,c3,H⟩:=bd_ H;replace c3:=ael c3
 try simp only[ah4,ah2,ah6,ahW,ay,aD]at c3
 cases H;exact ao
def iJ (R7:(List Val))(SQ:(List Val))(a_cmp:Val->Val->Option (Int)):(Int)->Option (Step (Int) (Int)):=λs=>match s with
 |v_1=>bif v_1<(R7.length:Int)then(al R7 v_1).bind λRi=>bif (SQ.length:Int)<=v_1 then some (.ret (1:Int))else
 (al SQ v_1).bind λQG=>(a_cmp Ri QG).bind λQW=>bif QW≠(0:Int)then some (.ret QW)else
 some (.next (IntKind.i64.wrap (v_1+(1:Int))))else
 some (.exit v_1)
def dO (R7:(List Val))(SQ:(List Val)):Sum (Int) (Int)->Option ((Int))
 |.inl v_1=>bif (R7.length:Int)<(SQ.length:Int)then some (-1:Int)else
 some (0:Int)
 |.inr q=>some q
def F_ (R7:(List Val))(SQ:(List Val))(a_cmp:Val->Val->Option (Int)):Option (Int):=(af (iJ R7 SQ a_cmp) fuel (0:Int)).bind (dO R7 SQ)
theorem Nj {R7:(List Val)}{SQ:(List Val)}{a_cmp:Val->Val->Option (Int)}{r:Int}{zr:FuncId}{zc:List AC}(zj:∀ (y0:Val) (y1:Val) (r:Int),a_cmp y0 y1=some r->PTz zr ([.agg (cV y0),.agg (cV y1)]++zc.map .one) (.val (.one (.int .i64 r))))(H:F_ R7 SQ a_cmp=some r):PTz 107 [.one (.lst (R7.map cV)),.one (.lst (SQ.map cV)),.one (.fn zr zc)] (.val (.one (.int .i64 r))):=by
 unfold F_ at H;refine po_ func107 ntmps107 ?_;refine aS ?_;refine alM_ (λs:Int=>match s with|v_1=>[(0,.one (.c (.lst (R7.map cV)))),(1,.one (.c (.lst (SQ.map cV)))),(2,.one (.c (.fn zr zc))),(11,.one (.c (.lst (R7.map cV)))),(12,.one (.c (.int .i64 (R7.length:Int)))),(13,.one (.c (.int .i64 v_1)))]) (λs=>match s with|v_1=>[]) H (λ_=>aia _)
  (fm_ bg [] rfl aQ trivial) ?_
 rintro v_1 Qr OZ Po;unfold iJ at OZ;dsimp only at OZ ⊢;obtain⟨PP,OZ⟩|⟨PP,OZ⟩:=ae OZ
 .obtain⟨Ri,QV,i1,QI,OZ⟩:=aw (f:=cV) OZ
  obtain⟨P1,OZ⟩|⟨P1,OZ⟩:=ae OZ
  .cases OZ
   have O0:dO R7 SQ (.inr (1:Int))=some _:=Po;unfold dO at O0;dsimp only at O0
   cases O0;exact ao
  obtain⟨QG,Tu,i2,SR,OZ⟩:=aw (f:=cV) OZ;obtain⟨QW,c3,OZ⟩:=bd_ OZ;replace c3:=zj _ _ _ c3
  try simp only[ah4,ah2,ah6,ahW,ay,aD]at c3
  obtain⟨QX,OZ⟩|⟨QX,OZ⟩:=ae OZ
  .cases OZ
   have O0:dO R7 SQ (.inr QW)=some _:=Po;unfold dO at O0;dsimp only at O0
   cases O0;exact ao
  cases OZ;refine aS ?_;exact⟨_,rfl,fm_ bg [_,_] rfl aQ trivial⟩
 cases OZ;have O0:dO R7 SQ (.inl v_1)=some _:=Po;unfold dO at O0;dsimp only at O0;obtain⟨Qw,O0⟩|⟨Qw,O0⟩:=ae O0
 .cases O0
  exact ao
 cases O0;exact ao
def z_ (O7:(List Val))(O4:(List Val)):Option (Int):=(F_ O7 O4 (λx0 x1=>pU x0 x1)).bind λPh=>some Ph
theorem abF {O7:(List Val)}{O4:(List Val)}{r:Int}(H:z_ O7 O4=some r):PTz 81 [.one (.lst (O7.map cV)),.one (.lst (O4.map cV))] (.val (.one (.int .i64 r))):=by
 unfold z_ at H;refine po_ func81 ntmps81 ?_;obtain⟨Ph,c1,H⟩:=bd_ H;replace c1:=Nj (zr:=108) (zc:=[]) (λx0 x1 r h=>u9 h) c1
 try simp only[ah4,ah2,ah6,ahW,ay,aD]at c1
 cases H;exact ao
