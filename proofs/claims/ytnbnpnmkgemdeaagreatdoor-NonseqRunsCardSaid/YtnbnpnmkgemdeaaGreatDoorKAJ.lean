/- Parts. No condition. -/
import Derived.Test.YtnbnpnmkgemdeaaGreatDoorKAH
set_option maxHeartbeats 8000000
set_option maxRecDepth 100000
set_option linter.unusedSimpArgs false
set_option linter.unusedVariables false
namespace Go.Proofs.YtnbnpnmkgemdeaaGreatDoor
open Go.RowKit Go.MapKept Tryz
def nI (O7:Val)(O4:Val)(UH:Bool):Option (Int):=bif O7.kind=(0:Int)then some (1:Int)else
 bif O7.kind≠O4.kind then some (1:Int)else
 bif UH then some (2:Int)else
 some (0:Int)
theorem zQ {O7:Val}{O4:Val}{UH:Bool}{r:Int}(H:nI O7 O4 UH=some r):PTz 285 [.agg (cV O7),.agg (cV O4),.one (.bool UH)] (.val (.one (.int .i64 r))):=by
 unfold nI at H;refine po_ func285 ntmps285 ?_;obtain⟨PT,H⟩|⟨PT,H⟩:=ae H
 .cases H
  exact ao
 obtain⟨PP,H⟩|⟨PP,H⟩:=ae H
 .cases H
  exact ao
 obtain⟨PG,H⟩|⟨PG,H⟩:=ae H
 .cases H
  exact ao
 cases H;exact ao
def OC (O7:Val)(O4:Val):Option (Int):=(pU O7 O4).bind λPh=>(nI O7 O4 (decide (Ph=(0:Int)))).bind λPW=>some PW
theorem K7 {O7:Val}{O4:Val}{r:Int}(H:OC O7 O4=some r):PTz 257 [.agg (cV O7),.agg (cV O4)] (.val (.one (.int .i64 r))):=by
 unfold OC at H;refine po_ func257 ntmps257 ?_;obtain⟨Ph,c1,H⟩:=bd_ H;replace c1:=u9 c1;obtain⟨PW,c2,H⟩:=bd_ H;replace c2:=zQ c2
 cases H;exact ao
def qG (O7:Val)(O4:Val):Option (Int):=(pU O7 O4).bind λPh=>(nI O7 O4 (decide (Ph<(0:Int)))).bind λPW=>some PW
theorem qS {O7:Val}{O4:Val}{r:Int}(H:qG O7 O4=some r):PTz 258 [.agg (cV O7),.agg (cV O4)] (.val (.one (.int .i64 r))):=by
 unfold qG at H;refine po_ func258 ntmps258 ?_;obtain⟨Ph,c1,H⟩:=bd_ H;replace c1:=u9 c1;obtain⟨PW,c2,H⟩:=bd_ H;replace c2:=zQ c2
 cases H;exact ao
def lI (Ut:Int):Option (Int):=bif Ut≠(0:Int)then bif Ut≠(2:Int)then some (1:Int)else
 some Ut else
 some Ut
theorem tR {Ut:Int}{r:Int}(H:lI Ut=some r):PTz 256 [.one (.int .i64 Ut)] (.val (.one (.int .i64 r))):=by
 unfold lI at H;refine po_ func256 ntmps256 ?_;obtain⟨PT,H⟩|⟨PT,H⟩:=ae H
 .obtain⟨PP,H⟩|⟨PP,H⟩:=ae H
  .cases H
   exact ao
  cases H;exact ao
 cases H;exact ao
def BU (O7:Int):Option (Int):=(lI O7).bind λPh=>some (IntKind.i64.wrap ((2:Int)-Ph))
theorem oH {O7:Int}{r:Int}(H:BU O7=some r):PTz 250 [.one (.int .i64 O7)] (.val (.one (.int .i64 r))):=by
 unfold BU at H;refine po_ func250 ntmps250 ?_;obtain⟨Ph,c1,H⟩:=bd_ H;replace c1:=tR c1
 cases H;exact ao
def rL (O5:(List Int)):(Int×Int)->Option (Step (Int×Int) (Int)):=λs=>match s with
 |(XB,v_2)=>bif v_2<(O5.length:Int)then(al O5 v_2).bind λPK=>(lI PK).bind λPM=>some (.next ((pe XB PM),(IntKind.i64.wrap (v_2+(1:Int)))))else
 some (.exit (XB,v_2))
def vH:Sum (Int×Int) (Int)->Option ((Int))
 |.inl (XB,v_2)=>some XB
 |.inr q=>some q
def wC (O5:(List Int)):Option (Int):=(af (rL O5) fuel ((2:Int),(0:Int))).bind (vH)
theorem D4 {O5:(List Int)}{r:Int}(H:wC O5=some r):PTz 284 [.one (.lst (O5.map (λx=>[AC.int .i64 x])))] (.val (.one (.int .i64 r))):=by
 unfold wC at H;refine po_ func284 ntmps284 ?_;refine aS ?_;refine alM_ (λs:Int×Int=>match s with|(XB,v_2)=>[(3,.one (.c (.int .i64 XB))),(6,.one (.c (.lst (O5.map (λx=>[AC.int .i64 x]))))),(7,.one (.c (.int .i64 (O5.length:Int)))),(8,.one (.c (.int .i64 v_2)))]) (λs=>match s with|(XB,v_2)=>[]) H (λ_=>aia _)
  (fm_ bg [] rfl aQ trivial) ?_
 rintro⟨XB,v_2⟩ Qr OZ Po;unfold rL at OZ;dsimp only at OZ ⊢;obtain⟨PG,OZ⟩|⟨PG,OZ⟩:=ae OZ
 .obtain⟨PK,QV,i1,QI,OZ⟩:=aw (f:=(λx=>[AC.int .i64 x])) OZ
  obtain⟨PM,c2,OZ⟩:=bd_ OZ;replace c2:=tR c2
  cases OZ;refine aS ?_;exact⟨_,rfl,fm_ bg [] rfl aQ trivial⟩
 cases OZ;have O0:vH (.inl (XB,v_2))=some _:=Po;unfold vH at O0;dsimp only at O0
 cases O0;exact ao
def J1 (O7:Int)(O4:Int):Option (Int):=(wC [O7,O4]).bind λPh=>some Ph
theorem ade {O7:Int}{O4:Int}{r:Int}(H:J1 O7 O4=some r):PTz 251 [.one (.int .i64 O7),.one (.int .i64 O4)] (.val (.one (.int .i64 r))):=by
 unfold J1 at H;refine po_ func251 ntmps251 ?_;obtain⟨Ph,c1,H⟩:=bd_ H;replace c1:=D4 c1
 try simp only[ah4,ah2,ah6,ahW,ay,aD]at c1
 cases H;exact ao
def yZ (O7:Int)(O4:Int):Option (Int):=(BU O7).bind λPh=>(BU O4).bind λPW=>(wC [Ph,PW]).bind λQm=>(BU Qm).bind λQQ=>some QQ
theorem abx {O7:Int}{O4:Int}{r:Int}(H:yZ O7 O4=some r):PTz 252 [.one (.int .i64 O7),.one (.int .i64 O4)] (.val (.one (.int .i64 r))):=by
 unfold yZ at H;refine po_ func252 ntmps252 ?_;obtain⟨Ph,c1,H⟩:=bd_ H;replace c1:=oH c1;obtain⟨PW,c2,H⟩:=bd_ H;replace c2:=oH c2;obtain⟨Qm,c3,H⟩:=bd_ H;replace c3:=D4 c3
 try simp only[ah4,ah2,ah6,ahW,ay,aD]at c3
 obtain⟨QQ,c4,H⟩:=bd_ H;replace c4:=oH c4
 cases H;exact ao
def ja (P3:Val):Option (Int):=(qB true).bind λPh=>bif (cF [.c (.int .i64 P3.kind),.c (.int .i64 P3.int),.c (.str P3.text)] [.c (.int .i64 Ph.kind),.c (.int .i64 Ph.int),.c (.str Ph.text)])then some (2:Int)else
 (qB false).bind λQm=>bif (cF [.c (.int .i64 P3.kind),.c (.int .i64 P3.int),.c (.str P3.text)] [.c (.int .i64 Qm.kind),.c (.int .i64 Qm.int),.c (.str Qm.text)])then some (0:Int)else
 some (1:Int)
theorem kQ {P3:Val}{r:Int}(H:ja P3=some r):PTz 206 [.agg (cV P3)] (.val (.one (.int .i64 r))):=by
 unfold ja at H;refine po_ func206 ntmps206 ?_;obtain⟨Ph,c1,H⟩:=bd_ H;replace c1:=mY c1;obtain⟨PP,H⟩|⟨PP,H⟩:=ae H
 .cases H
  exact ao
 obtain⟨Qm,c2,H⟩:=bd_ H;replace c2:=mY c2;obtain⟨P1,H⟩|⟨P1,H⟩:=ae H
 .cases H
  exact ao
 cases H;exact ao
def u_ (Ut:Int):Option (Val):=(lI Ut).bind λPh=>bif Ph=(1:Int)then(iB ).bind λQm=>some Qm else
 (qB (decide (Ph=(2:Int)))).bind λQQ=>some QQ
theorem tY {Ut:Int}{r:Val}(H:u_ Ut=some r):PTz 214 [.one (.int .i64 Ut)] (.val (.agg (cV r))):=by
 unfold u_ at H;refine po_ func214 ntmps214 ?_;obtain⟨Ph,c1,H⟩:=bd_ H;replace c1:=tR c1;obtain⟨PP,H⟩|⟨PP,H⟩:=ae H
 .obtain⟨Qm,c2,H⟩:=bd_ H
  replace c2:=cQ c2
  cases H;exact ao
 obtain⟨QQ,c3,H⟩:=bd_ H;replace c3:=mY c3
 cases H;exact ao
