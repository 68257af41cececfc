/- Parts. No condition. -/
import Derived.Test.YtnbnpnmkgemdeaaGreatDoorKAQ
set_option maxHeartbeats 8000000
set_option maxRecDepth 100000
set_option linter.unusedSimpArgs false
set_option linter.unusedVariables false
namespace Go.Proofs.YtnbnpnmkgemdeaaGreatDoor
open IntKind (i64)
open Go.RowKit Go.MapKept Tryz
def cq:Option (Val):=some (⟨(0:Int),(0:Int),ByteArray.empty⟩:Val)
theorem bI {r:Val}(H:cq=some r):PTz 152 [] (.val (.agg (cV r))):=by
 unfold cq at H;refine po_ func152 ntmps152 ?_
 cases H;exact ao
def jb (S0:ByteArray):(Int)->Option (Step (Int) (Bool)):=λs=>match s with
 |i_1=>bif i_1<(S0.size:Int)then(NE S0 i_1).bind λWi=>bif (Wi.toNat:Int)<(32:Int)then some (.ret false)else
 bif (126:Int)<(Wi.toNat:Int)then some (.ret false)else
 some (.next (i64.wrap (i_1+(1:Int))))else
 some (.exit i_1)
def cM:Sum (Int) (Bool)->Option ((Bool))
 |.inl i_1=>some true
 |.inr q=>some q
def kK (S0:ByteArray):Option (Bool):=(af (jb S0) fuel (0:Int)).bind (cM)
theorem B6 {S0:ByteArray}{r:Bool}(H:kK S0=some r):PTz 103 [.one (.str S0)] (.val (.one (.bool r))):=by
 unfold kK at H;refine po_ func103 ntmps103 ?_
 repeat' (first|refine gs5_ ?_|refine b_ rfl rfl rfl rfl rfl rfl rfl ?_)
 refine alM_ (λs:Int=>match s with|i_1=>[(0,.one (.c (.str S0))),(3,.one (.c (.int .i64 i_1)))]) (λs=>match s with|i_1=>[]) H (λ_=>aia _)
  (fm_ bg [] rfl aQ trivial) ?_
 rintro i_1 Qr OZ Po;unfold jb at OZ;dsimp only at OZ ⊢;obtain⟨PP,OZ⟩|⟨PP,OZ⟩:=ae OZ
 .obtain⟨Wi,i1,OZ⟩:=bd_ OZ
  obtain⟨QV,i1⟩:=Ee i1;obtain⟨P1,OZ⟩|⟨P1,OZ⟩:=ae OZ
  .cases OZ
   have O0:cM (.inr false)=some _:=Po;unfold cM at O0;dsimp only at O0
   cases O0
   repeat' (first|refine gs5_ ?_|refine b_ rfl rfl rfl rfl rfl rfl rfl ?_)
   refine az (aE rfl ?_ ?_)
   .repeat' (first|exact t7|rfl|exact ah1 rfl|omega|apply And.intro)
   .first|rfl|(simp only[ah4,ah2,ah6,ahW]<;>rfl)
  obtain⟨Qu,OZ⟩|⟨Qu,OZ⟩:=ae OZ
  .cases OZ
   have O0:cM (.inr false)=some _:=Po;unfold cM at O0;dsimp only at O0
   cases O0
   repeat' (first|refine gs5_ ?_|refine b_ rfl rfl rfl rfl rfl rfl rfl ?_)
   refine az (aE rfl ?_ ?_)
   .repeat' (first|exact t7|rfl|exact ah1 rfl|omega|apply And.intro)
   .first|rfl|(simp only[ah4,ah2,ah6,ahW]<;>rfl)
  cases OZ
  repeat' (first|refine gs5_ ?_|refine b_ rfl rfl rfl rfl rfl rfl rfl ?_)
  exact⟨_,rfl,fm_ bg [] rfl aQ trivial⟩
 cases OZ;have O0:cM (.inl i_1)=some _:=Po;unfold cM at O0;dsimp only at O0
 cases O0
 repeat' (first|refine gs5_ ?_|refine b_ rfl rfl rfl rfl rfl rfl rfl ?_)
 refine az (aE rfl ?_ ?_)
 .repeat' (first|exact t7|rfl|exact ah1 rfl|omega|apply And.intro)
 .first|rfl|(simp only[ah4,ah2,ah6,ahW]<;>rfl)
def cJ (P3:Val):Option (Bool):=bif P3.kind=(0:Int)then bif P3.int=(0:Int)then some (P3.text.toList==(⟨#[]⟩:ByteArray).toList)else
 some false else
 bif P3.kind=(1:Int)then bif (P3.text.toList==(⟨#[]⟩:ByteArray).toList)then bif (-1125899906842624:Int)<=P3.int then some (decide (P3.int<=(1125899906842624:Int)))else
 some false else
 some false else
 bif P3.kind=(2:Int)then bif P3.int=(0:Int)then bif (P3.text.size:Int)<=(200:Int)then(kK P3.text).bind λQ4=>some Q4 else
 some false else
 some false else
 bif P3.kind=(3:Int)then bif (P3.text.toList==(⟨#[]⟩:ByteArray).toList)then bif P3.int=(0:Int)then some true else
 some (decide (P3.int=(1:Int)))else
 some false else
 some false
theorem kN {P3:Val}{r:Bool}(H:cJ P3=some r):PTz 77 [.agg (cV P3)] (.val (.one (.bool r))):=by
 unfold cJ at H;refine po_ func77 ntmps77 ?_;obtain⟨PT,H⟩|⟨PT,H⟩:=ae H
 .obtain⟨PP,H⟩|⟨PP,H⟩:=ae H
  .cases H
   exact ao
  cases H;exact ao
 obtain⟨PG,H⟩|⟨PG,H⟩:=ae H
 .obtain⟨P1,H⟩|⟨P1,H⟩:=ae H
  .obtain⟨Qu,H⟩|⟨Qu,H⟩:=ae H
   .cases H
    exact ao
   cases H;exact ao
  cases H;exact ao
 obtain⟨Qb,H⟩|⟨Qb,H⟩:=ae H
 .obtain⟨QX,H⟩|⟨QX,H⟩:=ae H
  .obtain⟨Qw,H⟩|⟨Qw,H⟩:=ae H
   .obtain⟨Q4,c1,H⟩:=bd_ H
    replace c1:=B6 c1
    cases H;exact ao
   cases H;exact ao
  cases H;exact ao
 obtain⟨P6,H⟩|⟨P6,H⟩:=ae H
 .obtain⟨Qo,H⟩|⟨Qo,H⟩:=ae H
  .obtain⟨Qj,H⟩|⟨Qj,H⟩:=ae H
   .cases H
    exact ao
   cases H;exact ao
  cases H;exact ao
 cases H;exact ao
def nQ (P3:Val):Option (Val):=(cJ P3).bind λPh=>bif Ph then some P3 else
 (cq ).bind λQm=>some Qm
theorem zR {P3:Val}{r:Val}(H:nQ P3=some r):PTz 109 [.agg (cV P3)] (.val (.agg (cV r))):=by
 unfold nQ at H;refine po_ func109 ntmps109 ?_;obtain⟨Ph,c1,H⟩:=bd_ H;replace c1:=kN c1;obtain⟨PP,H⟩|⟨PP,H⟩:=ae H
 .cases H
  exact ao
 obtain⟨Qm,c2,H⟩:=bd_ H;replace c2:=bI c2
 cases H;exact ao
def iC (QC:Int):Option (Val):=(nQ (⟨(1:Int),QC,ByteArray.empty⟩:Val)).bind λPh=>some Ph
theorem eJ {QC:Int}{r:Val}(H:iC QC=some r):PTz 82 [.one (.int .i64 QC)] (.val (.agg (cV r))):=by
 unfold iC at H;refine po_ func82 ntmps82 ?_;obtain⟨Ph,c1,H⟩:=bd_ H;replace c1:=zR c1
 cases H;exact ao
def Gv (Pg:(List Val))(UZ:Int):Option (Val):=bif UZ<(0:Int)then(cq ).bind λPW=>some PW else
 bif (Pg.length:Int)<=UZ then(cq ).bind λQQ=>some QQ else
 (al Pg UZ).bind λQG=>some QG
theorem yl {Pg:(List Val)}{UZ:Int}{r:Val}(H:Gv Pg UZ=some r):PTz 153 [.one (.lst (Pg.map cV)),.one (.int .i64 UZ)] (.val (.agg (cV r))):=by
 unfold Gv at H;refine po_ func153 ntmps153 ?_;obtain⟨PT,H⟩|⟨PT,H⟩:=ae H
 .obtain⟨PW,c1,H⟩:=bd_ H
  replace c1:=bI c1
  cases H;exact ao
 obtain⟨PG,H⟩|⟨PG,H⟩:=ae H
 .obtain⟨QQ,c2,H⟩:=bd_ H
  replace c2:=bI c2
  cases H;exact ao
 obtain⟨QG,Ud,i3,TK,H⟩:=aw (f:=cV) H
 cases H;exact ao
def em (O7:(List Val))(O4:(List Val)):Option (Bool):=(xC O7 O4).bind λPh=>some (decide (Ph=(0:Int)))
theorem li {O7:(List Val)}{O4:(List Val)}{r:Bool}(H:em O7 O4=some r):PTz 54 [.one (.lst (O7.map cV)),.one (.lst (O4.map cV))] (.val (.one (.bool r))):=by
 unfold em at H;refine po_ func54 ntmps54 ?_;obtain⟨Ph,c1,H⟩:=bd_ H;replace c1:=uD c1
 cases H;exact ao
def sV (O7:(List Val))(O4:(List Val))(TM:(List CB)):(Int)->Option (Step (Int) (Bool)):=λs=>match s with
 |i_1=>bif i_1<(TM.length:Int)then(al TM i_1).bind λRi=>(Gv O7 Ri.column).bind λQQ=>(Gv O4 Ri.column).bind λPM=>(vA QQ PM).bind λQW=>bif QW≠(0:Int)then some (.ret (!((decide (QW<(0:Int)))==Ri.desc)))else
 some (.next (i64.wrap (i_1+(1:Int))))else
 some (.exit i_1)
def gm (O7:(List Val))(O4:(List Val)):Sum (Int) (Bool)->Option ((Bool))
 |.inl i_1=>(xC O7 O4).bind λQN=>some (decide (QN<(0:Int)))
 |.inr q=>some q
def rW (O7:(List Val))(O4:(List Val))(TM:(List CB)):Option (Bool):=(af (sV O7 O4 TM) fuel (0:Int)).bind (gm O7 O4)
theorem Ac {O7:(List Val)}{O4:(List Val)}{TM:(List CB)}{r:Bool}(H:rW O7 O4 TM=some r):PTz 110 [.one (.lst (O7.map cV)),.one (.lst (O4.map cV)),.one (.lst (TM.map A_))] (.val (.one (.bool r))):=by
 unfold rW at H;refine po_ func110 ntmps110 ?_;refine aS ?_;refine alM_ (λs:Int=>match s with|i_1=>[(0,.one (.c (.lst (O7.map cV)))),(1,.one (.c (.lst (O4.map cV)))),(2,.one (.c (.lst (TM.map A_)))),(7,.one (.c (.int .i64 i_1)))]) (λs=>match s with|i_1=>[]) H (λ_=>aia _)
  (fm_ bg [] rfl aQ trivial) ?_
 rintro i_1 Qr OZ Po;unfold sV at OZ;dsimp only at OZ ⊢;obtain⟨PP,OZ⟩|⟨PP,OZ⟩:=ae OZ
 .obtain⟨Ri,QV,i1,QI,OZ⟩:=aw (f:=A_) OZ
  obtain⟨QQ,c2,OZ⟩:=bd_ OZ;replace c2:=yl c2;obtain⟨PM,c3,OZ⟩:=bd_ OZ;replace c3:=yl c3;obtain⟨QW,c4,OZ⟩:=bd_ OZ;replace c4:=qa c4;obtain⟨QX,OZ⟩|⟨QX,OZ⟩:=ae OZ
  .cases OZ
   have O0:gm O7 O4 (.inr (!((decide (QW<(0:Int)))==Ri.desc)))=some _:=Po;unfold gm at O0;dsimp only at O0
   cases O0;exact ao
  cases OZ;refine aS ?_;exact⟨_,rfl,fm_ bg [] rfl aQ trivial⟩
 cases OZ;have O0:gm O7 O4 (.inl i_1)=some _:=Po;unfold gm at O0;dsimp only at O0;obtain⟨QN,c5,O0⟩:=bd_ O0;replace c5:=uD c5
 cases O0;exact ao
def cU (O7:(List (List Val)))(O4:(List (List Val)))(TM:(List CB)):((List (List Val))×Int×Int)->Option (Step ((List (List Val))×Int×Int) ((List (List Val)))):=λs=>match s with
 |(O2,i_2,Uw)=>bif i_2<(O7.length:Int)then bif i_2=(O7.length:Int)then(al O4 Uw).bind λRf=>bif O2.length+1<=5864062014805 then(some (.next ((O2++[Rf]),i_2,(i64.wrap (Uw+(1:Int))))))else none else
 bif Uw<(O4.length:Int)then(al O4 Uw).bind λUu=>(al O7 i_2).bind λUx=>(rW Uu Ux TM).bind λPR=>bif PR then bif O2.length+1<=5864062014805 then(some (.next ((O2++[Uu]),i_2,(i64.wrap (Uw+(1:Int))))))else none else
 bif O2.length+1<=5864062014805 then(some (.next ((O2++[Ux]),(i64.wrap (i_2+(1:Int))),Uw)))else none else
 (al O7 i_2).bind λR9=>bif O2.length+1<=5864062014805 then(some (.next ((O2++[R9]),(i64.wrap (i_2+(1:Int))),Uw)))else none else
 bif Uw<(O4.length:Int)then bif i_2=(O7.length:Int)then(al O4 Uw).bind λU9=>bif O2.length+1<=5864062014805 then(some (.next ((O2++[U9]),i_2,(i64.wrap (Uw+(1:Int))))))else none else
 (al O4 Uw).bind λTA=>(al O7 i_2).bind λV5=>(rW TA V5 TM).bind λWO=>bif WO then bif O2.length+1<=5864062014805 then(some (.next ((O2++[TA]),i_2,(i64.wrap (Uw+(1:Int))))))else none else
 bif O2.length+1<=5864062014805 then(some (.next ((O2++[V5]),(i64.wrap (i_2+(1:Int))),Uw)))else none else
 some (.exit (O2,i_2,Uw))
def ov:Sum ((List (List Val))×Int×Int) ((List (List Val)))->Option (((List (List Val))))
 |.inl (O2,i_2,Uw)=>some O2
 |.inr q=>some q
def u7 (O7:(List (List Val)))(O4:(List (List Val)))(TM:(List CB)):Option ((List (List Val))):=(af (cU O7 O4 TM) fuel ([],(0:Int),(0:Int))).bind (ov)
theorem Kt {O7:(List (List Val))}{O4:(List (List Val))}{TM:(List CB)}{r:(List (List Val))}(H:u7 O7 O4 TM=some r):PTz 83 [.one (.lst (O7.map (λx=>[AC.lst (x.map cV)]))),.one (.lst (O4.map (λx=>[AC.lst (x.map cV)]))),.one (.lst (TM.map A_))] (.val (.one (.lst (r.map (λx=>[AC.lst (x.map cV)]))))):=by
 unfold u7 at H;refine po_ func83 ntmps83 ?_;refine aS ?_;refine br 7 1 rfl ?_;refine alM_ (λs:(List (List Val))×Int×Int=>match s with|(O2,i_2,Uw)=>[(0,.one (.c (.lst (O7.map (λx=>[AC.lst (x.map cV)]))))),(1,.one (.c (.lst (O4.map (λx=>[AC.lst (x.map cV)]))))),(2,.one (.c (.lst (TM.map A_)))),(7,.one (.own (O2.map (λx=>[AC.lst (x.map cV)])) 0)),(8,.one (.c (.int .i64 i_2))),(9,.one (.c (.int .i64 Uw)))]) (λs=>match s with|(O2,i_2,Uw)=>[.spare O2.length 1]) H (λ_=>aia _)
  (fm_ bg [] rfl aQ bq) ?_
 rintro⟨O2,i_2,Uw⟩ Qr OZ Po;unfold cU at OZ;dsimp only at OZ ⊢;obtain⟨P1,OZ⟩|⟨P1,OZ⟩:=ae OZ
 .obtain⟨Qu,OZ⟩|⟨Qu,OZ⟩:=ae OZ
  .obtain⟨Rf,QV,i1,QI,OZ⟩:=aw (f:=(λx=>[AC.lst (x.map cV)])) OZ
   obtain⟨g2,OZ⟩:=aq OZ
   cases OZ;refine aS ?_;exact⟨_,rfl,fm_ fO [] dU aQ bq⟩
  obtain⟨QX,OZ⟩|⟨QX,OZ⟩:=ae OZ
  .obtain⟨Uu,Ud,i3,TK,OZ⟩:=aw (f:=(λx=>[AC.lst (x.map cV)])) OZ
   obtain⟨Ux,VC,i4,U7,OZ⟩:=aw (f:=(λx=>[AC.lst (x.map cV)])) OZ;obtain⟨PR,c5,OZ⟩:=bd_ OZ;replace c5:=Ac c5;obtain⟨Qo,OZ⟩|⟨Qo,OZ⟩:=ae OZ
   .obtain⟨g6,OZ⟩:=aq OZ
    cases OZ;refine aS ?_;exact⟨_,rfl,fm_ fO [] dU aQ bq⟩
   obtain⟨g7,OZ⟩:=aq OZ
   cases OZ;refine aS ?_;exact⟨_,rfl,fm_ fO [] dU aQ bq⟩
  obtain⟨R9,i8z,i8,i8x,OZ⟩:=aw (f:=(λx=>[AC.lst (x.map cV)])) OZ;obtain⟨g9,OZ⟩:=aq OZ
  cases OZ;refine aS ?_;exact⟨_,rfl,fm_ fO [] dU aQ bq⟩
 obtain⟨P2,OZ⟩|⟨P2,OZ⟩:=ae OZ
 .obtain⟨P9,OZ⟩|⟨P9,OZ⟩:=ae OZ
  .obtain⟨U9,WP,Zl,V6,OZ⟩:=aw (f:=(λx=>[AC.lst (x.map cV)])) OZ
   obtain⟨g11,OZ⟩:=aq OZ
   cases OZ;refine aS ?_;exact⟨_,rfl,fm_ fO [] dU aQ bq⟩
  obtain⟨TA,i12z,i12,i12x,OZ⟩:=aw (f:=(λx=>[AC.lst (x.map cV)])) OZ;obtain⟨V5,i13z,i13,i13x,OZ⟩:=aw (f:=(λx=>[AC.lst (x.map cV)])) OZ;obtain⟨WO,S7,OZ⟩:=bd_ OZ;replace S7:=Ac S7;obtain⟨R8,OZ⟩|⟨R8,OZ⟩:=ae OZ
  .obtain⟨g15,OZ⟩:=aq OZ
   cases OZ;refine aS ?_;exact⟨_,rfl,fm_ fO [] dU aQ bq⟩
  obtain⟨g16,OZ⟩:=aq OZ
  cases OZ;refine aS ?_;exact⟨_,rfl,fm_ fO [] dU aQ bq⟩
 cases OZ;have O0:ov (.inl (O2,i_2,Uw))=some _:=Po;unfold ov at O0;dsimp only at O0
 cases O0;exact ao
def dH (Pg:(List Val))(O1:(List Int)):(Int)->Option (Step (Int) (Bool)):=λs=>match s with
 |i_2=>bif i_2<(Pg.length:Int)then(al Pg i_2).bind λPK=>(cJ PK).bind λPM=>bif (!PM)then some (.ret false)else
 bif PK.kind≠(0:Int)then(al O1 i_2).bind λUu=>bif PK.kind≠Uu then some (.ret false)else
 some (.next (i64.wrap (i_2+(1:Int))))else
 some (.next (i64.wrap (i_2+(1:Int))))else
 some (.exit i_2)
def fw:Sum (Int) (Bool)->Option ((Bool))
 |.inl i_2=>some true
 |.inr q=>some q
def fK (Pg:(List Val))(O1:(List Int)):Option (Bool):=bif (Pg.length:Int)≠(O1.length:Int)then some false else
 (af (dH Pg O1) fuel (0:Int)).bind (fw)
theorem Ep {Pg:(List Val)}{O1:(List Int)}{r:Bool}(H:fK Pg O1=some r):PTz 47 [.one (.lst (Pg.map cV)),.one (.lst (O1.map (λx=>[AC.int .i64 x])))] (.val (.one (.bool r))):=by
 unfold fK at H;refine po_ func47 ntmps47 ?_;obtain⟨PT,H⟩|⟨PT,H⟩:=ae H
 .cases H
  exact ao
 refine aS ?_;refine alM_ (λs:Int=>match s with|i_2=>[(0,.one (.c (.lst (Pg.map cV)))),(1,.one (.c (.lst (O1.map (λx=>[AC.int .i64 x]))))),(5,.one (.c (.int .i64 i_2)))]) (λs=>match s with|i_2=>[]) H (λ_=>aia _)
  (fm_ bg [] rfl aQ trivial) ?_
 rintro i_2 Qr OZ Po;unfold dH at OZ;dsimp only at OZ ⊢;obtain⟨PG,OZ⟩|⟨PG,OZ⟩:=ae OZ
 .obtain⟨PK,QV,i1,QI,OZ⟩:=aw (f:=cV) OZ
  obtain⟨PM,c2,OZ⟩:=bd_ OZ;replace c2:=kN c2;obtain⟨Qb,OZ⟩|⟨Qb,OZ⟩:=ae OZ
  .cases OZ
   have O0:fw (.inr false)=some _:=Po;unfold fw at O0;dsimp only at O0
   cases O0;exact ao
  obtain⟨QX,OZ⟩|⟨QX,OZ⟩:=ae OZ
  .obtain⟨Uu,Ud,i3,TK,OZ⟩:=aw (f:=(λx=>[AC.int .i64 x])) OZ
   obtain⟨Q5,OZ⟩|⟨Q5,OZ⟩:=ae OZ
   .cases OZ
    have O0:fw (.inr false)=some _:=Po;unfold fw at O0;dsimp only at O0
    cases O0;exact ao
   cases OZ;refine aS ?_;exact⟨_,rfl,fm_ bg [] rfl aQ trivial⟩
  cases OZ;refine aS ?_;exact⟨_,rfl,fm_ bg [] rfl aQ trivial⟩
 cases OZ;have O0:fw (.inl i_2)=some _:=Po;unfold fw at O0;dsimp only at O0
 cases O0;exact ao
def pM (Uy:Int):Option (Bool):=bif Uy=(1:Int)then some true else
 bif Uy=(2:Int)then some true else
 some (decide (Uy=(3:Int)))
theorem aaF {Uy:Int}{r:Bool}(H:pM Uy=some r):PTz 78 [.one (.int .i64 Uy)] (.val (.one (.bool r))):=by
 unfold pM at H;refine po_ func78 ntmps78 ?_;obtain⟨PT,H⟩|⟨PT,H⟩:=ae H
 .cases H
  exact ao
 obtain⟨PP,H⟩|⟨PP,H⟩:=ae H
 .cases H
  exact ao
 cases H;exact ao
def dK (O5:(List Int)):(Int)->Option (Step (Int) (Bool)):=λs=>match s with
 |i_1=>bif i_1<(O5.length:Int)then(al O5 i_1).bind λRi=>(pM Ri).bind λQQ=>bif (!QQ)then some (.ret false)else
 some (.next (i64.wrap (i_1+(1:Int))))else
 some (.exit i_1)
def kg:Sum (Int) (Bool)->Option ((Bool))
 |.inl i_1=>some true
 |.inr q=>some q
def kL (O5:(List Int)):Option (Bool):=(af (dK O5) fuel (0:Int)).bind (kg)
theorem wF {O5:(List Int)}{r:Bool}(H:kL O5=some r):PTz 48 [.one (.lst (O5.map (λx=>[AC.int .i64 x])))] (.val (.one (.bool r))):=by
 unfold kL at H;refine po_ func48 ntmps48 ?_;refine aS ?_;refine alM_ (λs:Int=>match s with|i_1=>[(0,.one (.c (.lst (O5.map (λx=>[AC.int .i64 x]))))),(3,.one (.c (.int .i64 i_1)))]) (λs=>match s with|i_1=>[]) H (λ_=>aia _)
  (fm_ bg [] rfl aQ trivial) ?_
 rintro i_1 Qr OZ Po;unfold dK at OZ;dsimp only at OZ ⊢;obtain⟨PP,OZ⟩|⟨PP,OZ⟩:=ae OZ
 .obtain⟨Ri,QV,i1,QI,OZ⟩:=aw (f:=(λx=>[AC.int .i64 x])) OZ
  obtain⟨QQ,c2,OZ⟩:=bd_ OZ;replace c2:=aaF c2;obtain⟨Qu,OZ⟩|⟨Qu,OZ⟩:=ae OZ
  .cases OZ
   have O0:kg (.inr false)=some _:=Po;unfold kg at O0;dsimp only at O0
   cases O0;exact ao
  cases OZ;refine aS ?_;exact⟨_,rfl,fm_ bg [] rfl aQ trivial⟩
 cases OZ;have O0:kg (.inl i_1)=some _:=Po;unfold kg at O0;dsimp only at O0
 cases O0;exact ao
def bS (O7:(List Int))(O4:(List Int)):(Int)->Option (Step (Int) (Bool)):=λs=>match s with
 |i_2=>bif i_2<(O7.length:Int)then(al O7 i_2).bind λPK=>(al O4 i_2).bind λQG=>bif PK≠QG then some (.ret false)else
 some (.next (i64.wrap (i_2+(1:Int))))else
 some (.exit i_2)
def eQ:Sum (Int) (Bool)->Option ((Bool))
 |.inl i_2=>some true
 |.inr q=>some q
def dE (O7:(List Int))(O4:(List Int)):Option (Bool):=bif (O7.length:Int)≠(O4.length:Int)then some false else
 (af (bS O7 O4) fuel (0:Int)).bind (eQ)
theorem sw {O7:(List Int)}{O4:(List Int)}{r:Bool}(H:dE O7 O4=some r):PTz 49 [.one (.lst (O7.map (λx=>[AC.int .i64 x]))),.one (.lst (O4.map (λx=>[AC.int .i64 x])))] (.val (.one (.bool r))):=by
 unfold dE at H;refine po_ func49 ntmps49 ?_;obtain⟨PT,H⟩|⟨PT,H⟩:=ae H
 .cases H
  exact ao
 refine aS ?_;refine alM_ (λs:Int=>match s with|i_2=>[(0,.one (.c (.lst (O7.map (λx=>[AC.int .i64 x]))))),(1,.one (.c (.lst (O4.map (λx=>[AC.int .i64 x]))))),(5,.one (.c (.int .i64 i_2)))]) (λs=>match s with|i_2=>[]) H (λ_=>aia _)
  (fm_ bg [] rfl aQ trivial) ?_
 rintro i_2 Qr OZ Po;unfold bS at OZ;dsimp only at OZ ⊢;obtain⟨PG,OZ⟩|⟨PG,OZ⟩:=ae OZ
 .obtain⟨PK,QV,i1,QI,OZ⟩:=aw (f:=(λx=>[AC.int .i64 x])) OZ
  obtain⟨QG,Tu,i2,SR,OZ⟩:=aw (f:=(λx=>[AC.int .i64 x])) OZ;obtain⟨Qb,OZ⟩|⟨Qb,OZ⟩:=ae OZ
  .cases OZ
   have O0:eQ (.inr false)=some _:=Po;unfold eQ at O0;dsimp only at O0
   cases O0;exact ao
  cases OZ;refine aS ?_;exact⟨_,rfl,fm_ bg [] rfl aQ trivial⟩
 cases OZ;have O0:eQ (.inl i_2)=some _:=Po;unfold eQ at O0;dsimp only at O0
 cases O0;exact ao
def fD (O7:(List (List Val)))(O4:(List (List Val))):(Int)->Option (Step (Int) (Bool)):=λs=>match s with
 |i_2=>bif i_2<(O7.length:Int)then(al O7 i_2).bind λPK=>(al O4 i_2).bind λQG=>(em PK QG).bind λQW=>bif (!QW)then some (.ret false)else
 some (.next (i64.wrap (i_2+(1:Int))))else
 some (.exit i_2)
def ip:Sum (Int) (Bool)->Option ((Bool))
 |.inl i_2=>some true
 |.inr q=>some q
def iK (O7:(List (List Val)))(O4:(List (List Val))):Option (Bool):=bif (O7.length:Int)≠(O4.length:Int)then some false else
 (af (fD O7 O4) fuel (0:Int)).bind (ip)
theorem EX {O7:(List (List Val))}{O4:(List (List Val))}{r:Bool}(H:iK O7 O4=some r):PTz 26 [.one (.lst (O7.map (λx=>[AC.lst (x.map cV)]))),.one (.lst (O4.map (λx=>[AC.lst (x.map cV)])))] (.val (.one (.bool r))):=by
 unfold iK at H;refine po_ func26 ntmps26 ?_;obtain⟨PT,H⟩|⟨PT,H⟩:=ae H
 .cases H
  exact ao
 refine aS ?_;refine alM_ (λs:Int=>match s with|i_2=>[(0,.one (.c (.lst (O7.map (λx=>[AC.lst (x.map cV)]))))),(1,.one (.c (.lst (O4.map (λx=>[AC.lst (x.map cV)]))))),(5,.one (.c (.int .i64 i_2)))]) (λs=>match s with|i_2=>[]) H (λ_=>aia _)
  (fm_ bg [] rfl aQ trivial) ?_
 rintro i_2 Qr OZ Po;unfold fD at OZ;dsimp only at OZ ⊢;obtain⟨PG,OZ⟩|⟨PG,OZ⟩:=ae OZ
 .obtain⟨PK,QV,i1,QI,OZ⟩:=aw (f:=(λx=>[AC.lst (x.map cV)])) OZ
  obtain⟨QG,Tu,i2,SR,OZ⟩:=aw (f:=(λx=>[AC.lst (x.map cV)])) OZ;obtain⟨QW,c3,OZ⟩:=bd_ OZ;replace c3:=li c3;obtain⟨QX,OZ⟩|⟨QX,OZ⟩:=ae OZ
  .cases OZ
   have O0:ip (.inr false)=some _:=Po;unfold ip at O0;dsimp only at O0
   cases O0;exact ao
  cases OZ;refine aS ?_;exact⟨_,rfl,fm_ bg [] rfl aQ trivial⟩
 cases OZ;have O0:ip (.inl i_2)=some _:=Po;unfold ip at O0;dsimp only at O0
 cases O0;exact ao
def kY (O7:aJ)(O4:aJ):Option (Bool):=(dE O7.kinds O4.kinds).bind λPh=>bif Ph then(iK O7.rows O4.rows).bind λQm=>some Qm else
 some false
theorem IB {O7:aJ}{O4:aJ}{r:Bool}(H:kY O7 O4=some r):PTz 21 [.agg (bn O7),.agg (bn O4)] (.val (.one (.bool r))):=by
 unfold kY at H;refine po_ func21 ntmps21 ?_;obtain⟨Ph,c1,H⟩:=bd_ H;replace c1:=sw c1;obtain⟨PP,H⟩|⟨PP,H⟩:=ae H
 .obtain⟨Qm,c2,H⟩:=bd_ H
  replace c2:=EX c2
  cases H;exact ao
 cases H;exact ao
