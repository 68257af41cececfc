/- Parts. No condition. -/
import Derived.Test.YtlcceppoloaecaaGreatDoorKBQ
set_option maxHeartbeats 8000000
set_option maxRecDepth 100000
set_option linter.unusedSimpArgs false
set_option linter.unusedVariables false
namespace Go.Proofs.YtlcceppoloaecaaGreatDoor
open _root_.List (replicate)
open _root_.ByteArray (empty)
open IntKind (i64)
open Go.RowKit Go.MapKept
noncomputable section
def rH (OX:bj)(P5:Int)(P1:(List ax)):((List ap)×Int)->Option (Step ((List ap)×Int) (bj)):=λs=>match s with
 |(Px,SE)=>bif SE<(P1.length:Int)then(aF P1 SE).bind λRq=>(aF OX.facts P5).bind λRG=>bif Px.length+1<=3518437208883 then(some (.next ((Px++[(⟨RG.row,Rq⟩:ap)]),(i64.wrap (SE+(1:Int))))))else none else
 some (.exit (Px,SE))
def aaK (P5:Int):Sum ((List ap)×Int) (bj)->Option (Step ((List ap)×Int) (bj))
 |.inl (Px,SE)=>some (.next (Px,(i64.wrap (P5+(1:Int)))))
 |.inr q=>some (.ret q)
def jj (OX:bj)(O7:(List (List ax))):((List ap)×Int)->Option (Step ((List ap)×Int) (bj)):=λs=>match s with
 |(O8,P5)=>bif P5<(O7.length:Int)then(aF O7 P5).bind λQa=>(wV Qa).bind λP1=>(ao (rH OX P5 P1) fuel (O8,(0:Int))).bind (aaK P5)else
 some (.exit (O8,P5))
def aaC (OX:bj):Sum ((List ap)×Int) (bj)->Option ((bj))
 |.inl (O8,P5)=>(yf OX.kinds O8).bind λPM=>some PM
 |.inr q=>some q
def qw (OX:bj)(OY:bj)(OW:Ex):Option (bj):=(ad5 OX OY OW).bind λO7=>(ao (jj OX O7) fuel ([],(0:Int))).bind (aaC OX)
instance gSemiT_ok {OX : bj} {OY : bj} {OW : Ex} {r : bj} : OkC (qw OX OY OW = some r) (PTz 22 [.agg (aW OX), .agg (aW OY), .agg (tE OW)] (.val (.agg (aW r)))) := .mk λH => by
 unfold qw at H;rw[aC OW];refine po_ Tryz.func22 Tryz.ntmps22 ?_;obtain⟨O7,c1,H⟩:=bd_ H;replace c1:=afc c1
 try simp only[aqD,aqB,aqF,aqv,aC]at c1
 refine a6 ?_;refine bS 7 3 rfl ?_;refine alM_ (λs:(List ap)×Int=>match s with|(O8,P5)=>[(3,.one (.ptr 0 0)),(6,.one (.ptr 3 0)),(7,.one (.own (O8.map aH) 4)),(15,.one (.c (.lst (O7.map (λx=>[AC.lst (x.map aP)]))))),(16,.one (.c (.int .i64 (O7.length:Int)))),(17,.one (.c (.int .i64 P5)))]) (λs=>match s with|(O8,P5)=>[.box [.c (.lst (OX.kinds.map (λx=>[AC.int .i64 x]))),.c (.lst (OX.facts.map aH))],.box [.c (.lst (OY.kinds.map (λx=>[AC.int .i64 x]))),.c (.lst (OY.facts.map aH))],.box [.c (.int .i64 OW.op),.c (.int .i64 OW.int),.c (.int .i64 OW.v.kind),.c (.int .i64 OW.v.int),.c (.str OW.v.text),.c (.str OW.nm),.c (.lst (OW.args.map tE))],.box [.emp,.emp],.spare O8.length 3]) H (λ_=>aqL _)
  (fm_ bE [] rfl bm cm) ?_
 rintro⟨O8,P5⟩ st3 Py R3;unfold jj at Py;dsimp only at Py ⊢;obtain⟨Qf,Py⟩|⟨Qf,Py⟩:=aj Py
 ·obtain⟨Qa,U0,i2,U2,Py⟩:=br (f:=(λx=>[AC.lst (x.map aP)])) Py
  obtain⟨P1,c3,Py⟩:=bd_ Py;replace c3:=MI c3;refine a6 ?_;refine alM_ (λs:(List ap)×Int=>match s with|(Px,SE)=>[(3,.one (.ptr 0 0)),(6,.one (.ptr 3 0)),(7,.one (.own (Px.map aH) 4)),(8,.one (.c (.int .i64 P5))),(15,.one (.c (.lst (O7.map (λx=>[AC.lst (x.map aP)]))))),(16,.one (.c (.int .i64 (O7.length:Int)))),(17,.one (.c (.int .i64 P5))),(23,.one (.c (.lst (P1.map aP)))),(24,.one (.c (.int .i64 (P1.length:Int)))),(25,.one (.c (.int .i64 SE)))]) (λs=>match s with|(Px,SE)=>[.box [.c (.lst (OX.kinds.map (λx=>[AC.int .i64 x]))),.c (.lst (OX.facts.map aH))],.box [.c (.lst (OY.kinds.map (λx=>[AC.int .i64 x]))),.c (.lst (OY.facts.map aH))],.box [.c (.int .i64 OW.op),.c (.int .i64 OW.int),.c (.int .i64 OW.v.kind),.c (.int .i64 OW.v.int),.c (.str OW.v.text),.c (.str OW.nm),.c (.lst (OW.args.map tE))],.box [.emp,.emp],.spare Px.length 3]) Py (λ_=>aqL _)
   (fm_ bE [] rfl bm cm) ?_
  rintro⟨Px,SE⟩ st4 O4 hk4;unfold rH at O4;dsimp only at O4 ⊢;obtain⟨S8,O4⟩|⟨S8,O4⟩:=aj O4
  ·obtain⟨Rq,Yg,i4,WX,O4⟩:=br (f:=aP) O4
   obtain⟨RG,i5z,i5,i5x,O4⟩:=br (f:=aH) O4;obtain⟨g6,O4⟩:=aL O4
   cases O4;refine a6 ?_;exact⟨_,rfl,fm_ sg [_] qG bm cm⟩
  exact bA O4 hk4
 exact bA Py R3
def qW (OX:bj)(P5:Int)(Qa:(List ax)):((List ap)×Int)->Option (Step ((List ap)×Int) (bj)):=λs=>match s with
 |(Qj,Xk)=>bif Xk<(Qa.length:Int)then(aF Qa Xk).bind λUK=>(aF OX.facts P5).bind λRq=>bif Qj.length+1<=3518437208883 then(some (.next ((Qj++[(⟨Rq.row,UK⟩:ap)]),(i64.wrap (Xk+(1:Int))))))else none else
 some (.exit (Qj,Xk))
def aaL (P5:Int):Sum ((List ap)×Int) (bj)->Option (Step ((List ap)×Int) (bj))
 |.inl (Qj,Xk)=>some (.next (Qj,(i64.wrap (P5+(1:Int)))))
 |.inr q=>some (.ret q)
def jf (OX:bj)(O7:(List (List ax))):((List ap)×Int)->Option (Step ((List ap)×Int) (bj)):=λs=>match s with
 |(O8,P5)=>bif P5<(O7.length:Int)then(aF O7 P5).bind λQa=>(ao (qW OX P5 Qa) fuel (O8,(0:Int))).bind (aaL P5)else
 some (.exit (O8,P5))
def Om (OX:bj):Sum ((List ap)×Int) (bj)->Option ((bj))
 |.inl (O8,P5)=>(yf OX.kinds O8).bind λQu=>some Qu
 |.inr q=>some q
def qu (OX:bj)(OY:bj)(OW:Ex):Option (bj):=(afi OX OY OW).bind λO7=>(ao (jf OX O7) fuel ([],(0:Int))).bind (Om OX)
instance gAntiT_ok {OX : bj} {OY : bj} {OW : Ex} {r : bj} : OkC (qu OX OY OW = some r) (PTz 24 [.agg (aW OX), .agg (aW OY), .agg (tE OW)] (.val (.agg (aW r)))) := .mk λH => by
 unfold qu at H;rw[aC OW];refine po_ Tryz.func24 Tryz.ntmps24 ?_;obtain⟨O7,c1,H⟩:=bd_ H;replace c1:=ae_ c1
 try simp only[aqD,aqB,aqF,aqv,aC]at c1
 refine a6 ?_;refine bS 7 3 rfl ?_;refine alM_ (λs:(List ap)×Int=>match s with|(O8,P5)=>[(3,.one (.ptr 0 0)),(6,.one (.ptr 3 0)),(7,.one (.own (O8.map aH) 4)),(15,.one (.c (.lst (O7.map (λx=>[AC.lst (x.map aP)]))))),(16,.one (.c (.int .i64 (O7.length:Int)))),(17,.one (.c (.int .i64 P5)))]) (λs=>match s with|(O8,P5)=>[.box [.c (.lst (OX.kinds.map (λx=>[AC.int .i64 x]))),.c (.lst (OX.facts.map aH))],.box [.c (.lst (OY.kinds.map (λx=>[AC.int .i64 x]))),.c (.lst (OY.facts.map aH))],.box [.c (.int .i64 OW.op),.c (.int .i64 OW.int),.c (.int .i64 OW.v.kind),.c (.int .i64 OW.v.int),.c (.str OW.v.text),.c (.str OW.nm),.c (.lst (OW.args.map tE))],.box [.emp,.emp],.spare O8.length 3]) H (λ_=>aqL _)
  (fm_ bE [] rfl bm cm) ?_
 rintro⟨O8,P5⟩ st3 Py R3;unfold jf at Py;dsimp only at Py ⊢;obtain⟨Qf,Py⟩|⟨Qf,Py⟩:=aj Py
 ·obtain⟨Qa,U0,i2,U2,Py⟩:=br (f:=(λx=>[AC.lst (x.map aP)])) Py
  refine a6 ?_;refine alM_ (λs:(List ap)×Int=>match s with|(Qj,Xk)=>[(3,.one (.ptr 0 0)),(6,.one (.ptr 3 0)),(7,.one (.own (Qj.map aH) 4)),(8,.one (.c (.int .i64 P5))),(15,.one (.c (.lst (O7.map (λx=>[AC.lst (x.map aP)]))))),(16,.one (.c (.int .i64 (O7.length:Int)))),(17,.one (.c (.int .i64 P5))),(22,.one (.c (.lst (Qa.map aP)))),(23,.one (.c (.int .i64 (Qa.length:Int)))),(24,.one (.c (.int .i64 Xk)))]) (λs=>match s with|(Qj,Xk)=>[.box [.c (.lst (OX.kinds.map (λx=>[AC.int .i64 x]))),.c (.lst (OX.facts.map aH))],.box [.c (.lst (OY.kinds.map (λx=>[AC.int .i64 x]))),.c (.lst (OY.facts.map aH))],.box [.c (.int .i64 OW.op),.c (.int .i64 OW.int),.c (.int .i64 OW.v.kind),.c (.int .i64 OW.v.int),.c (.str OW.v.text),.c (.str OW.nm),.c (.lst (OW.args.map tE))],.box [.emp,.emp],.spare Qj.length 3]) Py (λ_=>aqL _)
   (fm_ bE [] rfl bm cm) ?_
  rintro⟨Qj,Xk⟩ st4 O4 hk4;unfold qW at O4;dsimp only at O4 ⊢;obtain⟨Si,O4⟩|⟨Si,O4⟩:=aj O4
  ·obtain⟨UK,Y2,i3,XB,O4⟩:=br (f:=aP) O4
   obtain⟨Rq,Yg,i4,WX,O4⟩:=br (f:=aH) O4;obtain⟨g5,O4⟩:=aL O4
   cases O4;refine a6 ?_;exact⟨_,rfl,fm_ sg [_] qG bm cm⟩
  exact bA O4 hk4
 exact bA Py R3
end
noncomputable section
def gp (OX:(List Val))(OY:(List Val)):Option ((List Val)):=bif OX.length<=4398046511104 then(bif OX.length+OY.length<=4398046511104 then(some (OX++OY))else none)else none
instance gConcatR_ok {OX : (List Val)} {OY : (List Val)} {r : (List Val)} : OkC (gp OX OY = some r) (PTz 30 [.one (.lst (OX.map cV)), .one (.lst (OY.map cV))] (.val (.one (.lst (r.map cV))))) := .mk λH => by
 unfold gp at H;refine po_ Tryz.func30 Tryz.ntmps30 ?_;exact ay H
def iP (PI:Int):((List Val)×Int)->Option (Step ((List Val)×Int) ((List Val))):=λs=>match s with
 |(OV,i_2)=>bif i_2<PI then bif PI<=(4096:Int)then(dt ).bind λPW=>bif OV.length+1<=4398046511104 then(some (.next ((OV++[PW]),(i64.wrap (i_2+(1:Int))))))else none else
 some (.exit (OV,i_2))else
 some (.exit (OV,i_2))
def Ko:Sum ((List Val)×Int) ((List Val))->Option (((List Val)))
 |.inl (OV,i_2)=>some OV
 |.inr q=>some q
def pn (PI:Int):Option ((List Val)):=(ao (iP PI) fuel ([],(0:Int))).bind (Ko)
instance gNullsR_ok {PI : Int} {r : (List Val)} : OkC (pn PI = some r) (PTz 31 [.one (.int .i64 PI)] (.val (.one (.lst (r.map cV))))) := .mk λH => by
 unfold pn at H;refine po_ Tryz.func31 Tryz.ntmps31 ?_;refine a6 ?_;refine bS 3 3 rfl ?_;refine alM_ (λs:(List Val)×Int=>match s with|(OV,i_2)=>[(0,.one (.c (.int .i64 PI))),(3,.one (.own (OV.map cV) 0)),(4,.one (.c (.int .i64 i_2)))]) (λs=>match s with|(OV,i_2)=>[.spare OV.length 3]) H (λ_=>aqL _)
  (fm_ bE [] rfl bm cm) ?_
 rintro⟨OV,i_2⟩ QF OU Pz;exact bA OU Pz
def mR (OX:bj)(OY:bj):Option ((List Int)):=bif OX.kinds.length<=17592186044416 then(bif OX.kinds.length+OY.kinds.length<=17592186044416 then(some (OX.kinds++OY.kinds))else none)else none
instance gBoth24_ok {OX : bj} {OY : bj} {r : (List Int)} : OkC (mR OX OY = some r) (PTz 55 [.agg (aW OX), .agg (aW OY)] (.val (.one (.lst (r.map (λx => [AC.int .i64 x])))))) := .mk λH => by
 unfold mR at H;refine po_ Tryz.func55 Tryz.ntmps55 ?_;exact ay H
def qX (OX:bj)(OY:bj):Option ((List Int)):=(mR OX OY).bind λO7=>some O7
instance gKinds24_ok {OX : bj} {OY : bj} {r : (List Int)} : OkC (qX OX OY = some r) (PTz 50 [.agg (aW OX), .agg (aW OY)] (.val (.one (.lst (r.map (λx => [AC.int .i64 x])))))) := .mk λH => by
 unfold qX at H;refine po_ Tryz.func50 Tryz.ntmps50 ?_;exact ay H
def iD (OX:bj)(OY:bj)(OW:Ex):Option (Bool):=bif (12:Int)<(OX.facts.length:Int)then some false else
 bif (12:Int)<(OY.facts.length:Int)then some false else
 bif (48:Int)<(OX.kinds.length:Int)then some false else
 bif (48:Int)<(OY.kinds.length:Int)then some false else
 bif (48:Int)<(i64.wrap ((OX.kinds.length:Int)+(OY.kinds.length:Int)))then some false else
 (wy OX).bind λP1=>bif P1 then(wy OY).bind λQJ=>bif QJ then(Eu [OW] (200:Int)).bind λP7=>bif P7 then(qX OX OY).bind λPM=>(uh OW PM).bind λQv=>some (decide (Qv=(0:Int)))else
 some false else
 some false else
 some false
instance gJoins24_ok {OX : bj} {OY : bj} {OW : Ex} {r : Bool} : OkC (iD OX OY OW = some r) (PTz 16 [.agg (aW OX), .agg (aW OY), .agg (tE OW)] (.val (.one (.bool r)))) := .mk λH => by
 unfold iD at H;rw[aC OW];refine po_ Tryz.func16 Tryz.ntmps16 ?_;exact ay H
end
structure EC (a b:bj)(e:Ex):Prop where
 A:aa2 a
 B:aa2 b
 la:a.facts.length<=12
 lb:b.facts.length<=12
 ka:0<a.kinds.length
 kb:0<b.kinds.length
 kab:a.kinds.length+b.kinds.length<=48
 he:il fuel e
 chk:uh e (a.kinds++b.kinds)=some 0
theorem zD (r:bj):∀ (n:Nat) (i:Int) (q:Bool),ao (fb r) n i=some (.inr q)->q=false
 |0,i,q,h=>by cases h
 |n+1,i,q,h=>by
  rw[ao]at h
  cases hb:fb r i with
  |none=>rw[hb]at h;cases h
  |some s =>
   rw[hb]at h
   cases s with
   |next j=>exact zD r n j q h
   |exit j=>cases h
   |ret q' =>
    obtain rfl:q'=q:=by injection h with h;injection h
    unfold fb at hb;dsimp only at hb
    cases h1:decide (i<(r.facts.length:Int))with
    |false=>rw[h1]at hb;cases hb
    |true =>
     rw[h1,aqs]at hb;obtain⟨x,_,hb⟩:=bd_ hb;obtain⟨v,_,hb⟩:=bd_ hb
     cases v with
     |false=>cases hb;rfl
     |true =>
      obtain⟨w,_,hb⟩:=bd_ hb
      cases w with
      |false=>cases hb;rfl
      |true=>cases hb
theorem zS {r:bj}(h:wy r=some true):0<r.kinds.length:=by
 unfold wy at h;obtain⟨s,h1,h2⟩:=bd_ h
 cases s with
 |inr q =>
  have:=zD r fuel 0 q h1;subst this
  cases h2
 |inl i =>
  unfold nk at h2;dsimp only at h2;by_cases hk:0<r.kinds.length
  ·exact hk
  ·rw[aqt (show ¬ (0:Int)<(r.kinds.length:Int)by omega)]at h2;cases h2
theorem F_ {a b:bj}(h:a.kinds.length+b.kinds.length<=1000000):qX a b=some (a.kinds++b.kinds):=by
 unfold qX mR;rw[aqu (show a.kinds.length<=17592186044416 by omega),aqu (show a.kinds.length+b.kinds.length<=17592186044416 by omega)];rfl
theorem hY (a b:bj)(e:Ex):∃ c,iD a b e=some c/\(c=true->EC a b e):=by
 unfold iD;by_cases h1:¬ (a.facts.length<=12)
 ·rw[aqu (show(12:Int)<(a.facts.length:Int)by omega)];exact⟨false,rfl,λh=>by cases h⟩
 have h1:=Decidable.not_not.1 h1;rw[aqt (show ¬ (12:Int)<(a.facts.length:Int)by omega),aqr];by_cases h2:¬ (b.facts.length<=12)
 ·rw[aqu (show(12:Int)<(b.facts.length:Int)by omega)];exact⟨false,rfl,λh=>by cases h⟩
 have h2:=Decidable.not_not.1 h2;rw[aqt (show ¬ (12:Int)<(b.facts.length:Int)by omega),aqr];by_cases h3:¬ (a.kinds.length<=48)
 ·rw[aqu (show(48:Int)<(a.kinds.length:Int)by omega)];exact⟨false,rfl,λh=>by cases h⟩
 have h3:=Decidable.not_not.1 h3;rw[aqt (show ¬ (48:Int)<(a.kinds.length:Int)by omega),aqr];by_cases h4:¬ (b.kinds.length<=48)
 ·rw[aqu (show(48:Int)<(b.kinds.length:Int)by omega)];exact⟨false,rfl,λh=>by cases h⟩
 have h4:=Decidable.not_not.1 h4;rw[aqt (show ¬ (48:Int)<(b.kinds.length:Int)by omega),aqr,show i64.wrap ((a.kinds.length:Int)+(b.kinds.length:Int))=(a.kinds.length:Int)+(b.kinds.length:Int)from aZ rfl m0];by_cases h5:¬ (a.kinds.length+b.kinds.length<=48)
 ·rw[aqu (show(48:Int)<(a.kinds.length:Int)+(b.kinds.length:Int)by omega)];exact⟨false,rfl,λh=>by cases h⟩
 have h5:=Decidable.not_not.1 h5;rw[aqt (show ¬ (48:Int)<(a.kinds.length:Int)+(b.kinds.length:Int)by omega),aqr];obtain⟨u,hu,UQ⟩:=zg (r:=a) m0 h3;obtain⟨v,hv,Uj⟩:=zg (r:=b) m0 h4;rw[hu,aqo]
 cases u with
 |false=>exact⟨false,rfl,λh=>by cases h⟩
 |true =>
  rw[aqs,hv,aqo]
  cases v with
  |false=>exact⟨false,rfl,λh=>by cases h⟩
  |true =>
   obtain⟨w,hw,ZE⟩:=Ov [e];rw[aqs,hw,aqo]
   cases w with
   |false=>exact⟨false,rfl,λh=>by cases h⟩
   |true =>
    have he:=On ((ZE rfl).2 e m5);obtain⟨n,hn⟩:=KP (a.kinds++b.kinds) he;rw[aqs,F_ m0,aqo,hn,aqo];refine⟨_,rfl,λh=>?_⟩;have h0:=aqT h;subst h0;exact⟨⟨m0,h3,(UQ rfl).1,(UQ rfl).2.1,(UQ rfl).2.2⟩,⟨m0,h4,(Uj rfl).1,(Uj rfl).2.1,(Uj rfl).2.2⟩,h1,h2,zS hu,zS hv,h5,he,hn⟩
section
variable {a b:bj} {e:Ex}
theorem EC.part (h:EC a b e):zI a b e:=by
 have:=h.ka;have:=h.kb;have:=h.kab;have:=h.lb;exact⟨h.la,m0,λf hf=>by rw[h.A.row f hf];omega,λf hf=>by rw[h.B.row f hf];omega,h.A.per,h.he,m0,m0⟩
theorem EC.left (h:EC a b e):aga a b e:=⟨h.part,⟨h.kb,h.B.kinds⟩,h.lb⟩
theorem anp:VOK bK:=⟨⟨by show(-9223372036854775808:Int)<=0;omega,by show(0:Int)<=9223372036854775807;omega⟩,⟨by show(-9223372036854775808:Int)<=0;omega,by show(0:Int)<=9223372036854775807;omega⟩,aqL _⟩
theorem f9 (h:EC a b e):bz (uB e a.facts b.facts):=by
 refine⟨by have:=po e h.la h.lb;omega,λf hf=>?_⟩;obtain⟨x,hx,y,hy,hr⟩:=ah9 hf;have h1:=h.A.fcts.2 x hx;have h2:=h.B.fcts.2 y hy;have:=h.A.row x hx;have:=h.B.row y hy;have:=h.kab;rw[hr];refine⟨by rw[aqy];omega,λv hv=>?_⟩;obtain hv|hv:=aqS.1 hv
 ·exact h1.2 v hv
 ·exact h2.2 v hv
theorem t8 (h:EC a b e){n:Nat}(hn:n<=48):bz (lT e n a.facts b.facts):=by
 refine⟨by have:=pM e n h.la h.lb h.A.per;omega,λf hf=>?_⟩;obtain⟨x,hx,hr⟩:=ack hf;have h1:=h.A.fcts.2 x hx;have:=h.A.row x hx;have:=h.kab;rw[hr];refine⟨by rw[aqy,List.length_replicate];omega,λv hv=>?_⟩;obtain hv|hv:=aqS.1 hv
 ·exact h1.2 v hv
 ·rw[List.eq_of_mem_replicate hv];exact anp
theorem AK (h:EC a b e):bz (seL e a.facts b.facts):=by
 refine⟨by have:=H9 e h.la h.lb h.A.per;omega,λf hf=>?_⟩;obtain⟨x,hx,hr⟩:=ais hf;rw[hr];exact h.A.fcts.2 x hx
theorem lq (h:EC a b e):bz (uB e a.facts b.facts++lT e b.kinds.length a.facts b.facts):=by
 have h1:=f9 h;have h2:=t8 (n:=b.kinds.length) h h.B.kinds;refine⟨?_,λf hf=>(aqS.1 hf).elim (h1.2 f) (h2.2 f)⟩;have:=po e h.la h.lb;have:=pM e b.kinds.length h.la h.lb h.A.per;rw[aqy];omega
theorem IV (h:EC a b e):bz (canon (uB e a.facts b.facts)++lT e b.kinds.length a.facts b.facts):=by
 have h1:=bH (f9 h);have h2:=t8 (n:=b.kinds.length) h h.B.kinds;refine⟨?_,λf hf=>(aqS.1 hf).elim (h1.2 f) (h2.2 f)⟩;have:=po e h.la h.lb;have:=pM e b.kinds.length h.la h.lb h.A.per;have:=jk (f9 h).1;rw[aqy];omega
theorem MX (h:EC a b e):canon (canon (uB e a.facts b.facts)++lT e b.kinds.length a.facts b.facts)=canon (uB e a.facts b.facts++lT e b.kinds.length a.facts b.facts):=by
 refine rX (IV h).1 (lq h).1 λt=>?_
 rw[cR,cR];exact List.Perm.append_right _ (jF (f9 h).1 t)
theorem qK (h:EC a b e):nQ a b e=some ⟨a.kinds++b.kinds,canon (uB e a.facts b.facts)⟩:=by
 unfold nQ;rw[if_pos h.part,kw (f9 h)];rfl
theorem rO (h:EC a b e):o7 a b e=some ⟨a.kinds++b.kinds,canon (uB e a.facts b.facts++lT e b.kinds.length a.facts b.facts)⟩:=by
 unfold o7;rw[if_pos h.left,kw (f9 h),aqo,if_pos (by have:=jk (f9 h).1;have:=po e h.la h.lb;omega),kw (IV h),MX h];rfl
theorem KD {k:List Int}{l:List ap}(hk:k.length<=1000000)(h:bz l):yf k l=some ⟨k,canon l⟩:=by
 unfold yf;rw[aqu m0,aqs,kw h];rfl
theorem JM {l:List ax}{row:List Val}{body:(List ap×Int)->Option (Step (List ap×Int) bj)}(h1:∀ (s:List ap) (i:Nat) p,l[i]?=some p->s.length+1<=3518437208883->body (s,(i:Int))=some (.next (s++[⟨row,p⟩],((i+1:Nat):Int))))(h2:∀ s,body (s,(l.length:Int))=some (.exit (s,(l.length:Int))))(hl:l.length<=1000000)(s:List ap)(hs:s.length<=1000000):ao body fuel (s,(0:Int))=some (.inl (s++bQ row l,(l.length:Int))):=by
 have hfm:l.flatMap (λp=>[(⟨row,p⟩:ap)])=bQ row l:=by
  unfold bQ;clear h1 h2 hl;induction l with|nil=>rfl|cons p l ih=>rw[aq3,ih];rfl
 have hfl:(bQ row l).length=l.length:=by unfold bQ;rw[aqC]
 rw[cn (l:=l) (λp=>[(⟨row,p⟩:ap)]) 3518437208883 (λs i p hp hs=>h1 s i p hp hs) h2 (by unfold fuel;omega) s (by rw[hfm,hfl];omega),hfm]
theorem wG (h:EC a b e):qw a b e=some ⟨a.kinds,canon (seL e a.facts b.facts)⟩:=by
 unfold qw ad5;rw[if_pos h.part,aqo];have hap:(a.facts.map (dm (cT e) b.facts)).length=a.facts.length:=aqC ..;have key:∀ (n i:Nat) (s:List ap),i<=a.facts.length->a.facts.length-i<n->s.length+100*(a.facts.length-i)<=100000->ao (jj a (a.facts.map (dm (cT e) b.facts))) n (s,(i:Int))=some (.inl (s++seL e (a.facts.drop i) b.facts,(a.facts.length:Int))):=by
  intro n
  induction n with
  |zero=>intro i s _ hn _;omega
  |succ n ih =>
   intro i s hi hn hs;rw[ao];by_cases O0:i<a.facts.length
   ·obtain⟨x,hx⟩:=gol_ O0
    have Vo:=aqw hx;have hd:a.facts.drop i=x::a.facts.drop (i+1):=by rw[aqW O0,(aqp.1 hx).2]
    have Uo:=Dh (cT e) b.facts x;have VP:=H5 (c:=cT e) (b:=b.facts) (h.A.per x Vo);have TB:=h.lb;have YL:=h.la;have Rx:(a.facts.map (dm (cT e) b.facts))[i]?=some (dm (cT e) b.facts x):=by rw[aqN,hx];rfl
    have hspan:wV (dm (cT e) b.facts x)=some (Hv (cT e) b.facts x):=by
     unfold wV;rw[aqu m0,aqs,aiO (h.A.per x Vo)]
    have hb:jj a (a.facts.map (dm (cT e) b.facts)) (s,(i:Int))=some (.next (s++seX e b.facts x,((i+1:Nat):Int))):=by
     unfold jj;dsimp only;rw[aO Rx,aqs,gn_ Rx,aqo,hspan,aqo,JM (l:=Hv (cT e) b.facts x) (row:=x.row) ?_ ?_ m0 s m0,aqo]
     ·show some (Step.next (_,i64.wrap ((i:Int)+1)))=_
      rw[wrapN m0];rfl
     ·intro s j p hp hs
      unfold rH;dsimp only;have hj:=(aqp.1 hp).1;rw[aO hp,aqs,gn_ hp,aqo,gn_ hx,aqo,aqu hs,aqs,wrapN m0]
     ·intro s
      unfold rH;dsimp only;rw[lF_];rfl
    rw[hb];show ao _ n (s++seX e b.facts x,((i+1:Nat):Int))=_;have hsx:(seX e b.facts x).length=(Hv (cT e) b.facts x).length:=by unfold seX bQ;rw[aqC]
    rw[ih (i+1) _ m0 m0 (by rw[aqy,hsx];omega),hd,aqR];rfl
   ·have:i=a.facts.length:=m0
    subst this;have hb:jj a (a.facts.map (dm (cT e) b.facts)) (s,(a.facts.length:Int))=some (.exit (s,(a.facts.length:Int))):=by
     unfold jj;dsimp only;rw[hap,lF_];rfl
    rw[hb,arn];show some (Sum.inl (s,_))=some (Sum.inl (s++[],_));rw[aqZ]
 have YL:=h.la;have:=key fuel 0 [] (aqL _) (by unfold fuel;omega) m8;rw[List.drop_zero,aqv]at this;rw[show((0:Int))=((0:Nat):Int)from rfl,this,aqo];show(yf a.kinds (seL e a.facts b.facts)).bind _=_;rw[KD (by have:=h.A.kinds;omega) (AK h)];rfl
theorem aco (x:List Val):x++replicate 0 bK=x:=by simp
theorem xM (h:EC a b e):qu a b e=some ⟨a.kinds,canon (lT e 0 a.facts b.facts)⟩:=by
 unfold qu afi;rw[if_pos h.part,aqo];have hap:(a.facts.map (hU (cT e) b.facts)).length=a.facts.length:=aqC ..;have key:∀ (n i:Nat) (s:List ap),i<=a.facts.length->a.facts.length-i<n->s.length+100*(a.facts.length-i)<=100000->ao (jf a (a.facts.map (hU (cT e) b.facts))) n (s,(i:Int))=some (.inl (s++lT e 0 (a.facts.drop i) b.facts,(a.facts.length:Int))):=by
  intro n
  induction n with
  |zero=>intro i s _ hn _;omega
  |succ n ih =>
   intro i s hi hn hs;rw[ao];by_cases O0:i<a.facts.length
   ·obtain⟨x,hx⟩:=gol_ O0
    have Vo:=aqw hx;have hd:a.facts.drop i=x::a.facts.drop (i+1):=by rw[aqW O0,(aqp.1 hx).2]
    have VP:=Br (c:=cT e) (b:=b.facts) (h.A.per x Vo);have TB:=h.lb;have YL:=h.la;have Rx:(a.facts.map (hU (cT e) b.facts))[i]?=some (hU (cT e) b.facts x):=by rw[aqN,hx];rfl
    have hb:jf a (a.facts.map (hU (cT e) b.facts)) (s,(i:Int))=some (.next (s++alX e 0 b.facts x,((i+1:Nat):Int))):=by
     unfold jf;dsimp only;rw[aO Rx,aqs,gn_ Rx,aqo,JM (l:=hU (cT e) b.facts x) (row:=x.row) ?_ ?_ m0 s m0,aqo]
     ·show some (Step.next (_,i64.wrap ((i:Int)+1)))=_
      rw[wrapN m0];unfold alX;rw[aco]
     ·intro s j p hp hs
      unfold qW;dsimp only;have hj:=(aqp.1 hp).1;rw[aO hp,aqs,gn_ hp,aqo,gn_ hx,aqo,aqu hs,aqs,wrapN m0]
     ·intro s
      unfold qW;dsimp only;rw[lF_];rfl
    rw[hb];show ao _ n (s++alX e 0 b.facts x,((i+1:Nat):Int))=_;have hsx:(alX e 0 b.facts x).length=(hU (cT e) b.facts x).length:=by unfold alX bQ;rw[aqC]
    rw[ih (i+1) _ m0 m0 (by rw[aqy,hsx];omega),hd,aqR];rfl
   ·have:i=a.facts.length:=m0
    subst this;have hb:jf a (a.facts.map (hU (cT e) b.facts)) (s,(a.facts.length:Int))=some (.exit (s,(a.facts.length:Int))):=by
     unfold jf;dsimp only;rw[hap,lF_];rfl
    rw[hb,arn];show some (Sum.inl (s,_))=some (Sum.inl (s++[],_));rw[aqZ]
 have YL:=h.la;have:=key fuel 0 [] (aqL _) (by unfold fuel;omega) m8;rw[List.drop_zero,aqv]at this;rw[show((0:Int))=((0:Nat):Int)from rfl,this,aqo];show(yf a.kinds (lT e 0 a.facts b.facts)).bind _=_;rw[KD (by have:=h.A.kinds;omega) (t8 h m0)];rfl
end
theorem gR {x y:List Val}(h1:x.length+y.length<=1000000):gp x y=some (x++y):=by
 unfold gp;rw[aqu (show x.length<=4398046511104 by omega),aqu (show x.length+y.length<=4398046511104 by omega)];rfl
theorem uc {n:Nat}(h1:n<=48):pn ((n:Nat):Int)=some (replicate n bK):=by
 have key:∀ (m i:Nat),i<=n->n-i<m->ao (iP ((n:Nat):Int)) m (replicate i bK,(i:Int))=some (.inl (replicate n bK,((n:Nat):Int))):=by
  intro m
  induction m with
  |zero=>intro i _ h;omega
  |succ m ih =>
   intro i hi hn;rw[ao];by_cases O0:i<n
   ·have hb:iP ((n:Nat):Int) (replicate i bK,(i:Int))=some (.next (replicate (i+1) bK,((i+1:Nat):Int))):=by
     unfold iP;dsimp only;rw[aqu (show(i:Int)<((n:Nat):Int)by omega),aqs,aqu (show((n:Nat):Int)<=4096 by omega),aqs,bT,aqo,List.length_replicate,aqu (show i+1<=4398046511104 by omega),aqs,wrapN m0,List.replicate_succ']
    rw[hb];exact ih (i+1) m0 m0
   ·have:i=n:=m0
    subst this;have hb:iP ((i:Nat):Int) (replicate i bK,(i:Int))=some (.exit (replicate i bK,(i:Int))):=by
     unfold iP;dsimp only;rw[aqt (show ¬ ((i:Int)<((i:Nat):Int))by omega),aqr]
    rw[hb]
 unfold pn;have:=key fuel 0 (aqL _) (by unfold fuel;omega);rw[show(replicate 0 bK,((0:Nat):Int))=(([],(0:Int)):List Val×Int)from rfl]at this;rw[this];rfl
noncomputable section
def xn (PD:Int)(Pe:ax)(PN:ax):Option (Bool):=(ag6 Pe PN).bind λO7=>bif O7.2 then some (decide (O7.1=PD))else
 some false
instance gHoldsP_ok {PD : Int} {Pe : ax} {PN : ax} {r : Bool} : OkC (xn PD Pe PN = some r) (PTz 45 [.one (.int .i64 PD), .agg (aP Pe), .agg (aP PN)] (.val (.one (.bool r)))) := .mk λH => by
 unfold xn at H;refine po_ Tryz.func45 Tryz.ntmps45 ?_;exact ay H
def ny (OY:(List ap))(PD:Int)(Qi:Int)(PK:ap):((List cD)×Int)->Option (Step ((List cD)×Int) ((List cD))):=λs=>match s with
 |(Q4,Vv)=>bif Vv<(OY.length:Int)then(aF OY Vv).bind λR4=>(xn PD PK.valid R4.valid).bind λQw=>bif Qw then bif Q4.length+1<=8796093022208 then(some (.next ((Q4++[(⟨Qi,Vv⟩:cD)]),(i64.wrap (Vv+(1:Int))))))else none else
 some (.next (Q4,(i64.wrap (Vv+(1:Int)))))else
 some (.exit (Q4,Vv))
def rT (Qi:Int):Sum ((List cD)×Int) ((List cD))->Option (Step ((List cD)×Int) ((List cD)))
 |.inl (Q4,Vv)=>some (.next (Q4,(i64.wrap (Qi+(1:Int)))))
 |.inr q=>some (.ret q)
def ni (OX:(List ap))(OY:(List ap))(PD:Int):((List cD)×Int)->Option (Step ((List cD)×Int) ((List cD))):=λs=>match s with
 |(OV,Qi)=>bif Qi<(OX.length:Int)then(aF OX Qi).bind λPK=>(ao (ny OY PD Qi PK) fuel (OV,(0:Int))).bind (rT Qi)else
 some (.exit (OV,Qi))
def OL:Sum ((List cD)×Int) ((List cD))->Option (((List cD)))
 |.inl (OV,Qi)=>some OV
 |.inr q=>some q
def wl (OX:(List ap))(OY:(List ap))(PD:Int):Option ((List cD)):=(ao (ni OX OY PD) fuel ([],(0:Int))).bind (OL)
instance gMatch_ok {OX : (List ap)} {OY : (List ap)} {PD : Int} {r : (List cD)} : OkC (wl OX OY PD = some r) (PTz 14 [.one (.lst (OX.map aH)), .one (.lst (OY.map aH)), .one (.int .i64 PD)] (.val (.one (.lst (r.map iF))))) := .mk λH => by
 unfold wl at H;refine po_ Tryz.func14 Tryz.ntmps14 ?_;refine a6 ?_;refine bS 7 2 rfl ?_;refine alM_ (λs:(List cD)×Int=>match s with|(OV,Qi)=>[(1,.one (.c (.lst (OY.map aH)))),(2,.one (.c (.int .i64 PD))),(7,.one (.own (OV.map iF) 0)),(12,.one (.c (.lst (OX.map aH)))),(13,.one (.c (.int .i64 (OX.length:Int)))),(14,.one (.c (.int .i64 Qi)))]) (λs=>match s with|(OV,Qi)=>[.spare OV.length 2]) H (λ_=>aqL _)
  (fm_ bE [] rfl bm cm) ?_
 rintro⟨OV,Qi⟩ st3 Py R3;unfold ni at Py;dsimp only at Py ⊢;obtain⟨P9,Py⟩|⟨P9,Py⟩:=aj Py
 ·obtain⟨PK,Rw,i1,Ri,Py⟩:=br (f:=aH) Py
  refine a6 ?_;refine alM_ (λs:(List cD)×Int=>match s with|(Q4,Vv)=>[(1,.one (.c (.lst (OY.map aH)))),(2,.one (.c (.int .i64 PD))),(7,.one (.own (Q4.map iF) 0)),(8,.one (.c (.int .i64 Qi))),(9,.one (.ptr 1 0)),(12,.one (.c (.lst (OX.map aH)))),(13,.one (.c (.int .i64 (OX.length:Int)))),(14,.one (.c (.int .i64 Qi))),(19,.one (.c (.lst (OY.map aH)))),(20,.one (.c (.int .i64 (OY.length:Int)))),(21,.one (.c (.int .i64 Vv)))]) (λs=>match s with|(Q4,Vv)=>[.spare Q4.length 2,.box [.c (.lst (PK.row.map cV)),.c (.int .i64 PK.valid.lo),.c (.int .i64 PK.valid.hi)]]) Py (λ_=>aqL _)
   (fm_ bE [] rfl bm cm) ?_
  rintro⟨Q4,Vv⟩ st4 O4 hk4;unfold ny at O4;dsimp only at O4 ⊢;obtain⟨R_,O4⟩|⟨R_,O4⟩:=aj O4
  ·obtain⟨R4,U0,i2,U2,O4⟩:=br (f:=aH) O4
   obtain⟨Qw,c3,O4⟩:=bd_ O4;replace c3:=gHoldsP_ok c3;obtain⟨Qn,O4⟩|⟨Qn,O4⟩:=aj O4
   ·obtain⟨g4,O4⟩:=aL O4
    cases O4;refine a6 ?_;exact⟨_,rfl,fm_ sg [_] qG bm cm⟩
   cases O4;refine a6 ?_;exact⟨_,rfl,fm_ sg [_] qG bm cm⟩
  cases O4;have Qo:rT Qi (.inl (Q4,Vv))=some _:=hk4;unfold rT at Qo;dsimp only at Qo
  cases Qo;refine a6 ?_;exact⟨_,rfl,fm_ sg [_] qG bm cm⟩
 exact bA Py R3
def jb (OX:(List cD))(OY:(List cD)):(Int)->Option (Step (Int) (Bool)):=λs=>match s with
 |i_2=>bif i_2<(OX.length:Int)then(aF OX i_2).bind λPK=>(aF OY i_2).bind λQa=>bif (!(cl [.c (.int .i64 PK.a),.c (.int .i64 PK.b)] [.c (.int .i64 Qa.a),.c (.int .i64 Qa.b)]))then some (.ret false)else
 some (.next (i64.wrap (i_2+(1:Int))))else
 some (.exit i_2)
def abf:Sum (Int) (Bool)->Option ((Bool))
 |.inl i_2=>some true
 |.inr q=>some q
def Aa (OX:(List cD))(OY:(List cD)):Option (Bool):=bif (OX.length:Int)≠(OY.length:Int)then some false else
 (ao (jb OX OY) fuel (0:Int)).bind (abf)
instance gSameP_ok {OX : (List cD)} {OY : (List cD)} {r : Bool} : OkC (Aa OX OY = some r) (PTz 11 [.one (.lst (OX.map iF)), .one (.lst (OY.map iF))] (.val (.one (.bool r)))) := .mk λH => by
 unfold Aa at H;refine po_ Tryz.func11 Tryz.ntmps11 ?_;obtain⟨QM,H⟩|⟨QM,H⟩:=aj H
 ·exact ay H
 refine a6 ?_;refine alM_ (λs:Int=>match s with|i_2=>[(0,.one (.c (.lst (OX.map iF)))),(1,.one (.c (.lst (OY.map iF)))),(5,.one (.c (.int .i64 i_2)))]) (λs=>match s with|i_2=>[]) H (λ_=>aqL _)
  (fm_ bE [] rfl bm trivial) ?_
 rintro i_2 QF OU Pz;unfold jb at OU;dsimp only at OU ⊢;obtain⟨P9,OU⟩|⟨P9,OU⟩:=aj OU
 ·obtain⟨PK,Rw,i1,Ri,OU⟩:=br (f:=iF) OU
  obtain⟨Qa,U0,i2,U2,OU⟩:=br (f:=iF) OU;obtain⟨QG,OU⟩|⟨QG,OU⟩:=aj OU
  ·exact bA OU Pz
  cases OU;refine a6 ?_;exact⟨_,rfl,fm_ bE [] rfl bm trivial⟩
 exact bA OU Pz
end
def afk (x y:ap):Bool:=jY x.valid y.valid
noncomputable section
def xq (OX:List ap)(OY:List ap):Option (List cD):=bif (decide (OX.length<=1000))&&decide (OY.length<=1000)then some (eP afk OY OX 0)else none
theorem I2 {OX:List ap}{OY:List ap}{r:List cD}(H:xq OX OY=some r):PTz 12 [.one (.lst (OX.map aH)),.one (.lst (OY.map aH))] (.val (.one (.lst (r.map iF)))):=by
 unfold xq at H
 cases h:decide (OX.length<=1000)&&decide (OY.length<=1000)with
 |false=>rw[h]at H;cases H
 |true =>
  rw[h,aqs]at H
  cases H;rw[aqI]at h;exact yR OX OY (aqT h.1) (aqT h.2)
def yZ (O3:(List Int)):((List Val)×Int)->Option (Step ((List Val)×Int) (ap)):=λs=>match s with
 |(PX,i_2)=>bif i_2<(O3.length:Int)then(aF O3 i_2).bind λPK=>bif PK=(9:Int)then bif PX.length+1<=4398046511104 then(some (.next ((PX++[(⟨(0:Int),(0:Int),empty⟩:Val)]),(i64.wrap (i_2+(1:Int))))))else none else
 bif PX.length+1<=4398046511104 then(some (.next ((PX++[(⟨(1:Int),PK,empty⟩:Val)]),(i64.wrap (i_2+(1:Int))))))else none else
 some (.exit (PX,i_2))
def Jm (RI:Int)(UO:Int):Sum ((List Val)×Int) (ap)->Option ((ap))
 |.inl (PX,i_2)=>some (⟨PX,(⟨RI,UO⟩:ax)⟩:ap)
 |.inr q=>some q
def cE (RI:Int)(UO:Int)(O3:(List Int)):Option (ap):=(ao (yZ O3) fuel ([],(0:Int))).bind (Jm RI UO)
instance gFact24_ok {RI : Int} {UO : Int} {O3 : (List Int)} {r : ap} : OkC (cE RI UO O3 = some r) (PTz 36 [.one (.int .i64 RI), .one (.int .i64 UO), .one (.lst (O3.map (λx => [AC.int .i64 x])))] (.val (.agg (aH r)))) := .mk λH => by
 unfold cE at H;refine po_ Tryz.func36 Tryz.ntmps36 ?_;refine a6 ?_;refine xw 1 0 3 rfl rfl ?_;refine alM_ (λs:(List Val)×Int=>match s with|(PX,i_2)=>[(2,.one (.c (.lst (O3.map (λx=>[AC.int .i64 x]))))),(6,.one (.ptr 0 0)),(7,.one (.ptr 1 0)),(8,.one (.c (.int .i64 i_2)))]) (λs=>match s with|(PX,i_2)=>[.box [.emp,.c (.int .i64 (0:Int)),.c (.int .i64 (0:Int))],.box [.own (PX.map cV) 2,.c (.int .i64 RI),.c (.int .i64 UO)],.spare PX.length 3]) H (λ_=>aqL _)
  (fm_ bE [] rfl bm cm) ?_
 rintro⟨PX,i_2⟩ QF OU Pz;unfold yZ at OU;dsimp only at OU ⊢;obtain⟨P9,OU⟩|⟨P9,OU⟩:=aj OU
 ·obtain⟨PK,Rw,i1,Ri,OU⟩:=br (f:=(λx=>[AC.int .i64 x])) OU
  obtain⟨Q6,OU⟩|⟨Q6,OU⟩:=aj OU
  ·obtain⟨g2,OU⟩:=aL OU
   cases OU;refine a6 ?_;exact⟨_,rfl,fm_ bE [] qG bm cm⟩
  obtain⟨g3,OU⟩:=aL OU
  cases OU;refine a6 ?_;exact⟨_,rfl,fm_ bE [] qG bm cm⟩
 exact bA OU Pz
def Jb:Option (Bool):=(cE (0:Int) (6:Int) [(1:Int)]).bind λO7=>(cE (3:Int) (9:Int) [(2:Int)]).bind λQd=>(cE (4:Int) (8:Int) [(1:Int)]).bind λPY=>(cE (5:Int) (7:Int) [(1:Int)]).bind λQm=>(nQ (⟨[(1:Int)],[O7,Qd]⟩:bj) (⟨[(1:Int)],[PY,Qm]⟩:bj) (Ex.mk (7:Int) (0:Int) (⟨(0:Int),(0:Int),empty⟩:Val) empty [(Ex.mk (2:Int) (0:Int) (⟨(0:Int),(0:Int),empty⟩:Val) empty []),(Ex.mk (2:Int) (1:Int) (⟨(0:Int),(0:Int),empty⟩:Val) empty [])])).bind λPW=>(cE (4:Int) (6:Int) [(1:Int),(1:Int)]).bind λP1=>(cE (5:Int) (6:Int) [(1:Int),(1:Int)]).bind λQk=>(gX PW.facts [P1,Qk]).bind λQJ=>bif QJ then(o7 (⟨[(1:Int)],[O7,Qd]⟩:bj) (⟨[(1:Int)],[PY,Qm]⟩:bj) (Ex.mk (7:Int) (0:Int) (⟨(0:Int),(0:Int),empty⟩:Val) empty [(Ex.mk (2:Int) (0:Int) (⟨(0:Int),(0:Int),empty⟩:Val) empty []),(Ex.mk (2:Int) (1:Int) (⟨(0:Int),(0:Int),empty⟩:Val) empty [])])).bind λP7=>(cE (0:Int) (4:Int) [(1:Int),(9:Int)]).bind λQu=>(cE (3:Int) (9:Int) [(2:Int),(9:Int)]).bind λPM=>(gX P7.facts [Qu,P1,Qk,PM]).bind λQv=>bif Qv then(qw (⟨[(1:Int)],[O7,Qd]⟩:bj) (⟨[(1:Int)],[PY,Qm]⟩:bj) (Ex.mk (7:Int) (0:Int) (⟨(0:Int),(0:Int),empty⟩:Val) empty [(Ex.mk (2:Int) (0:Int) (⟨(0:Int),(0:Int),empty⟩:Val) empty []),(Ex.mk (2:Int) (1:Int) (⟨(0:Int),(0:Int),empty⟩:Val) empty [])])).bind λSj=>(cE (4:Int) (6:Int) [(1:Int)]).bind λSv=>(gX Sj.facts [Sv]).bind λQ2=>bif Q2 then(qu (⟨[(1:Int)],[O7,Qd]⟩:bj) (⟨[(1:Int)],[PY,Qm]⟩:bj) (Ex.mk (7:Int) (0:Int) (⟨(0:Int),(0:Int),empty⟩:Val) empty [(Ex.mk (2:Int) (0:Int) (⟨(0:Int),(0:Int),empty⟩:Val) empty []),(Ex.mk (2:Int) (1:Int) (⟨(0:Int),(0:Int),empty⟩:Val) empty [])])).bind λRF=>(cE (0:Int) (4:Int) [(1:Int)]).bind λQ7=>(gX RF.facts [Q7,Qd]).bind λRH=>bif RH then(xq [O7,Qd] [PY,Qm]).bind λTf=>bif (Tf.length:Int)=(4:Int)then(wl [O7,Qd] [PY,Qm] (8:Int)).bind λUi=>(Aa Ui [(⟨(1:Int),(0:Int)⟩:cD),(⟨(1:Int),(1:Int)⟩:cD)]).bind λYI=>some YI else
 some false else
 some false else
 some false else
 some false else
 some false
instance gAwake_ok {r : Bool} : OkC (Jb = some r) (PTz 10 [] (.val (.one (.bool r)))) := .mk λH => by
 unfold Jb at H;refine po_ Tryz.func10 Tryz.ntmps10 ?_;obtain⟨O7,c1,H⟩:=bd_ H;replace c1:=gFact24_ok c1
 try simp only[aqD,aqB,aqF,aqv,aC]at c1
 obtain⟨Qd,c2,H⟩:=bd_ H;replace c2:=gFact24_ok c2
 try simp only[aqD,aqB,aqF,aqv,aC]at c2
 obtain⟨PY,c3,H⟩:=bd_ H;replace c3:=gFact24_ok c3
 try simp only[aqD,aqB,aqF,aqv,aC]at c3
 obtain⟨Qm,c4,H⟩:=bd_ H;replace c4:=gFact24_ok c4
 try simp only[aqD,aqB,aqF,aqv,aC]at c4
 obtain⟨PW,c5,H⟩:=bd_ H;replace c5:=q6 c5
 try simp only[aqD,aqB,aqF,aqv,aC]at c5
 obtain⟨P1,c6,H⟩:=bd_ H;replace c6:=gFact24_ok c6
 try simp only[aqD,aqB,aqF,aqv,aC]at c6
 obtain⟨Qk,c7,H⟩:=bd_ H;replace c7:=gFact24_ok c7
 try simp only[aqD,aqB,aqF,aqv,aC]at c7
 obtain⟨QJ,c8,H⟩:=bd_ H;replace c8:=gIdent_ok c8
 try simp only[aqD,aqB,aqF,aqv,aC]at c8
 obtain⟨S8,H⟩|⟨S8,H⟩:=aj H
 ·obtain⟨P7,c9,H⟩:=bd_ H
  replace c9:=sb c9
  try simp only[aqD,aqB,aqF,aqv,aC]at c9
  obtain⟨Qu,Wv,H⟩:=bd_ H;replace Wv:=gFact24_ok Wv
  try simp only[aqD,aqB,aqF,aqv,aC]at Wv
  obtain⟨PM,Vu,H⟩:=bd_ H;replace Vu:=gFact24_ok Vu
  try simp only[aqD,aqB,aqF,aqv,aC]at Vu
  obtain⟨Qv,WZ,H⟩:=bd_ H;replace WZ:=gIdent_ok WZ
  try simp only[aqD,aqB,aqF,aqv,aC]at WZ
  obtain⟨QA,H⟩|⟨QA,H⟩:=aj H
  ·obtain⟨Sj,UE,H⟩:=bd_ H
   replace UE:=gSemiT_ok UE
   try simp only[aqD,aqB,aqF,aqv,aC]at UE
   obtain⟨Sv,Ws,H⟩:=bd_ H;replace Ws:=gFact24_ok Ws
   try simp only[aqD,aqB,aqF,aqv,aC]at Ws
   obtain⟨Q2,Zb,H⟩:=bd_ H;replace Zb:=gIdent_ok Zb
   try simp only[aqD,aqB,aqF,aqv,aC]at Zb
   obtain⟨Rl,H⟩|⟨Rl,H⟩:=aj H
   ·obtain⟨RF,c16,H⟩:=bd_ H
    replace c16:=gAntiT_ok c16
    try simp only[aqD,aqB,aqF,aqv,aC]at c16
    obtain⟨Q7,Zc,H⟩:=bd_ H;replace Zc:=gFact24_ok Zc
    try simp only[aqD,aqB,aqF,aqv,aC]at Zc
    obtain⟨RH,Zd,H⟩:=bd_ H;replace Zd:=gIdent_ok Zd
    try simp only[aqD,aqB,aqF,aqv,aC]at Zd
    obtain⟨TW,H⟩|⟨TW,H⟩:=aj H
    ·obtain⟨Tf,c19,H⟩:=bd_ H
     replace c19:=I2 c19
     try simp only[aqD,aqB,aqF,aqv,aC]at c19
     exact ay H
    exact ay H
   exact ay H
  exact ay H
 exact ay H
end
def aA:bj:=⟨[1],[(⟨[⟨1,1,empty⟩],⟨0,6⟩⟩:ap),(⟨[⟨1,2,empty⟩],⟨3,9⟩⟩:ap)]⟩
def aB:bj:=⟨[1],[(⟨[⟨1,1,empty⟩],⟨4,8⟩⟩:ap),(⟨[⟨1,1,empty⟩],⟨5,7⟩⟩:ap)]⟩
def aE:Ex:=Ex.mk 7 0 ⟨0,0,empty⟩ empty [Ex.mk 2 0 ⟨0,0,empty⟩ empty [],Ex.mk 2 1 ⟨0,0,empty⟩ empty []]
theorem aJ:EC aA aB aE:=by
 obtain⟨c,hc,Qy⟩:=hY aA aB aE;have h:iD aA aB aE=some true:=k7
 rw[h]at hc;cases hc;exact Qy rfl
def agG (l:List ap)(R:List (List Val)):Bool:=(l.all λf => !aw f.valid||R.any λr=>decide (f.row=r))&&R.all λr=>l.any λf=>aw f.valid&&decide (f.row=r)
theorem ala {l X:List ap}(R:List (List Val))(h1:ut R)(h2:agG l R=true)(h3:dH l R=X):canon l=X:=by
 rw[<- h3];unfold agG at h2;rw[aqI]at h2;refine(uU ⟨h1,λx=>⟨λhx=>?_,λ⟨f,hf,hv,hr⟩=>?_⟩⟩).symm
 ·obtain⟨f,hf,hc⟩:=List.any_eq_true.1 (arf.1 h2.2 x hx)
  rw[aqI]at hc;exact⟨f,hf,hc.1,aqT hc.2⟩
 ·have:=arf.1 h2.1 f hf
  rw[hv,Bool.not_true,Bool.false_or]at this;obtain⟨r,Un,hc⟩:=List.any_eq_true.1 this;rw[<- hr,aqT hc];exact Un
theorem aJc:canon (uB aE aA.facts aB.facts)=[(⟨[⟨1,1,empty⟩,⟨1,1,empty⟩],⟨4,6⟩⟩:ap),(⟨[⟨1,1,empty⟩,⟨1,1,empty⟩],⟨5,6⟩⟩:ap)]:=ala [[⟨1,1,empty⟩,⟨1,1,empty⟩]] (by unfold ut;decide +kernel) k7 k7
theorem aLc:canon (uB aE aA.facts aB.facts++lT aE aB.kinds.length aA.facts aB.facts)=[(⟨[⟨1,1,empty⟩,bK],⟨0,4⟩⟩:ap),(⟨[⟨1,1,empty⟩,⟨1,1,empty⟩],⟨4,6⟩⟩:ap),(⟨[⟨1,1,empty⟩,⟨1,1,empty⟩],⟨5,6⟩⟩:ap),(⟨[⟨1,2,empty⟩,bK],⟨3,9⟩⟩:ap)]:=ala [[⟨1,1,empty⟩,bK],[⟨1,1,empty⟩,⟨1,1,empty⟩],[⟨1,2,empty⟩,bK]] (by unfold ut;decide +kernel) k7 k7
theorem aSc:canon (seL aE aA.facts aB.facts)=[(⟨[⟨1,1,empty⟩],⟨4,6⟩⟩:ap)]:=ala [[⟨1,1,empty⟩]] (by unfold ut;decide +kernel) k7 k7
theorem aTc:canon (lT aE 0 aA.facts aB.facts)=[(⟨[⟨1,1,empty⟩],⟨0,4⟩⟩:ap),(⟨[⟨1,2,empty⟩],⟨3,9⟩⟩:ap)]:=ala [[⟨1,1,empty⟩],[⟨1,2,empty⟩]] (by unfold ut;decide +kernel) k7 k7
theorem aF0:cE 0 6 [1]=some (⟨[⟨1,1,empty⟩],⟨0,6⟩⟩:ap):=k7
theorem aF1:cE 3 9 [2]=some (⟨[⟨1,2,empty⟩],⟨3,9⟩⟩:ap):=k7
theorem aF2:cE 4 8 [1]=some (⟨[⟨1,1,empty⟩],⟨4,8⟩⟩:ap):=k7
theorem aF3:cE 5 7 [1]=some (⟨[⟨1,1,empty⟩],⟨5,7⟩⟩:ap):=k7
theorem aF4:cE 4 6 [1,1]=some (⟨[⟨1,1,empty⟩,⟨1,1,empty⟩],⟨4,6⟩⟩:ap):=k7
theorem aF5:cE 5 6 [1,1]=some (⟨[⟨1,1,empty⟩,⟨1,1,empty⟩],⟨5,6⟩⟩:ap):=k7
theorem aF6:cE 0 4 [1,9]=some (⟨[⟨1,1,empty⟩,bK],⟨0,4⟩⟩:ap):=k7
theorem aF7:cE 3 9 [2,9]=some (⟨[⟨1,2,empty⟩,bK],⟨3,9⟩⟩:ap):=k7
theorem aF8:cE 4 6 [1]=some (⟨[⟨1,1,empty⟩],⟨4,6⟩⟩:ap):=k7
theorem aF9:cE 0 4 [1]=some (⟨[⟨1,1,empty⟩],⟨0,4⟩⟩:ap):=k7
theorem aJi:gX [(⟨[⟨1,1,empty⟩,⟨1,1,empty⟩],⟨4,6⟩⟩:ap),(⟨[⟨1,1,empty⟩,⟨1,1,empty⟩],⟨5,6⟩⟩:ap)] [(⟨[⟨1,1,empty⟩,⟨1,1,empty⟩],⟨4,6⟩⟩:ap),(⟨[⟨1,1,empty⟩,⟨1,1,empty⟩],⟨5,6⟩⟩:ap)]=some true:=k7
theorem aLi:gX [(⟨[⟨1,1,empty⟩,bK],⟨0,4⟩⟩:ap),(⟨[⟨1,1,empty⟩,⟨1,1,empty⟩],⟨4,6⟩⟩:ap),(⟨[⟨1,1,empty⟩,⟨1,1,empty⟩],⟨5,6⟩⟩:ap),(⟨[⟨1,2,empty⟩,bK],⟨3,9⟩⟩:ap)] [(⟨[⟨1,1,empty⟩,bK],⟨0,4⟩⟩:ap),(⟨[⟨1,1,empty⟩,⟨1,1,empty⟩],⟨4,6⟩⟩:ap),(⟨[⟨1,1,empty⟩,⟨1,1,empty⟩],⟨5,6⟩⟩:ap),(⟨[⟨1,2,empty⟩,bK],⟨3,9⟩⟩:ap)]=some true:=k7
theorem aSi:gX [(⟨[⟨1,1,empty⟩],⟨4,6⟩⟩:ap)] [(⟨[⟨1,1,empty⟩],⟨4,6⟩⟩:ap)]=some true:=k7
theorem aTi:gX [(⟨[⟨1,1,empty⟩],⟨0,4⟩⟩:ap),(⟨[⟨1,2,empty⟩],⟨3,9⟩⟩:ap)] [(⟨[⟨1,1,empty⟩],⟨0,4⟩⟩:ap),(⟨[⟨1,2,empty⟩],⟨3,9⟩⟩:ap)]=some true:=k7
theorem aPs:xq aA.facts aB.facts=some [⟨0,0⟩,⟨0,1⟩,⟨1,0⟩,⟨1,1⟩]:=k7
theorem aMt:wl aA.facts aB.facts 8=some [⟨1,0⟩,⟨1,1⟩]:=k7
theorem aSm:Aa [⟨1,0⟩,⟨1,1⟩] [⟨1,0⟩,⟨1,1⟩]=some true:=k7
theorem aJe:nQ aA aB aE=some ⟨[1,1],[(⟨[⟨1,1,empty⟩,⟨1,1,empty⟩],⟨4,6⟩⟩:ap),(⟨[⟨1,1,empty⟩,⟨1,1,empty⟩],⟨5,6⟩⟩:ap)]⟩:=by rw[qK aJ,aJc];rfl
theorem aLe:o7 aA aB aE=some ⟨[1,1],[(⟨[⟨1,1,empty⟩,bK],⟨0,4⟩⟩:ap),(⟨[⟨1,1,empty⟩,⟨1,1,empty⟩],⟨4,6⟩⟩:ap),(⟨[⟨1,1,empty⟩,⟨1,1,empty⟩],⟨5,6⟩⟩:ap),(⟨[⟨1,2,empty⟩,bK],⟨3,9⟩⟩:ap)]⟩:=by rw[rO aJ,aLc];rfl
theorem aSe:qw aA aB aE=some ⟨[1],[(⟨[⟨1,1,empty⟩],⟨4,6⟩⟩:ap)]⟩:=by rw[wG aJ,aSc];rfl
theorem aTe:qu aA aB aE=some ⟨[1],[(⟨[⟨1,1,empty⟩],⟨0,4⟩⟩:ap),(⟨[⟨1,2,empty⟩],⟨3,9⟩⟩:ap)]⟩:=by rw[xM aJ,aTc];rfl
theorem F2:Jb=some true:=by
 unfold Jb;rw[aF0,aqo,aF1,aqo,aF2,aqo,aF3,aqo];change (nQ aA aB aE).bind _=_;rw[aJe,aqo,aF4,aqo,aF5,aqo,aJi,aqo,aqs];change (o7 aA aB aE).bind _=_;rw[aLe,aqo,aF6,aqo,aF7,aqo,aLi,aqo,aqs];change (qw aA aB aE).bind _=_;rw[aSe,aqo,aF8,aqo,aSi,aqo,aqs];change (qu aA aB aE).bind _=_;rw[aTe,aqo,aF9,aqo,aTi,aqo,aqs];change (xq aA.facts aB.facts).bind _=_;rw[aPs,aqo];rw[show decide (((([⟨0,0⟩,⟨0,1⟩,⟨1,0⟩,⟨1,1⟩]:List cD).length:Nat):Int)=(4:Int))=true from rfl,aqs];change (wl aA.facts aB.facts 8).bind _=_;rw[aMt,aqo,aSm];rfl
theorem Aw.awake_pure:PTz 10 [] (.val (.one (.bool true))):=gAwake_ok F2
