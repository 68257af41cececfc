/- Parts. No condition. -/
import Derived.Test.YtlcceppoloaecaaGreatDoorKBJ
import Derived.Test.YtlcceppoloaecaaGreatDoorKBK
import Derived.Test.YtlcceppoloaecaaGreatDoorKBI
set_option maxHeartbeats 8000000
set_option maxRecDepth 100000
set_option linter.unusedSimpArgs false
set_option linter.unusedVariables false
namespace Go.Proofs.YtlcceppoloaecaaGreatDoor
open IntKind (i64)
open Go.RowKit Go.MapKept
theorem afC (a b:ax):OI a b=some (St.fQ (toP a) (toP b)):=by
 obtain⟨al,ah⟩:=a;obtain⟨bl,bh⟩:=b;unfold OI St.fQ toP;simp only[cl,Bool.and_true,Prod.mk.injEq];by_cases h1:al=bl<;>by_cases h2:ah=bh<;>by_cases h3:al<bl<;>by_cases h4:ah<bh<;>simp[h1,h2,h3,h4]<;>omega
def ro (p:ax)(q:ax):Bool:=decide (St.fQ (toP q) (toP p)<=0)
def l5 (l:List ax)(p:ax):List ax:=l.takeWhile (ro p)++p::l.dropWhile (ro p)
theorem yS (l:List ax)(p:ax)(hl:l.length<=1000000):∀ (n:Nat) (r d:List ax),l=d++r->r.length<n->ao (fx l p) n (d,(d.length:Int))=some (.inl (d++r.takeWhile (ro p),((d.length+(r.takeWhile (ro p)).length:Nat):Int)))
 |0,_,_,_,h=>by omega
 |n+1,[],d,h,_=>by
  rw[aqZ]at h;subst h;rw[ao,show fx l p (l,(l.length:Int))=some (.exit (l,(l.length:Int)))by unfold fx;simp only;rw[lF_];rfl];simp
 |n+1,x::r,d,h,hn=>by
  have hx:l[d.length]?=some x:=by rw[h];simp
  have hd:d.length<l.length:=(aqp.1 hx).1;rw[ao,show fx l p (d,(d.length:Int))=bif ro p x then some (.next (d++[x],((d.length+1:Nat):Int)))else some (.exit (d,(d.length:Int)))by
   unfold fx;simp only;rw[aO hx,aqs,gn_ hx,aqo,afC,aqo,aqu (show d.length+1<=8796093022208 by omega),aqs,wrapN m0];rfl]
  cases hx:ro p x with
  |false =>
   rw[List.takeWhile_cons_of_neg (by simp[hx])];simp
  |true =>
   have:=yS l p hl n r (d++[x]) (by rw[h,aqR];rfl) (by simp at hn;omega);rw[aqy]at this;rw[List.takeWhile_cons_of_pos hx];show ao (fx l p) n (d++[x],((d.length+1:Nat):Int))=_;rw[show d.length+1=d.length+[x].length from rfl,this,aqR];simp only[aqM,aqV,Nat.add_assoc,Nat.add_comm,aq8];rfl
theorem Jw (l:List ax)(p:ax)(hl:l.length<=1000000):xt l p=some (l5 l p):=by
 have h:=yS l p hl fuel l [] rfl (by unfold fuel;omega);have e:l.takeWhile (ro p)++l.dropWhile (ro p)=l:=List.takeWhile_append_dropWhile;have hle:(l.takeWhile (ro p)).length+(l.dropWhile (ro p)).length=l.length:=by rw[<- aqy,e]
 rw[aqv,show([]:List ax).length+(l.takeWhile (ro p)).length=(l.takeWhile (ro p)).length by simp]at h;unfold xt;rw[show((0:Int))=((([]:List ax).length:Nat):Int)from rfl,h,aqo];unfold iS;simp only;have hd:l.drop (l.takeWhile (ro p)).length=l.dropWhile (ro p):=by
  have:=congrArg (List.drop (l.takeWhile (ro p)).length) e;rw[List.drop_left]at this;exact this.symm
 have hs:gU l (((l.takeWhile (ro p)).length:Nat):Int) (l.length:Int)=some (l.dropWhile (ro p)):=by
  unfold gU;rw[if_pos ⟨m0,m0,Int.le_refl _⟩,Int.toNat_natCast,Int.toNat_natCast,List.take_length,hd]
 rw[aqu m0,aqs,hs,aqo,aqu m0,aqs,aqR];rfl
theorem zF (l:List ax)(p:ax):(l5 l p).length=l.length+1:=by
 have e:(l.takeWhile (ro p)).length+(l.dropWhile (ro p)).length=l.length:=by rw[<- aqy,List.takeWhile_append_dropWhile]
 unfold l5;simp;omega
theorem MM (l:List ax)(p:ax):(l5 l p).map toP=St.ij (l.map toP) (toP p):=by
 unfold l5 St.ij;rw[List.takeWhile_map,List.dropWhile_map,aqD];rfl
theorem AB:∀ (X l:List ax),(X.foldl l5 l).map toP=(X.map toP).foldl St.ij (l.map toP)
 |[],l=>rfl
 |x::X,l=>by rw[aqB,arh,arh,<- MM];exact AB X _
theorem zZ:∀ (X l:List ax),(X.foldl l5 l).length=l.length+X.length
 |[],l=>rfl
 |x::X,l=>by rw[arh,zZ X,zF,aqM];omega
theorem abG (r:List ax)(hr:r.length<=1000):∀ (n i:Nat) (out:List ax),i<=r.length->r.length-i<n->out.length+(r.length-i)<=900000->ao (lR r) n (out,(i:Int))=some (.inl ((r.drop i).foldl l5 out,(r.length:Int)))
 |0,i,out,_,h,_=>by omega
 |n+1,i,out,hi,hn,ho=>by
  rw[ao];by_cases O0:i<r.length
  ·obtain⟨x,hx⟩:=gol_ O0
   have hd:r.drop i=x::r.drop (i+1):=by rw[aqW O0,(aqp.1 hx).2]
   rw[show lR r (out,(i:Int))=some (.next (l5 out x,((i+1:Nat):Int)))by
    unfold lR;simp only;rw[aO hx,aqs,gn_ hx,aqo,Jw _ _ m0,aqo,wrapN m0],hd]
   exact abG r hr n (i+1) _ m0 m0 (by rw[zF];omega)
  ·have:i=r.length:=m0
   subst this;rw[show lR r (out,(r.length:Int))=some (.exit (out,(r.length:Int)))by unfold lR;simp only;rw[lF_];rfl,arn];rfl
theorem MQ (l:List ax)(p:ax):(sG l p).map toP=St.fh (l.map toP) (toP p):=by
 unfold sG St.fh;rw[List.getLast?_map]
 cases l.getLast? with
 |none=>simp
 |some q =>
  show _=if p.lo<=q.hi then _ else _
  simp only;split
  ·rw[aqD,List.map_dropLast];show _++[(q.lo,EE q.hi p.hi)]=_++[(q.lo,max q.hi p.hi)];rw[show EE q.hi p.hi=max q.hi p.hi by unfold EE;split<;>omega]
  ·simp
theorem acd (n:Int):∀ (l:List Stp) (out:List ax),(Ni n l out).map toP=(St.mc (l.map toS)).foldl (St.cF n) (out.map toP)
 |[],out=>rfl
 |[x],out=>by
  show(if n<=x.n then sG out ⟨x.lo,1099511627776⟩else out).map toP=if n<=x.n then _ else _
  split
  ·exact MQ _ _
  ·rfl
 |x::y::r,out=>by
  show(Ni n (y::r) _).map toP=((St.mc ((y::r).map toS)).foldl (St.cF n) (if n<=x.n then _ else _));rw[acd n (y::r)];congr 1;split
  ·exact MQ _ _
  ·rfl
theorem HV (n:Int)(l:List Stp):(Ni n l []).map toP=St.Is (l.map toS) n:=acd n l []
theorem Cd {n:Int}{l:List Stp}:Ni n l []=[] ↔ ∀ s∈l,s.n<n:=by
 rw[<- List.map_eq_nil_iff (f:=toP),HV,St.C6];simp[toS]
theorem adU (n:Int)(l:List Stp):(Ni n l []).length<=l.length:=by
 have:=St.adc (l.map toS) n;rw[<- HV]at this;simpa using this
theorem K2 (l:List Stp)(hl:l.length<=1000)(hM:∀ s∈l,s.n<=600):∀ (d k n:Nat) (out:List ax),k+d=600->d<n->out.length<=k*1000 ->
  (ao (lO l) n (out,((k:Nat):Int)+1)).bind nP=some (((List.range' k d).flatMap λj:Nat=>Ni ((j:Int)+1) l []).foldl l5 out)
 |d,k,0,out,hk,hn,ho=>by omega
 |d,k,n+1,out,hk,hn,ho=>by
  rw[ao];have PR:abe l (((k:Nat):Int)+1)=some (Ni (((k:Nat):Int)+1) l []):=by unfold abe;rw[aqu m0];rfl
  have hlen:=adU (((k:Nat):Int)+1) l;by_cases he:Ni (((k:Nat):Int)+1) l []=[]
  ·have hz:((List.range' k d).flatMap λj:Nat=>Ni ((j:Int)+1) l [])=[]:=by
    rw[List.flatMap_eq_nil_iff];intro j hj;have:=List.mem_range'_1.1 hj;exact Cd.2 λs hs=>by have:=Cd.1 he s hs;omega
   rw[hz,show lO l (out,((k:Nat):Int)+1)=some (.ret out)by
    unfold lO;simp only;rw[aqu m0,aqs,PR,he];rfl]
   rfl
  ·match d,hk,hn with
   |0,hk,_=>exact absurd (Cd.2 λs hs=>by have:=hM s hs;omega) he
   |d+1,hk,hn =>
    have Pn:¬ (((Ni (((k:Nat):Int)+1) l []).length:Nat):Int)=0:=λh=>he (aqQ m0)
    have S7:=abG (Ni (((k:Nat):Int)+1) l []) m0 fuel 0 out (aqL _) (by unfold fuel;omega) m0;rw[List.drop_zero]at S7;rw[show lO l (out,((k:Nat):Int)+1)=some (.next ((Ni (((k:Nat):Int)+1) l []).foldl l5 out,((k+1:Nat):Int)+1))by
     unfold lO;simp only;rw[aqu m0,aqs,PR,aqo,aqt Pn,aqr,show((0:Int))=((0:Nat):Int)from rfl,S7,aqo];unfold uT;simp only;rw[show((k:Nat):Int)+1=((k+1:Nat):Int)from rfl,wrapN m0];rfl]
    rw[List.range'_succ,aq3,List.foldl_append];exact K2 l hl hM d (k+1) n _ m0 m0 (by rw[zZ,Nat.add_mul];omega)
theorem N_ (l:List Stp)(h:OB l):PTz 94 [.one (.lst (l.map gK))] (.val (.one (.lst ((A8 l).map aP)))):=by
 have e:=K2 l h.len h.low 600 0 fuel [] rfl (by unfold fuel;omega) m5;have g:aed l=some (A8 l):=by
  unfold aed;refine Eq.trans e (congrArg some ?_);have hp:=AB ((List.range' 0 600).flatMap λj:Nat=>Ni ((j:Int)+1) l []) [];have hm:((List.range' 0 600).flatMap λj:Nat=>Ni ((j:Int)+1) l []).map toP=St.gm (l.map toS):=by
   unfold St.gm;rw[List.map_flatMap,List.range_eq_range'];congr 1;funext j;exact HV _ _
  rw[hm]at hp;unfold A8 St.tt;rw[show(([]:List (Int×Int)))=([]:List ax).map toP from rfl,<- hp,List.map_map];exact(List.map_id'' (λ_=>rfl) _).symm
 exact aev g
def ajl (l:List tm):Option (List Stp):=bif decide (l.length<=100000)then some (xW l)else none
theorem ahv {l:List tm}{r:List Stp}(H:ajl l=some r):PTz 207 [.one (.lst (l.map uC))] (.val (.one (.lst (r.map gK)))):=by
 unfold ajl at H;obtain⟨g,H⟩:=fS H;obtain rfl:=aqX H;exact aip l (aqT g)
def ai9 (l:List tm):Option (List Stp):=bif decide (l.length<=100000)then some (xW l)else none
theorem aiB {l:List tm}{r:List Stp}(H:ai9 l=some r):PTz 210 [.one (.lst (l.map uC))] (.val (.one (.lst (r.map gK)))):=by
 unfold ai9 at H;obtain⟨g,H⟩:=fS H;obtain rfl:=aqX H;exact ad_ l (aqT g)
open Classical in
noncomputable def aeB (l:List Stp):Option (List ax):=if OB l then some (A8 l)else none
theorem aeM {l:List Stp}{r:List ax}(H:aeB l=some r):PTz 147 [.one (.lst (l.map gK))] (.val (.one (.lst (r.map aP)))):=by
 unfold aeB at H;split at H
 ·rename_i h;obtain rfl:=aqX H;exact aew l h
 ·cases H
open Classical in
noncomputable def aad (l:List Stp):Option (List ax):=if OB l then some (A8 l)else none
theorem afj {l:List Stp}{r:List ax}(H:aad l=some r):PTz 94 [.one (.lst (l.map gK))] (.val (.one (.lst (r.map aP)))):=by
 unfold aad at H;split at H
 ·rename_i h;obtain rfl:=aqX H;exact N_ l h
 ·cases H
def bz (l:List ap):Prop:=l.length<=300 /\ ∀ f∈l,f.row.length<=1000 /\ ∀ v∈f.row,VOK v
open Classical in
noncomputable def wQ (l:List ap):Option (List ac):=if bz l then some (mm l)else none
theorem zH {l:List ap}{r:List ac}(H:wQ l=some r):PTz 202 [.one (.lst (l.map aH))] (.val (.one (.lst (r.map af)))):=by
 unfold wQ at H;split at H
 ·rename_i h;obtain rfl:=aqX H;exact Ox l h.1 h.2
 ·cases H
noncomputable section
def lr (OZ:(List ax)):((List tm)×Int)->Option (Step ((List tm)×Int) ((List Stp))):=λs=>match s with
 |(PX,Qi)=>bif Qi<(OZ.length:Int)then
  (aF OZ Qi).bind λPK=>bif PX.length+1<=5864062014805 then(some (.next ((PX++[(⟨PK,(1:Int)⟩:tm)]),(i64.wrap (Qi+(1:Int))))))else none
 else
  some (.exit (PX,Qi))
def pw:Sum ((List tm)×Int) ((List Stp))->Option (((List Stp)))
 |.inl (PX,Qi)=>(ajl PX).bind λPW=>some PW
 |.inr q=>some q
def sd (OZ:(List ax)):Option ((List Stp)):=(ao (lr OZ) fuel ([],(0:Int))).bind (pw)
instance gCounted_ok {OZ : (List ax)} {r : (List Stp)} : OkC (sd OZ = some r) (PTz 148 [.one (.lst (OZ.map aP))] (.val (.one (.lst (r.map gK))))) := .mk λH => by
 unfold sd at H;refine po_ Tryz.func148 Tryz.ntmps148 ?_
 repeat' (first|refine gs_ ?_|fail)
 refine bS 3 3 rfl ?_;refine alM_ (λs:(List tm)×Int=>match s with|(PX,Qi)=>[(3,.one (.own (PX.map uC) 0)),(6,.one (.c (.lst (OZ.map aP)))),(7,.one (.c (.int .i64 (OZ.length:Int)))),(8,.one (.c (.int .i64 Qi)))]) (λs=>match s with|(PX,Qi)=>[.spare PX.length 3]) H (λ_=>aqL _)
  (fm_ ⟨rfl,rfl,rfl,rfl,t7⟩ [] rfl ⟨by show 0<1;omega,t7,t7,t7,t7⟩ ⟨t7,t7⟩) ?_
 rintro⟨PX,Qi⟩ QF OU Pz;unfold lr at OU;dsimp only at OU ⊢;rcases Bool.eq_false_or_eq_true (decide (Qi<(OZ.length:Int)))with P9|P9
 ·rw[P9,aqs]at OU
  obtain⟨PK,i1,OU⟩:=bd_ OU;obtain⟨Rw,i1⟩:=jd i1;have Ri:=akC (f:=aP) i1;obtain⟨g2,OU⟩:=fS OU;replace g2:=aqT g2;obtain rfl:=aqX OU
  repeat' (first|refine gs_ ?_|fail)
  exact⟨_,rfl,fm_ ⟨(by simp only[aqD,aqB,aqF,aqv]<;>rfl),rfl,rfl,rfl,t7⟩ [_] (by simp only[aqy,aqM,aqV,aq8,aqD,aqB,aqF]<;>rfl) ⟨by show 0<1;omega,t7,t7,t7,t7⟩ ⟨t7,t7⟩⟩
 ·rw[P9,aqr]at OU
  obtain rfl:=aqX OU;have O2:pw (.inl (PX,Qi))=some _:=Pz;unfold pw at O2;dsimp only at O2;obtain⟨PW,c3,O2⟩:=bd_ O2;replace c3:=ahv c3
  try simp only[aqD,aqB,aqF,aqv,aC]at c3
  obtain rfl:=aqX O2;exact LI
def OM (Pe:(List ax)):Option ((List ax)):=bif (Pe.length:Int)=(1:Int)then
 some Pe
 else
 (sd Pe).bind λQd=>(aeB Qd).bind λPY=>some PY
instance gBag1_ok {Pe : (List ax)} {r : (List ax)} : OkC (OM Pe = some r) (PTz 146 [.one (.lst (Pe.map aP))] (.val (.one (.lst (r.map aP))))) := .mk λH => by
 unfold OM at H;refine po_ Tryz.func146 Tryz.ntmps146 ?_;rcases Bool.eq_false_or_eq_true (decide ((Pe.length:Int)=(1:Int)))with QM|QM
 ·rw[QM,aqs]at H
  obtain rfl:=aqX H;exact LI
 ·rw[QM,aqr]at H
  obtain⟨Qd,c1,H⟩:=bd_ H;replace c1:=gCounted_ok c1
  try simp only[aqD,aqB,aqF,aqv,aC]at c1
  obtain⟨PY,c2,H⟩:=bd_ H;replace c2:=aeM c2
  try simp only[aqD,aqB,aqF,aqv,aC]at c2
  obtain rfl:=aqX H;exact LI
def nA (Qa:ac)(P1:(List ax)):((List ap)×Int)->Option (Step ((List ap)×Int) ((List ap))):=λs=>match s with
 |(Px,SE)=>bif SE<(P1.length:Int)then
  (aF P1 SE).bind λRq=>bif Qa.row.length<=4398046511104 then(bif Px.length+1<=3518437208883 then(some (.next ((Px++[(⟨Qa.row,Rq⟩:ap)]),(i64.wrap (SE+(1:Int))))))else none)else none
 else
  some (.exit (Px,SE))
def nu (P5:Int):Sum ((List ap)×Int) ((List ap))->Option (Step ((List ap)×Int) ((List ap)))
 |.inl (Px,SE)=>some (.next (Px,(i64.wrap (P5+(1:Int)))))
 |.inr q=>some (.ret q)
def nq (RX:(List ax)->Option ((List ax)))(O7:(List ac)):((List ap)×Int)->Option (Step ((List ap)×Int) ((List ap))):=λs=>match s with
 |(O8,P5)=>bif P5<(O7.length:Int)then
  (aF O7 P5).bind λQa=>(RX Qa.periods).bind λP1=>(ao (nA Qa P1) fuel (O8,(0:Int))).bind (nu P5)
 else
  some (.exit (O8,P5))
def kH:Sum ((List ap)×Int) ((List ap))->Option (((List ap)))
 |.inl (O8,P5)=>some O8
 |.inr q=>some q
def yI (OZ:(List ap))(RX:(List ax)->Option ((List ax))):Option ((List ap)):=(wQ OZ).bind λO7=>(ao (nq RX O7) fuel ([],(0:Int))).bind (kH)
theorem abt {OZ:(List ap)}{RX:(List ax)->Option ((List ax))}{r:(List ap)}{F_a_f:FuncId}{caps_a_f:List AC}(UL:∀ (y0:(List ax)) (r:(List ax)),RX y0=some r->PTz F_a_f ([.one (.lst (y0.map aP))]++caps_a_f.map .one) (.val (.one (.lst (r.map aP)))))(H:yI OZ RX=some r):PTz 145 [.one (.lst (OZ.map aH)),.one (.fn F_a_f caps_a_f)] (.val (.one (.lst (r.map aH)))):=by
 unfold yI at H;refine po_ Tryz.func145 Tryz.ntmps145 ?_;obtain⟨O7,c1,H⟩:=bd_ H;replace c1:=zH c1
 try simp only[aqD,aqB,aqF,aqv,aC]at c1
 repeat' (first|refine gs_ ?_|fail)
 refine bS 5 3 rfl ?_;refine alM_ (λs:(List ap)×Int=>match s with|(O8,P5)=>[(1,.one (.c (.fn F_a_f caps_a_f))),(5,.one (.own (O8.map aH) 0)),(11,.one (.c (.lst (O7.map af)))),(12,.one (.c (.int .i64 (O7.length:Int)))),(13,.one (.c (.int .i64 P5)))]) (λs=>match s with|(O8,P5)=>[.spare O8.length 3]) H (λ_=>aqL _)
  (fm_ ⟨rfl,rfl,rfl,rfl,rfl,t7⟩ [] rfl ⟨t7,by show 0<1;omega,t7,t7,t7,t7⟩ ⟨t7,t7⟩) ?_
 rintro⟨O8,P5⟩ st3 Py R3;unfold nq at Py;dsimp only at Py ⊢;rcases Bool.eq_false_or_eq_true (decide (P5<(O7.length:Int)))with Qf|Qf
 ·rw[Qf,aqs]at Py
  obtain⟨Qa,i2,Py⟩:=bd_ Py;obtain⟨U0,i2⟩:=jd i2;have U2:=akC (f:=af) i2;obtain⟨P1,c3,Py⟩:=bd_ Py;replace c3:=UL _ _ c3
  try simp only[aqD,aqB,aqF,aqv,aC]at c3
  repeat' (first|refine gs_ ?_|fail)
  refine alM_ (λs:(List ap)×Int=>match s with|(Px,SE)=>[(1,.one (.c (.fn F_a_f caps_a_f))),(5,.one (.own (Px.map aH) 0)),(7,.one (.ptr 1 0)),(11,.one (.c (.lst (O7.map af)))),(12,.one (.c (.int .i64 (O7.length:Int)))),(13,.one (.c (.int .i64 P5))),(20,.one (.c (.lst (P1.map aP)))),(21,.one (.c (.int .i64 (P1.length:Int)))),(22,.one (.c (.int .i64 SE)))]) (λs=>match s with|(Px,SE)=>[.spare Px.length 3,.box [.c (.lst (Qa.row.map cV)),.c (.lst (Qa.periods.map aP))]]) Py (λ_=>aqL _)
   (fm_ ⟨rfl,rfl,rfl,rfl,rfl,rfl,rfl,rfl,rfl,t7⟩ [] rfl ⟨t7,by show 0<2;omega,by show 1<2;omega,t7,t7,t7,t7,t7,t7,t7⟩ ⟨t7,gG r5,t7⟩) ?_
  rintro⟨Px,SE⟩ st4 O4 hk4;unfold nA at O4;dsimp only at O4 ⊢;rcases Bool.eq_false_or_eq_true (decide (SE<(P1.length:Int)))with S8|S8
  ·rw[S8,aqs]at O4
   obtain⟨Rq,i4,O4⟩:=bd_ O4;obtain⟨Yg,i4⟩:=jd i4;have WX:=akC (f:=aP) i4;obtain⟨g5,O4⟩:=fS O4;replace g5:=aqT g5;obtain⟨g6,O4⟩:=fS O4;replace g6:=aqT g6;obtain rfl:=aqX O4
   repeat' (first|refine gs_ ?_|fail)
   exact⟨_,rfl,fm_ ⟨rfl,(by simp only[aqD,aqB,aqF,aqv]<;>rfl),rfl,rfl,rfl,rfl,rfl,rfl,rfl,t7⟩ [_,_] (by simp only[aqy,aqM,aqV,aq8,aqD,aqB,aqF]<;>rfl) ⟨t7,by show 0<2;omega,by show 1<2;omega,t7,t7,t7,t7,t7,t7,t7⟩ ⟨t7,gG r5,t7⟩⟩
  ·rw[S8,aqr]at O4
   obtain rfl:=aqX O4;have Qo:nu P5 (.inl (Px,SE))=some _:=hk4;unfold nu at Qo;dsimp only at Qo;obtain rfl:=aqX Qo
   repeat' (first|refine gs_ ?_|fail)
   exact⟨_,rfl,fm_ ⟨rfl,(by simp only[aqD,aqB,aqF,aqv]<;>rfl),rfl,rfl,rfl,t7⟩ [_] (by simp only[aqy,aqM,aqV,aq8,aqD,aqB,aqF]<;>rfl) ⟨t7,by show 0<1;omega,t7,t7,t7,t7⟩ ⟨t7,t7⟩⟩
 ·rw[Qf,aqr]at Py
  obtain rfl:=aqX Py;have Sm:kH (.inl (O8,P5))=some _:=R3;unfold kH at Sm;dsimp only at Sm;obtain rfl:=aqX Sm;exact LI
def q9 (OZ:(List ap)):Option ((List ap)):=(yI OZ (λx0=>OM x0)).bind λO7=>some O7
instance gBag_ok {OZ : (List ap)} {r : (List ap)} : OkC (q9 OZ = some r) (PTz 92 [.one (.lst (OZ.map aH))] (.val (.one (.lst (r.map aH))))) := .mk λH => by
 unfold q9 at H;refine po_ Tryz.func92 Tryz.ntmps92 ?_;obtain⟨O7,c1,H⟩:=bd_ H;replace c1:=abt (F_a_f:=146) (caps_a_f:=[]) (λx0 r h=>gBag1_ok h) c1
 try simp only[aqD,aqB,aqF,aqv,aC]at c1
 obtain rfl:=aqX H;exact LI
end
def pN (rec:List (List Val)->List La->Option (List (List Val)))(OZ:(List (List Val)))(Y7:(List La)):Option ((List (List Val))):=bif (OZ.length:Int)=(0:Int)then some []else
 bif (OZ.length:Int)=(1:Int)then(aF OZ (0:Int)).bind λRD=>bif RD.length<=4398046511104 then(some [RD])else none else
 bif (2:Int)≠0 then((gU OZ (0:Int) (i64.wrap ((OZ.length:Int).tdiv (2:Int)))).bind λs_4=>(rec s_4 Y7).bind λPW=>(gU OZ (i64.wrap ((OZ.length:Int).tdiv (2:Int))) (OZ.length:Int)).bind λs_6=>(rec s_6 Y7).bind λQk=>(xf PW Qk Y7).bind λQJ=>some QJ)else none
theorem MO {rec:List (List Val)->List La->Option (List (List Val))}  (Pm:∀ {x:List (List Val)} {y:List La} {r:List (List Val)},rec x y=some r->PTz 107 [.one (.lst (x.map (λx=>[AC.lst (x.map cV)]))),.one (.lst (y.map D1))] (.val (.one (.lst (r.map (λx=>[AC.lst (x.map cV)])))))){OZ:(List (List Val))}{Y7:(List La)}{r:(List (List Val))}(H:pN rec OZ Y7=some r):PTz 107 [.one (.lst (OZ.map (λx=>[AC.lst (x.map cV)]))),.one (.lst (Y7.map D1))] (.val (.one (.lst (r.map (λx=>[AC.lst (x.map cV)]))))):=by
 unfold pN at H;refine po_ Tryz.func107 Tryz.ntmps107 ?_;obtain⟨QM,H⟩|⟨QM,H⟩:=aj H
 ·exact ay H
 obtain⟨Qr,H⟩|⟨Qr,H⟩:=aj H
 ·exact ay H
 obtain⟨g3,H⟩:=aL H;obtain⟨s_4,u4,H⟩:=bd_ H;obtain⟨⟨u4a,u4b,u4c⟩,u4⟩:=cQ u4;have u4x:=zm (f:=(λx=>[AC.lst (x.map cV)])) u4;obtain⟨PW,c5,H⟩:=bd_ H;replace c5:=Pm c5;obtain⟨s_6,u6,H⟩:=bd_ H;obtain⟨⟨u6a,u6b,u6c⟩,u6⟩:=cQ u6;have u6x:=zm (f:=(λx=>[AC.lst (x.map cV)])) u6;obtain⟨Qk,c7,H⟩:=bd_ H;replace c7:=Pm c7;obtain⟨QJ,c8,H⟩:=bd_ H;replace c8:=gMerged_ok c8
 cases H
 repeat' (first|refine gs_ ?_|rw[u4x]|rw[u6x]|rw[show((0:Nat):Int)=0 from rfl])
 refine aX (bg rfl ?_ ?_)
 ·repeat' (first|exact t7|rfl|exact aqA rfl|omega|apply And.intro)
 ·first|rfl|(simp only[aqD,aqB,aqF,aqv]<;>rfl)
def yz:Nat->List (List Val)->List La->Option (List (List Val))
 |0,_,_=>none
 |n+1,a,b=>pN (yz n) a b
theorem Ef:∀ (n:Nat) {x:List (List Val)} {y:List La} {r:List (List Val)},yz n x y=some r->PTz 107 [.one (.lst (x.map (λx=>[AC.lst (x.map cV)]))),.one (.lst (y.map D1))] (.val (.one (.lst (r.map (λx=>[AC.lst (x.map cV)])))))
 |0,_,_,_,h=>nomatch h
 |n+1,_,_,_,h=>MO (Ef n) h
def uO (OZ:(List (List Val))):Option ((List (List Val))):=(yz 301 OZ ([]:(List La))).bind λO7=>some O7
instance gSortR_ok {OZ : (List (List Val))} {r : (List (List Val))} : OkC (uO OZ = some r) (PTz 71 [.one (.lst (OZ.map (λx => [AC.lst (x.map cV)])))] (.val (.one (.lst (r.map (λx => [AC.lst (x.map cV)])))))) := .mk λH => by
 unfold uO at H;refine po_ Tryz.func71 Tryz.ntmps71 ?_;obtain⟨O7,c1,H⟩:=bd_ H;replace c1:=Ef 301 c1
 try simp only[aqD,aqB,aqF,aqv,aC]at c1
 exact ay H
noncomputable section
def bO (O7:(List (List Val))):((List (List Val))×Int)->Option (Step ((List (List Val))×Int) ((List (List Val)))):=λs=>match s with
 |(O8,Qh)=>bif Qh<(O7.length:Int)then bif Qh=(0:Int)then(aF O7 Qh).bind λS9=>bif O8.length+1<=5864062014805 then(some (.next ((O8++[S9]),(i64.wrap (Qh+(1:Int))))))else none else
 (aF O7 (i64.wrap (Qh-(1:Int)))).bind λRE=>(aF O7 Qh).bind λR4=>(iJ RE R4).bind λQw=>bif (!Qw)then bif O8.length+1<=5864062014805 then(some (.next ((O8++[R4]),(i64.wrap (Qh+(1:Int))))))else none else
 some (.next (O8,(i64.wrap (Qh+(1:Int)))))else
 some (.exit (O8,Qh))
def k6:Sum ((List (List Val))×Int) ((List (List Val)))->Option (((List (List Val))))
 |.inl (O8,Qh)=>some O8
 |.inr q=>some q
def iY (OZ:(List (List Val))):Option ((List (List Val))):=(uO OZ).bind λO7=>(ao (bO O7) fuel ([],(0:Int))).bind (k6)
instance gDistinct8_ok {OZ : (List (List Val))} {r : (List (List Val))} : OkC (iY OZ = some r) (PTz 209 [.one (.lst (OZ.map (λx => [AC.lst (x.map cV)])))] (.val (.one (.lst (r.map (λx => [AC.lst (x.map cV)])))))) := .mk λH => by
 unfold iY at H;refine po_ Tryz.func209 Tryz.ntmps209 ?_;obtain⟨O7,c1,H⟩:=bd_ H;replace c1:=gSortR_ok c1;refine a6 ?_;refine bS 4 1 rfl ?_;refine alM_ (λs:(List (List Val))×Int=>match s with|(O8,Qh)=>[(3,.one (.c (.lst (O7.map (λx=>[AC.lst (x.map cV)]))))),(4,.one (.own (O8.map (λx=>[AC.lst (x.map cV)])) 0)),(5,.one (.c (.int .i64 Qh)))]) (λs=>match s with|(O8,Qh)=>[.spare O8.length 1]) H (λ_=>aqL _)
  (fm_ bE [] rfl bm cm) ?_
 rintro⟨O8,Qh⟩ QF OU Pz;exact bA OU Pz
def tp (OZ:(List ap)):((List (List Val))×Int)->Option (Step ((List (List Val))×Int) ((List (List Val)))):=λs=>match s with
 |(OV,i_2)=>bif i_2<(OZ.length:Int)then(aF OZ i_2).bind λPK=>(cG PK.valid).bind λPW=>bif PW then bif OV.length+1<=5864062014805 then(some (.next ((OV++[PK.row]),(i64.wrap (i_2+(1:Int))))))else none else
 some (.next (OV,(i64.wrap (i_2+(1:Int)))))else
 some (.exit (OV,i_2))
def Ky:Sum ((List (List Val))×Int) ((List (List Val)))->Option (((List (List Val))))
 |.inl (OV,i_2)=>(iY OV).bind λQk=>some Qk
 |.inr q=>some q
def xk (OZ:(List ap)):Option ((List (List Val))):=(ao (tp OZ) fuel ([],(0:Int))).bind (Ky)
instance gRows22_ok {OZ : (List ap)} {r : (List (List Val))} : OkC (xk OZ = some r) (PTz 150 [.one (.lst (OZ.map aH))] (.val (.one (.lst (r.map (λx => [AC.lst (x.map cV)])))))) := .mk λH => by
 unfold xk at H;refine po_ Tryz.func150 Tryz.ntmps150 ?_;refine a6 ?_;refine bS 3 1 rfl ?_;refine alM_ (λs:(List (List Val))×Int=>match s with|(OV,i_2)=>[(0,.one (.c (.lst (OZ.map aH)))),(3,.one (.own (OV.map (λx=>[AC.lst (x.map cV)])) 0)),(4,.one (.c (.int .i64 i_2)))]) (λs=>match s with|(OV,i_2)=>[.spare OV.length 1]) H (λ_=>aqL _)
  (fm_ bE [] rfl bm cm) ?_
 rintro⟨OV,i_2⟩ QF OU Pz;exact bA OU Pz
def jW (OZ:(List ap))(O3:(List Val)):((List tm)×Int)->Option (Step ((List tm)×Int) ((List Stp))):=λs=>match s with
 |(PX,i_2)=>bif i_2<(OZ.length:Int)then(aF OZ i_2).bind λPK=>(pi PK.row O3).bind λPW=>bif PW=(0:Int)then bif PX.length+1<=5864062014805 then(some (.next ((PX++[(⟨PK.valid,(1:Int)⟩:tm)]),(i64.wrap (i_2+(1:Int))))))else none else
 some (.next (PX,(i64.wrap (i_2+(1:Int)))))else
 some (.exit (PX,i_2))
def mW:Sum ((List tm)×Int) ((List Stp))->Option (((List Stp)))
 |.inl (PX,i_2)=>(ai9 PX).bind λQk=>some Qk
 |.inr q=>some q
def nv (OZ:(List ap))(O3:(List Val)):Option ((List Stp)):=(ao (jW OZ O3) fuel ([],(0:Int))).bind (mW)
instance gCounts22_ok {OZ : (List ap)} {O3 : (List Val)} {r : (List Stp)} : OkC (nv OZ O3 = some r) (PTz 151 [.one (.lst (OZ.map aH)), .one (.lst (O3.map cV))] (.val (.one (.lst (r.map gK))))) := .mk λH => by
 unfold nv at H;refine po_ Tryz.func151 Tryz.ntmps151 ?_;refine a6 ?_;refine bS 5 3 rfl ?_;refine alM_ (λs:(List tm)×Int=>match s with|(PX,i_2)=>[(0,.one (.c (.lst (OZ.map aH)))),(1,.one (.c (.lst (O3.map cV)))),(5,.one (.own (PX.map uC) 0)),(6,.one (.c (.int .i64 i_2)))]) (λs=>match s with|(PX,i_2)=>[.spare PX.length 3]) H (λ_=>aqL _)
  (fm_ bE [] rfl bm cm) ?_
 rintro⟨PX,i_2⟩ QF OU Pz;unfold jW at OU;dsimp only at OU ⊢;obtain⟨P9,OU⟩|⟨P9,OU⟩:=aj OU
 ·exact ajm OU
 cases OU;have O2:mW (.inl (PX,i_2))=some _:=Pz;unfold mW at O2;dsimp only at O2;obtain⟨Qk,c4,O2⟩:=bd_ O2;replace c4:=aiB c4;exact ay O2
def tS (O3:(List Val))(Pe:(List ax)):((List ap)×Int)->Option (Step ((List ap)×Int) ((List ap))):=λs=>match s with
 |(OV,i_2)=>bif i_2<(Pe.length:Int)then(aF Pe i_2).bind λPK=>bif OV.length+1<=3518437208883 then(some (.next ((OV++[(⟨O3,PK⟩:ap)]),(i64.wrap (i_2+(1:Int))))))else none else
 some (.exit (OV,i_2))
def I1:Sum ((List ap)×Int) ((List ap))->Option (((List ap)))
 |.inl (OV,i_2)=>some OV
 |.inr q=>some q
def kP (O3:(List Val))(Pe:(List ax)):Option ((List ap)):=(ao (tS O3 Pe) fuel ([],(0:Int))).bind (I1)
instance gDuring_ok {O3 : (List Val)} {Pe : (List ax)} {r : (List ap)} : OkC (kP O3 Pe = some r) (PTz 64 [.one (.lst (O3.map cV)), .one (.lst (Pe.map aP))] (.val (.one (.lst (r.map aH))))) := .mk λH => by
 unfold kP at H;refine po_ Tryz.func64 Tryz.ntmps64 ?_;refine a6 ?_;refine bS 5 3 rfl ?_;refine alM_ (λs:(List ap)×Int=>match s with|(OV,i_2)=>[(0,.one (.c (.lst (O3.map cV)))),(1,.one (.c (.lst (Pe.map aP)))),(5,.one (.own (OV.map aH) 0)),(6,.one (.c (.int .i64 i_2)))]) (λs=>match s with|(OV,i_2)=>[.spare OV.length 3]) H (λ_=>aqL _)
  (fm_ bE [] rfl bm cm) ?_
 rintro⟨OV,i_2⟩ QF OU Pz;exact bA OU Pz
def cK (OX:(List ap))(OY:(List ap)):((List ap)×Int×Int)->Option (Step ((List ap)×Int×Int) ((List ap))):=λs=>match s with
 |(OV,i_2,TU)=>bif i_2<(OX.length:Int)then bif i_2=(OX.length:Int)then(aF OY TU).bind λS9=>bif OV.length+1<=3518437208883 then(some (.next ((OV++[S9]),i_2,(i64.wrap (TU+(1:Int))))))else none else
 bif TU<(OY.length:Int)then(aF OY TU).bind λR4=>(aF OX i_2).bind λUK=>(pi R4.row UK.row).bind λP7=>bif P7<(0:Int)then bif OV.length+1<=3518437208883 then(some (.next ((OV++[R4]),i_2,(i64.wrap (TU+(1:Int))))))else none else
 bif OV.length+1<=3518437208883 then(some (.next ((OV++[UK]),(i64.wrap (i_2+(1:Int))),TU)))else none else
 (aF OX i_2).bind λQ8=>bif OV.length+1<=3518437208883 then(some (.next ((OV++[Q8]),(i64.wrap (i_2+(1:Int))),TU)))else none else
 bif TU<(OY.length:Int)then bif i_2=(OX.length:Int)then(aF OY TU).bind λx_15=>bif OV.length+1<=3518437208883 then(some (.next ((OV++[x_15]),i_2,(i64.wrap (TU+(1:Int))))))else none else
 (aF OY TU).bind λSK=>(aF OX i_2).bind λVi=>(pi SK.row Vi.row).bind λTd=>bif Td<(0:Int)then bif OV.length+1<=3518437208883 then(some (.next ((OV++[SK]),i_2,(i64.wrap (TU+(1:Int))))))else none else
 bif OV.length+1<=3518437208883 then(some (.next ((OV++[Vi]),(i64.wrap (i_2+(1:Int))),TU)))else none else
 some (.exit (OV,i_2,TU))
def tG:Sum ((List ap)×Int×Int) ((List ap))->Option (((List ap)))
 |.inl (OV,i_2,TU)=>some OV
 |.inr q=>some q
def ng (OX:(List ap))(OY:(List ap)):Option ((List ap)):=(ao (cK OX OY) fuel ([],(0:Int),(0:Int))).bind (tG)
instance gMerged22_ok {OX : (List ap)} {OY : (List ap)} {r : (List ap)} : OkC (ng OX OY = some r) (PTz 208 [.one (.lst (OX.map aH)), .one (.lst (OY.map aH))] (.val (.one (.lst (r.map aH))))) := .mk λH => by
 unfold ng at H;refine po_ Tryz.func208 Tryz.ntmps208 ?_;refine a6 ?_;refine bS 5 3 rfl ?_;refine alM_ (λs:(List ap)×Int×Int=>match s with|(OV,i_2,TU)=>[(0,.one (.c (.lst (OX.map aH)))),(1,.one (.c (.lst (OY.map aH)))),(5,.one (.own (OV.map aH) 0)),(6,.one (.c (.int .i64 i_2))),(7,.one (.c (.int .i64 TU)))]) (λs=>match s with|(OV,i_2,TU)=>[.spare OV.length 3]) H (λ_=>aqL _)
  (fm_ bE [] rfl bm cm) ?_
 rintro⟨OV,i_2,TU⟩ QF OU Pz;exact bA OU Pz
def m_ (rec:List ap->Option (List ap))(OZ:(List ap)):Option ((List ap)):=bif (OZ.length:Int)<(2:Int)then some OZ else
 bif (2:Int)≠0 then((gU OZ (0:Int) (i64.wrap ((OZ.length:Int).tdiv (2:Int)))).bind λVr=>(rec Vr).bind λPY=>(gU OZ (i64.wrap ((OZ.length:Int).tdiv (2:Int))) (OZ.length:Int)).bind λs_4=>(rec s_4).bind λPW=>(ng PY PW).bind λP1=>some P1)else none
theorem CQ {rec:List ap->Option (List ap)}  (Pm:∀ {x:List ap} {r:List ap},rec x=some r->PTz 149 [.one (.lst (x.map aH))] (.val (.one (.lst (r.map aH))))){OZ:(List ap)}{r:(List ap)}(H:m_ rec OZ=some r):PTz 149 [.one (.lst (OZ.map aH))] (.val (.one (.lst (r.map aH)))):=by
 unfold m_ at H;refine po_ Tryz.func149 Tryz.ntmps149 ?_;obtain⟨QM,H⟩|⟨QM,H⟩:=aj H
 ·exact ay H
 obtain⟨g1,H⟩:=aL H;obtain⟨Vr,u2,H⟩:=bd_ H;obtain⟨⟨u2a,u2b,u2c⟩,u2⟩:=cQ u2;have u2x:=zm (f:=aH) u2;obtain⟨PY,c3,H⟩:=bd_ H;replace c3:=Pm c3;obtain⟨s_4,u4,H⟩:=bd_ H;obtain⟨⟨u4a,u4b,u4c⟩,u4⟩:=cQ u4;have u4x:=zm (f:=aH) u4;obtain⟨PW,c5,H⟩:=bd_ H;replace c5:=Pm c5;obtain⟨P1,c6,H⟩:=bd_ H;replace c6:=gMerged22_ok c6
 cases H
 repeat' (first|refine gs_ ?_|rw[u2x]|rw[u4x]|rw[show((0:Nat):Int)=0 from rfl])
 refine aX (bg rfl ?_ ?_)
 ·repeat' (first|exact t7|rfl|exact aqA rfl|omega|apply And.intro)
 ·first|rfl|(simp only[aqD,aqB,aqF,aqv]<;>rfl)
def rM:Nat->List ap->Option (List ap)
 |0,_=>none
 |n+1,a=>m_ (rM n) a
theorem wn:∀ (n:Nat) {x:List ap} {r:List ap},rM n x=some r->PTz 149 [.one (.lst (x.map aH))] (.val (.one (.lst (r.map aH))))
 |0,_,_,h=>nomatch h
 |n+1,_,_,h=>CQ (wn n) h
def fk (Vj:(List ap))(PM:(List (List Val))):((List bR)×Int)->Option (Step ((List bR)×Int) ((List bR))):=λs=>match s with
 |(Pq,QB)=>bif QB<(PM.length:Int)then(aF PM QB).bind λSK=>(nv Vj SK).bind λQ2=>bif Pq.length+1<=2932031007402 then(some (.next ((Pq++[(⟨SK,Q2⟩:bR)]),(i64.wrap (QB+(1:Int))))))else none else
 some (.exit (Pq,QB))
def fw (k_5:Int):Sum ((List bR)×Int) ((List bR))->Option (Step ((List bR)×Int) ((List bR)))
 |.inl (Pq,QB)=>some (.next (Pq,k_5))
 |.inr q=>some (.ret q)
def dZ (O7:(List ap))(Qh:Int):(Int)->Option (Step (Int) ((List bR))):=λs=>match s with
 |k_5=>bif k_5<(O7.length:Int)then(aF O7 k_5).bind λRE=>(aF O7 Qh).bind λR4=>(pi RE.row R4.row).bind λQw=>bif Qw=(0:Int)then some (.next (i64.wrap (k_5+(1:Int))))else
 some (.exit k_5)else
 some (.exit k_5)
def hJ (O7:(List ap))(O8:(List bR))(Qh:Int):Sum (Int) ((List bR))->Option (Step ((List bR)×Int) ((List bR)))
 |.inl k_5=>(gU O7 Qh k_5).bind λVj=>(xk Vj).bind λPM=>(ao (fk Vj PM) fuel (O8,(0:Int))).bind (fw k_5)
 |.inr q=>some (.ret q)
def du (O7:(List ap)):((List bR)×Int)->Option (Step ((List bR)×Int) ((List bR))):=λs=>match s with
 |(O8,Qh)=>bif Qh<(O7.length:Int)then(ao (dZ O7 Qh) fuel Qh).bind (hJ O7 O8 Qh)else
 some (.exit (O8,Qh))
def Dj:Sum ((List bR)×Int) ((List bR))->Option (((List bR)))
 |.inl (O8,Qh)=>some O8
 |.inr q=>some q
def nG (OZ:(List ap)):Option ((List bR)):=(rM 640 OZ).bind λO7=>(ao (du O7) fuel ([],(0:Int))).bind (Dj)
instance gGroups22_ok {OZ : (List ap)} {r : (List bR)} : OkC (nG OZ = some r) (PTz 93 [.one (.lst (OZ.map aH))] (.val (.one (.lst (r.map jG))))) := .mk λH => by
 unfold nG at H;refine po_ Tryz.func93 Tryz.ntmps93 ?_;obtain⟨O7,c1,H⟩:=bd_ H;replace c1:=wn 640 c1;refine a6 ?_;refine bS 4 2 rfl ?_;refine alM_ (λs:(List bR)×Int=>match s with|(O8,Qh)=>[(3,.one (.c (.lst (O7.map aH)))),(4,.one (.own (O8.map jG) 0)),(5,.one (.c (.int .i64 Qh)))]) (λs=>match s with|(O8,Qh)=>[.spare O8.length 2]) H (λ_=>aqL _)
  (fm_ bE [] rfl bm cm) ?_
 rintro⟨O8,Qh⟩ st5 Qp hk5;unfold du at Qp;dsimp only at Qp ⊢;obtain⟨Qf,Qp⟩|⟨Qf,Qp⟩:=aj Qp
 ·refine a6 ?_
  refine alM_ (λs:Int=>match s with|k_5=>[(3,.one (.c (.lst (O7.map aH)))),(4,.one (.own (O8.map jG) 0)),(5,.one (.c (.int .i64 Qh))),(6,.one (.c (.int .i64 k_5)))]) (λs=>match s with|k_5=>[.spare O8.length 2]) Qp (λ_=>aqL _)
   (fm_ bE [] rfl bm cm) ?_
  rintro k_5 st6 QV hk6;unfold dZ at QV;dsimp only at QV ⊢;obtain⟨QG,QV⟩|⟨QG,QV⟩:=aj QV
  ·obtain⟨RE,U0,i2,U2,QV⟩:=br (f:=aH) QV
   obtain⟨R4,Y2,i3,XB,QV⟩:=br (f:=aH) QV;obtain⟨Qw,c4,QV⟩:=bd_ QV;replace c4:=gCmp8_ok c4;obtain⟨Qn,QV⟩|⟨Qn,QV⟩:=aj QV
   ·cases QV
    refine a6 ?_;exact⟨_,rfl,fm_ bE [] rfl bm cm⟩
   cases QV;have Ph:hJ O7 O8 Qh (.inl k_5)=some _:=hk6;unfold hJ at Ph;dsimp only at Ph;obtain⟨Vj,u5,Ph⟩:=bd_ Ph;obtain⟨⟨u5a,u5b,u5c⟩,u5⟩:=cQ u5;have VY:=zm (f:=aH) u5;obtain⟨PM,c6,Ph⟩:=bd_ Ph;replace c6:=gRows22_ok c6
   repeat' (first|refine gs_ ?_|rw[VY]|rw[show((0:Nat):Int)=0 from rfl])
   refine alM_ (λs:(List bR)×Int=>match s with|(Pq,QB)=>[(3,.one (.c (.lst (O7.map aH)))),(4,.one (.own (Pq.map jG) 0)),(5,.one (.c (.int .i64 Qh))),(6,.one (.c (.int .i64 k_5))),(7,.one (.c (.lst (PM.map (λx=>[AC.lst (x.map cV)]))))),(8,.one (.c (.int .i64 QB)))]) (λs=>match s with|(Pq,QB)=>[.spare Pq.length 2]) Ph (λ_=>aqL _)
    (fm_ bE [] rfl bm cm) ?_
   rintro⟨Pq,QB⟩ st7 Su hk7;unfold fk at Su;dsimp only at Su ⊢;obtain⟨Rk,Su⟩|⟨Rk,Su⟩:=aj Su
   ·obtain⟨SK,i7z,i7,i7x,Su⟩:=br (f:=(λx=>[AC.lst (x.map cV)])) Su
    obtain⟨Q2,c8,Su⟩:=bd_ Su;replace c8:=gCounts22_ok c8;obtain⟨g9,Su⟩:=aL Su
    cases Su
    repeat' (first|refine gs_ ?_|rw[VY]|rw[show((0:Nat):Int)=0 from rfl])
    exact⟨_,rfl,fm_ sg [] qG bm cm⟩
   cases Su;have Yz:fw k_5 (.inl (Pq,QB))=some _:=hk7;unfold fw at Yz;dsimp only at Yz
   cases Yz
   repeat' (first|refine gs_ ?_|rw[VY]|rw[show((0:Nat):Int)=0 from rfl])
   exact⟨_,rfl,fm_ sg [] qG bm cm⟩
  cases QV;have Ph:hJ O7 O8 Qh (.inl k_5)=some _:=hk6;unfold hJ at Ph;dsimp only at Ph;obtain⟨Vj,Yh,Ph⟩:=bd_ Ph;obtain⟨⟨u10a,u10b,u10c⟩,Yh⟩:=cQ Yh;have Uf:=zm (f:=aH) Yh;obtain⟨PM,Vu,Ph⟩:=bd_ Ph;replace Vu:=gRows22_ok Vu
  repeat' (first|refine gs_ ?_|rw[Uf]|rw[show((0:Nat):Int)=0 from rfl])
  refine alM_ (λs:(List bR)×Int=>match s with|(Pq,QB)=>[(3,.one (.c (.lst (O7.map aH)))),(4,.one (.own (Pq.map jG) 0)),(5,.one (.c (.int .i64 Qh))),(6,.one (.c (.int .i64 k_5))),(7,.one (.c (.lst (PM.map (λx=>[AC.lst (x.map cV)]))))),(8,.one (.c (.int .i64 QB)))]) (λs=>match s with|(Pq,QB)=>[.spare Pq.length 2]) Ph (λ_=>aqL _)
   (fm_ bE [] rfl bm cm) ?_
  rintro⟨Pq,QB⟩ st7 Su hk7;unfold fk at Su;dsimp only at Su ⊢;obtain⟨Rk,Su⟩|⟨Rk,Su⟩:=aj Su
  ·obtain⟨SK,i12z,i12,i12x,Su⟩:=br (f:=(λx=>[AC.lst (x.map cV)])) Su
   obtain⟨Q2,UE,Su⟩:=bd_ Su;replace UE:=gCounts22_ok UE;obtain⟨g14,Su⟩:=aL Su
   cases Su
   repeat' (first|refine gs_ ?_|rw[Uf]|rw[show((0:Nat):Int)=0 from rfl])
   exact⟨_,rfl,fm_ sg [] qG bm cm⟩
  cases Su;have Yz:fw k_5 (.inl (Pq,QB))=some _:=hk7;unfold fw at Yz;dsimp only at Yz
  cases Yz
  repeat' (first|refine gs_ ?_|rw[Uf]|rw[show((0:Nat):Int)=0 from rfl])
  exact⟨_,rfl,fm_ sg [] qG bm cm⟩
 exact bA Qp hk5
def uR (O7:(List bR)):((List ap)×Int)->Option (Step ((List ap)×Int) ((List ap))):=λs=>match s with
 |(O8,Qh)=>bif Qh<(O7.length:Int)then(aF O7 Qh).bind λQa=>(aad Qa.steps).bind λP1=>(kP Qa.row P1).bind λQk=>bif O8.length+Qk.length<=3518437208883 then(some (.next ((O8++Qk),(i64.wrap (Qh+(1:Int))))))else none else
 some (.exit (O8,Qh))
def ae2:Sum ((List ap)×Int) ((List ap))->Option (((List ap)))
 |.inl (O8,Qh)=>some O8
 |.inr q=>some q
def mj (OZ:(List ap)):Option ((List ap)):=(nG OZ).bind λO7=>(ao (uR O7) fuel ([],(0:Int))).bind (ae2)
instance gBagR_ok {OZ : (List ap)} {r : (List ap)} : OkC (mj OZ = some r) (PTz 56 [.one (.lst (OZ.map aH))] (.val (.one (.lst (r.map aH))))) := .mk λH => by
 unfold mj at H;refine po_ Tryz.func56 Tryz.ntmps56 ?_;obtain⟨O7,c1,H⟩:=bd_ H;replace c1:=gGroups22_ok c1;refine a6 ?_;refine bS 4 3 rfl ?_;refine alM_ (λs:(List ap)×Int=>match s with|(O8,Qh)=>[(3,.one (.c (.lst (O7.map jG)))),(4,.one (.own (O8.map aH) 0)),(5,.one (.c (.int .i64 Qh)))]) (λs=>match s with|(O8,Qh)=>[.spare O8.length 3]) H (λ_=>aqL _)
  (fm_ bE [] rfl bm cm) ?_
 rintro⟨O8,Qh⟩ QF OU Pz;unfold uR at OU;dsimp only at OU ⊢;obtain⟨Qf,OU⟩|⟨Qf,OU⟩:=aj OU
 ·obtain⟨Qa,U0,i2,U2,OU⟩:=br (f:=jG) OU
  obtain⟨P1,c3,OU⟩:=bd_ OU;replace c3:=afj c3;exact ajm OU
 exact bA OU Pz
def ie (OX:(List ap))(OY:(List ap)):(Int)->Option (Step (Int) (Bool)):=λs=>match s with
 |i_2=>bif i_2<(OX.length:Int)then(aF OX i_2).bind λPK=>(aF OY i_2).bind λQa=>bif (!(cl [.c (.int .i64 PK.valid.lo),.c (.int .i64 PK.valid.hi)] [.c (.int .i64 Qa.valid.lo),.c (.int .i64 Qa.valid.hi)]))then some (.ret false)else
 (pi PK.row Qa.row).bind λQk=>bif Qk≠(0:Int)then some (.ret false)else
 some (.next (i64.wrap (i_2+(1:Int))))else
 some (.exit i_2)
def aaI:Sum (Int) (Bool)->Option ((Bool))
 |.inl i_2=>some true
 |.inr q=>some q
def gX (OX:(List ap))(OY:(List ap)):Option (Bool):=bif (OX.length:Int)≠(OY.length:Int)then some false else
 (ao (ie OX OY) fuel (0:Int)).bind (aaI)
instance gIdent_ok {OX : (List ap)} {OY : (List ap)} {r : Bool} : OkC (gX OX OY = some r) (PTz 37 [.one (.lst (OX.map aH)), .one (.lst (OY.map aH))] (.val (.one (.bool r)))) := .mk λH => by
 unfold gX at H;refine po_ Tryz.func37 Tryz.ntmps37 ?_;obtain⟨QM,H⟩|⟨QM,H⟩:=aj H
 ·exact ay H
 refine a6 ?_;refine alM_ (λs:Int=>match s with|i_2=>[(0,.one (.c (.lst (OX.map aH)))),(1,.one (.c (.lst (OY.map aH)))),(5,.one (.c (.int .i64 i_2)))]) (λs=>match s with|i_2=>[]) H (λ_=>aqL _)
  (fm_ bE [] rfl bm trivial) ?_
 rintro i_2 QF OU Pz;unfold ie at OU;dsimp only at OU ⊢;obtain⟨P9,OU⟩|⟨P9,OU⟩:=aj OU
 ·obtain⟨PK,Rw,i1,Ri,OU⟩:=br (f:=aH) OU
  obtain⟨Qa,U0,i2,U2,OU⟩:=br (f:=aH) OU;obtain⟨QG,OU⟩|⟨QG,OU⟩:=aj OU
  ·exact bA OU Pz
  obtain⟨Qk,c3,OU⟩:=bd_ OU;replace c3:=gCmp8_ok c3;obtain⟨Si,OU⟩|⟨Si,OU⟩:=aj OU
  ·exact bA OU Pz
  cases OU;refine a6 ?_;exact⟨_,rfl,fm_ bE [] rfl bm trivial⟩
 exact bA OU Pz
end
def D6 (Ru:ByteArray):Option (Val):=(pp (⟨(2:Int),(0:Int),Ru⟩:Val)).bind λO7=>some O7
instance gTextR_ok {Ru : ByteArray} {r : Val} : OkC (D6 Ru = some r) (PTz 221 [.one (.str Ru)] (.val (.agg (cV r)))) := .mk λH => by
 unfold D6 at H;refine po_ Tryz.func221 Tryz.ntmps221 ?_;exact ay H
def qD (OY:Bool):Option (Val):=bif OY then some (⟨(3:Int),(1:Int),ByteArray.empty⟩:Val)else
 some (⟨(3:Int),(0:Int),ByteArray.empty⟩:Val)
instance gBoolR_ok {OY : Bool} {r : Val} : OkC (qD OY = some r) (PTz 161 [.one (.bool OY)] (.val (.agg (cV r)))) := .mk λH => by
 unfold qD at H;refine po_ Tryz.func161 Tryz.ntmps161 ?_;exact ay H
def sT (OX:Val)(OY:Val)(TQ:Bool):Option (Int):=bif OX.kind=(0:Int)then some (1:Int)else
 bif OX.kind≠OY.kind then some (1:Int)else
 bif TQ then some (2:Int)else
 some (0:Int)
instance gtruthR_ok {OX : Val} {OY : Val} {TQ : Bool} {r : Int} : OkC (sT OX OY TQ = some r) (PTz 247 [.agg (cV OX), .agg (cV OY), .one (.bool TQ)] (.val (.one (.int .i64 r)))) := .mk λH => by
 unfold sT at H;refine po_ Tryz.func247 Tryz.ntmps247 ?_;exact ay H
def agk (OX:Val)(OY:Val):Option (Int):=(v_ OX OY).bind λO7=>(sT OX OY (decide (O7=(0:Int)))).bind λQd=>some Qd
instance gEqR_ok {OX : Val} {OY : Val} {r : Int} : OkC (agk OX OY = some r) (PTz 218 [.agg (cV OX), .agg (cV OY)] (.val (.one (.int .i64 r)))) := .mk λH => by
 unfold agk at H;refine po_ Tryz.func218 Tryz.ntmps218 ?_;exact ay H
def td (OX:Val)(OY:Val):Option (Int):=(v_ OX OY).bind λO7=>(sT OX OY (decide (O7<(0:Int)))).bind λQd=>some Qd
instance gLessR_ok {OX : Val} {OY : Val} {r : Int} : OkC (td OX OY = some r) (PTz 219 [.agg (cV OX), .agg (cV OY)] (.val (.one (.int .i64 r)))) := .mk λH => by
 unfold td at H;refine po_ Tryz.func219 Tryz.ntmps219 ?_;exact ay H
def Hf (OX:Int):Option (Int):=bif OX=(2:Int)then some (0:Int)else
 bif OX=(0:Int)then some (2:Int)else
 some (1:Int)
instance gNotR_ok {OX : Int} {r : Int} : OkC (Hf OX = some r) (PTz 165 [.one (.int .i64 OX)] (.val (.one (.int .i64 r)))) := .mk λH => by
 unfold Hf at H;refine po_ Tryz.func165 Tryz.ntmps165 ?_;exact ay H
def G7 (OX:Int)(OY:Int):Option (Int):=bif OX=(0:Int)then some (0:Int)else
 bif OY=(0:Int)then some (0:Int)else
 bif OX=(2:Int)then bif OY=(2:Int)then some (2:Int)else
 some (1:Int)else
 some (1:Int)
instance gAndR_ok {OX : Int} {OY : Int} {r : Int} : OkC (G7 OX OY = some r) (PTz 216 [.one (.int .i64 OX), .one (.int .i64 OY)] (.val (.one (.int .i64 r)))) := .mk λH => by
 unfold G7 at H;refine po_ Tryz.func216 Tryz.ntmps216 ?_;exact ay H
def afw (OX:Int)(OY:Int):Option (Int):=bif OX=(2:Int)then some (2:Int)else
 bif OY=(2:Int)then some (2:Int)else
 bif OX=(0:Int)then bif OY=(0:Int)then some (0:Int)else
 some (1:Int)else
 some (1:Int)
instance gOrR_ok {OX : Int} {OY : Int} {r : Int} : OkC (afw OX OY = some r) (PTz 217 [.one (.int .i64 OX), .one (.int .i64 OY)] (.val (.one (.int .i64 r)))) := .mk λH => by
 unfold afw at H;refine po_ Tryz.func217 Tryz.ntmps217 ?_;exact ay H
def ft (QR:Val):Option (Int):=(qD true).bind λO7=>bif (cl [.c (.int .i64 QR.kind),.c (.int .i64 QR.int),.c (.str QR.text)] [.c (.int .i64 O7.kind),.c (.int .i64 O7.int),.c (.str O7.text)])then some (2:Int)else
 (qD false).bind λPY=>bif (cl [.c (.int .i64 QR.kind),.c (.int .i64 QR.int),.c (.str QR.text)] [.c (.int .i64 PY.kind),.c (.int .i64 PY.int),.c (.str PY.text)])then some (0:Int)else
 some (1:Int)
instance gTruth7_ok {QR : Val} {r : Int} : OkC (ft QR = some r) (PTz 105 [.agg (cV QR)] (.val (.one (.int .i64 r)))) := .mk λH => by
 unfold ft at H;refine po_ Tryz.func105 Tryz.ntmps105 ?_;exact ay H
def Ee (Qc:Int):Option (Val):=bif Qc=(2:Int)then(qD (decide (Qc=(2:Int)))).bind λQd=>some Qd else
 bif Qc=(0:Int)then(qD (decide (Qc=(2:Int)))).bind λQm=>some Qm else
 (dt ).bind λPW=>some PW
instance gOf7_ok {Qc : Int} {r : Val} : OkC (Ee Qc = some r) (PTz 164 [.one (.int .i64 Qc)] (.val (.agg (cV r)))) := .mk λH => by
 unfold Ee at H;refine po_ Tryz.func164 Tryz.ntmps164 ?_;exact ay H
def tn (O5:Int):Option (Int×Int):=bif O5=(1:Int)then some ((0:Int),(0:Int))else
 bif O5=(2:Int)then some ((0:Int),(0:Int))else
 bif O5=(4:Int)then some ((1:Int),(1:Int))else
 bif O5=(18:Int)then some ((1:Int),(1:Int))else
 bif O5=(20:Int)then some ((1:Int),(1:Int))else
 bif O5=(21:Int)then some ((1:Int),(1:Int))else
 bif O5=(5:Int)then some ((2:Int),(1099511627776:Int))else
 bif O5=(6:Int)then some ((2:Int),(1099511627776:Int))else
 bif O5=(7:Int)then some ((2:Int),(2:Int))else
 bif O5=(8:Int)then some ((2:Int),(2:Int))else
 bif O5=(9:Int)then some ((2:Int),(2:Int))else
 bif O5=(10:Int)then some ((2:Int),(2:Int))else
 bif O5=(11:Int)then some ((2:Int),(2:Int))else
 bif O5=(12:Int)then some ((2:Int),(2:Int))else
 bif O5=(13:Int)then some ((2:Int),(2:Int))else
 bif O5=(14:Int)then some ((2:Int),(2:Int))else
 bif O5=(15:Int)then some ((2:Int),(2:Int))else
 bif O5=(16:Int)then some ((2:Int),(2:Int))else
 bif O5=(17:Int)then some ((2:Int),(2:Int))else
 bif O5=(19:Int)then some ((2:Int),(2:Int))else
 bif O5=(22:Int)then some ((3:Int),(3:Int))else
 bif O5=(23:Int)then some ((1:Int),(1099511627776:Int))else
 bif O5=(24:Int)then some ((4:Int),(4:Int))else
 some ((-1:Int),(0:Int))
instance gArity_ok {O5 : Int} {r : Int × Int} : OkC (tn O5 = some r) (PTz 200 [.one (.int .i64 O5)] (.tup [.one (.int .i64 r.1), .one (.int .i64 r.2)])) := .mk λH => by
 unfold tn at H;refine po_ Tryz.func200 Tryz.ntmps200 ?_;obtain⟨QM,H⟩|⟨QM,H⟩:=aj H
 ·exact ay H
 obtain⟨Qr,H⟩|⟨Qr,H⟩:=aj H
 ·exact ay H
 refine a6 ?_;obtain⟨P9,H⟩|⟨P9,H⟩:=aj H
 ·exact ay H
 obtain⟨Qf,H⟩|⟨Qf,H⟩:=aj H
 ·exact ay H
 obtain⟨Q6,H⟩|⟨Q6,H⟩:=aj H
 ·exact ay H
 refine a6 ?_;obtain⟨QG,H⟩|⟨QG,H⟩:=aj H
 ·exact ay H
 obtain⟨R_,H⟩|⟨R_,H⟩:=aj H
 ·exact ay H
 obtain⟨Si,H⟩|⟨Si,H⟩:=aj H
 ·exact ay H
 refine a6 ?_;obtain⟨S8,H⟩|⟨S8,H⟩:=aj H
 ·exact ay H
 obtain⟨Qn,H⟩|⟨Qn,H⟩:=aj H
 ·exact ay H
 obtain⟨QN,H⟩|⟨QN,H⟩:=aj H
 ·exact ay H
 refine a6 ?_;obtain⟨Rj,H⟩|⟨Rj,H⟩:=aj H
 ·exact ay H
 obtain⟨Q1,H⟩|⟨Q1,H⟩:=aj H
 ·exact ay H
 obtain⟨QA,H⟩|⟨QA,H⟩:=aj H
 ·exact ay H
 refine a6 ?_;obtain⟨Rk,H⟩|⟨Rk,H⟩:=aj H
 ·exact ay H
 obtain⟨TO,H⟩|⟨TO,H⟩:=aj H
 ·exact ay H
 obtain⟨SS,H⟩|⟨SS,H⟩:=aj H
 ·exact ay H
 refine a6 ?_;obtain⟨Rl,H⟩|⟨Rl,H⟩:=aj H
 ·exact ay H
 obtain⟨TP,H⟩|⟨TP,H⟩:=aj H
 ·exact ay H
 obtain⟨SU,H⟩|⟨SU,H⟩:=aj H
 ·exact ay H
 refine a6 ?_;exact ay H
def iy (OW:Ex):Option (Bool):=(tn OW.op).bind λO7=>bif O7.1<(0:Int)then some false else
 bif (OW.args.length:Int)<O7.1 then some false else
 bif O7.2<(OW.args.length:Int)then some false else
 bif (!(OW.nm.toList==(⟨#[]⟩:ByteArray).toList))then some false else
 bif OW.op=(1:Int)then bif OW.int=(0:Int)then(dh OW.v).bind λQJ=>some QJ else
 some false else
 bif OW.op=(2:Int)then(dt ).bind λP7=>some (cl [.c (.int .i64 OW.v.kind),.c (.int .i64 OW.v.int),.c (.str OW.v.text)] [.c (.int .i64 P7.kind),.c (.int .i64 P7.int),.c (.str P7.text)])else
 bif OW.op=(24:Int)then(dt ).bind λPM=>bif (cl [.c (.int .i64 OW.v.kind),.c (.int .i64 OW.v.int),.c (.str OW.v.text)] [.c (.int .i64 PM.kind),.c (.int .i64 PM.int),.c (.str PM.text)])then bif (0:Int)<=OW.int then some (decide (OW.int<(13:Int)))else
 some false else
 some false else
 bif OW.int=(0:Int)then(dt ).bind λSv=>some (cl [.c (.int .i64 OW.v.kind),.c (.int .i64 OW.v.int),.c (.str OW.v.text)] [.c (.int .i64 Sv.kind),.c (.int .i64 Sv.int),.c (.str Sv.text)])else
 some false
instance gFormedR_ok {OW : Ex} {r : Bool} : OkC (iy OW = some r) (PTz 162 [.agg (tE OW)] (.val (.one (.bool r)))) := .mk λH => by
 unfold iy at H;rw[aC OW];refine po_ Tryz.func162 Tryz.ntmps162 ?_;obtain⟨O7,c1,H⟩:=bd_ H;replace c1:=gArity_ok c1;obtain⟨Qr,H⟩|⟨Qr,H⟩:=aj H
 ·exact ay H
 obtain⟨P9,H⟩|⟨P9,H⟩:=aj H
 ·exact ay H
 refine a6 ?_;obtain⟨Qf,H⟩|⟨Qf,H⟩:=aj H
 ·exact ay H
 obtain⟨Q6,H⟩|⟨Q6,H⟩:=aj H
 ·exact ay H
 obtain⟨QG,H⟩|⟨QG,H⟩:=aj H
 ·refine a6 ?_
  exact ay H
 refine a6 ?_;obtain⟨S8,H⟩|⟨S8,H⟩:=aj H
 ·exact ay H
 obtain⟨QN,H⟩|⟨QN,H⟩:=aj H
 ·obtain⟨PM,c4,H⟩:=bd_ H
  replace c4:=gNullR_ok c4;obtain⟨Q1,H⟩|⟨Q1,H⟩:=aj H
  ·refine a6 ?_
   exact ay H
  exact ay H
 exact ay H
def eX (O5:Int)(OX:Val)(OY:Val):Option (Int):=bif O5=(7:Int)then(agk OX OY).bind λQd=>some Qd else
 bif O5=(8:Int)then(agk OX OY).bind λQm=>(Hf Qm).bind λPW=>some PW else
 bif O5=(9:Int)then(td OX OY).bind λQk=>some Qk else
 bif O5=(11:Int)then(td OY OX).bind λQw=>some Qw else
 bif O5=(10:Int)then(td OY OX).bind λQu=>(Hf Qu).bind λPM=>some PM else
 (td OX OY).bind λQv=>(Hf Qv).bind λRm=>some Rm
instance gCompared_ok {O5 : Int} {OX : Val} {OY : Val} {r : Int} : OkC (eX O5 OX OY = some r) (PTz 167 [.one (.int .i64 O5), .agg (cV OX), .agg (cV OY)] (.val (.one (.int .i64 r)))) := .mk λH => by
 unfold eX at H;refine po_ Tryz.func167 Tryz.ntmps167 ?_;obtain⟨QM,H⟩|⟨QM,H⟩:=aj H
 ·exact ay H
 obtain⟨P9,H⟩|⟨P9,H⟩:=aj H
 ·exact ay H
 refine a6 ?_;exact ay H
def afT (PI:Int):Option (Int):=some (EE PI (i64.wrap (0-PI)))
instance gAbs_ok {PI : Int} {r : Int} : OkC (afT PI = some r) (PTz 223 [.one (.int .i64 PI)] (.val (.one (.int .i64 r)))) := .mk λH => by
 unfold afT at H;refine po_ Tryz.func223 Tryz.ntmps223 ?_;exact ay H
def cN (O5:Int)(OX:Int)(OY:Int):Option (Val):=bif O5=(13:Int)then(o6 (i64.wrap (OX+OY))).bind λQd=>some Qd else
 bif O5=(14:Int)then(o6 (i64.wrap (OX-OY))).bind λQm=>some Qm else
 bif O5=(15:Int)then bif OX≠(0:Int)then(afT OY).bind λQk=>(afT OX).bind λQJ=>bif QJ≠0 then(bif (i64.wrap ((1125899906842624:Int).tdiv QJ))<Qk then(dt ).bind λP7=>some P7 else
 (o6 (i64.wrap (OX*OY))).bind λQu=>some Qu)else none else
 (o6 (i64.wrap (OX*OY))).bind λPM=>some PM else
 bif OY=(0:Int)then(dt ).bind λRm=>some Rm else
 bif O5=(16:Int)then bif OY≠0 then((o6 (i64.wrap (OX.tdiv OY))).bind λSv=>some Sv)else none else
 bif OY≠0 then((o6 (OX.tmod OY)).bind λQ2=>some Q2)else none
instance gComputed_ok {O5 : Int} {OX : Int} {OY : Int} {r : Val} : OkC (cN O5 OX OY = some r) (PTz 173 [.one (.int .i64 O5), .one (.int .i64 OX), .one (.int .i64 OY)] (.val (.agg (cV r)))) := .mk λH => by
 unfold cN at H;refine po_ Tryz.func173 Tryz.ntmps173 ?_;obtain⟨QM,H⟩|⟨QM,H⟩:=aj H
 ·exact ay H
 obtain⟨P9,H⟩|⟨P9,H⟩:=aj H
 ·exact ay H
 refine a6 ?_;exact ay H
def DT (OZ:(List Val))(PE:Int):(Int)->Option (Step (Int) (Bool)):=λs=>match s with
 |i_1=>bif i_1<(OZ.length:Int)then(aF OZ i_1).bind λRD=>bif RD.kind≠PE then some (.ret false)else
 some (.next (i64.wrap (i_1+(1:Int))))else
 some (.exit i_1)
def aiK:Sum (Int) (Bool)->Option ((Bool))
 |.inl i_1=>some true
 |.inr q=>some q
def abP (OZ:(List Val))(PE:Int):Option (Bool):=(ao (DT OZ PE) fuel (0:Int)).bind (aiK)
instance gAre_ok {OZ : (List Val)} {PE : Int} {r : Bool} : OkC (abP OZ PE = some r) (PTz 168 [.one (.lst (OZ.map cV)), .one (.int .i64 PE)] (.val (.one (.bool r)))) := .mk λH => by
 unfold abP at H;refine po_ Tryz.func168 Tryz.ntmps168 ?_;refine a6 ?_;refine alM_ (λs:Int=>match s with|i_1=>[(0,.one (.c (.lst (OZ.map cV)))),(1,.one (.c (.int .i64 PE))),(5,.one (.c (.int .i64 i_1)))]) (λs=>match s with|i_1=>[]) H (λ_=>aqL _)
  (fm_ bE [] rfl bm trivial) ?_
 rintro i_1 QF OU Pz;unfold DT at OU;dsimp only at OU ⊢;obtain⟨Qr,OU⟩|⟨Qr,OU⟩:=aj OU
 ·obtain⟨RD,Rw,i1,Ri,OU⟩:=br (f:=cV) OU
  obtain⟨Qf,OU⟩|⟨Qf,OU⟩:=aj OU
  ·exact bA OU Pz
  cases OU;refine a6 ?_;exact⟨_,rfl,fm_ bE [] rfl bm trivial⟩
 exact bA OU Pz
def kf (O5:Int)(OZ:(List Val)):(Int×Int)->Option (Step (Int×Int) (Val)):=λs=>match s with
 |(Xa,V6)=>bif V6<(OZ.length:Int)then bif O5=(5:Int)then(aF OZ V6).bind λRE=>(ft RE).bind λQJ=>(G7 Xa QJ).bind λQw=>some (.next (Qw,(i64.wrap (V6+(1:Int)))))else
 (aF OZ V6).bind λRq=>(ft Rq).bind λQu=>(afw Xa Qu).bind λPM=>some (.next (PM,(i64.wrap (V6+(1:Int)))))else
 some (.exit (Xa,V6))
def KB:Sum (Int×Int) (Val)->Option ((Val))
 |.inl (Xa,V6)=>(Ee Xa).bind λQv=>some Qv
 |.inr q=>some q
def tl (O5:Int)(OZ:(List Val)):Option (Val):=(aF OZ (0:Int)).bind λZF=>(ft ZF).bind λQd=>(ao (kf O5 OZ) fuel (Qd,(1:Int))).bind (KB)
instance gLogicR_ok {O5 : Int} {OZ : (List Val)} {r : Val} : OkC (tl O5 OZ = some r) (PTz 166 [.one (.int .i64 O5), .one (.lst (OZ.map cV))] (.val (.agg (cV r)))) := .mk λH => by
 unfold tl at H;refine po_ Tryz.func166 Tryz.ntmps166 ?_;obtain⟨ZF,Rw,i1,Ri,H⟩:=br (f:=cV) H;obtain⟨Qd,c2,H⟩:=bd_ H;replace c2:=gTruth7_ok c2;refine a6 ?_;refine alM_ (λs:Int×Int=>match s with|(Xa,V6)=>[(0,.one (.c (.int .i64 O5))),(1,.one (.c (.lst (OZ.map cV)))),(4,.one (.ptr 0 0)),(5,.one (.c (.int .i64 Xa))),(6,.one (.c (.int .i64 V6)))]) (λs=>match s with|(Xa,V6)=>[.box [.c (.int .i64 (0:Int)),.c (.int .i64 (0:Int)),.c (.str ByteArray.empty)]]) H (λ_=>aqL _)
  (fm_ bE [] rfl bm cm) ?_
 rintro⟨Xa,V6⟩ QF OU Pz;unfold kf at OU;dsimp only at OU ⊢;obtain⟨Q6,OU⟩|⟨Q6,OU⟩:=aj OU
 ·obtain⟨QG,OU⟩|⟨QG,OU⟩:=aj OU
  ·obtain⟨RE,Y2,i3,XB,OU⟩:=br (f:=cV) OU
   obtain⟨QJ,c4,OU⟩:=bd_ OU;replace c4:=gTruth7_ok c4;obtain⟨Qw,c5,OU⟩:=bd_ OU;replace c5:=gAndR_ok c5
   cases OU;refine a6 ?_;exact⟨_,rfl,fm_ bE [] rfl bm cm⟩
  obtain⟨Rq,i6z,i6,ZG,OU⟩:=br (f:=cV) OU;obtain⟨Qu,c7,OU⟩:=bd_ OU;replace c7:=gTruth7_ok c7;obtain⟨PM,c8,OU⟩:=bd_ OU;replace c8:=gOrR_ok c8
  cases OU;refine a6 ?_;exact⟨_,rfl,fm_ bE [] rfl bm cm⟩
 exact bA OU Pz
def ip (PD:Int)(Pe:ax)(PN:ax):Option (Bool):=bif PD=(0:Int)then some (decide (Pe.hi<PN.lo))else
 bif PD=(1:Int)then some (decide (Pe.hi=PN.lo))else
 bif PD=(2:Int)then bif Pe.lo<PN.lo then bif PN.lo<Pe.hi then some (decide (Pe.hi<PN.hi))else
 some false else
 some false else
 bif PD=(3:Int)then bif Pe.lo=PN.lo then some (decide (Pe.hi<PN.hi))else
 some false else
 bif PD=(4:Int)then bif PN.lo<Pe.lo then some (decide (Pe.hi<PN.hi))else
 some false else
 bif PD=(5:Int)then bif Pe.hi=PN.hi then some (decide (PN.lo<Pe.lo))else
 some false else
 bif PD=(6:Int)then some (cl [.c (.int .i64 Pe.lo),.c (.int .i64 Pe.hi)] [.c (.int .i64 PN.lo),.c (.int .i64 PN.hi)])else
 bif PD=(7:Int)then bif Pe.hi=PN.hi then some (decide (Pe.lo<PN.lo))else
 some false else
 bif PD=(8:Int)then bif Pe.lo<PN.lo then some (decide (PN.hi<Pe.hi))else
 some false else
 bif PD=(9:Int)then bif Pe.lo=PN.lo then some (decide (PN.hi<Pe.hi))else
 some false else
 bif PD=(10:Int)then bif PN.lo<Pe.lo then bif Pe.lo<PN.hi then some (decide (PN.hi<Pe.hi))else
 some false else
 some false else
 bif PD=(11:Int)then some (decide (PN.hi=Pe.lo))else
 bif PD=(12:Int)then some (decide (PN.hi<Pe.lo))else
 some false
instance gIs2_ok {PD : Int} {Pe : ax} {PN : ax} {r : Bool} : OkC (ip PD Pe PN = some r) (PTz 85 [.one (.int .i64 PD), .agg (aP Pe), .agg (aP PN)] (.val (.one (.bool r)))) := .mk λH => by
 unfold ip at H;refine po_ Tryz.func85 Tryz.ntmps85 ?_;obtain⟨QM,H⟩|⟨QM,H⟩:=aj H
 ·exact ay H
 obtain⟨Qr,H⟩|⟨Qr,H⟩:=aj H
 ·exact ay H
 refine a6 ?_;obtain⟨P9,H⟩|⟨P9,H⟩:=aj H
 ·exact ay H
 obtain⟨QG,H⟩|⟨QG,H⟩:=aj H
 ·exact ay H
 obtain⟨Si,H⟩|⟨Si,H⟩:=aj H
 ·refine a6 ?_
  exact ay H
 refine a6 ?_;obtain⟨Qn,H⟩|⟨Qn,H⟩:=aj H
 ·exact ay H
 obtain⟨Rj,H⟩|⟨Rj,H⟩:=aj H
 ·exact ay H
 obtain⟨Q1,H⟩|⟨Q1,H⟩:=aj H
 ·refine a6 ?_
  exact ay H
 refine a6 ?_;obtain⟨Rk,H⟩|⟨Rk,H⟩:=aj H
 ·exact ay H
 obtain⟨SS,H⟩|⟨SS,H⟩:=aj H
 ·exact ay H
 obtain⟨TP,H⟩|⟨TP,H⟩:=aj H
 ·refine a6 ?_
  exact ay H
 refine a6 ?_;exact ay H
def pJ (PD:Int)(Pe:ax)(PN:ax):Option (Bool):=(cG Pe).bind λO7=>bif O7 then(cG PN).bind λPY=>bif PY then(ip PD Pe PN).bind λPW=>some PW else
 some false else
 some false
instance gHolds2_ok {PD : Int} {Pe : ax} {PN : ax} {r : Bool} : OkC (pJ PD Pe PN = some r) (PTz 46 [.one (.int .i64 PD), .agg (aP Pe), .agg (aP PN)] (.val (.one (.bool r)))) := .mk λH => by
 unfold pJ at H;refine po_ Tryz.func46 Tryz.ntmps46 ?_;exact ay H
def nZ (Pe:ax)(PN:ax):(Int)->Option (Step (Int) (Int×Bool)):=λs=>match s with
 |rel_1=>bif rel_1<(13:Int)then(pJ rel_1 Pe PN).bind λPY=>bif PY then some (.ret (rel_1,true))else
 some (.next (i64.wrap (rel_1+(1:Int))))else
 some (.exit rel_1)
def aeK:Sum (Int) (Int×Bool)->Option ((Int×Bool))
 |.inl rel_1=>some ((0:Int),false)
 |.inr q=>some q
def NO (Pe:ax)(PN:ax):Option (Int×Bool):=(ao (nZ Pe PN) fuel (0:Int)).bind (aeK)
instance gRel2_ok {Pe : ax} {PN : ax} {r : Int × Bool} : OkC (NO Pe PN = some r) (PTz 222 [.agg (aP Pe), .agg (aP PN)] (.tup [.one (.int .i64 r.1), .one (.bool r.2)])) := .mk λH => by
 unfold NO at H;refine po_ Tryz.func222 Tryz.ntmps222 ?_;refine a6 ?_;refine alM_ (λs:Int=>match s with|rel_1=>[(2,.one (.ptr 0 0)),(3,.one (.ptr 1 0)),(6,.one (.c (.int .i64 rel_1)))]) (λs=>match s with|rel_1=>[.box [.c (.int .i64 Pe.lo),.c (.int .i64 Pe.hi)],.box [.c (.int .i64 PN.lo),.c (.int .i64 PN.hi)]]) H (λ_=>aqL _)
  (fm_ bE [] rfl bm cm) ?_
 rintro rel_1 QF OU Pz;unfold nZ at OU;dsimp only at OU ⊢;obtain⟨Qr,OU⟩|⟨Qr,OU⟩:=aj OU
 ·obtain⟨PY,c1,OU⟩:=bd_ OU
  replace c1:=gHolds2_ok c1;obtain⟨Qf,OU⟩|⟨Qf,OU⟩:=aj OU
  ·exact bA OU Pz
  cases OU;refine a6 ?_;exact⟨_,rfl,fm_ bE [] rfl bm cm⟩
 exact bA OU Pz
def nz (PD:Int)(OZ:(List Val)):Option (Val):=(abP OZ (1:Int)).bind λO7=>bif (!O7)then(dt ).bind λPY=>some PY else
 (aF OZ (0:Int)).bind λPK=>(aF OZ (1:Int)).bind λQa=>(aF OZ (2:Int)).bind λS9=>(aF OZ (3:Int)).bind λRE=>(NO (⟨PK.int,Qa.int⟩:ax) (⟨S9.int,RE.int⟩:ax)).bind λQJ=>bif (!QJ.2)then(dt ).bind λP7=>some P7 else
 (qD (decide (QJ.1=PD))).bind λQu=>some Qu
instance gRelatedR_ok {PD : Int} {OZ : (List Val)} {r : Val} : OkC (nz PD OZ = some r) (PTz 172 [.one (.int .i64 PD), .one (.lst (OZ.map cV))] (.val (.agg (cV r)))) := .mk λH => by
 unfold nz at H;refine po_ Tryz.func172 Tryz.ntmps172 ?_;exact ay H
def tN (O5:Int)(OZ:(List Val)):Option (Val):=(abP OZ (2:Int)).bind λO7=>bif (!O7)then(dt ).bind λPY=>some PY else
 bif O5=(19:Int)then(aF OZ (0:Int)).bind λQa=>(aF OZ (1:Int)).bind λS9=>bif Qa.text.size+S9.text.size<=9223372036854775807 then((D6 (Qa.text++S9.text)).bind λQk=>some Qk)else none else
 (aF OZ (0:Int)).bind λR4=>(o6 (R4.text.size:Int)).bind λQw=>some Qw
instance gTexts_ok {O5 : Int} {OZ : (List Val)} {r : Val} : OkC (tN O5 OZ = some r) (PTz 170 [.one (.int .i64 O5), .one (.lst (OZ.map cV))] (.val (.agg (cV r)))) := .mk λH => by
 unfold tN at H;refine po_ Tryz.func170 Tryz.ntmps170 ?_;exact ay H
def nM (OZ:(List Val)):(Int)->Option (Step (Int) (Val)):=λs=>match s with
 |i_7=>bif i_7<(OZ.length:Int)then(aF OZ i_7).bind λUK=>bif UK.kind≠(0:Int)then some (.ret UK)else
 some (.next (i64.wrap (i_7+(1:Int))))else
 some (.exit i_7)
def tI:Sum (Int) (Val)->Option ((Val))
 |.inl i_7=>(dt ).bind λQu=>some Qu
 |.inr q=>some q
def pX (O5:Int)(OZ:(List Val)):Option (Val):=bif O5=(22:Int)then(aF OZ (0:Int)).bind λx_2=>(ft x_2).bind λPY=>bif PY=(2:Int)then(aF OZ (1:Int)).bind λQa=>some Qa else
 (aF OZ (2:Int)).bind λS9=>some S9 else
 (ao (nM OZ) fuel (0:Int)).bind (tI)
instance gChosen_ok {O5 : Int} {OZ : (List Val)} {r : Val} : OkC (pX O5 OZ = some r) (PTz 171 [.one (.int .i64 O5), .one (.lst (OZ.map cV))] (.val (.agg (cV r)))) := .mk λH => by
 unfold pX at H;refine po_ Tryz.func171 Tryz.ntmps171 ?_;obtain⟨QM,H⟩|⟨QM,H⟩:=aj H
 ·exact ay H
 refine a6 ?_;refine alM_ (λs:Int=>match s with|i_7=>[(1,.one (.c (.lst (OZ.map cV)))),(4,.one (.ptr 0 0)),(5,.one (.c (.int .i64 i_7)))]) (λs=>match s with|i_7=>[.box [.c (.int .i64 (0:Int)),.c (.int .i64 (0:Int)),.c (.str ByteArray.empty)]]) H (λ_=>aqL _)
  (fm_ bE [] rfl bm cm) ?_
 rintro i_7 QF OU Pz;unfold nM at OU;dsimp only at OU ⊢;obtain⟨Si,OU⟩|⟨Si,OU⟩:=aj OU
 ·obtain⟨UK,i5z,i5,i5x,OU⟩:=br (f:=cV) OU
  obtain⟨Qn,OU⟩|⟨Qn,OU⟩:=aj OU
  ·exact bA OU Pz
  cases OU;refine a6 ?_;exact⟨_,rfl,fm_ bE [] rfl bm cm⟩
 cases OU;have O2:tI (.inl i_7)=some _:=Pz;unfold tI at O2;dsimp only at O2;exact ay O2
def Bf (OW:Ex)(O3:(List Val)):Option (Val):=bif OW.op=(2:Int)then(ael O3 OW.int).bind λQd=>(dh Qd).bind λPY=>bif (!PY)then(dt ).bind λPW=>some PW else
 some Qd else
 (dh OW.v).bind λP1=>bif (!P1)then(dt ).bind λQJ=>some QJ else
 some OW.v
instance gLeaf_ok {OW : Ex} {O3 : (List Val)} {r : Val} : OkC (Bf OW O3 = some r) (PTz 163 [.agg (tE OW), .one (.lst (O3.map cV))] (.val (.agg (cV r)))) := .mk λH => by
 unfold Bf at H;rw[aC OW];refine po_ Tryz.func163 Tryz.ntmps163 ?_;exact ay H
def Hm (B:List (List Val))(x:List Val):Nat->Nat
 |0=>0
 |j+1=>match B[j]? with
  |some y=>if bL x y<0 then Hm B x j else j+1
  |none=>j+1
def acb (B:List (List Val))(x:List Val):List (List Val):=B.take (Hm B x B.length)++x::B.drop (Hm B x B.length)
def gL (l:List (List Val)):List (List Val):=l.foldl acb []
theorem Ea (B:List (List Val))(x:List Val):∀ j,j<=B.length->Hm B x j<=j/\(∀ i y,Hm B x j<=i->i<j->B[i]?=some y->bL x y<0)/\(∀ q,Hm B x j=q+1 ->∃ y,B[q]?=some y /\ ¬ bL x y<0)
 |0,_=>⟨aqG _,λi y _ h=>by omega,λq h=>by simp[Hm]at h⟩
 |j+1,hj=>by
  obtain⟨y,hy⟩:=gol_ (show j<B.length by omega);have e:Hm B x (j+1)=if bL x y<0 then Hm B x j else j+1:=by rw[Hm,hy]
  rw[e];by_cases h:bL x y<0
  ·rw[if_pos h]
   obtain⟨h1,h2,h3⟩:=Ea B x j m0;refine⟨m0,λi z hi TF hz=>?_,h3⟩;by_cases hij':i<j
   ·exact h2 i z hi hij' hz
   ·have:i=j:=m0
    subst this;rw[hy]at hz;obtain rfl:=aqX hz;exact h
  ·rw[if_neg h]
   refine⟨aqG _,λi z hi TF=>by omega,λq hq=>?_⟩;obtain rfl:j=q:=m0
   exact⟨y,hy,h⟩
theorem aaT (B:List (List Val))(x:List Val):(acb B x).Perm (x::B):=by
 unfold acb;refine List.perm_middle.trans ?_;rw[ara]
theorem adI {B:List (List Val)}(x:List Val)(h:Asc bL B):Asc bL (acb B x):=by
 obtain⟨h1,h2,h3⟩:=Ea B x B.length (aqG _);unfold acb;generalize Hm B x B.length=p at h1 h2 h3;have hB:Asc bL (B.take p++B.drop p):=by rw[ara];exact h
 obtain⟨ht,hd,hc⟩:=List.pairwise_append.1 hB;have hx:∀ b∈B.drop p,bL x b<=0:=by
  intro b hb;obtain⟨i,hi⟩:=List.getElem?_of_mem hb;rw[arb]at hi;have:=h2 (p+i) b m0 (aqp.1 hi).1 hi;omega
 have hl:∀ a∈B.take p,bL a x<=0:=by
  intro a ha
  cases p with
  |zero=>simp at ha
  |succ q =>
   obtain⟨y,hy,hn⟩:=h3 q rfl;have hyx:bL y x<=0:=by
    have:=tCr_.anti x y;have:=tCr_.anti y x;omega
   have hq:q<B.length:=(aqp.1 hy).1;have ey:=(aqp.1 hy).2;rw[List.take_succ_eq_append_getElem hq,ey]at ha ht;obtain ha|ha:=aqS.1 ha
   ·exact tCr_.le_trans ((List.pairwise_append.1 ht).2.2 a ha y m5) hyx
   ·obtain rfl:a=y:=by simpa using ha
    exact hyx
 refine List.pairwise_append.2 ⟨ht,aro.2 ⟨hx,hd⟩,λa ha b hb=>?_⟩;obtain rfl|hb:=aqH.1 hb
 ·exact hl a ha
 ·exact hc a ha b hb
theorem xh:∀ (l B:List (List Val)),Asc bL B->Asc bL (l.foldl acb B)/\(l.foldl acb B).Perm (l++B)
 |[],B,h=>⟨h,List.Perm.refl _⟩
 |x::l,B,h=>by
  obtain⟨h1,h2⟩:=xh l (acb B x) (adI x h);refine⟨h1,h2.trans ?_⟩;refine((aaT B x).append_left l).trans ?_;exact List.perm_middle
theorem xe (l:List (List Val)):Asc bL (gL l):=(xh l [] List.Pairwise.nil).1
theorem cO (l:List (List Val)):(gL l).Perm l:=by
 have:=(xh l [] List.Pairwise.nil).2;rwa[aqZ]at this
theorem CW {l r:List (List Val)}(h1:Asc bL r)(h2:r.Perm l):gL l=r:=tU tCr_ (xe l) h1 ((cO l).trans h2.symm)
def push {α β ρ:Type}(g:α->β)(N:Nat)(s:List β)(x:α):Option (Sum (List β) ρ):=bif decide (s.length+1<=N)then some (.inl (s++[g x]))else none
theorem E6 {α β ρ:Type}(g:α->β)(N:Nat):∀ (l:List α) (s:List β),s.length+l.length<=N->cA (ρ:=ρ) (push g N) s l=some (.inl (s++l.map g))
 |[],s,_=>by simp[cA]
 |x::l,s,h=>by
  have h':s.length+(l.length+1)<=N:=by simpa using h
  have e:push (ρ:=ρ) g N s x=some (.inl (s++[g x])):=by unfold push;rw[show decide (s.length+1<=N)=true from aqu m0];rfl
  rw[cA,e];have:=E6 (ρ:=ρ) g N l (s++[g x]) m8;simpa using this
theorem H7 {α σ ρ:Type}{f:σ->α->Option (Sum σ ρ)}:∀ (l:List α) (s:σ),(∀ s x,x∈l ->∃ r,f s x=some r) ->∃ r,cA f s l=some r
 |[],s,_=>⟨_,rfl⟩
 |x::l,s,h=>by
  obtain⟨r,hr⟩:=h s x (arc ..);rw[cA,hr]
  cases r with
  |inl s'=>exact H7 l s' λs y hy=>h s y (aqO _ hy)
  |inr r=>exact⟨_,rfl⟩
theorem F3 (x y:List Val)(hx:x.length<=1000000)(hy:y.length<=1000000):tT x y []=some (decide (bL x y<0)):=by
 unfold tT;rw[bX (l:=([]:List La)) (mk:=λ(_:Unit) i=>i) (f:=λ(_:Unit) (_:La)=>(none:Option (Sum Unit Bool))) ?_ ?_ (by unfold fuel;simp) ()]
 ·show sE x y (.inl ((([]:List La).length:Nat):Int))=_
  unfold sE;rw[jx x y m0 m0];rfl
 ·intro s i x hx;simp at hx
 ·intro s
  unfold sF;dsimp only;rw[lF_,aqr]
def leV (x y:List Val):Bool := !decide (bL y x<0)
theorem kR (x y:List Val):leV x y=true↔bL x y<=0:=by
 unfold leV;have:=tCr_.anti x y;have:=tCr_.anti y x;simp;omega
theorem oJ {a b:List (List Val)}(ha:a.length<=1000000)(hb:b.length<=1000000)(XJ:∀ r∈a,r.length<=1000000)(XK:∀ r∈b,r.length<=1000000):∀ (n i k:Nat) (out:List (List Val)),i<=a.length->k<=b.length->out.length=i+k->(a.length-i)+(b.length-k)<n->(ao (dQ a b []) n (out,(i:Int),(k:Int))).bind Ar=some (out++List.merge (a.drop i) (b.drop k) leV)
 |0,_,_,_,_,_,_,h=>by omega
 |n+1,i,k,out,h1,h2,ho,hn=>by
  have hg:decide (out.length+1<=5864062014805)=true:=aqu m0;rw[ao];by_cases O0:i<a.length
  ·obtain⟨x,hx⟩:=gol_ O0
   have ex:=(aqp.1 hx).2;have Pn:decide ((i:Int)=(a.length:Int))=false:=aqt m0;have ihA:=oJ ha hb XJ XK n (i+1) k (out++[x]) m0 m0 m8 m0;by_cases TB:k<b.length
   ·obtain⟨y,hy⟩:=gol_ TB
    have ey:=(aqp.1 hy).2;have ihB:=oJ ha hb XJ XK n i (k+1) (out++[y]) m0 m0 m8 m0;have eb:dQ a b [] (out,(i:Int),(k:Int))=bif decide (bL y x<0)then some (.next (out++[y],(i:Int),((k+1:Nat):Int)))else some (.next (out++[x],((i+1:Nat):Int),(k:Int))):=by
     unfold dQ;dsimp only;rw[aO hx,aqs,Pn,aqr,aO hy,aqs,gn_ hy,gn_ hx];simp only[aqo];rw[F3 y x (XK y (aqw hy)) (XJ x (aqw hx)),wrapN m0,wrapN m0,hg];rfl
    rw[eb,aqW O0,aqW TB,ex,ey,List.cons_merge_cons];rw[aqW TB,ey]at ihA;rw[aqW O0,ex]at ihB;by_cases hc:bL y x<0
    ·rw[show decide (bL y x<0)=true from aqu hc,aqs,if_neg (by unfold leV;simp[hc])]
     dsimp only;rw[ihB];simp
    ·rw[show decide (bL y x<0)=false from aqt hc,aqr,if_pos (by unfold leV;simp[hc])]
     dsimp only;rw[ihA];simp
   ·have hk:k=b.length:=m0
    have eb:dQ a b [] (out,(i:Int),(k:Int))=some (.next (out++[x],((i+1:Nat):Int),(k:Int))):=by
     unfold dQ;dsimp only;rw[aO hx,aqs,Pn,aqr,hk,lF_,aqr,gn_ hx];simp only[aqo];rw[wrapN m0,hg];rfl
    rw[eb];dsimp only;rw[ihA,aqW O0,ex,hk,arn,List.merge_right,List.merge_right];simp
  ·have hi:i=a.length:=m0
   subst hi;by_cases TB:k<b.length
   ·obtain⟨y,hy⟩:=gol_ TB
    have ey:=(aqp.1 hy).2;have ihB:=oJ ha hb XJ XK n a.length (k+1) (out++[y]) m0 m0 m8 m0;have eb:dQ a b [] (out,(a.length:Int),(k:Int))=some (.next (out++[y],(a.length:Int),((k+1:Nat):Int))):=by
     unfold dQ;dsimp only;rw[lF_,aqr,aO hy,aqs,show decide ((a.length:Int)=(a.length:Int))=true from aqu rfl,aqs,gn_ hy];simp only[aqo];rw[wrapN m0,hg];rfl
    rw[eb];dsimp only;rw[ihB,aqW TB,ey,arn,List.nil_merge,List.nil_merge];simp
   ·have hk:k=b.length:=m0
    subst hk;have eb:dQ a b [] (out,(a.length:Int),(b.length:Int))=some (.exit (out,(a.length:Int),(b.length:Int))):=by
     unfold dQ;dsimp only;rw[lF_,aqr,lF_,aqr]
    rw[eb,arn,arn,List.nil_merge,aqZ];rfl
theorem I_ {a b:List (List Val)}(ha:a.length<=1000000)(hb:b.length<=1000000)(XJ:∀ r∈a,r.length<=1000000)(XK:∀ r∈b,r.length<=1000000):xf a b []=some (List.merge a b leV):=by
 unfold xf;have:=oJ ha hb XJ XK fuel 0 0 [] (aqL _) (aqL _) rfl (by unfold fuel;omega);rw[show(((0:Nat):Int))=0 from rfl]at this;rw[this];simp
theorem aa_ {a b:List (List Val)}(ha:Asc bL a)(hb:Asc bL b):Asc bL (List.merge a b leV):=by
 have:=List.pairwise_merge (le:=leV) (λx y z h1 h2=>(kR x z).2 (tCr_.le_trans ((kR x y).1 h1) ((kR y z).1 h2))) (λx y=>by
  rw[Bool.or_eq_true,kR,kR];exact tCr_.total x y) a b (ha.imp λh=>(kR _ _).2 h) (hb.imp λh=>(kR _ _).2 h)
 exact this.imp λh=>(kR _ _).1 h
theorem NJ:∀ (n:Nat) (l:List (List Val)),l.length<=n->l.length<=1000000->(∀ r∈l,r.length<=1000000) ->∃ r,yz (n+1) l []=some r/\Asc bL r/\r.Perm l:=by
 intro n
 induction n with
 |zero =>
  intro l h _ _;have:l=[]:=by cases l with|nil=>rfl|cons _ _=>simp at h
  subst this;exact⟨[],rfl,List.Pairwise.nil,List.Perm.refl _⟩
 |succ n ih =>
  intro l h hl hr
  match l,h,hl,hr with
  |[],_,_,_=>exact⟨[],rfl,List.Pairwise.nil,List.Perm.refl _⟩
  |[x],_,_,hr =>
   have hx:=hr x m5;refine⟨[x],?_,by simp[Asc],List.Perm.refl _⟩;show pN (yz (n+1)) [x] []=_;unfold pN;simp only[aqM,aqV];rw[show aF [x] 0=some x from rfl];simp only[aqo];rw[show decide (x.length<=4398046511104)=true from aqu m0];rfl
  |x::y::t,h,hl,hr =>
   generalize hL:x::y::t=l at h hl hr;have h2:2<=l.length:=by rw[<- hL];simp
   have hm:i64.wrap ((l.length:Int).tdiv (2:Int))=((l.length/2:Nat):Int):=by
    rw[show(l.length:Int).tdiv 2=((l.length/2:Nat):Int)from rfl];exact aZ m0 m0
   have s1:gU l 0 ((l.length/2:Nat):Int)=some (l.take (l.length/2)):=by
    unfold gU;rw[if_pos m0,Int.toNat_natCast];rfl
   have s2:gU l ((l.length/2:Nat):Int) (l.length:Int)=some (l.drop (l.length/2)):=by
    unfold gU;rw[if_pos m0,Int.toNat_natCast,Int.toNat_natCast,List.take_length]
   obtain⟨r1,e1,a1,p1⟩:=ih (l.take (l.length/2)) m8 m8 λr Xb=>hr r (arp Xb)
   obtain⟨r2,e2,a2,p2⟩:=ih (l.drop (l.length/2)) m8 m8 λr Xb=>hr r (List.mem_of_mem_drop Xb)
   refine⟨List.merge r1 r2 leV,?_,aa_ a1 a2,?_⟩
   ·show pN (yz (n+1)) l []=_
    unfold pN;rw[show decide ((l.length:Int)=0)=false from aqt m0,aqr,show decide ((l.length:Int)=1)=false from aqt m0,aqr,show decide ((2:Int)≠0)=true from rfl,aqs,hm,s1,s2];simp only[aqo];rw[e1,e2];simp only[aqo];rw[I_ (by rw[p1.length_eq];simp;omega) (by rw[p2.length_eq];simp;omega) (λr Xb=>hr r (arp (p1.mem_iff.1 Xb))) (λr Xb=>hr r (List.mem_of_mem_drop (p2.mem_iff.1 Xb)))];rfl
   ·refine(List.merge_perm_append leV).trans ((p1.append p2).trans ?_)
    rw[ara]
theorem xB (l:List (List Val))(hl:l.length<=300)(hr:∀ r∈l,r.length<=1000000):uO l=some (gL l):=by
 obtain⟨r,e,a,p⟩:=NJ 300 l hl m0 hr;unfold uO;rw[e,CW a p];rfl
theorem qg {s:ByteArray}(hs:s.size<=1000000):∀ (n i:Nat),i<=s.size->s.size-i<n ->∃ r,(ao (iA s) n (i:Int)).bind cW=some r
 |0,_,_,h=>by omega
 |n+1,i,h1,hn=>by
  rw[ao];unfold iA;dsimp only;by_cases O0:i<s.size
  ·rw[show decide ((i:Int)<(s.size:Int))=true from aqu m0,aqs]
   obtain⟨b,hb⟩:∃ b,age s (i:Int)=some b:=by
    unfold age;rw[if_pos m0];exact⟨s[i],by simp[O0]⟩
   rw[hb];simp only[aqo]
   cases decide ((b.toNat:Int)<32)with
   |true=>exact⟨_,rfl⟩
   |false =>
    cases decide ((126:Int)<(b.toNat:Int))with
    |true=>exact⟨_,rfl⟩
    |false =>
     simp only[aqr];rw[wrapN m0];exact qg hs n (i+1) m0 m0
  ·rw[show decide ((i:Int)<(s.size:Int))=false from aqt m0,aqr]
   exact⟨_,rfl⟩
theorem yr {s:ByteArray}(hs:s.size<=1000000):∃ r,kh s=some r:=by
 have:=qg hs fuel 0 (aqL _) (by unfold fuel;omega);rw[show(((0:Nat):Int))=0 from rfl]at this;exact this
theorem Au (v:Val):∃ r,dh v=some r:=by
 unfold dh
 cases decide (v.kind=0)with
 |true=>cases decide (v.int=0)<;>exact⟨_,rfl⟩
 |false =>
  cases decide (v.kind=1)with
  |true=>cases (v.text.toList==(⟨#[]⟩:ByteArray).toList)<;>cases decide ((-1125899906842624:Int)<=v.int)<;>exact⟨_,rfl⟩
  |false =>
   cases decide (v.kind=2)with
   |true =>
    cases decide (v.int=0)with
    |false=>exact⟨_,rfl⟩
    |true =>
     by_cases h:(v.text.size:Int)<=200
     ·obtain⟨r,hr⟩:=yr (s:=v.text) m0
      rw[show decide ((v.text.size:Int)<=200)=true from aqu h,hr];exact⟨_,rfl⟩
     ·rw[show decide ((v.text.size:Int)<=200)=false from aqt h]
      exact⟨_,rfl⟩
   |false =>
    cases decide (v.kind=3)with
    |true=>cases (v.text.toList==(⟨#[]⟩:ByteArray).toList)<;>cases decide (v.int=0)<;>exact⟨_,rfl⟩
    |false=>exact⟨_,rfl⟩
theorem abn (row:List Val)(kinds:List Int)(h:row.length<=1000000):∃ r,tu row kinds=some r:=by
 unfold tu;by_cases he:row.length=kinds.length
 ·rw[show decide ((row.length:Int)≠(kinds.length:Int))=false from aqt m0,aqr]
  have hz:(row.zip kinds).length=row.length:=by simp;omega
  have k:=bX (l:=row.zip kinds) (body:=fV row kinds) (mk:=λ(_:Unit) i=>i) (f:=λ(_:Unit) (x:Val×Int)=>(dh x.1).bind λr=>bif (!r)then some (.inr false)else bif decide (x.1.kind≠0)then bif decide (x.1.kind≠x.2)then some (.inr false)else some (.inl ())else some (.inl ())) ?_ ?_ (by unfold fuel;omega) ()
  ·obtain⟨r,hr⟩:=H7 (σ:=Unit) (ρ:=Bool) (f:=λ(_:Unit) (x:Val×Int)=>(dh x.1).bind λr=>bif (!r)then some (.inr false)else bif decide (x.1.kind≠0)then bif decide (x.1.kind≠x.2)then some (.inr false)else some (.inl ())else some (.inl ())) (row.zip kinds) () (by
    intro s x _;obtain⟨r,hr⟩:=Au x.1;rw[hr]
    cases r<;>cases decide (x.1.kind≠0)<;>cases decide (x.1.kind≠x.2)<;>exact⟨_,rfl⟩)
   rw[k,hr]
   cases r with
   |inl _=>exact⟨_,rfl⟩
   |inr _=>exact⟨_,rfl⟩
  ·intro s i x hx
   obtain⟨h1,h2⟩:=List.getElem?_zip_eq_some.1 hx;have hi:i<row.length:=(aqp.1 h1).1;unfold fV;dsimp only;rw[aO h1,aqs,gn_ h1,gn_ h2];simp only[aqo];rw[wrapN m0]
   cases dh x.1 with
   |none=>rfl
   |some r=>cases r<;>cases decide (x.1.kind≠0)<;>cases decide (x.1.kind≠x.2)<;>rfl
  ·intro s
   unfold fV;dsimp only;rw[hz,lF_,aqr]
 ·rw[show decide ((row.length:Int)≠(kinds.length:Int))=true from aqu m0]
  exact⟨_,rfl⟩
theorem ae9 (k:Int):∃ r,BI k=some r:=by
 unfold BI
 cases decide (k=1)<;>cases decide (k=2)<;>exact⟨_,rfl⟩
theorem NZ (l:List Int)(h:l.length<=1000000):∃ r,Eh l=some r:=by
 unfold Eh;have k:=bX (l:=l) (body:=nl l) (mk:=λ(_:Unit) i=>i) (f:=λ(_:Unit) (x:Int)=>(BI x).bind λr=>bif (!r)then some (.inr false)else some (.inl ())) ?_ ?_ (by unfold fuel;omega) ()
 ·obtain⟨r,hr⟩:=H7 (σ:=Unit) (ρ:=Bool) (f:=λ(_:Unit) (x:Int)=>(BI x).bind λr=>bif (!r)then some (.inr false)else some (.inl ())) l () (by
   intro s x _;obtain⟨r,hr⟩:=ae9 x;rw[hr]
   cases r<;>exact⟨_,rfl⟩)
  rw[k,hr]
  cases r with
  |inl _=>exact⟨_,rfl⟩
  |inr _=>exact⟨_,rfl⟩
 ·intro s i x hx
  have hi:i<l.length:=(aqp.1 hx).1;unfold nl;dsimp only;rw[aO hx,aqs,gn_ hx];simp only[aqo];rw[wrapN m0]
  cases BI x with
  |none=>rfl
  |some r=>cases r<;>rfl
 ·intro s
  unfold nl;dsimp only;rw[lF_,aqr]
theorem l8 (l:List Int)(h:l.length<=1000000):iM l l=some true:=by
 unfold iM;simp only[ne_eq,not_true_eq_false,decide_false,aqr];rw[bX (l:=l) (mk:=λ(_:Unit) i=>i) (f:=λ(_:Unit) (_:Int)=>(some (.inl ()):Option (Sum Unit Bool))) ?_ ?_ (by unfold fuel;omega) ()]
 ·have:∀ l:List Int,cA (λ(_:Unit) (_:Int)=>(some (.inl ()):Option (Sum Unit Bool))) () l=some (.inl ()):=by
   intro l
   induction l with
   |nil=>rfl
   |cons x l ih=>rw[cA];exact ih
  rw[this];rfl
 ·intro s i x hx
  have hi:i<l.length:=(aqp.1 hx).1;unfold iB;dsimp only;rw[aO hx,aqs,gn_ hx];simp only[aqo];rw[wrapN m0];simp[qf]
 ·intro s
  unfold iB;dsimp only;rw[lF_,aqr]
