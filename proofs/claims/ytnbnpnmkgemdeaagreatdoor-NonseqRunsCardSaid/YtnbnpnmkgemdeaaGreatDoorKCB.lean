/- Parts. No condition. -/
import Derived.Test.YtnbnpnmkgemdeaaGreatDoorKBJ
set_option maxHeartbeats 8000000
set_option maxRecDepth 100000
set_option linter.unusedSimpArgs false
set_option linter.unusedVariables false
namespace Go.Proofs.YtnbnpnmkgemdeaaGreatDoor
open IntKind (i64)
open Go.RowKit Go.MapKept Tryz
noncomputable section
def fx (Ti:(List Val)):(Int×Int×Int)->Option (Step (Int×Int×Int) (Val)):=λs=>match s with
 |(QK,QY,QL)=>bif QL<(Ti.length:Int)then(al Ti QL).bind λS8=>bif (1048576:Int)≠0 then(bif (1048576:Int)≠0 then(some (.next ((i64.wrap (QK+(i64.wrap (S8.int.tdiv (1048576:Int))))),(i64.wrap (QY+(S8.int.tmod (1048576:Int)))),(i64.wrap (QL+(1:Int))))))else none)else none else
 some (.exit (QK,QY,QL))
def nw:Sum (Int×Int×Int) (Val)->Option ((Val))
 |.inl (QK,QY,QL)=>bif (1048576:Int)≠0 then(bif (1048576:Int)≠0 then(bif (1099511627776:Int)<(i64.wrap (QK+(i64.wrap (QY.tdiv (1048576:Int)))))then(cq ).bind λRu=>some Ru else
 bif (i64.wrap (QK+(i64.wrap (QY.tdiv (1048576:Int)))))<(-1099511627776:Int)then(cq ).bind λSD=>some SD else
 (iC (i64.wrap ((i64.wrap ((i64.wrap (QK+(i64.wrap (QY.tdiv (1048576:Int)))))*(1048576:Int)))+(QY.tmod (1048576:Int))))).bind λTQ=>some TQ)else none)else none
 |.inr q=>some q
def fr (O7:Ag)(Ti:(List Val)):(Int×Int×ByteArray×Int)->Option (Step (Int×Int×ByteArray×Int) (Val)):=λs=>match s with
 |(TE,TF,TG,SY)=>bif SY<(Ti.length:Int)then(al Ti SY).bind λTZ=>(vA TZ (⟨TE,TF,TG⟩:Val)).bind λTC=>bif O7.op=(3:Int)then bif TC<(0:Int)then some (.next (TZ.kind,TZ.int,TZ.text,(i64.wrap (SY+(1:Int)))))else
 some (.next (TE,TF,TG,(i64.wrap (SY+(1:Int)))))else
 bif O7.op=(4:Int)then bif (0:Int)<TC then some (.next (TZ.kind,TZ.int,TZ.text,(i64.wrap (SY+(1:Int)))))else
 some (.next (TE,TF,TG,(i64.wrap (SY+(1:Int)))))else
 some (.next (TE,TF,TG,(i64.wrap (SY+(1:Int)))))else
 some (.exit (TE,TF,TG,SY))
def m6:Sum (Int×Int×ByteArray×Int) (Val)->Option ((Val))
 |.inl (TE,TF,TG,SY)=>some (⟨TE,TF,TG⟩:Val)
 |.inr q=>some q
def q_ (Qd:(List (List Val)))(O7:Ag):((List Val)×Int)->Option (Step ((List Val)×Int) (Val)):=λs=>match s with
 |(Ti,i_4)=>bif i_4<(Qd.length:Int)then(al Qd i_4).bind λRf=>(al Rf O7.arg).bind λQs=>bif Qs.kind≠(0:Int)then bif Ti.length+1<=4398046511104 then(some (.next ((Ti++[Qs]),(i64.wrap (i_4+(1:Int))))))else none else
 some (.next (Ti,(i64.wrap (i_4+(1:Int)))))else
 some (.exit (Ti,i_4))
def sf (O7:Ag):Sum ((List Val)×Int) (Val)->Option ((Val))
 |.inl (Ti,i_4)=>bif O7.op=(1:Int)then(iC (Ti.length:Int)).bind λPR=>some PR else
 bif (Ti.length:Int)=(0:Int)then(cq ).bind λQq=>some Qq else
 bif O7.op=(2:Int)then(af (fx Ti) fuel ((0:Int),(0:Int),(0:Int))).bind (nw)else
 (al Ti (0:Int)).bind λRQ=>(af (fr O7 Ti) fuel (RQ.kind,RQ.int,RQ.text,(1:Int))).bind (m6)
 |.inr q=>some q
def zq (Qd:(List (List Val)))(O7:Ag):Option (Val):=bif O7.arg<(0:Int)then(iC (Qd.length:Int)).bind λPW=>some PW else
 (af (q_ Qd O7) fuel ([],(0:Int))).bind (sf O7)
theorem Np {Qd:(List (List Val))}{O7:Ag}{r:Val}(H:zq Qd O7=some r):PTz 226 [.one (.lst (Qd.map (λx=>[AC.lst (x.map cV)]))),.agg (ol O7)] (.val (.agg (cV r))):=by
 unfold zq at H;refine po_ func226 ntmps226 ?_;obtain⟨PT,H⟩|⟨PT,H⟩:=ae H
 .obtain⟨PW,c1,H⟩:=bd_ H
  replace c1:=eJ c1
  cases H;exact ao
 refine aS ?_;refine br 5 3 rfl ?_;refine alM_ (λs:(List Val)×Int=>match s with|(Ti,i_4)=>[(0,.one (.c (.lst (Qd.map (λx=>[AC.lst (x.map cV)]))))),(3,.one (.ptr 0 0)),(4,.one (.ptr 1 0)),(5,.one (.own (Ti.map cV) 2)),(6,.one (.c (.int .i64 i_4)))]) (λs=>match s with|(Ti,i_4)=>[.box [.c (.int .i64 O7.op),.c (.int .i64 O7.arg)],.box [.c (.int .i64 (0:Int)),.c (.int .i64 (0:Int)),.c (.str ByteArray.empty)],.spare Ti.length 3]) H (λ_=>aia _)
  (fm_ bg [] rfl aQ bq) ?_
 rintro⟨Ti,i_4⟩ Qr OZ Po;unfold q_ at OZ;dsimp only at OZ ⊢;obtain⟨Qu,OZ⟩|⟨Qu,OZ⟩:=ae OZ
 .obtain⟨Rf,Tu,i2,SR,OZ⟩:=aw (f:=(λx=>[AC.lst (x.map cV)])) OZ
  obtain⟨Qs,Ud,i3,TK,OZ⟩:=aw (f:=cV) OZ;obtain⟨Qw,OZ⟩|⟨Qw,OZ⟩:=ae OZ
  .obtain⟨g4,OZ⟩:=aq OZ
   cases OZ;refine aS ?_;exact⟨_,rfl,fm_ fO [] dU aQ bq⟩
  cases OZ;refine aS ?_;exact⟨_,rfl,fm_ fO [] dU aQ bq⟩
 cases OZ;have O0:sf O7 (.inl (Ti,i_4))=some _:=Po;unfold sf at O0;dsimp only at O0;obtain⟨Q5,O0⟩|⟨Q5,O0⟩:=ae O0
 .obtain⟨PR,c5,O0⟩:=bd_ O0
  replace c5:=eJ c5
  cases O0;exact ao
 obtain⟨Qo,O0⟩|⟨Qo,O0⟩:=ae O0
 .obtain⟨Qq,c6,O0⟩:=bd_ O0
  replace c6:=bI c6
  cases O0;exact ao
 obtain⟨P2,O0⟩|⟨P2,O0⟩:=ae O0
 .refine aS ?_
  refine alM_ (λs:Int×Int×Int=>match s with|(QK,QY,QL)=>[(4,.one (.ptr 1 0)),(5,.one (.own (Ti.map cV) 2)),(7,.one (.c (.int .i64 QK))),(8,.one (.c (.int .i64 QY))),(9,.one (.c (.int .i64 QL)))]) (λs=>match s with|(QK,QY,QL)=>[.box [.c (.int .i64 O7.op),.c (.int .i64 O7.arg)],.box [.c (.int .i64 (0:Int)),.c (.int .i64 (0:Int)),.c (.str ByteArray.empty)],.spare Ti.length 3]) O0 (λ_=>aia _)
   (fm_ bg [] rfl aQ bq) ?_
  rintro⟨QK,QY,QL⟩ st2 Pe RE;unfold fx at Pe;dsimp only at Pe ⊢;obtain⟨RI,Pe⟩|⟨RI,Pe⟩:=ae Pe
  .obtain⟨S8,Yi,i7,XY,Pe⟩:=aw (f:=cV) Pe
   obtain⟨g8,Pe⟩:=aq Pe;obtain⟨g9,Pe⟩:=aq Pe
   cases Pe;refine aS ?_;exact⟨_,rfl,fm_ bg [] rfl aQ bq⟩
  cases Pe;have Px:nw (.inl (QK,QY,QL))=some _:=RE;unfold nw at Px;dsimp only at Px;obtain⟨g10,Px⟩:=aq Px;obtain⟨g11,Px⟩:=aq Px;obtain⟨R8,Px⟩|⟨R8,Px⟩:=ae Px
  .obtain⟨Ru,SJ,Px⟩:=bd_ Px
   replace SJ:=bI SJ
   cases Px;exact ao
  obtain⟨RB,Px⟩|⟨RB,Px⟩:=ae Px
  .obtain⟨SD,R4,Px⟩:=bd_ Px
   replace R4:=bI R4
   cases Px;exact ao
  obtain⟨TQ,S7,Px⟩:=bd_ Px;replace S7:=eJ S7
  cases Px;exact ao
 obtain⟨RQ,XU,i15,XV,O0⟩:=aw (f:=cV) O0;refine aS ?_;refine alM_ (λs:Int×Int×ByteArray×Int=>match s with|(TE,TF,TG,SY)=>[(3,.one (.ptr 0 0)),(4,.one (.ptr 1 0)),(5,.one (.own (Ti.map cV) 2)),(10,.one (.ptr 3 0)),(11,.one (.c (.int .i64 SY)))]) (λs=>match s with|(TE,TF,TG,SY)=>[.box [.c (.int .i64 O7.op),.c (.int .i64 O7.arg)],.box [.c (.int .i64 (0:Int)),.c (.int .i64 (0:Int)),.c (.str ByteArray.empty)],.spare Ti.length 3,.box [.c (.int .i64 TE),.c (.int .i64 TF),.c (.str TG)]]) O0 (λ_=>aia _)
  (fm_ bg [] rfl aQ bq) ?_
 rintro⟨TE,TF,TG,SY⟩ st3 PZ hk3;unfold fr at PZ;dsimp only at PZ ⊢;obtain⟨Y6,PZ⟩|⟨Y6,PZ⟩:=ae PZ
 .obtain⟨TZ,i16z,i16,i16x,PZ⟩:=aw (f:=cV) PZ
  obtain⟨TC,UK,PZ⟩:=bd_ PZ;replace UK:=qa UK;obtain⟨Vh,PZ⟩|⟨Vh,PZ⟩:=ae PZ
  .obtain⟨V4,PZ⟩|⟨V4,PZ⟩:=ae PZ
   .cases PZ
    refine aS ?_;exact⟨_,rfl,fm_ bg [] rfl aQ bq⟩
   have VG:(decide (O7.op=(4:Int)))=false:=by rw[aii Vh];decide
   cases PZ;refine aS ?_;exact⟨_,rfl,fm_ bg [] rfl aQ bq⟩
  obtain⟨XM,PZ⟩|⟨XM,PZ⟩:=ae PZ
  .obtain⟨UM,PZ⟩|⟨UM,PZ⟩:=ae PZ
   .cases PZ
    refine aS ?_;exact⟨_,rfl,fm_ bg [] rfl aQ bq⟩
   cases PZ;refine aS ?_;exact⟨_,rfl,fm_ bg [] rfl aQ bq⟩
  cases PZ;refine aS ?_;exact⟨_,rfl,fm_ bg [] rfl aQ bq⟩
 cases PZ;have Rh:m6 (.inl (TE,TF,TG,SY))=some _:=hk3;unfold m6 at Rh;dsimp only at Rh
 cases Rh;exact ao
def rM (Qd:(List (List Val)))(O5:(List Ag)):((List Val)×Int)->Option (Step ((List Val)×Int) ((List Val))):=λs=>match s with
 |(RY,Xf)=>bif Xf<(O5.length:Int)then(al O5 Xf).bind λPK=>(zq Qd PK).bind λPM=>bif RY.length+1<=4398046511104 then(some (.next ((RY++[PM]),(i64.wrap (Xf+(1:Int))))))else none else
 some (.exit (RY,Xf))
def vQ:Sum ((List Val)×Int) ((List Val))->Option (((List Val)))
 |.inl (RY,Xf)=>some RY
 |.inr q=>some q
def vX (Vi:(List Val))(Qd:(List (List Val)))(O5:(List Ag)):Option ((List Val)):=bif Vi.length<=4398046511104 then((af (rM Qd O5) fuel (Vi,(0:Int))).bind (vQ))else none
theorem wL {Vi:(List Val)}{Qd:(List (List Val))}{O5:(List Ag)}{r:(List Val)}(H:vX Vi Qd O5=some r):PTz 178 [.one (.lst (Vi.map cV)),.one (.lst (Qd.map (λx=>[AC.lst (x.map cV)]))),.one (.lst (O5.map ol))] (.val (.one (.lst (r.map cV)))):=by
 unfold vX at H;refine po_ func178 ntmps178 ?_;obtain⟨g1,H⟩:=aq H;refine aS ?_;refine alM_ (λs:(List Val)×Int=>match s with|(RY,Xf)=>[(1,.one (.c (.lst (Qd.map (λx=>[AC.lst (x.map cV)]))))),(2,.one (.c (.lst (O5.map ol)))),(7,.one (.own (RY.map cV) 0)),(8,.one (.c (.int .i64 Xf)))]) (λs=>match s with|(RY,Xf)=>[.spare RY.length 3]) H (λ_=>aia _)
  (fm_ bg [] rfl aQ bq) ?_
 rintro⟨RY,Xf⟩ Qr OZ Po;unfold rM at OZ;dsimp only at OZ ⊢;obtain⟨PG,OZ⟩|⟨PG,OZ⟩:=ae OZ
 .obtain⟨PK,Tu,i2,SR,OZ⟩:=aw (f:=ol) OZ
  obtain⟨PM,c3,OZ⟩:=bd_ OZ;replace c3:=Np c3;obtain⟨g4,OZ⟩:=aq OZ
  cases OZ;refine aS ?_;exact⟨_,rfl,fm_ fO [] dU aQ bq⟩
 cases OZ;have O0:vQ (.inl (RY,Xf))=some _:=Po;unfold vQ at O0;dsimp only at O0
 cases O0;exact ao
end
section
variable {P:Program} {ti:TI} {N n0:Nat} {ds:List (Option Tmp)} {K:Tm->List Ob->Prop} {rest:List Oper} {o:Oper} {T:Tm} {L:List Ob}
theorem l2_ {v:AV}{L':List Ob}{φ:Prop}{d:Nat}(hd:o.dst=some d)(hN:Nat.blt d N=true){g0:Bool}(hg:fN ds T o.guard=some g0)(hp:yb ti (look T) L o.op=some (v,L',φ))(h:aK P ti N ds K rest ((d,v)::T) L')
  (hφ:φ:=by repeat' (first|exact t7|rfl|exact ah1 rfl|omega|exact wideI (by intro _;rfl) _|exact wideI Ab _|exact wideI zU _|(intro e he;simp at he;subst he;rfl)|exact ah3 _|(simp only[ah3,ahZ,aib,aik,aiw]<;>omega)|apply And.intro)) (R6:g0=true:=by first|rfl|exact iP (by first|assumption|exact jo (by assumption))|exact iS (by first|assumption|exact js (by assumption))):aK P ti N ds K (o::rest) T L:=st_lop hd hN (R6▸hg) hp hφ h
end
noncomputable section
def fk:((List aN)×(List aN)×(List aN))->Option (Step ((List aN)×(List aN)×(List aN)) ((List aN))):=λs=>match s with
 |(Vj,Vs,Pv)=>bif (0:Int)<(Vj.length:Int)then bif (0:Int)<(Vs.length:Int)then(al Vs (0:Int)).bind λPL=>(al Vj (0:Int)).bind λR9=>(xC PL.key R9.key).bind λQp=>bif Qp<(0:Int)then bif Pv.length+1<=2932031007402 then((gE Vs (1:Int) (Vs.length:Int)).bind λUe=>some (.next (Vj,Ue,(Pv++[PL]))))else none else
 bif Pv.length+1<=2932031007402 then((gE Vj (1:Int) (Vj.length:Int)).bind λs_16=>some (.next (s_16,Vs,(Pv++[R9]))))else none else
 some (.exit (Vj,Vs,Pv))else
 some (.exit (Vj,Vs,Pv))
def dy:Sum ((List aN)×(List aN)×(List aN)) ((List aN))->Option (((List aN)))
 |.inl (Vj,Vs,Pv)=>bif Pv.length+Vj.length<=2932031007402 then(bif Pv.length+Vj.length+Vs.length<=2932031007402 then(some (Pv++Vj++Vs))else none)else none
 |.inr q=>some q
def yo (rec:List aN->Option (List aN))(O5:(List aN)):Option ((List aN)):=bif (O5.length:Int)<(2:Int)then some O5 else
 bif (2:Int)≠0 then((gE O5 (0:Int) (i64.wrap ((O5.length:Int).tdiv (2:Int)))).bind λV2=>(rec V2).bind λQm=>bif (2:Int)≠0 then((gE O5 (i64.wrap ((O5.length:Int).tdiv (2:Int))) (O5.length:Int)).bind λs_4=>(rec s_4).bind λPM=>(af (fk) fuel (Qm,PM,[])).bind (dy))else none)else none
theorem Kp {rec:List aN->Option (List aN)}  (Pq:∀ {x:List aN} {r:List aN},rec x=some r->PTz 177 [.one (.lst (x.map bV))] (.val (.one (.lst (r.map bV))))){O5:(List aN)}{r:(List aN)}(H:yo rec O5=some r):PTz 177 [.one (.lst (O5.map bV))] (.val (.one (.lst (r.map bV)))):=by
 unfold yo at H;refine po_ func177 ntmps177 ?_;obtain⟨PT,H⟩|⟨PT,H⟩:=ae H
 .cases H
  exact ao
 obtain⟨g1,H⟩:=aq H;obtain⟨V2,u2,H⟩:=bd_ H;obtain⟨⟨u2a,u2b,u2c⟩,u2⟩:=cY u2;have u2x:=xT (f:=bV) u2;obtain⟨Qm,c3,H⟩:=bd_ H;replace c3:=Pq c3;obtain⟨g4,H⟩:=aq H;obtain⟨s_4,u5,H⟩:=bd_ H;obtain⟨⟨u5a,u5b,u5c⟩,u5⟩:=cY u5;have Xb:=xT (f:=bV) u5;obtain⟨PM,c6,H⟩:=bd_ H;replace c6:=Pq c6
 repeat' (first|refine p_ rfl rfl rfl rfl rfl ?_|refine st_nil ?_|refine x_ rfl rfl rfl rfl rfl rfl rfl rfl ?_|refine l2_ rfl rfl rfl rfl ?_|refine s_ rfl rfl rfl ?_|refine t_ rfl rfl rfl rfl ?_|refine k_ rfl rfl rfl ?_|refine k0_ rfl rfl ?_|refine c_ rfl rfl rfl rfl ?_|refine pick_t rfl rfl rfl rfl rfl rfl rfl ?_|refine pick_f rfl rfl rfl rfl rfl rfl rfl ?_|refine aw_seq ?_|refine aw_region tab_ok _ rfl ?_|refine aw_drawn2 tabS_ok _ rfl mixed (by decide +kernel) ?_|refine aw_condT rfl ?_|refine aw_condF rfl ?_|refine aw_block ?_|refine aw_exit ?_|refine aw_ret ?_|refine aw_skip ?_|rw[ah3]|rw[mn_norm]|rw[mx_norm]|rw[u2x]|rw[Xb]|rw[show((0:Nat):Int)=0 from rfl])
 refine br 5 2 rfl ?_;refine alM_ (λs:(List aN)×(List aN)×(List aN)=>match s with|(Vj,Vs,Pv)=>[(3,.one (.c (.lst (Vj.map bV)))),(4,.one (.c (.lst (Vs.map bV)))),(5,.one (.own (Pv.map bV) 0))]) (λs=>match s with|(Vj,Vs,Pv)=>[.spare Pv.length 2]) H (λ_=>aia _)
  (fm_ bg [] rfl aQ bq) ?_
 rintro⟨Vj,Vs,Pv⟩ Qr OZ Po;unfold fk at OZ;dsimp only at OZ ⊢;obtain⟨Q5,OZ⟩|⟨Q5,OZ⟩:=ae OZ
 .obtain⟨P6,OZ⟩|⟨P6,OZ⟩:=ae OZ
  .obtain⟨PL,Yi,i7,XY,OZ⟩:=aw (f:=bV) OZ
   obtain⟨R9,i8z,i8,i8x,OZ⟩:=aw (f:=bV) OZ;obtain⟨Qp,c9,OZ⟩:=bd_ OZ;replace c9:=uD c9;obtain⟨P9,OZ⟩|⟨P9,OZ⟩:=ae OZ
   .obtain⟨g10,OZ⟩:=aq OZ
    obtain⟨Ue,u11,OZ⟩:=bd_ OZ;obtain⟨⟨u11a,u11b,u11c⟩,u11⟩:=cY u11;have u11x:=xT (f:=bV) u11
    cases OZ
    repeat' (first|refine p_ rfl rfl rfl rfl rfl ?_|refine st_nil ?_|refine x_ rfl rfl rfl rfl rfl rfl rfl rfl ?_|refine l2_ rfl rfl rfl rfl ?_|refine s_ rfl rfl rfl ?_|refine t_ rfl rfl rfl rfl ?_|refine k_ rfl rfl rfl ?_|refine k0_ rfl rfl ?_|refine c_ rfl rfl rfl rfl ?_|refine pick_t rfl rfl rfl rfl rfl rfl rfl ?_|refine pick_f rfl rfl rfl rfl rfl rfl rfl ?_|refine aw_seq ?_|refine aw_region tab_ok _ rfl ?_|refine aw_drawn2 tabS_ok _ rfl mixed (by decide +kernel) ?_|refine aw_condT rfl ?_|refine aw_condF rfl ?_|refine aw_block ?_|refine aw_exit ?_|refine aw_ret ?_|refine aw_skip ?_|rw[ah3]|rw[mn_norm]|rw[mx_norm]|rw[u2x]|rw[Xb]|rw[u11x]|rw[show((0:Nat):Int)=0 from rfl])
    exact⟨_,rfl,fm_ fO [] dU aQ bq⟩
   obtain⟨g12,OZ⟩:=aq OZ;obtain⟨s_16,u13,OZ⟩:=bd_ OZ;obtain⟨⟨u13a,u13b,u13c⟩,u13⟩:=cY u13;have u13x:=xT (f:=bV) u13
   cases OZ
   repeat' (first|refine p_ rfl rfl rfl rfl rfl ?_|refine st_nil ?_|refine x_ rfl rfl rfl rfl rfl rfl rfl rfl ?_|refine l2_ rfl rfl rfl rfl ?_|refine s_ rfl rfl rfl ?_|refine t_ rfl rfl rfl rfl ?_|refine k_ rfl rfl rfl ?_|refine k0_ rfl rfl ?_|refine c_ rfl rfl rfl rfl ?_|refine pick_t rfl rfl rfl rfl rfl rfl rfl ?_|refine pick_f rfl rfl rfl rfl rfl rfl rfl ?_|refine aw_seq ?_|refine aw_region tab_ok _ rfl ?_|refine aw_drawn2 tabS_ok _ rfl mixed (by decide +kernel) ?_|refine aw_condT rfl ?_|refine aw_condF rfl ?_|refine aw_block ?_|refine aw_exit ?_|refine aw_ret ?_|refine aw_skip ?_|rw[ah3]|rw[mn_norm]|rw[mx_norm]|rw[u2x]|rw[Xb]|rw[u13x]|rw[show((0:Nat):Int)=0 from rfl])
   exact⟨_,rfl,fm_ fO [] dU aQ bq⟩
  cases OZ;have O0:dy (.inl (Vj,Vs,Pv))=some _:=Po;unfold dy at O0;dsimp only at O0;obtain⟨g14,O0⟩:=aq O0;obtain⟨g15,O0⟩:=aq O0
  cases O0
  repeat' (first|refine p_ rfl rfl rfl rfl rfl ?_|refine st_nil ?_|refine x_ rfl rfl rfl rfl rfl rfl rfl rfl ?_|refine l2_ rfl rfl rfl rfl ?_|refine s_ rfl rfl rfl ?_|refine t_ rfl rfl rfl rfl ?_|refine k_ rfl rfl rfl ?_|refine k0_ rfl rfl ?_|refine c_ rfl rfl rfl rfl ?_|refine pick_t rfl rfl rfl rfl rfl rfl rfl ?_|refine pick_f rfl rfl rfl rfl rfl rfl rfl ?_|refine aw_seq ?_|refine aw_region tab_ok _ rfl ?_|refine aw_drawn2 tabS_ok _ rfl mixed (by decide +kernel) ?_|refine aw_condT rfl ?_|refine aw_condF rfl ?_|refine aw_block ?_|refine aw_exit ?_|refine aw_ret ?_|refine aw_skip ?_|rw[ah3]|rw[mn_norm]|rw[mx_norm]|rw[u2x]|rw[Xb]|rw[show((0:Nat):Int)=0 from rfl])
  refine az (aE rfl ?_ ?_)
  .repeat' (first|exact t7|rfl|exact ah1 rfl|omega|apply And.intro)
  .first|rfl|(simp only[ah4,ah2,ah6,ahW]<;>rfl)
 cases OZ;have O0:dy (.inl (Vj,Vs,Pv))=some _:=Po;unfold dy at O0;dsimp only at O0;obtain⟨g16,O0⟩:=aq O0;obtain⟨g17,O0⟩:=aq O0
 cases O0
 repeat' (first|refine p_ rfl rfl rfl rfl rfl ?_|refine st_nil ?_|refine x_ rfl rfl rfl rfl rfl rfl rfl rfl ?_|refine l2_ rfl rfl rfl rfl ?_|refine s_ rfl rfl rfl ?_|refine t_ rfl rfl rfl rfl ?_|refine k_ rfl rfl rfl ?_|refine k0_ rfl rfl ?_|refine c_ rfl rfl rfl rfl ?_|refine pick_t rfl rfl rfl rfl rfl rfl rfl ?_|refine pick_f rfl rfl rfl rfl rfl rfl rfl ?_|refine aw_seq ?_|refine aw_region tab_ok _ rfl ?_|refine aw_drawn2 tabS_ok _ rfl mixed (by decide +kernel) ?_|refine aw_condT rfl ?_|refine aw_condF rfl ?_|refine aw_block ?_|refine aw_exit ?_|refine aw_ret ?_|refine aw_skip ?_|rw[ah3]|rw[mn_norm]|rw[mx_norm]|rw[u2x]|rw[Xb]|rw[show((0:Nat):Int)=0 from rfl])
 refine az (aE rfl ?_ ?_)
 .repeat' (first|exact t7|rfl|exact ah1 rfl|omega|apply And.intro)
 .first|rfl|(simp only[ah4,ah2,ah6,ahW]<;>rfl)
def wP:Nat->List aN->Option (List aN)
 |0,_=>none
 |n+1,x=>yo (wP n) x
theorem Dk:∀ (n:Nat) {x:List aN} {r:List aN},wP n x=some r->PTz 177 [.one (.lst (x.map bV))] (.val (.one (.lst (r.map bV))))
 |0,_,_,h=>nomatch h
 |n+1,_,_,h=>Kp (Dk n) h
end
noncomputable section
def xx:(Unit)->Option (Step (Unit) (aJ)):=λs=>match s with
 |()=>some (.exit ())
def lF (Ph:(List Int)×Int)(PR:(List Val)):Sum (Unit) (aJ)->Option ((aJ))
 |.inl ()=>(fM [PR]).bind λQq=>some (⟨Ph.1,Qq⟩:aJ)
 |.inr q=>some q
def wV:(Unit)->Option (Step (Unit) (aJ)):=λs=>match s with
 |()=>some (.exit ())
def lQ (Ph:(List Int)×Int):Sum (Unit) (aJ)->Option ((aJ))
 |.inl ()=>(fM ([]:(List (List Val)))).bind λRe=>some (⟨Ph.1,Re⟩:aJ)
 |.inr q=>some q
def eY (Qi:(List aN))(QL:Int):((List (List Val))×Int)->Option (Step ((List (List Val))×Int) (aJ)):=λs=>match s with
 |(Qv,Ta)=>bif Ta<(Qi.length:Int)then(al Qi Ta).bind λWc=>(al Qi QL).bind λVb=>(em Wc.key Vb.key).bind λTQ=>bif TQ then bif Qv.length+1<=5864062014805 then(some (.next ((Qv++[Wc.row]),(i64.wrap (Ta+(1:Int))))))else none else
 some (.exit (Qv,Ta))else
 some (.exit (Qv,Ta))
def gQ (O5:(List Ag))(Qi:(List aN))(RZ:(List (List Val)))(QL:Int):Sum ((List (List Val))×Int) (aJ)->Option (Step ((List (List Val))×Int) (aJ))
 |.inl (Qv,Ta)=>(al Qi QL).bind λVE=>(vX VE.key Qv O5).bind λUO=>bif RZ.length+1<=5864062014805 then(some (.next ((RZ++[UO]),Ta)))else none
 |.inr q=>some (.ret q)
def fb (O5:(List Ag))(Qi:(List aN)):((List (List Val))×Int)->Option (Step ((List (List Val))×Int) (aJ)):=λs=>match s with
 |(RZ,QL)=>bif QL<(Qi.length:Int)then(af (eY Qi QL) fuel ([],QL)).bind (gQ O5 Qi RZ QL)else
 some (.exit (RZ,QL))
def gJ (Ph:(List Int)×Int):Sum ((List (List Val))×Int) (aJ)->Option ((aJ))
 |.inl (RZ,QL)=>(fM RZ).bind λR_=>some (⟨Ph.1,R_⟩:aJ)
 |.inr q=>some q
def gS (O4:aJ)(PN:(List Int)):((List aN)×Int)->Option (Step ((List aN)×Int) (aJ)):=λs=>match s with
 |(Q9,Qk)=>bif Qk<(O4.rows.length:Int)then(al O4.rows Qk).bind λQG=>(yB QG PN).bind λQW=>bif Q9.length+1<=2932031007402 then(some (.next ((Q9++[(⟨QW,QG⟩:aN)]),(i64.wrap (Qk+(1:Int))))))else none else
 some (.exit (Q9,Qk))
def jz (PN:(List Int))(O5:(List Ag))(Ph:(List Int)×Int):Sum ((List aN)×Int) (aJ)->Option ((aJ))
 |.inl (Q9,Qk)=>(wP 701 Q9).bind λQi=>bif (Qi.length:Int)=(0:Int)then bif (PN.length:Int)=(0:Int)then(vX ([]:(List Val)) ([]:(List (List Val))) O5).bind λPR=>bif 1<=5864062014805 then((af (xx) fuel ()).bind (lF Ph PR))else none else
 (af (wV) fuel ()).bind (lQ Ph)else
 (af (fb O5 Qi) fuel ([],(0:Int))).bind (gJ Ph)
 |.inr q=>some q
def h_ (O4:aJ)(PN:(List Int))(O5:(List Ag)):Option (aJ):=(dA O4.kinds PN O5).bind λPh=>(af (gS O4 PN) fuel ([],(0:Int))).bind (jz PN O5 Ph)
theorem Hr {O4:aJ}{PN:(List Int)}{O5:(List Ag)}{r:aJ}(H:h_ O4 PN O5=some r):PTz 134 [.agg (bn O4),.one (.lst (PN.map (λx=>[AC.int .i64 x]))),.one (.lst (O5.map ol))] (.val (.agg (bn r))):=by
 unfold h_ at H;refine po_ func134 ntmps134 ?_;obtain⟨Ph,c1,H⟩:=bd_ H;replace c1:=sL c1;refine aS ?_;refine br 10 2 rfl ?_;refine alM_ (λs:(List aN)×Int=>match s with|(Q9,Qk)=>[(1,.one (.c (.lst (PN.map (λx=>[AC.int .i64 x]))))),(2,.one (.c (.lst (O5.map ol)))),(3,.one (.ptr 0 0)),(6,.one (.ptr 1 0)),(9,.one (.ptr 2 0)),(10,.one (.own (Q9.map bV) 3)),(11,.one (.c (.int .i64 Qk)))]) (λs=>match s with|(Q9,Qk)=>[.box [.c (.lst (O4.kinds.map (λx=>[AC.int .i64 x]))),.c (.lst (O4.rows.map (λx=>[AC.lst (x.map cV)])))],.box [.emp,.emp],.box [.c (.lst (Ph.1.map (λx=>[AC.int .i64 x]))),.emp],.spare Q9.length 2]) H (λ_=>aia _)
  (fm_ bg [] rfl aQ bq) ?_
 rintro⟨Q9,Qk⟩ Qr OZ Po;unfold gS at OZ;dsimp only at OZ ⊢;obtain⟨P1,OZ⟩|⟨P1,OZ⟩:=ae OZ
 .obtain⟨QG,Tu,i2,SR,OZ⟩:=aw (f:=(λx=>[AC.lst (x.map cV)])) OZ
  obtain⟨QW,c3,OZ⟩:=bd_ OZ;replace c3:=NR c3;obtain⟨g4,OZ⟩:=aq OZ
  cases OZ;refine aS ?_;exact⟨_,rfl,fm_ fO [] dU aQ bq⟩
 cases OZ;have O0:jz PN O5 Ph (.inl (Q9,Qk))=some _:=Po;unfold jz at O0;dsimp only at O0;obtain⟨Qi,c5,O0⟩:=bd_ O0;replace c5:=Dk 701 c5;obtain⟨Qw,O0⟩|⟨Qw,O0⟩:=ae O0
 .obtain⟨Q5,O0⟩|⟨Q5,O0⟩:=ae O0
  .obtain⟨PR,c6,O0⟩:=bd_ O0
   replace c6:=wL c6
   try simp only[ah4,ah2,ah6,ahW,ay,aD]at c6
   obtain⟨g7,O0⟩:=aq O0;refine aS ?_;refine alM_ (λs:Unit=>match s with|()=>[(2,.one (.c (.lst (O5.map ol)))),(6,.one (.ptr 1 0)),(9,.one (.ptr 2 0)),(10,.one (.c (.lst (Qi.map bV)))),(12,.one (.c (.int .i64 (0:Int))))]) (λs=>match s with|()=>[.box [.c (.lst (O4.kinds.map (λx=>[AC.int .i64 x]))),.c (.lst (O4.rows.map (λx=>[AC.lst (x.map cV)])))],.box [.emp,.emp],.box [.c (.lst (Ph.1.map (λx=>[AC.int .i64 x]))),.own ([PR].map (λx=>[AC.lst (x.map cV)])) 4],.spare Q9.length 2,.spare 1 1]) O0 (λ_=>aia _)
    (fm_ bg [] rfl aQ bq) ?_
   rintro⟨⟩ st2 Pe RE;unfold xx at Pe
   try dsimp only at Pe ⊢
   have Qo:(decide ((0:Int)<(Qi.length:Int)))=false:=by rw[aii Qw];decide
   cases Pe;have Px:lF Ph PR (.inl ())=some _:=RE;unfold lF at Px
   try dsimp only at Px
   obtain⟨Qq,c8,Px⟩:=bd_ Px;replace c8:=da c8
   try simp only[ah4,ah2,ah6,ahW,ay,aD]at c8
   cases Px;exact ao
  refine aS ?_;refine alM_ (λs:Unit=>match s with|()=>[(2,.one (.c (.lst (O5.map ol)))),(6,.one (.ptr 1 0)),(9,.one (.ptr 2 0)),(10,.one (.c (.lst (Qi.map bV)))),(12,.one (.c (.int .i64 (0:Int))))]) (λs=>match s with|()=>[.box [.c (.lst (O4.kinds.map (λx=>[AC.int .i64 x]))),.c (.lst (O4.rows.map (λx=>[AC.lst (x.map cV)])))],.box [.emp,.emp],.box [.c (.lst (Ph.1.map (λx=>[AC.int .i64 x]))),.emp],.spare Q9.length 2]) O0 (λ_=>aia _)
   (fm_ bg [] rfl aQ bq) ?_
  rintro⟨⟩ st3 PZ hk3;unfold wV at PZ
  try dsimp only at PZ ⊢
  have P2:(decide ((0:Int)<(Qi.length:Int)))=false:=by rw[aii Qw];decide
  cases PZ;have Rh:lQ Ph (.inl ())=some _:=hk3;unfold lQ at Rh
  try dsimp only at Rh
  obtain⟨Re,c9,Rh⟩:=bd_ Rh;replace c9:=da c9
  try simp only[ah4,ah2,ah6,ahW,ay,aD]at c9
  cases Rh;exact ao
 refine aS ?_;refine gK 2 1 1 rfl rfl ?_;refine alM_ (λs:(List (List Val))×Int=>match s with|(RZ,QL)=>[(2,.one (.c (.lst (O5.map ol)))),(6,.one (.ptr 1 0)),(9,.one (.ptr 2 0)),(10,.one (.c (.lst (Qi.map bV)))),(12,.one (.c (.int .i64 QL)))]) (λs=>match s with|(RZ,QL)=>[.box [.c (.lst (O4.kinds.map (λx=>[AC.int .i64 x]))),.c (.lst (O4.rows.map (λx=>[AC.lst (x.map cV)])))],.box [.emp,.emp],.box [.c (.lst (Ph.1.map (λx=>[AC.int .i64 x]))),.own (RZ.map (λx=>[AC.lst (x.map cV)])) 4],.spare Q9.length 2,.spare RZ.length 1]) O0 (λ_=>aia _)
  (fm_ bg [] rfl aQ bq) ?_
 rintro⟨RZ,QL⟩ st6 Si hk6;unfold fb at Si;dsimp only at Si ⊢;obtain⟨RI,Si⟩|⟨RI,Si⟩:=ae Si
 .refine aS ?_
  refine br 13 1 rfl ?_;refine alM_ (λs:(List (List Val))×Int=>match s with|(Qv,Ta)=>[(2,.one (.c (.lst (O5.map ol)))),(6,.one (.ptr 1 0)),(9,.one (.ptr 2 0)),(10,.one (.c (.lst (Qi.map bV)))),(12,.one (.c (.int .i64 QL))),(13,.one (.own (Qv.map (λx=>[AC.lst (x.map cV)])) 5)),(14,.one (.c (.int .i64 Ta)))]) (λs=>match s with|(Qv,Ta)=>[.box [.c (.lst (O4.kinds.map (λx=>[AC.int .i64 x]))),.c (.lst (O4.rows.map (λx=>[AC.lst (x.map cV)])))],.box [.emp,.emp],.box [.c (.lst (Ph.1.map (λx=>[AC.int .i64 x]))),.own (RZ.map (λx=>[AC.lst (x.map cV)])) 4],.spare Q9.length 2,.spare RZ.length 1,.spare Qv.length 1]) Si (λ_=>aia _)
   (fm_ bg [] rfl aQ bq) ?_
  rintro⟨Qv,Ta⟩ st7 UQ hk7;unfold eY at UQ;dsimp only at UQ ⊢;obtain⟨RJ,UQ⟩|⟨RJ,UQ⟩:=ae UQ
  .obtain⟨Wc,WP,Zl,V6,UQ⟩:=aw (f:=bV) UQ
   obtain⟨Vb,YJ,i11,YK,UQ⟩:=aw (f:=bV) UQ;obtain⟨TQ,SJ,UQ⟩:=bd_ UQ;replace SJ:=li SJ;obtain⟨U8,UQ⟩|⟨U8,UQ⟩:=ae UQ
   .obtain⟨g13,UQ⟩:=aq UQ
    cases UQ;refine aS ?_;exact⟨_,rfl,fm_ fO [] dU aQ bq⟩
   cases UQ;have UR:gQ O5 Qi RZ QL (.inl (Qv,Ta))=some _:=hk7;unfold gQ at UR;dsimp only at UR;obtain⟨VE,i14z,i14,i14x,UR⟩:=aw (f:=bV) UR
   cases aim (i11.symm.trans i14);obtain⟨UO,WM,UR⟩:=bd_ UR;replace WM:=wL WM;obtain⟨g16,UR⟩:=aq UR
   cases UR;refine aS ?_;exact⟨_,rfl,fm_ bg [_] dU aQ bq⟩
  cases UQ;have UR:gQ O5 Qi RZ QL (.inl (Qv,Ta))=some _:=hk7;unfold gQ at UR;dsimp only at UR;obtain⟨VE,i17z,i17,i17x,UR⟩:=aw (f:=bV) UR;obtain⟨UO,Yg,UR⟩:=bd_ UR;replace Yg:=wL Yg;obtain⟨g19,UR⟩:=aq UR
  cases UR;refine aS ?_;exact⟨_,rfl,fm_ bg [_] dU aQ bq⟩
 cases Si;have PI:gJ Ph (.inl (RZ,QL))=some _:=hk6;unfold gJ at PI;dsimp only at PI;obtain⟨R_,VJ,PI⟩:=bd_ PI;replace VJ:=da VJ
 cases PI;exact ao
end
