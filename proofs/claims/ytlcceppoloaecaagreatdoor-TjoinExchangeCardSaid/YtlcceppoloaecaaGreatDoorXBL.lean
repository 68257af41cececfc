/- Parts. No condition. -/
import Derived.Test.YtlcceppoloaecaaGreatDoorXBK
set_option linter.unusedSimpArgs false
set_option linter.unusedVariables false
namespace Go.Proofs.YtlcceppoloaecaaGreatDoor
open Go.RowKit Go.MapKept
set_option maxRecDepth 100000
def iQ (e:Ex)(row:List Val):Val:=(dd fuel e row).getD bI
theorem val_ok {e:Ex}(h:cS fuel e)(row:List Val):dd fuel e row=some (iQ e row)/\sS fuel e row=some (iQ e row)/\vF (iQ e row)=true:=by
 obtain⟨v,h1,h2,h3⟩:=IL row fuel e h;unfold iQ;rw[h1];exact⟨rfl,h2,h3⟩
def fF (e:Ex)(row:List Val):Bool:=decide (tF_ (iQ e row)=2)
theorem aaO {e:Ex}(h:cS fuel e)(row:List Val):AZ e row=some (tF_ (iQ e row)):=by
 unfold AZ;rw[(val_ok h row).2.1,aq5,iv];rfl
theorem acG {e:Ex}(kinds:List Int)(h:cS fuel e):∃ n,nl e kinds=some n:=by
 obtain⟨c,c1,_⟩:=Oo kinds h;unfold nl;rw[c1,aq5]
 cases decide (c.2≠0)<;>cases decide (c.1≠3)<;>cases decide (c.1≠0)<;>exact⟨_,rfl⟩
def acb (e:Ex)(kinds:List Int):Int×Int:=(qi e kinds).getD (0,0)
theorem amD {e:Ex}(kinds:List Int)(h:cS fuel e):qi e kinds=some (acb e kinds)/\G1 e kinds=some (acb e kinds):=by
 obtain⟨c,c1,c2⟩:=Oo kinds h;unfold acb;rw[c1];exact⟨rfl,c2⟩
def ah3 (l:List Ex)(kinds:List Int):List Int:=l.map fun e=>(acb e kinds).1
def o7 (l:List Ex)(row:List Val):List Val:=l.map fun e=>iQ e row
def aqg:TI :={ acO with dyn:=true }
theorem Bf:TIok Tryz.prog aqg:=⟨tab_ok.size,tab_ok.agg,tab_ok.elem,tab_ok.field,tab_ok.zero,tab_ok.bytes,tab_ok.kind,tab_ok.struct,tab_ok.zok,tab_ok.eqs⟩
def xE (e:Ex):List AC:=[.int .i64 e.op,.int .i64 e.int,.int .i64 e.v.kind,.int .i64 e.v.int,.str e.v.text,.str e.nm,.lst (e.args.map tE)]
def apt:TI :={ acO with soft:=true }
theorem M8:TIok Tryz.prog apt:=⟨tab_ok.size,tab_ok.agg,tab_ok.elem,tab_ok.field,tab_ok.zero,tab_ok.bytes,tab_ok.kind,tab_ok.struct,tab_ok.zok,tab_ok.eqs⟩
theorem GX:∀ {T' T:Tm},Bl T' T ->∀ p∈T,T'.lookup p.1=some p.2
 |T',[],_,p,hp=>by cases hp
 |T',q::T,h,p,hp=>by
  rcases arp.1 hp with rfl|hp
  ·exact h.1
  ·exact GX h.2 p hp
theorem kr.slots {N n0:Nat}{T T':Tm}{L:List Ob}(h:Bl T T'):kr N n0 T L T' L:=kr.less fun t x hx=>GX h _ (my hx)
theorem aaP {p q:ax}(h:jm p q=true):AQ p q=some (nL p q,true):=by
 obtain⟨h1,h2,h3,h4⟩:=(td p q).1 h;unfold AQ Jq;rw[i_,aq5,h1,aq8,i_,aq5,h2,aq8,aq_ h3,aq8,aq_ h4];show some ((⟨zL p.lo q.lo,mnI p.hi q.hi⟩:ax),true)=_;rw[BK,adF];rfl
theorem zY {x y:List Val}(h0:0<x.length+y.length)(h1:x.length+y.length<=1000000):wM x y=some (x++y):=by
 unfold wM aaZ;rw[aq_ h0,aq_ h1];rfl
def ab2 (e:Ex)(a b:List ap)(p:cA):Option (Nat×List Val×ax):=match a[p.a.toNat]?,b[p.b.toNat]? with
 |some f,some g=>bif fF e (f.row++g.row)then some (p.a.toNat,f.row++g.row,nL f.valid g.valid)else none
 |_,_=>none
def aee {σ:Type}(nxt:σ->Nat->List Val->ax->σ)(s:σ):Option (Nat×List Val×ax)->σ
 |some (i,row,p)=>nxt s i row p
 |none=>s
def od {σ:Type}(nxt:σ->Nat->List Val->ax->σ)(e:Ex)(a b:List ap)(l:List cA)(s:σ):σ:=l.foldl (fun s p=>aee nxt s (ab2 e a b p)) s
theorem aeW {σ:Type}(nxt:σ->Nat->List Val->ax->σ)(e:Ex)(a b:List ap)(l:List cA)(p:cA)(s:σ):od nxt e a b (l++[p]) s=aee nxt (od nxt e a b l s) (ab2 e a b p):=by
 unfold od;rw[List.foldl_append];rfl
theorem aeb {α:Type}{q:α->α->Bool}{a0 b:List α}:∀ {a pre:List α} {p:cA},a0=pre++a->p∈ef q b a pre.length ->∃ (i k:Nat) (x y:α),p=⟨(i:Int),(k:Int)⟩/\a0[i]?=some x/\b[k]?=some y/\q x y=true
 |[],pre,p,_,h=>by cases h
 |x::a,pre,p,h0,h=>by
  rw[ef,arB]at h;rcases h with h|h
  ·unfold mC at h
   obtain⟨j,hj,rfl⟩:=arK.1 h;obtain⟨y,hy,hq,h0j⟩:=ac_ (q x) b b [] rfl j (by simpa using hj);refine⟨pre.length,j.toNat,x,y,?_,by rw[h0];simp,hy,hq⟩;rw[Int.toNat_of_nonneg h0j]
  ·exact aeb (a:=a) (pre:=pre++[x]) (by rw[h0];simp) (by simpa using h)
def GT (a b:aW)(e:Ex)(g:FuncId)(prs:List cA)(k:Nat):Tm:=[(3,.one (.clo g [.ptr 4 0])),(4,.one (.c (.ref (aV a)))),(5,.one (.c (.ref (aV b)))),(6,.one (.c (.ref (xE e)))),(19,.one (.c (.lst (prs.map iq)))),(20,.one (.c (.int .i64 prs.length))),(21,.one (.c (.int .i64 k)))]
theorem CQ (a b:aW)(e:Ex)(g:FuncId)(prs:List cA)(k:Nat):gK 20 (GT a b e g prs k):=⟨(by intro x hx;simp at hx;subst hx;show 4<20;omega),t7,t7,t7,t7,t7,t7,t7⟩
def GL {σ:Type}(O:Nat->σ->Ob)(s:σ):List Ob:=Ar O s++[.dead,.dead,.dead]
theorem aqf {x:Cap}{m n:Nat}(h:x.below m)(hn:m<=n):x.below n:=by
 cases x with
 |c _=>trivial
 |ptr id _=>exact arO h hn
theorem svb {x:SV}{m n:Nat}(h:x.below m)(hn:m<=n):x.below n:=by
 cases x with
 |c _=>trivial
 |emp=>trivial
 |own _ _=>exact arO h hn
 |ptr _ _=>exact arO h hn
 |sl _ _ _ _=>exact arO h hn
 |ep _ _ _ _=>exact arO h hn
 |mp _=>exact arO h hn
 |clo _ caps=>exact fun y hy=>aqf (h y hy) hn
theorem avb {x:AV}{m n:Nat}(h:x.below m)(hn:m<=n):x.below n:=by
 cases x with
 |one _=>exact svb h hn
 |agg _=>exact fun y hy=>svb (h y hy) hn
 |tup _=>trivial
 |tupS _=>exact fun y hy=>svb (h y hy) hn
 |undef=>trivial
theorem apu {x:Ob}{n:Nat}(h:x.below 17)(hn:17<=n):x.below n:=by
 cases x with
 |box cs=>exact fun y hy=>svb (h y hy) hn
 |spare _ _=>trivial
 |row _ es _=>exact fun e he y hy=>svb (h e he y hy) hn
 |map kvs=>exact fun p hp=>avb (h p hp) hn
 |dead=>trivial
theorem EA {σ:Type}{O:Nat->σ->Ob}(hb:∀ s i,i<17->(O i s).below 17)(s:σ):nP 20 (GL O s):=by
 refine tX fun x hx=>?_
 rcases arB.1 hx with hx|hx
 ·exact apu (fk (hb s) x hx) m0
 ·simp at hx;subst hx;trivial
set_option maxHeartbeats 8000000 in
theorem NT {σ:Type}(O:Nat->σ->Ob)(g:FuncId)(nxt:σ->Nat->List Val->ax->σ)(ok:Nat->σ->Prop)(a b:aW)(e:Ex)(hbO:∀ s i,i<17->(O i s).below 17)
  (hstep:∀ n s i row p,ok n s->n<=1000000->i<a.facts.length->RTz g (Ar O s) [.one (.c (.int .i64 (i:Int))),.one (.c (.lst (row.map cV))),.agg ((aO p).map SV.c),.one (.ptr 4 0)] (Ar O (nxt s i row p)) (.tup [])/\ok (n+1) (nxt s i row p))
  (hmono:∀ n s,ok n s->ok (n+1) s) (ha:a.facts.length<=1000) (hbl:b.facts.length<=1000) (hra:∀ f∈a.facts,0<f.row.length/\f.row.length<=1000) (hrb:∀ f∈b.facts,f.row.length<=1000) (he:cS fuel e) (s0:σ) (h0:ok 0 s0) :
  RTz 52 (Ar O s0) [.agg ((aV a).map SV.c),.agg ((aV b).map SV.c),.agg ((tE e).map SV.c),.one (.clo g [.ptr 4 0])] (Ar O (od nxt e a.facts b.facts (ef (fun x y:ap=>jm x.valid y.valid) b.facts a.facts 0) s0)) (.tup []):=by
 have hpairs:=Ef a.facts b.facts ha hbl;have hpl:(ef (fun x y:ap=>jm x.valid y.valid) b.facts a.facts 0).length<=1000000:=Nat.le_trans (DI _ _ _ _) (by have:=Nat.mul_le_mul ha hbl;omega);have hpm:=fun p=>aeb (q:=fun x y:ap=>jm x.valid y.valid) (a0:=a.facts) (b:=b.facts) (a:=a.facts) (pre:=[]) (p:=p) rfl
 generalize ef (fun x y:ap=>jm x.valid y.valid) b.facts a.facts 0=prs at hpairs hpl hpm ⊢;have htr:∀ row,PTz 90 [.agg (xE e),.one (.lst (row.map cV))] (.val (.one (.int .i64 (tF_ (iQ e row))))):=fun row=>by
  have:=gTruthE_ok (aaO he row);rw[ay e]at this;exact this
 rw[ay e];refine bo am Tryz.func52 rfl rfl Tryz.ntmps52 m5 ?_;simp only[eI,aV,ari,arn];show Aw _ _ _ _ _ _ (Ar O s0);unfold Ar
 repeat' (first|(refine aS 17 (ts:=aV a) rfl rfl ?_)|(refine aS 18 (ts:=aV b) rfl rfl ?_)|(refine aS 19 (ts:=xE e) rfl rfl ?_)|refine aN rfl rfl rfl rfl hpairs rfl ?_|refine st_nil ?_|refine st_pop rfl rfl rfl rfl qp_ ?_|refine st_lop rfl rfl rfl rfl qp_ ?_|refine sS_ rfl rfl rfl qp_ ?_|refine st_lit rfl rfl rfl rfl qp_ ?_|refine st_skip rfl rfl rfl ?_|refine sk0_ rfl rfl ?_|(refine st_if rfl (fun hb=>?_) (fun hb=>?_)<;>(first|exact(fx_ hb).elim|rw[hb]))|refine aw_seq ?_|refine aw_region Bf _ rfl ?_|refine aw_drawn2 tabS_ok _ rfl mixed (by decide +kernel) ?_|(refine aw_cond rfl (fun hb=>?_) (fun hb=>?_)<;>(try exact(fx_ hb).elim))|refine aw_block ?_|refine aw_exit ?_|refine aw_ret ?_|refine aw_skip ?_|fail)
 refine cz (fun k:Nat=>GT a b e g prs k) (fun k=>GL O (od nxt e a.facts b.facts (prs.take k) s0)) (fun k=>k<=prs.length/\ok k (od nxt e a.facts b.facts (prs.take k) s0)) (fun k=>prs.length-k) 0 ⟨aru _,h0⟩ (fun _ _=>(by show 17<=20;omega))
  (fm_ ⟨rfl,rfl,rfl,rfl,rfl,aU m5,rfl,t7⟩ [] rfl (CQ _ _ _ _ _ _) (EA hbO _)) ?_
 rintro k ⟨hk,hok⟩;by_cases hlt:k<prs.length
 ·obtain⟨pr,hpr⟩:=gol_ hlt
  have hvs:od nxt e a.facts b.facts (prs.take (k+1)) s0=aee nxt (od nxt e a.facts b.facts (prs.take k) s0) (ab2 e a.facts b.facts pr):=by rw[bR hpr,aeW]
  obtain⟨i,j,x,y,rfl,hx,hy,hov⟩:=hpm pr (arb hpr);generalize od nxt e a.facts b.facts (prs.take k) s0=s at hok hvs ⊢;have hix:i<a.facts.length:=(aq6.1 hx).1;have hxr:=hra x (arb hx);have hyr:=hrb y (arb hy);have hconc:=Ad (zY (x:=x.row) (y:=y.row) m0 m0);have hint:=gInterP_ok (aaP hov);have htr:=htr (x.row++y.row);have hvf:ab2 e a.facts b.facts ⟨(i:Int),(j:Int)⟩=bif fF e (x.row++y.row)then some (i,x.row++y.row,nL x.valid y.valid)else none:=by
   unfold ab2;simp only[Int.toNat_natCast,hx,hy]
  rw[hvf]at hvs;have hst:=hstep k s i (x.row++y.row) (nL x.valid y.valid) hok m0 hix;unfold fF at hvs;unfold GT GL Ar
  cases hsel:decide (tF_ (iQ e (x.row++y.row))=2)with
  |false =>
   have hne:decide (tF_ (iQ e (x.row++y.row))≠2)=true:=by have:=of_decide_eq_false hsel;exact aq_ this
   rw[hsel,aq7]at hvs
   repeat' (first|(refine aS 20 (ts:=iq ⟨i,j⟩) rfl rfl ?_;refine amt [4,5,9] M8 [(3,.one (.clo g [.ptr 4 0])),(4,.one (.c (.ref (aV a)))),(5,.one (.c (.ref (aV b)))),(6,.one (.c (.ref (xE e)))),(9,.one (.c (.ref (iq ⟨i,j⟩)))),(10,.one (.c (.ref (aH x)))),(11,.one (.c (.ref (aH y)))),(19,.one (.c (.lst (prs.map iq)))),(20,.one (.c (.int .i64 prs.length))),(21,.one (.c (.int .i64 k)))] (Ar O s++[.dead,.dead,.dead,.dead,.dead,.dead]) 12 m9 m9 mixed (by decide +kernel) (by decide +kernel) rfl ?_ ?_ ?_)|(refine(kr.box 21 rfl rfl).trans ((kr.box 22 rfl rfl).trans (kr.slots ?_));exact⟨rfl,rfl,rfl,rfl,rfl,rfl,rfl,rfl,rfl,rfl,t7⟩)|(refine bB rfl rfl rfl rfl rfl rfl rfl rfl (bv hx) ?_ ?_;· exact⟨Int.natCast_nonneg _,rfl⟩)|(refine bB rfl rfl rfl rfl rfl rfl rfl rfl (bv hy) ?_ ?_;· exact⟨Int.natCast_nonneg _,rfl⟩)|rw[hne]|(refine bB rfl rfl rfl rfl rfl rfl rfl rfl (bv hpr) ?_ ?_;· exact⟨m0,rfl⟩)|refine aN rfl rfl rfl rfl hconc rfl ?_|refine aN rfl rfl rfl rfl htr rfl ?_|refine aN rfl rfl rfl rfl hint rfl ?_|refine st_nil ?_|refine st_pop rfl rfl rfl rfl qp_ ?_|refine st_lop rfl rfl rfl rfl qp_ ?_|refine sS_ rfl rfl rfl qp_ ?_|refine st_lit rfl rfl rfl rfl qp_ ?_|refine st_skip rfl rfl rfl ?_|refine sk0_ rfl rfl ?_|(refine st_if rfl (fun hb=>?_) (fun hb=>?_)<;>(first|exact(fx_ hb).elim|rw[hb]))|refine aw_seq ?_|refine aw_region Bf _ rfl ?_|refine aw_drawn2 tabS_ok _ rfl mixed (by decide +kernel) ?_|(refine aw_cond rfl (fun hb=>?_) (fun hb=>?_)<;>(try exact(fx_ hb).elim))|refine aw_block ?_|refine aw_exit ?_|refine aw_ret ?_|refine aw_skip ?_|fail)
   exact⟨k+1,⟨m0,by rw[hvs];exact hmono _ _ hok⟩,m0,fm_ ⟨rfl,rfl,rfl,rfl,rfl,rfl,aU (a7 m0 m0),t7⟩ [_,_,_] (by rw[hvs];rfl) (CQ _ _ _ _ _ _) (EA hbO _)⟩
  |true =>
   have hne:decide (tF_ (iQ e (x.row++y.row))≠2)=false:=by have:=arC hsel;rw[this];rfl
   rw[hsel,aq8]at hvs;have hvs:od nxt e a.facts b.facts (prs.take (k+1)) s0=nxt s i (x.row++y.row) (nL x.valid y.valid):=hvs
   repeat' (first|(refine aS 20 (ts:=iq ⟨i,j⟩) rfl rfl ?_;refine amt [4,5,9] M8 [(3,.one (.clo g [.ptr 4 0])),(4,.one (.c (.ref (aV a)))),(5,.one (.c (.ref (aV b)))),(6,.one (.c (.ref (xE e)))),(9,.one (.c (.ref (iq ⟨i,j⟩)))),(10,.one (.c (.ref (aH x)))),(11,.one (.c (.ref (aH y)))),(19,.one (.c (.lst (prs.map iq)))),(20,.one (.c (.int .i64 prs.length))),(21,.one (.c (.int .i64 k)))] (Ar O s++[.dead,.dead,.dead,.dead,.dead,.dead]) 12 m9 m9 mixed (by decide +kernel) (by decide +kernel) rfl ?_ ?_ ?_)|(refine(kr.box 21 rfl rfl).trans ((kr.box 22 rfl rfl).trans (kr.slots ?_));exact⟨rfl,rfl,rfl,rfl,rfl,rfl,rfl,rfl,rfl,rfl,t7⟩)|(refine bB rfl rfl rfl rfl rfl rfl rfl rfl (bv hx) ?_ ?_;· exact⟨Int.natCast_nonneg _,rfl⟩)|(refine bB rfl rfl rfl rfl rfl rfl rfl rfl (bv hy) ?_ ?_;· exact⟨Int.natCast_nonneg _,rfl⟩)|rw[hne]|(refine ye 17 (Ar O s) (Ar O (nxt s i (x.row++y.row) (nL x.valid y.valid))) [.dead,.dead,.dead,.dead,.dead,.dead,.box ((aO (nL x.valid y.valid)).map SV.c)] rfl rfl rfl rfl rfl hst.1 rfl rfl (fk (hbO _)) (fk (hbO _)) (bY ⟨t7,t7,(fun z hz=>by have hz:z∈(aO (nL x.valid y.valid)).map SV.c:=hz;obtain⟨w,_,rfl⟩:=arK.1 hz;trivial),(by show 4<17;omega),t7⟩) ?_)|(refine bB rfl rfl rfl rfl rfl rfl rfl rfl (bv hpr) ?_ ?_;· exact⟨m0,rfl⟩)|refine aN rfl rfl rfl rfl hconc rfl ?_|refine aN rfl rfl rfl rfl htr rfl ?_|refine aN rfl rfl rfl rfl hint rfl ?_|refine st_nil ?_|refine st_pop rfl rfl rfl rfl qp_ ?_|refine st_lop rfl rfl rfl rfl qp_ ?_|refine sS_ rfl rfl rfl qp_ ?_|refine st_lit rfl rfl rfl rfl qp_ ?_|refine st_skip rfl rfl rfl ?_|refine sk0_ rfl rfl ?_|(refine st_if rfl (fun hb=>?_) (fun hb=>?_)<;>(first|exact(fx_ hb).elim|rw[hb]))|refine aw_seq ?_|refine aw_region Bf _ rfl ?_|refine aw_drawn2 tabS_ok _ rfl mixed (by decide +kernel) ?_|(refine aw_cond rfl (fun hb=>?_) (fun hb=>?_)<;>(try exact(fx_ hb).elim))|refine aw_block ?_|refine aw_exit ?_|refine aw_ret ?_|refine aw_skip ?_|fail)
   exact⟨k+1,⟨m0,by rw[hvs];exact hst.2⟩,m0,fm_ ⟨rfl,rfl,rfl,rfl,rfl,rfl,aU (a7 m0 m0),t7⟩ [_,_,_,_] (by rw[hvs];rfl) (CQ _ _ _ _ _ _) (EA hbO _)⟩
 ·have hk2:k=prs.length:=m0
  subst hk2;rw[List.take_length];unfold GT GL
  repeat' (first|refine st_nil ?_|refine st_pop rfl rfl rfl rfl qp_ ?_|refine st_lop rfl rfl rfl rfl qp_ ?_|refine sS_ rfl rfl rfl qp_ ?_|refine st_lit rfl rfl rfl rfl qp_ ?_|refine st_skip rfl rfl rfl ?_|refine sk0_ rfl rfl ?_|(refine st_if rfl (fun hb=>?_) (fun hb=>?_)<;>(first|exact(fx_ hb).elim|rw[hb]))|refine aw_seq ?_|refine aw_region Bf _ rfl ?_|refine aw_drawn2 tabS_ok _ rfl mixed (by decide +kernel) ?_|(refine aw_cond rfl (fun hb=>?_) (fun hb=>?_)<;>(try exact(fx_ hb).elim))|refine aw_block ?_|refine aw_exit ?_|refine aw_ret ?_|refine aw_skip ?_|fail)
  exact⟨.inl rfl,⟨.inr ⟨.tup [],⟨t7,rfl⟩,rfl⟩,⟨_,rfl⟩,aro _,fun x hx=>fk (hbO _) x hx,t7⟩⟩
section
variable {P:Program} {ti:TI} {N n0:Nat} {T:Tm} {L:List Ob}
theorem acs {Q:AX->Tm->List Ob->Prop}{c:Code}(id:Nat){ver k:Nat}{es:List (List SV)}{cs:List (List AC)}(hid:L[id]?=some (.row ver es k))(hn':ee es=some cs)(h:Aw P N n0 c Q T (L.set id (.row ver (cs.map (List.map SV.c)) k))):Aw P N n0 c Q T L:=by
 intro hn B R γ w a hi hT;have hlt:=(aq6.1 hid).1;have hlen:=pG hn';have hm:Mv R R γ γ L (L.set id (.row ver (cs.map (List.map SV.c)) k)):=by
  refine⟨PH.sub_refl _,m5,fun t n k' hlt' e=>⟨n,?_,aro _,fun _=>rfl⟩,fun t ver' es0 k' hlt' e=>?_,fun i b e=>e⟩
  ·have hne:t≠id:=by rintro rfl;rw[ars hlt']at e;cases e
   rw[art (Ne.symm hne)]at e;exact e
  ·by_cases hne:t=id
   ·subst hne
    rw[ars hlt']at e;injection e with e
    injection e with e1 e2 e3
    subst e1 e2 e3;exact⟨ver,es,hid,aro _,fun _=>⟨by rw[arj];exact hlen,rfl⟩⟩
   ·rw[art (Ne.symm hne)]at e
    exact⟨ver',es0,e,aro _,fun _=>⟨rfl,rfl⟩⟩
 refine wp_mono (h (by simpa using hn) B R γ w a ?_ (hT.mv hm)) fun _ _ _ hh=>hh.ext (Ext.refl _ _ _) hi.len (nZ.of hn hm)
 refine⟨by simp[hi.len],hi.val,fun q y g hy hg=>?_,hi.inj,hi.new,hi.bsz⟩;by_cases hii:q=id
 ·subst hii
  rw[ars hlt]at hy;injection hy with hy;subst hy
  have hob:=hi.obj q _ _ hid hg
  match g,hob with
  |.arr b cp,⟨⟨vs,E,h1,h2,h3⟩,h4,h5,h6,h7⟩ =>
   refine⟨⟨vs,E,h1,h2,fun i e j u x he' hu hx=>?_⟩,by rw[arj,<- hlen];exact h4,h5,?_,h7⟩
   ·rw[arw]at he'
    cases hc:cs[i]? with
    |none=>rw[hc]at he';cases he'
    |some c0 =>
     rw[hc]at he';simp only[Option.map_some,Option.some.injEq]at he';subst he';rw[arw]at hx
     cases hj:c0[j]? with
     |none=>rw[hj]at hx;cases hx
     |some y =>
      rw[hj]at hx;simp only[Option.map_some,Option.some.injEq]at hx;subst hx;obtain⟨e,he,hne⟩:=jJ hn' i c0 hc;have hl:=eF hne;have hje:j<e.length:=by rw[<- hl];exact(aq6.1 hj).1
      obtain⟨z,hz⟩:∃ z,e[j]?=some z:=⟨_,arf hje⟩;exact SV.norm_rep (h3 i e j u z he hu hz) (jp hne j z y hz hj)
   ·intro e he'
    obtain⟨c0,hc0,rfl⟩:=arK.1 he';obtain⟨i,hi',rfl⟩:=List.getElem_of_mem hc0;obtain⟨e,he,hne⟩:=jJ hn' i _ (arf hi');rw[arj,eF hne];exact h6 e (arb he)
  |.none,hob =>
   have hes:es=[]:=hob;subst hes;have:cs=[]:=arz (by rw[<- hlen];rfl);subst this;rfl
 ·rw[art (Ne.symm hii)]at hy
  exact(hi.obj q y g hy hg).mv hm (fun _ _=>rfl) (fun _ _ _ h=>h)
theorem MH {f:FuncId}{ps:List PV}{L1:List Ob}{r:AV}{p:PV}(h:Run P f [] (ps.map PV.av) L1 r)(hr:r.norm=some p):Pure P f ps (.val p):=by
 refine⟨h.1,fun R w vs hR hs hv=>?_⟩;have hi:Inv (· <w.heap.size) R [] [] w:=⟨rfl,hR,fun id x g hx=>by simp at hx,fun i j gi gj h1=>by simp at h1,fun i g b h1=>by simp at h1,fun b hb=>hb⟩;refine(h.2 (· <w.heap.size) R [] w vs hi (by simpa using hs) fun j v x hjv hx=>?_).mono ?_
 ·rw[arw]at hx
  cases hp:ps[j]? with
  |none=>rw[hp]at hx;cases hx
  |some q =>
   rw[hp]at hx;simp only[Option.map_some,Option.some.injEq]at hx;subst hx;exact PV.av_rep (hv j v q hjv hp)
 ·rintro e w' ⟨v,R',γ',rfl,i1,i2,i3,i4⟩
  exact⟨v,R',rfl,i2,i1.val,AV.norm_rep i4 hr⟩
end
def M17 (O:Nat->Ob):List Ob:=[O 0,O 1,O 2,O 3,O 4,O 5,O 6,O 7,O 8,O 9,O 10,O 11,O 12,O 13,O 14,O 15,O 16]
theorem aeX {O O':Nat->Ob}(h:∀ k,k<17->O k=O' k):M17 O=M17 O':=by
 unfold M17;rw[h 0 m0,h 1 m0,h 2 m0,h 3 m0,h 4 m0,h 5 m0,h 6 m0,h 7 m0,h 8 m0,h 9 m0,h 10 m0,h 11 m0,h 12 m0,h 13 m0,h 14 m0,h 15 m0,h 16 m0]
theorem KU (O:Nat->Ob):M17 O=(List.range 17).map O:=rfl
theorem akH (O:Nat->Ob)(G:List Ob){j:Nat}(hj:j<17):(M17 O++G)[j]?=some (O j):=by
 rw[KU,arl (by simpa using hj),arw,List.getElem?_range hj];rfl
theorem alW (O:Nat->Ob)(G:List Ob){j:Nat}(hj:j<17)(x:Ob):(M17 O++G).set j x=M17 (fun k=>if k=j then x else O k)++G:=by
 rw[KU,KU,List.set_append_left _ _ (by simpa using hj)];congr 1;refine List.ext_getElem? fun k=>?_
 rw[List.getElem?_set,arw,arw];by_cases hk:j=k
 ·subst hk
  rw[if_pos rfl,if_pos (by simpa using hj),List.getElem?_range hj];simp
 ·rw[if_neg hk]
  by_cases hk17:k<17
  ·rw[List.getElem?_range hk17];simp[Ne.symm hk]
  ·rw[arY (by simpa using hk17)];rfl
section
variable {P:Program} {ti:TI} {N:Nat} {ds:List (Option Tmp)} {K:Tm->List Ob->Prop} {rest:List Oper} {o:Oper} {T:Tm} {L:List Ob}
theorem aqr (L:List Ob)(x:Ob)(hx:x.ren [L.length]=x):joinL [] L [x]=L++[x]:=by
 simp[joinL,join,dr,ce,ft,hx]
theorem co_ {g:FuncId}{asx:List AV}{es:List (List AC)}{n k d:Nat}(hd:o.dst=some d)(hN:Nat.blt d N=true)(hg:ge ds T o.guard=some true)(hp:dj ti (look T) o.op=some (g,asx))(h:aI P ti N ds K rest ((d,.one (.own es L.length))::T) (L++[.spare n k]))
  (hc:Run P g [] asx [.spare n k] (.one (.own es 0)):=by assumption) (ha:asx=asx.map (AV.ren []):=by rfl) (hb:D9 0 asx=true:=by rfl):aI P ti N ds K (o::rest) T L :=
 cK [] hd hN hg hp hc ha ⟨rfl,List.nodup_nil,fun i y hy=>by simp at hy,fun x hx=>(by cases hx),oH hb⟩ (by simp[AV.ren,SV.ren,ce,ft,jH]) (aqr L _ rfl) h
end
theorem apg {p:Prop}(h:p:=by
 refine aY ?_
 first
  |exact⟨.inl rfl,⟨.inl ⟨_,rfl,rfl⟩,⟨[],rfl⟩,aru _,fi rfl,hY rfl⟩⟩
  |exact⟨.inr rfl,⟨.inl ⟨_,rfl,rfl⟩,⟨[],rfl⟩,aru _,fi rfl,hY rfl⟩⟩):p:=h
set_option maxHeartbeats 8000000
noncomputable section
theorem acS {a_l:(List ap)}{a_f:(List ax)->Option ((List ax))}{r:(List ap)}{F_a_f:FuncId}{caps_a_f:List AC}(hf_a_f:∀ (y0:(List ax)) (r:(List ax)),a_f y0=some r->PTz F_a_f ([.one (.lst (y0.map aO))]++caps_a_f.map .one) (.val (.one (.lst (r.map aO)))))(H:ya a_l a_f=some r):RTz 145 [] [.one (.c (.lst (a_l.map aH))),.one (.c (.fn F_a_f caps_a_f))] [.spare r.length 3] (.one (.own (r.map aH) 0)):=by
 unfold ya at H;refine bo tab_ok Tryz.func145 rfl rfl Tryz.ntmps145 m5 ?_;simp only[eI];obtain⟨r_1,c1,H⟩:=bd_ H;replace c1:=Ej c1;refine aY ?_;refine bP 5 3 rfl ?_;refine alM_ (fun s:(List ap)×Int=>match s with|(out_2,v_3)=>[(1,.one (.c (.fn F_a_f caps_a_f))),(5,.one (.own (out_2.map aH) 0)),(11,.one (.c (.lst (r_1.map af)))),(12,.one (.c (.int .i64 ((r_1.length:Nat):Int)))),(13,.one (.c (.int .i64 v_3)))]) (fun s=>match s with|(out_2,v_3)=>[.spare out_2.length 3]) H (fun _=>aru _)
  (fm_ bG [] rfl a8 cm) ?_
 rintro⟨out_2,v_3⟩ st3 hb3 hk3;unfold pd at hb3;dsimp only at hb3 ⊢;rcases aj hb3 with⟨q_4,hb3⟩|⟨q_4,hb3⟩
 ·obtain⟨x_5,i2z,i2,i2x,hb3⟩:=bu (f:=af) hb3
  obtain⟨r_6,c3,hb3⟩:=bd_ hb3;replace c3:=hf_a_f _ _ c3
  try simp only[ark,ari,arn,ara,ay]at c3
  refine aY ?_;refine alM_ (fun s:(List ap)×Int=>match s with|(out_7,v_8)=>[(1,.one (.c (.fn F_a_f caps_a_f))),(5,.one (.own (out_7.map aH) 0)),(7,.one (.ptr 1 0)),(11,.one (.c (.lst (r_1.map af)))),(12,.one (.c (.int .i64 ((r_1.length:Nat):Int)))),(13,.one (.c (.int .i64 v_3))),(20,.one (.c (.lst (r_6.map aO)))),(21,.one (.c (.int .i64 ((r_6.length:Nat):Int)))),(22,.one (.c (.int .i64 v_8)))]) (fun s=>match s with|(out_7,v_8)=>[.spare out_7.length 3,.box [.c (.lst (x_5.row.map cV)),.c (.lst (x_5.periods.map aO))]]) hb3 (fun _=>aru _)
   (fm_ bG [] rfl a8 cm) ?_
  rintro⟨out_7,v_8⟩ st4 hb4 hk4;unfold oM at hb4;dsimp only at hb4 ⊢;rcases aj hb4 with⟨q_9,hb4⟩|⟨q_9,hb4⟩
  ·obtain⟨x_10,i4z,i4,i4x,hb4⟩:=bu (f:=aO) hb4
   obtain⟨g5,hb4⟩:=aK hb4;obtain⟨g6,hb4⟩:=aK hb4
   cases hb4;refine aY ?_;exact⟨_,rfl,fm_ rB [_,_] nN a8 cm⟩
  cases hb4;have hx4:ox v_3 (.inl (out_7,v_8))=some _:=hk4;unfold ox at hx4;dsimp only at hx4
  cases hx4;refine aY ?_;exact⟨_,rfl,fm_ rB [_] nN a8 cm⟩
 cases hb3;have hx3:lA (.inl (out_2,v_3))=some _:=hk3;unfold lA at hx3;dsimp only at hx3
 cases hx3;exact apg
end
end Go.Proofs.YtlcceppoloaecaaGreatDoor
namespace Go.Proofs.YtlcceppoloaecaaGreatDoor.St
open Go.RowKit
theorem Asc.of_list {l:List (Int×Int)}(h:l.Pairwise fun x y=>x.1<y.1):Asc l:=by
 intro i j x y hij hx hy;obtain⟨hi,rfl⟩:=aq6.1 hx;obtain⟨hj,rfl⟩:=aq6.1 hy;exact List.pairwise_iff_getElem.1 h i j hi hj hij
theorem cO:∀ {l:List (Int×Int)} {p:Int×Int},dw p l=true->(p::l).Pairwise (fun x y=>x.1<y.1) /\ ∀ s∈l,s.1<1099511627776
 |[],p,_=>⟨m5,m5⟩
 |q::r,p,h=>by
  simp only[dw,arq]at h;obtain⟨h1,h2⟩:=cO (l:=r) (p:=q) h.2;have hs:p.1<q.1/\q.1<1099511627776:=by have:=h.1;simp[r7]at this;omega
  refine⟨ase.2 ⟨fun y hy=>?_,h1⟩,fun s hs'=>?_⟩
  ·rcases arp.1 hy with e|e
   ·subst e;exact hs.1
   ·have:=(ase.1 h1).1 y e;omega
  ·rcases arp.1 hs' with e|e
   ·subst e;exact hs.2
   ·exact h2 s e
theorem eQ {l:List (Int×Int)}(h:cG l=true):Asc l/\(∀ s∈l,s.1<1099511627776)/\l≠[] /\ ∀ x,l[0]?=some x->x.1=0:=by
 match l,h with
 |p::r,h =>
  simp only[cG,arq,beq_iff_eq]at h;obtain⟨h1,h2⟩:=cO h.2;refine⟨Asc.of_list h1,fun s hs=>?_,m5,fun x hx=>?_⟩
  ·rcases arp.1 hs with e|e
   ·subst e;omega
   ·exact h2 s e
  ·simp at hx;subst hx;exact h.1
def dQ (z:Int)(l:List (Int×Int))(t:Int):Int:=l.foldl (fun n s=>if s.1<=t then s.2 else n) z
theorem rR {l:List (Int×Int)}{t:Int}(h1:0<=t)(h2:t<1099511627776):qN l t=dQ 0 l t:=by unfold qN;rw[if_pos ⟨h1,h2⟩];rfl
theorem alS {l:List (Int×Int)}{t:Int}(h:¬ (0<=t/\t<1099511627776)):qN l t=0:=by unfold qN;rw[if_neg h]
theorem bU (z:Int)(p:Int×Int)(l:List (Int×Int))(t:Int):dQ z (p::l) t=dQ (if p.1<=t then p.2 else z) l t:=rfl
theorem dX {z:Int}{l:List (Int×Int)}{t:Int}(h:∀ x∈l,t<x.1):dQ z l t=z:=ub t l z h
theorem Em (z:Int)(l:List (Int×Int))(q:Int×Int)(t:Int):dQ z (l++[q]) t=if q.1<=t then q.2 else dQ z l t:=by unfold dQ;rw[List.foldl_append];rfl
theorem Oq {u:List (Int×Int)}{x y:Int}{q:Int×Int}(hu:cG u=true)(hl:u.getLast?=some (x,y))(h1:x<q.1)(h2:q.1<1099511627776)(h3:q.2≠y):cG (u++[q])=true:=by
 match u,hu with
 |p::r,hu =>
  simp only[cG,arq,beq_iff_eq]at hu;simp only[List.cons_append,cG,arq,beq_iff_eq];refine⟨hu.1,?_⟩;have he:(p::r).getLast m5=(x,y):=by
   rw[List.getLast?_eq_some_getLast m5]at hl;exact arH hl
  rw[rL,hu.2,he];unfold r7;simp[h1,h2,h3]
theorem agb {u:List (Int×Int)}(ha:Asc u){x y t:Int}(hl:u.getLast?=some (x,y))(ht:x<=t)(z:Int):dQ z u t=y:=by
 have hne:u≠[]:=by intro e;subst e;simp at hl
 have hu:u=u.dropLast++[(x,y)]:=by
  have h1:=List.dropLast_concat_getLast hne;rw[List.getLast?_eq_some_getLast hne]at hl;rw[<- arH hl];exact h1.symm
 rw[hu,Em,if_pos ht]
theorem ak9 {u:List (Int×Int)}(ha:Asc u){x y p v:Int}(hl:u.getLast?=some (x,y))(hp:x<p)(z t:Int):dQ z (dK u (p,v)) t=if p<=t then v else dQ z u t:=by
 unfold dK;rw[hl];simp only[Option.map_some,Option.some.injEq];by_cases e:y=v
 ·rw[if_pos e]
  split
  ·rw[agb ha hl m0,e]
  ·rfl
 ·rw[if_neg e,Em]
theorem afw {u:List (Int×Int)}{x y p v:Int}(hu:cG u=true)(hl:u.getLast?=some (x,y))(hp:x<p)(hF:p<1099511627776):cG (dK u (p,v))=true /\ ∃ x' y',(dK u (p,v)).getLast?=some (x',y')/\x'<=p:=by
 unfold dK;rw[hl];simp only[Option.map_some,Option.some.injEq];by_cases e:y=v
 ·rw[if_pos e];exact⟨hu,x,y,hl,m0⟩
 ·rw[if_neg e];exact⟨Oq hu hl hp hF (fun h=>e h.symm),p,v,m5,Int.le_refl _⟩
theorem BX (f:Int->Int):∀ (P:List Int) (u:List (Int×Int)) (x y:Int),cG u=true->u.getLast?=some (x,y)->(∀ p∈P,x<p/\p<1099511627776)->cU P ->
  cG (P.foldl (fun acc p=>dK acc (p,f p)) u)=true /\ ∀ z t,dQ z (P.foldl (fun acc p=>dK acc (p,f p)) u) t=dQ (dQ z u t) (P.map fun p=>(p,f p)) t
 |[],u,x,y,hu,hl,_,_=>⟨hu,fun z t=>rfl⟩
 |p::P,u,x,y,hu,hl,hP,hA=>by
  obtain⟨h1,h2⟩:=hP p m5;obtain⟨g1,x',y',g2,g3⟩:=afw (v:=f p) hu hl h1 h2;obtain⟨k1,k2⟩:=BX f P (dK u (p,f p)) x' y' g1 g2 (fun q hq=>⟨by have:=hA.head q hq;omega,(hP q (by simp[hq])).2⟩) hA.tail;refine⟨k1,fun z t=>?_⟩;rw[ar0,k2,ak9 (eQ hu).1 hl h1,ari,bU]
theorem yH (f:Int->Int){P:List Int}(hA:cU P)(h0:P.head?=some 0)(hF:∀ p∈P,p<1099511627776):cG (cZ f P)=true /\ ∀ z t,dQ z (cZ f P) t=dQ z (P.map fun p=>(p,f p)) t:=by
 match P,h0 with
 |p::P,h0 =>
  simp at h0;subst h0;have h1:=BX f P [(0,f 0)] 0 (f 0) rfl rfl (fun q hq=>⟨hA.head q hq,hF q (by simp[hq])⟩) hA.tail;have h2:cZ f (0::P)=P.foldl (fun acc p=>dK acc (p,f p)) [(0,f 0)]:=rfl;rw[h2];refine⟨h1.1,fun z t=>?_⟩;rw[h1.2,ari,bU];rfl
def ai3 (g:Int->Int)(P:List Int):Prop :=∀ t p,0<=t->t<1099511627776->p∈P->p<=t->(∀ q∈P,q<=t->q<=p)->g t=g p
theorem H9 (g:Int->Int):∀ (P:List Int) (z t:Int),cU P->(∃ p∈P,p<=t) ->∃ p∈P,p<=t/\(∀ q∈P,q<=t->q<=p)/\dQ z (P.map fun p=>(p,g p)) t=g p
 |[],z,t,_,⟨p,hp,_⟩=>by simp at hp
 |a::P,z,t,hA,⟨p,hp,hpt⟩=>by
  have hat:a<=t:=by
   rcases arp.1 hp with e|e
   ·omega
   ·have:=hA.head p e;omega
  rw[ari,bU,if_pos hat];by_cases h:∃ q∈P,q<=t
  ·obtain⟨q,h1,h2,h3,h4⟩:=H9 g P (g a) t hA.tail h
   refine⟨q,by simp[h1],h2,fun r hr hrt=>?_,h4⟩;rcases arp.1 hr with e|e
   ·have:=hA.head q h1;omega
   ·exact h3 r e hrt
  ·refine⟨a,m5,hat,fun r hr hrt=>?_,?_⟩
   ·rcases arp.1 hr with e|e
    ·omega
    ·exact absurd ⟨r,e,hrt⟩ h
   ·refine dX fun x hx=>?_
    obtain⟨q,hq,e⟩:=arK.1 hx;subst e;exact Int.not_le.1 fun hh=>h ⟨q,hq,hh⟩
theorem Ni (g:Int->Int){P:List Int}(hA:cU P)(h0:P.head?=some 0)(hF:∀ p∈P,p<1099511627776)(hC:ai3 g P){t:Int}(t1:0<=t)(t2:t<1099511627776):qN (cZ g P) t=g t:=by
 rw[rR t1 t2,(yH g hA h0 hF).2];have h0m:(0:Int)∈P:=List.mem_of_mem_head? h0;obtain⟨p,h1,h2,h3,h4⟩:=H9 g P 0 t hA ⟨0,h0m,t1⟩;rw[h4,hC t p t1 t2 h1 h2 h3]
theorem Iu {P:List Int}(hA:cU P)(h0:(0:Int)∈P)(hp:∀ p∈P,0<=p):P.head?=some 0:=by
 match P,h0 with
 |a::P,h0 =>
  have ha:=hp a m5;rcases arp.1 h0 with e|e
  ·rw[<- e];rfl
  ·have:=hA.head 0 e;omega
theorem nW {l:List (Int×Int)}(h:cG l=true):∀ s∈l,0<=s.1:=by
 obtain⟨h1,_,h3,h4⟩:=eQ h;intro s hs;obtain⟨i,hi,e⟩:=List.mem_iff_getElem.1 hs;have hpos:0<l.length:=m0
 have h0:=h4 l[0] (arf hpos);by_cases e0:i=0
 ·subst e0;rw[<- e];omega
 ·have:=h1 0 i _ _ m0 (arf hpos) (arf hi)
  rw[e]at this;omega
theorem of_ok (l:List ((Int×Int)×Int)):cG (cZ (mN l) (fA l))=true /\ ∀ t,0<=t->t<1099511627776->qN (cZ (mN l) (fA l)) t=mN l t:=by
 obtain⟨h1,h2⟩:=fM l;have hnn:∀ p∈fA l,0<=p:=by
  intro p hp;rcases((h2 p).1 hp).1 with e|⟨y,hy⟩
  ·omega
  ·exact(y9 (p,y) hy).1
 have h0:(fA l).head?=some 0:=Iu h1 ((h2 0).2 ⟨.inl rfl,m0⟩) hnn;have hF:∀ p∈fA l,p<1099511627776:=fun p hp=>((h2 p).1 hp).2
 have hC:ai3 (mN l) (fA l):=by
  intro t p t1 t2 hp hpt hmax;rw[pP,pP];congr 1;unfold nH;congr 1;refine List.map_congr_left fun c hc=>?_
  have hiff:aX c.1 t=aX c.1 p:=by
   unfold aX;by_cases hv:aQ c.1=true
   ·have hm:∀ q,q=c.1.1\/q=c.1.2->q<=t->q<=p:=by
     intro q hq hqt;refine hmax q ((h2 q).2 ⟨.inr ?_,m0⟩) hqt;rcases hq with e|e
     ·exact⟨c.2,List.mem_flatMap.2 ⟨c,hc,by unfold kH;rw[if_pos hv];simp[e]⟩⟩
     ·exact⟨wrap64 (-c.2),List.mem_flatMap.2 ⟨c,hc,by unfold kH;rw[if_pos hv];simp[e]⟩⟩
    have m1:=hm c.1.1 (.inl rfl);have m2:=hm c.1.2 (.inr rfl);rw[hv,arI,arI,Bool.eq_iff_iff];simp only[arq,decide_eq_true_eq];constructor
    ·rintro⟨u1,u2⟩;exact⟨m1 u1,m0⟩
    ·rintro⟨u1,u2⟩
     refine⟨m0,Int.not_le.1 fun hh=>?_⟩;have:=m2 hh;omega
   ·have:aQ c.1=false:=by simpa using hv
    rw[this];simp
  rw[hiff]
 exact⟨(yH _ h1 h0 hF).1,fun t t1 t2=>Ni _ h1 h0 hF hC t1 t2⟩
def cnt (X:List (Int×Int))(t:Int):Int:=(X.map fun p=>if aX p t then(1:Int)else 0).sum
theorem qK (X Y:List (Int×Int))(t:Int):cnt (X++Y) t=cnt X t+cnt Y t:=by simp[cnt]
theorem JK {a b t:Int}(h0:0<=a)(h1:a<b)(h2:b<=1099511627776):cnt [(a,b)] t=if a<=t/\t<b then 1 else 0:=by
 have hv:aQ (a,b)=true:=by simp[aQ];omega
 simp[cnt,aX,hv]
theorem E6 (n t v:Int)(out:List (Int×Int)){a b:Int}(h0:0<=a)(h1:a<b)(h2:b<=1099511627776)(hout:∀ q∈out,aQ q=true/\q.2<=a) :
  (∀ q∈cF n out ((a,b),v),aQ q=true/\q.2<=b)/\cnt (cF n out ((a,b),v)) t=cnt out t+(if n<=v/\a<=t/\t<b then 1 else 0):=by
 have hv:aQ (a,b)=true:=by simp[aQ];omega
 have happ:(∀ q∈out++[(a,b)],aQ q=true/\q.2<=b)/\cnt (out++[(a,b)]) t=cnt out t+(if a<=t/\t<b then 1 else 0):=by
  refine⟨fun q hq=>?_,by rw[qK,JK h0 h1 h2]⟩;rcases arB.1 hq with e|e
  ·have:=hout q e;exact⟨this.1,m0⟩
  ·simp at e;subst e;exact⟨hv,Int.le_refl _⟩
 unfold cF;by_cases hn:n<=v
 ·rw[if_pos hn]
  simp only[hn,true_and];unfold fc;split
  ·rename_i q hq
   split
   ·rename_i hle
    have hmem:q∈out:=List.mem_of_getLast? hq;obtain⟨hq1,hq2⟩:=hout q hmem;have hle':a<=q.2:=hle;have hqe:q.2=a:=m0
    have hsp:out=out.dropLast++[q]:=by
     have hne:out≠[]:=by intro e;rw[e]at hmem;simp at hmem
     rw[List.getLast?_eq_some_getLast hne]at hq;injection hq with hq
     rw[<- hq];exact(List.dropLast_concat_getLast hne).symm
    have hqv:0<=q.1/\q.1<q.2/\q.2<=1099511627776:=by simp[aQ]at hq1;omega
    have hm:max q.2 b=b:=m0
    show(∀ x∈out.dropLast++[(q.1,max q.2 b)],aQ x=true/\x.2<=b)/\cnt (out.dropLast++[(q.1,max q.2 b)]) t=_;rw[hm];refine⟨fun x hx=>?_,?_⟩
    ·rcases arB.1 hx with e|e
     ·have:=hout x (List.dropLast_subset _ e);exact⟨this.1,m0⟩
     ·simp at e;subst e;exact⟨by simp[aQ];omega,Int.le_refl _⟩
    ·have e1:cnt out t=cnt out.dropLast t+cnt [(q.1,q.2)] t:=by rw[<- qK];exact congrArg (cnt · t) hsp
     rw[e1,qK,JK hqv.1 m0 h2,JK hqv.1 hqv.2.1 hqv.2.2];split<;>split<;>split<;>omega
   ·exact happ
  ·exact happ
 ·rw[if_neg hn]
  refine⟨fun q hq=>?_,by simp[hn]⟩;have:=hout q hq;exact⟨this.1,m0⟩
theorem MD (n t:Int)(ht:t<1099511627776):∀ (r:List (Int×Int)) (x:Int×Int) (out:List (Int×Int)),0<=x.1->(x::r).Pairwise (fun p q=>p.1<q.1)->(∀ s∈x::r,s.1<1099511627776)->(∀ q∈out,aQ q=true/\q.2<=x.1) ->
  cnt ((kS (x::r)).foldl (cF n) out) t=cnt out t+(if x.1<=t/\n<=dQ x.2 r t then 1 else 0)
 |[],x,out,h0,_,hM,hout=>by
  have:=(E6 n t x.2 out h0 (hM x m5) (Int.le_refl _) hout).2;simp only[kS,ar0,List.foldl_nil,this];have e:dQ x.2 [] t=x.2:=rfl;rw[e];split<;>split<;>omega
 |y::r,x,out,h0,hp,hM,hout=>by
  have hxy:x.1<y.1:=(ase.1 hp).1 y m5;have hy:=(ase.1 hp).2;obtain⟨h1,h2⟩:=E6 n t x.2 out h0 hxy (by have:=hM y m5;omega) hout;have ih:=MD n t ht r y _ m0 hy (fun s hs=>hM s (arx _ hs)) h1;have e:kS (x::y::r)=((x.1,y.1),x.2)::kS (y::r):=rfl;rw[e,ar0,ih,h2,bU];by_cases hyt:y.1<=t
  ·rw[if_pos hyt]
   split<;>split<;>split<;>omega
  ·rw[if_neg hyt]
   have e2:dQ x.2 r t=x.2:=dX fun q hq=>by have:=(ase.1 hy).1 q hq;omega
   rw[e2];split<;>split<;>split<;>omega
theorem al3 {l:List (Int×Int)}(h:cG l=true)(n t:Int)(h1:0<=t)(h2:t<1099511627776):cnt (EM l n) t=if n<=qN l t then 1 else 0:=by
 match l,h with
 |p::r,h =>
  have ha:=eQ h;have hp0:p.1=0:=ha.2.2.2 p rfl;simp only[cG,arq]at h;have hv:=cO h.2;have:=MD n t h2 r p [] m0 hv.1 ha.2.1 m5;unfold EM;rw[this,rR h1 h2,bU,if_pos (show p.1<=t by omega)];have e:cnt [] t=0:=rfl;rw[e];simp[hp0,h1]
theorem I0 {l:List (Int×Int)}(h:cG l=true)(t:Int)(h1:0<=t)(h2:t<1099511627776)(h3:0<=qN l t):∀ k:Nat,cnt (oJ l k) t=if (k:Int)<=qN l t then(k:Int)else qN l t
 |0=>by
  have e:cnt (oJ l 0) t=0:=rfl;rw[e];split<;>omega
 |k+1=>by
  rw[v7,qK,I0 h t h1 h2 h3 k,al3 h _ t h1 h2];split<;>split<;>split<;>omega
theorem aiY {a b:List (Int×Int)}(h:a.Perm b)(t:Int):cnt a t=cnt b t:=by
 unfold cnt
 induction h with
 |nil=>rfl
 |cons x _ ih=>simp only[ari,List.sum_cons,ih]
 |swap x y l=>simp only[ari,List.sum_cons];omega
 |trans _ _ ih1 ih2=>exact ih1.trans ih2
theorem M5 {l:List (Int×Int)}(h:cG l=true)(t:Int)(h1:0<=t)(h2:t<1099511627776)(h3:0<=qN l t)(h4:qN l t<=600):cnt (rA l) t=qN l t:=by
 have hp:(rA l).Perm (oJ l 600):=by
  have h0:=(lC (gN l) [] .nil).2;rw[ara]at h0;have e:gN l=oJ l 600:=by unfold gN oJ;rfl
  rw[<- e];exact h0
 rw[aiY hp,I0 h t h1 h2 h3];split<;>omega
def Ab (X:List (Int×Int)):List ((Int×Int)×Int):=X.map fun p=>(p,1)
theorem qS (X:List (Int×Int))(t:Int):nH (Ab X) t=cnt X t:=by
 unfold nH Ab cnt;rw[List.map_map];rfl
end Go.Proofs.YtlcceppoloaecaaGreatDoor.St
namespace Go.Proofs.YtlcceppoloaecaaGreatDoor
open Go.RowKit
def aM (p:ax)(t:Int):Bool:=St.aX (toP p) t
theorem lU (p:ax)(t:Int):aM p t=(St.aQ (toP p)&&(decide (p.lo<=t)&&decide (t<p.hi))):=Bool.and_assoc _ _ _
def cR (ps:List ax)(t:Int):Nat:=(ps.filter fun p=>aM p t).length
theorem AU (ps:List ax)(t:Int):St.cnt (ps.map toP) t=(cR ps t:Int):=by
 unfold St.cnt cR
 induction ps with
 |nil=>rfl
 |cons p ps ih =>
  rw[ari,ari,List.sum_cons,ih,List.filter_cons];unfold aM;by_cases h:St.aX (toP p) t=true
  ·rw[if_pos h,if_pos h,arv];omega
  ·rw[if_neg h,if_neg h];omega
theorem dL (p:ax)(ps:List ax)(t:Int):cR (p::ps) t=(if aM p t=true then 1 else 0)+cR ps t:=by
 unfold cR;rw[List.filter_cons];split<;>simp<;>omega
theorem abG {p:ax}{t:Int}(h:aM p t=true):0<=t/\t<1099511627776:=by
 unfold aM St.aX St.aQ at h;simp only[arq,decide_eq_true_eq]at h;omega
theorem EX {t:Int}(h:¬(0<=t/\t<1099511627776))(ps:List ax):cR ps t=0:=by
 unfold cR;rw[arL,List.filter_eq_nil_iff];exact fun p _ hp=>h (abG hp)
theorem adS (ps:List ax)(t:Int):cR ps t<=ps.length:=List.length_filter_le _ _
def dF (ps:List ax):List (Int×Int):=St.Ov ((ones ps).map toC)
theorem KI (ps:List ax):(ones ps).map toC=St.Ab (ps.map toP):=by
 unfold ones St.Ab;rw[List.map_map,List.map_map];rfl
theorem ac1 (ps:List ax):(bK ps).map toP=St.rA (dF ps):=by
 unfold bK yg wj dF;rw[List.map_map,List.map_map];have e1:(toP∘ofP)=id:=by funext x;rfl
 have e2:(toS∘ofS)=id:=by funext x;rfl
 rw[e1,e2,List.map_id,List.map_id]
theorem iL (ps:List ax):St.cG (dF ps)=true:=(St.of_ok _).1
theorem G8 (ps:List ax)(hn:ps.length<=300)(t:Int):St.qN (dF ps) t=(cR ps t:Int):=by
 by_cases h:0<=t/\t<1099511627776
 ·rw[show dF ps=St.cZ (St.mN ((ones ps).map toC)) (St.fA ((ones ps).map toC))from rfl,(St.of_ok _).2 t h.1 h.2,St.pz t (sR ps) (by simp[ones];omega),KI,St.qS,AU]
 ·rw[St.alS h,EX h];rfl
theorem nz (ps:List ax)(hn:ps.length<=300)(t:Int):0<=St.qN (dF ps) t/\St.qN (dF ps) t<=600:=by
 have:=G8 ps hn t;have:=adS ps t;omega
theorem xm (ps:List ax)(hn:ps.length<=300)(t:Int):cR (bK ps) t=cR ps t:=by
 by_cases h:0<=t/\t<1099511627776
 ·have h1:=AU (bK ps) t
  rw[ac1,St.M5 (iL ps) t h.1 h.2 (nz ps hn t).1 (nz ps hn t).2,G8 ps hn]at h1;omega
 ·rw[EX h,EX h]
def Ax (ps:List ax)(x:Int):Nat:=(ps.filter fun p=>St.aQ (toP p)&&decide (p.lo<=x)).length
theorem pm (p:ax)(ps:List ax)(t:Int):Ax (p::ps) t=(if (St.aQ (toP p)&&decide (p.lo<=t))=true then 1 else 0)+Ax ps t:=by
 unfold Ax;rw[List.filter_cons];split<;>simp<;>omega
theorem Nu {x y:Int}(h:x<y):∀ ps:List ax,cR ps y+Ax ps x<=cR ps x+Ax ps y
 |[]=>by simp[cR,Ax]
 |p::ps=>by
  have ih:=Nu h ps;rw[dL,dL,pm,pm];have:(if aM p y=true then 1 else 0)+(if (St.aQ (toP p)&&decide (p.lo<=x))=true then 1 else 0)<=(if aM p x=true then 1 else 0)+(if (St.aQ (toP p)&&decide (p.lo<=y))=true then 1 else 0):=by
   rw[lU,lU]
   cases hv:St.aQ (toP p)
   ·simp
   ·simp only[arI,arq,decide_eq_true_eq]
    split<;>split<;>split<;>split<;>omega
  omega
theorem alO (ps:List ax)(x:Int):cR ps x<=Ax ps x:=by
 induction ps with
 |nil=>simp[cR,Ax]
 |cons p ps ih =>
  rw[dL,pm];have:(if aM p x=true then 1 else 0)<=(if (St.aQ (toP p)&&decide (p.lo<=x))=true then 1 else 0):=by
   rw[lU]
   cases hv:St.aQ (toP p)
   ·simp
   ·simp only[arI,arq,decide_eq_true_eq]
    split<;>split<;>omega
  omega
theorem ajR {x y:Int}(h:x<=y)(ps:List ax):Ax ps x<=Ax ps y:=by
 induction ps with
 |nil=>simp[Ax]
 |cons p ps ih =>
  rw[pm,pm];have:(if (St.aQ (toP p)&&decide (p.lo<=x))=true then 1 else 0)<=(if (St.aQ (toP p)&&decide (p.lo<=y))=true then 1 else 0):=by
   cases hv:St.aQ (toP p)
   ·simp
   ·simp only[arI,decide_eq_true_eq]
    split<;>split<;>omega
  omega
theorem IG {l:List (Int×Int)}(ps:List ax)(ha:St.Asc l)(hF:∀ s∈l,0<=s.1/\s.1<1099511627776)(hy:∀ s∈l,s.2=(cR ps s.1:Int)):∀ k,k<=l.length ->
  (∀ q∈(St.j_ l k).2,St.aQ q=true)/\(∀ f∈(St.j_ l k).1,0<=f/\f<1099511627776 /\ ∃ (j:Nat) (y:Int),j<k/\l[j]?=some (f,y)) /\
  ((k=0/\(St.j_ l k).1=[]/\(St.j_ l k).2=[]) \/ ∃ x y,l[k-1]?=some (x,y)/\0<k/\(St.j_ l k).1.length=cR ps x/\(St.j_ l k).2.length+(St.j_ l k).1.length<=Ax ps x)
 |0,_=>⟨fun q hq=>(by cases hq),fun f hf=>(by cases hf),.inl ⟨rfl,rfl,rfl⟩⟩
 |k+1,hk=>by
  obtain⟨h1,h2,h3⟩:=IG ps ha hF hy k m0;have hx:l[k]?=some (l[k]' m0):=arf m0;generalize l[k]' m0=p at hx;obtain⟨x,y⟩:=p;have hm:=arb hx;have hxF:=hF _ hm;have hxy:y=(cR ps x:Int):=hy _ hm;rw[St.pp hx];have hc:St.lQ y=cR ps x:=by
   unfold St.lQ;rw[hxy];split<;>omega
  unfold St.wu;dsimp only;rw[hc];refine⟨fun q hq=>?_,fun f hf=>?_,.inr ⟨x,y,by simpa using hx,m0,St.oj _ _ _,?_⟩⟩
  ·rcases arB.1 hq with hq|hq
   ·exact h1 q hq
   ·obtain⟨f,hf,rfl⟩:=arK.1 hq
    obtain⟨f1,f2,j,z,hj,hz⟩:=h2 f (List.mem_of_mem_drop hf);have:=ha j k _ _ hj hz hx;show St.aQ (f,x)=true;unfold St.aQ;simp only[arq,decide_eq_true_eq];dsimp only at this hxF;omega
  ·unfold St.ww at hf
   rcases arB.1 hf with hf|hf
   ·obtain⟨f1,f2,j,z,hj,hz⟩:=h2 f (asf hf)
    exact⟨f1,f2,j,z,m0,hz⟩
   ·obtain⟨_,rfl⟩:=List.mem_replicate.1 hf
    exact⟨hxF.1,hxF.2,k,y,m0,hx⟩
  ·rw[St.oj,ard,arj,List.length_drop]
   rcases h3 with⟨_,e1,e2⟩|⟨x0,y0,hx0,hk0,e1,e2⟩
   ·rw[e1,e2]
    have:=alO ps x;simp only[arE];omega
   ·have hlt:=ha (k-1) k _ _ m0 hx0 hx
    dsimp only at hlt;have b1:=Nu hlt ps;have b2:=ajR (Int.le_of_lt hlt) ps;omega
theorem E7 (ps:List ax)(hn:ps.length<=300):(St.KG (dF ps)).length<=ps.length /\ ∀ q∈St.KG (dF ps),St.aQ q=true:=by
 obtain⟨ha,hF,hne,_⟩:=St.eQ (iL ps);have hnn:=St.nW (iL ps);have hy:∀ s∈dF ps,s.2=(cR ps s.1:Int):=by
  intro s hs;have h:=((St.EE ((ones ps).map toC)).2 s hs).2;rw[h,St.pz s.1 (sR ps) (by simp[ones];omega),KI,St.qS,AU]
 obtain⟨h1,h2,h3⟩:=IG ps ha (fun s hs=>⟨hnn s hs,hF s hs⟩) hy (dF ps).length (aro _);unfold St.KG;refine⟨?_,fun q hq=>?_⟩
 ·rw[ard,arj]
  rcases h3 with⟨_,e1,e2⟩|⟨x,y,_,_,_,e2⟩
  ·rw[e1,e2];exact aru _
  ·exact Nat.le_trans e2 (List.length_filter_le _ _)
 ·rcases arB.1 hq with hq|hq
  ·exact h1 q hq
  ·obtain⟨f,hf,rfl⟩:=arK.1 hq
   obtain⟨f1,f2,_⟩:=h2 f hf;show St.aQ (f,1099511627776)=true;unfold St.aQ;simp only[arq,decide_eq_true_eq];omega
theorem wo (ps:List ax)(hn:ps.length<=300):((bK ps).map toP).Perm (St.KG (dF ps)):=by
 obtain⟨ha,hF,_,_⟩:=St.eQ (iL ps);have hM:∀ s∈dF ps,s.2<=600:=by
  intro s hs;have h:=((St.EE ((ones ps).map toC)).2 s hs).2;rw[h,St.pz s.1 (sR ps) (by simp[ones];omega),KI,St.qS,AU];have:=adS ps s.1;omega
 rw[ac1];have h0:=(St.lC (St.gN (dF ps)) [] .nil).2;rw[ara]at h0;exact h0.trans (St.GZ ha hF hM).symm
theorem ad' (ps:List ax)(hn:ps.length<=300):(bK ps).length<=ps.length:=by
 have:=(wo ps hn).length_eq;rw[arj]at this;rw[this];exact(E7 ps hn).1
theorem iJ (ps:List ax)(hn:ps.length<=300):∀ p∈bK ps,St.aQ (toP p)=true:=fun p hp =>
 (E7 ps hn).2 _ ((wo ps hn).subset (List.mem_map_of_mem hp))
open Go.RowKit Go.MapKept
set_option maxRecDepth 100000
theorem N9 {r:List Val}{R:List (List Val)}(h:rP (r::R)):r∉R:=by
 intro hr;have:=List.rel_of_pairwise_cons h hr;rw[tCr_.refl]at this;omega
theorem afK (s t:List ap)(r:List Val):bn (s++t) r=bn s r++bn t r:=by unfold bn;rw[List.filter_append,ark]
theorem EU (r:List Val):∀ ps:List ax,(∀ p∈ps,St.aQ (toP p)=true)->bn (ps.map fun p=>(⟨r,p⟩:ap)) r=ps
 |[],_=>rfl
 |p::ps,h=>by
  have ih:=EU r ps fun q hq=>h q (arx _ hq)
  have hp:aw p=true:=h p (arX ..);unfold bn at ih ⊢;rw[ari,List.filter_cons_of_pos (by simp[hp]),ari,ih]
theorem aag {r x:List Val}(hx:x≠r)(ps:List ax):bn (ps.map fun p=>(⟨x,p⟩:ap)) r=[]:=by
 unfold bn;rw[List.map_eq_nil_iff,List.filter_eq_nil_iff];intro f hf h;obtain⟨p,_,rfl⟩:=arK.1 hf;simp only[arq,decide_eq_true_eq]at h;exact hx h.2
theorem vt (L:List Val->List ax)(hL:∀ r,∀ p∈L r,St.aQ (toP p)=true):∀ (R:List (List Val)),rP R ->∀ r,bn (R.flatMap fun r=>(L r).map fun p=>(⟨r,p⟩:ap)) r=if r∈R then L r else []
 |[],_,r=>rfl
 |x::R,h,r=>by
  have ih:=vt L hL R (List.Pairwise.of_cons h) r;rw[arN,afK,ih];by_cases hx:x=r
  ·subst hx
   rw[EU x _ (hL x),if_neg (N9 h),if_pos (arX ..),arJ]
  ·rw[aag hx,ara]
   by_cases hr:r∈R
   ·rw[if_pos hr,if_pos (arx _ hr)]
   ·rw[if_neg hr,if_neg (by intro h;rcases arp.1 h with h|h;exact hx h.symm;exact hr h)]
theorem BZ {α:Type}(p:α->Bool):∀ l:List α,(l.filter p).length+(l.filter fun x => !p x).length=l.length
 |[]=>rfl
 |x::l=>by
  have:=BZ p l;rw[List.filter_cons,List.filter_cons]
  cases h:p x<;>simp<;>omega
theorem ajB (l:List ap)(r:List Val):(bn l r).length<=(l.filter fun f=>decide (f.row=r)).length:=by
 unfold bn;rw[arj]
 induction l with
 |nil=>exact aro _
 |cons f l ih =>
  rw[List.filter_cons,List.filter_cons]
  cases aw f.valid<;>cases decide (f.row=r)<;>simp<;>omega
theorem aa7 {r x:List Val}(h:x≠r)(l:List ap):bn l x=bn (l.filter fun f => !decide (f.row=r)) x:=by
 unfold bn;rw[List.filter_filter];congr 1;apply List.filter_congr;intro f _;by_cases hx:f.row=x
 ·have:f.row≠r:=fun e=>h (hx.symm.trans e)
  simp[hx,h]
 ·simp[hx]
theorem IJ:∀ (R:List (List Val)) (l:List ap),rP R->(R.flatMap fun r=>bn l r).length<=l.length
 |[],l,_=>aru _
 |r::R,l,h=>by
  rw[arN,ard];have e:(R.flatMap fun x=>bn l x)=R.flatMap fun x=>bn (l.filter fun f => !decide (f.row=r)) x:=by
   rw[List.flatMap_def,List.flatMap_def];congr 1;refine List.map_congr_left fun x hx=>aa7 ?_ l
   rintro rfl;exact N9 h hx
  rw[e];have h1:=IJ R (l.filter fun f => !decide (f.row=r)) (List.Pairwise.of_cons h);have h2:=ajB l r;have h3:=BZ (fun f:ap=>decide (f.row=r)) l;omega
theorem dS {α β γ:Type}(f:α->List β)(g:α->List γ):∀ l:List α,(∀ x∈l,(f x).length<=(g x).length)->(l.flatMap f).length<=(l.flatMap g).length
 |[],_=>aro _
 |x::l,h=>by
  rw[arN,arN,ard,ard];have:=h x (arX ..);have:=dS f g l fun y hy=>h y (arx _ hy)
  omega
theorem eD (l:List ap)(r:List Val):(bn l r).length<=l.length:=by
 unfold bn;rw[arj];exact List.length_filter_le _ _
theorem ac7 {l:List ap}{R:List (List Val)}(h:dJ l R){r:List Val}(hr:r∉R):bn l r=[]:=by
 unfold bn;rw[List.map_eq_nil_iff,List.filter_eq_nil_iff];intro f hf hc;rw[arq]at hc;exact hr ((h.2 r).2 ⟨f,hf,hc.1,arC hc.2⟩)
section
variable {l:List ap} {R:List (List Val)} (h:dJ l R) (hn:l.length<=300)
include h hn
theorem al_:(dz l R).length<=l.length:=by
 refine Nat.le_trans ?_ (IJ R l h.1);refine dS _ _ _ fun r _=>?_
 rw[arj];exact ad' _ (Nat.le_trans (eD l r) hn)
theorem adG (r:List Val):bn (dz l R) r=if r∈R then bK (bn l r)else [] :=
 vt (fun r=>bK (bn l r)) (fun r p hp=>iJ _ (Nat.le_trans (eD l r) hn) p hp) R h.1 r
end
def aD (l:List ap)(t:Int):List (List Val):=(l.filter fun f=>aM f.valid t).map (·.row)
theorem s8 (t:Int)(r:List Val):∀ l:List ap,(aD l t).count r=cR (bn l r) t
 |[]=>rfl
 |f::l=>by
  have ih:=s8 t r l;unfold aD at ih ⊢;have e:bn (f::l) r=(if (aw f.valid&&decide (f.row=r))=true then [f.valid]else [])++bn l r:=by
   unfold bn;rw[List.filter_cons];split<;>simp
  rw[List.filter_cons,e];by_cases hc:aM f.valid t=true
  ·have hv:aw f.valid=true:=by
    have:=hc;rw[lU,arq]at this;exact this.1
   rw[if_pos hc,ari,List.count_cons,ih];by_cases hr:f.row=r
   ·simp only[hv,hr,decide_true,Bool.and_self,if_true,List.cons_append,ara,beq_self_eq_true]
    rw[dL,if_pos hc];omega
   ·simp[hr]
  ·rw[if_neg hc,ih]
   split
   ·rw[List.cons_append,ara,dL,if_neg hc,arS]
   ·rfl
theorem anj {l:List ap}{R:List (List Val)}(h:dJ l R)(hn:l.length<=300)(t:Int):(aD (dz l R) t).Perm (aD l t):=by
 rw[List.perm_iff_count];intro r;rw[s8,s8,adG h hn r];split
 ·exact xm _ (Nat.le_trans (eD l r) hn) t
 ·rename_i hr
  rw[ac7 h hr]
def Apart (p q:ax):Prop:=p.hi<q.lo\/q.hi<p.lo\/(p.lo<=q.lo/\q.hi<=p.hi)\/(q.lo<=p.lo/\p.hi<=q.hi)
def Lam (L:List ax):Prop :=∀ p∈L,∀ q∈L,Apart p q
def rr (p:ax):Prop:=0<=p.lo/\p.lo<p.hi/\p.hi<=1099511627776
theorem x9 (p:ax):St.aQ (toP p)=true↔rr p:=by
 unfold St.aQ rr toP;simp only[arq,decide_eq_true_eq];omega
theorem cI {p:ax}(h:rr p)(t:Int):aM p t=true↔p.lo<=t/\t<p.hi:=by
 rw[lU,(x9 p).2 h,arI,arq,decide_eq_true_eq,decide_eq_true_eq]
theorem cnt_mono {s t:Int}:∀ L:List ax,(∀ p∈L,aM p s=true->aM p t=true)->cR L s<=cR L t
 |[],_=>aro _
 |p::L,h=>by
  have ih:=cnt_mono L fun q hq=>h q (arx _ hq)
  have h0:=h p (arX ..);rw[dL,dL];by_cases hs:aM p s=true
  ·rw[if_pos hs,if_pos (h0 hs)];omega
  ·rw[if_neg hs];omega
theorem oP (A B:List ax)(t:Int):cR (A++B) t=cR A t+cR B t:=by
 unfold cR;rw[List.filter_append,ard]
theorem cnt_lt {s t:Int}{L:List ax}(h:∀ p∈L,aM p s=true->aM p t=true){q:ax}(hq:q∈L)(h1:aM q t=true)(h2:aM q s=false):cR L s<cR L t:=by
 obtain⟨A,B,rfl⟩:=List.append_of_mem hq;have hA:=cnt_mono A fun p hp=>h p (by simp[hp])
 have hB:=cnt_mono B fun p hp=>h p (by simp[hp])
 rw[oP,oP,dL,dL,if_pos h1,if_neg (by rw[h2];decide)];omega
theorem aib {s t:Int}{L:List ax}(h:cR L s<cR L t):∃ q∈L,aM q t=true/\aM q s=false:=by
 apply Classical.byContradiction;intro hn;have:=cnt_mono (s:=t) (t:=s) L fun p hp h1=>by
  cases h2:aM p s
  ·exact absurd ⟨p,hp,h1,h2⟩ hn
  ·rfl
 omega
theorem ahp:∀ L:List ax,L≠[] ->∃ p∈L,∀ q∈L,p.hi-p.lo<=q.hi-q.lo
 |[],h=>absurd rfl h
 |p::L,_=>by
  by_cases hL:L=[]
  ·subst hL
   exact⟨p,arX .., fun q hq=>by simp at hq;subst hq;omega⟩
  ·obtain⟨m,hm,h⟩:=ahp L hL
   by_cases hpm:p.hi-p.lo<=m.hi-m.lo
   ·exact⟨p,arX .., fun q hq=>by
     rcases arp.1 hq with rfl|hq
     ·omega
     ·have:=h q hq;omega⟩
   ·exact⟨m,arx _ hm,fun q hq=>by
     rcases arp.1 hq with rfl|hq
     ·omega
     ·exact h q hq⟩
theorem Jf {p q:ax}(h1:p.lo=q.lo)(h2:p.hi=q.hi):p=q:=by
 cases p;cases q;simp_all
theorem falls {M:List ax}(hM:Lam M)(vM:∀ p∈M,rr p){q:ax}(hq:q∈M):cR M q.hi<cR M (q.hi-1):=by
 have vq:=vM q hq;unfold rr at vq;refine cnt_lt (fun s hs h=>?_) hq ((cI (vM q hq) _).2 m0) ?_
 ·have vs:=vM s hs
  have ha:=hM q hq s hs;rw[cI vs]at h ⊢;unfold rr at vs;unfold Apart at ha;omega
 ·cases h:aM q q.hi
  ·rfl
  ·have:=(cI (vM q hq) _).1 h
   omega
theorem rises {M:List ax}(hM:Lam M)(vM:∀ p∈M,rr p){q:ax}(hq:q∈M):cR M (q.lo-1)<cR M q.lo:=by
 have vq:=vM q hq;unfold rr at vq;refine cnt_lt (fun s hs h=>?_) hq ((cI (vM q hq) _).2 m0) ?_
 ·have vs:=vM s hs
  have ha:=hM q hq s hs;rw[cI vs]at h ⊢;unfold rr at vs;unfold Apart at ha;omega
 ·cases h:aM q (q.lo-1)
  ·rfl
  ·have:=(cI (vM q hq) _).1 h
   omega
theorem Di:∀ (n:Nat) (L M:List ax),L.length=n->Lam L->Lam M->(∀ p∈L,rr p)->(∀ p∈M,rr p)->(∀ t,cR L t=cR M t)->L.Perm M
 |0,L,M,hn,_,_,_,vM,hc=>by
  obtain rfl:=arL.1 hn
  cases M with
  |nil=>exact .nil
  |cons q M =>
   have vq:=vM q (arX ..);have h:=hc q.lo;rw[dL,if_pos ((cI vq _).2 (by unfold rr at vq;omega))]at h;simp[cR]at h;omega
 |n+1,L,M,hn,hL,hM,vL,vM,hc=>by
  obtain⟨p,hp,hmin⟩:=ahp L (by intro e;rw[e]at hn;simp at hn);have vp:=vL p hp;have vp':=vp;unfold rr at vp';have sup:∀ q∈L,∀ t,p.lo<=t->t<p.hi->aM q t=true->q.lo<=p.lo/\p.hi<=q.hi:=by
   intro q hq t h1 h2 h3;rw[cI (vL q hq)]at h3;have ha:=hL p hp q hq;have hm:=hmin q hq;unfold Apart at ha;omega
  have const:∀ s t,p.lo<=s->s<p.hi->p.lo<=t->t<p.hi->cR L s<=cR L t:=by
   intro s t h1 h2 h3 h4;refine cnt_mono L fun q hq h=>?_
   have:=sup q hq s h1 h2 h;rw[cI (vL q hq)];omega
  have r1:=rises hL vL hp;have f1:=falls hL vL hp;rw[hc,hc]at r1 f1;obtain⟨q,hq,q1,q2⟩:=aib r1;obtain⟨r,hr,e1,e2⟩:=aib f1;have vq:=vM q hq;have vr:=vM r hr;have vq':=vq;have vr':=vr;unfold rr at vq' vr';rw[cI vq]at q1;rw[cI vr]at e1;have q3:¬ (q.lo<=p.lo-1/\p.lo-1<q.hi):=fun h=>by rw[(cI vq _).2 h]at q2;cases q2
  have e3:¬ (r.lo<=p.hi/\p.hi<r.hi):=fun h=>by rw[(cI vr _).2 h]at e2;cases e2
  have q4:p.hi<=q.hi:=by
   apply Classical.byContradiction;intro hlt;have f2:=falls hM vM hq;have:=const (q.hi-1) q.hi m0 m0 m0 m0;rw[hc,hc]at this;omega
  have e4:r.lo<=p.lo:=by
   apply Classical.byContradiction;intro hlt;have f2:=rises hM vM hr;have:=const r.lo (r.lo-1) m0 m0 m0 m0;rw[hc,hc]at this;omega
  have hpM:p∈M:=by
   have ha:=hM q hq r hr;unfold Apart at ha;rcases ha with h|h|h|h
   ·omega
   ·omega
   ·rw[show p=r from Jf m0 m0];exact hr
   ·rw[show p=q from Jf m0 m0];exact hq
  obtain⟨A,B,rfl⟩:=List.append_of_mem hp;obtain⟨C,D,rfl⟩:=List.append_of_mem hpM;have sL:∀ x∈A++B,x∈A++p::B:=fun x hx=>by simp at hx ⊢;rcases hx with h|h<;>simp[h]
  have sM:∀ x∈C++D,x∈C++p::D:=fun x hx=>by simp at hx ⊢;rcases hx with h|h<;>simp[h]
  have ih:=Di n (A++B) (C++D) (by simp at hn ⊢;omega) (fun x hx y hy=>hL x (sL x hx) y (sL y hy)) (fun x hx y hy=>hM x (sM x hx) y (sM y hy)) (fun x hx=>vL x (sL x hx)) (fun x hx=>vM x (sM x hx)) (fun t=>by
   have:=hc t;rw[oP,oP,dL,dL]at this;rw[oP,oP];omega)
  exact List.perm_middle.trans ((ih.cons p).trans List.perm_middle.symm)
def ApS (p q:Int×Int):Prop:=p.2<q.1\/q.2<p.1\/(p.1<=q.1/\q.2<=p.2)\/(q.1<=p.1/\p.2<=q.2)
structure Stk (E:List Int)(out:List (Int×Int))(x:Int):Prop where
 asc:E.Pairwise (· <= ·)
 out2:∀ p∈out,∀ q∈out,ApS p q
 fin:∀ p∈out,p.2<=x/\p.1<p.2
 opn:∀ f∈E,f<=x /\ ∀ q∈out,f<=q.1\/q.2<f
theorem Stk.pop {E:List Int}{out:List (Int×Int)}{x y:Int}(h:Stk E out x)(hxy:x<y)(c:Nat) :
  (∀ p∈out++(E.drop c).map (fun f=>(f,y)),∀ q∈out++(E.drop c).map (fun f=>(f,y)),ApS p q)/\(∀ p∈out++(E.drop c).map (fun f=>(f,y)),p.2<=y/\p.1<p.2):=by
 have key:∀ p∈out,∀ f∈E.drop c,ApS p (f,y)/\ApS (f,y) p:=by
  intro p hp f hf;have h1:=(h.opn f (List.mem_of_mem_drop hf)).2 p hp;have h2:=h.fin p hp;unfold ApS;dsimp only;omega
 have two:∀ f∈E.drop c,∀ g∈E.drop c,ApS (f,y) (g,y):=by
  intro f _ g _;unfold ApS;dsimp only;omega
 refine⟨fun p hp q hq=>?_,fun p hp=>?_⟩
 ·rcases arB.1 hp with hp|hp<;>rcases arB.1 hq with hq|hq
  ·exact h.out2 p hp q hq
  ·obtain⟨f,hf,rfl⟩:=arK.1 hq
   exact(key p hp f hf).1
  ·obtain⟨f,hf,rfl⟩:=arK.1 hp
   exact(key q hq f hf).2
  ·obtain⟨f,hf,rfl⟩:=arK.1 hp
   obtain⟨g,hg,rfl⟩:=arK.1 hq;exact two f hf g hg
 ·rcases arB.1 hp with hp|hp
  ·have:=h.fin p hp;omega
  ·obtain⟨f,hf,rfl⟩:=arK.1 hp
   have:=(h.opn f (List.mem_of_mem_drop hf)).1;dsimp only;omega
theorem Stk.next {E:List Int}{out:List (Int×Int)}{x y:Int}(h:Stk E out x)(hxy:x<y)(c:Nat):Stk (St.ww E y c) (out++(E.drop c).map fun f=>(f,y)) y:=by
 obtain⟨h1,h2⟩:=h.pop hxy c;unfold St.ww;refine⟨?_,h1,h2,fun f hf=>?_⟩
 ·rw[List.pairwise_append]
  refine⟨h.asc.sublist (List.take_sublist _ _),List.pairwise_replicate.2 (.inr (Int.le_refl _)),fun a ha b hb=>?_⟩;obtain⟨_,rfl⟩:=List.mem_replicate.1 hb;have:=(h.opn a (asf ha)).1;omega
 ·rcases arB.1 hf with hf|hf
  ·have h3:=h.opn f (asf hf)
   refine⟨m0,fun q hq=>?_⟩;rcases arB.1 hq with hq|hq
   ·exact h3.2 q hq
   ·obtain⟨g,hg,rfl⟩:=arK.1 hq
    have hs:(E.take c++E.drop c).Pairwise (· <= ·):=by rw[arV];exact h.asc
    exact .inl ((List.pairwise_append.1 hs).2.2 f hf g hg)
  ·obtain⟨hc,rfl⟩:=List.mem_replicate.1 hf
   refine⟨Int.le_refl _,fun q hq=>?_⟩;rcases arB.1 hq with hq|hq
   ·have:=(h.fin q hq).1;exact .inr m0
   ·rw[List.drop_eq_nil_of_le m0]at hq
    cases hq
theorem OM {l:List (Int×Int)}(ha:St.Asc l):∀ k,k<=l.length->(k=0/\St.j_ l k=([],[])) \/ ∃ x y,l[k-1]?=some (x,y)/\0<k/\Stk (St.j_ l k).1 (St.j_ l k).2 x
 |0,_ => .inl ⟨rfl,rfl⟩
 |k+1,hk=>by
  have ih:=OM ha k m0;have hx:l[k]?=some (l[k]' m0):=arf m0;generalize l[k]' m0=p at hx;obtain⟨x,y⟩:=p;refine .inr ⟨x,y,by simpa using hx,m0,?_⟩;rw[St.pp hx];unfold St.wu;dsimp only;rcases ih with⟨_,e⟩|⟨x0,y0,hx0,hk0,h⟩
  ·rw[e]
   exact Stk.next (x:=x-1) ⟨.nil,fun p hp=>(by cases hp),fun p hp=>(by cases hp),fun f hf=>(by cases hf)⟩ m0 _
  ·exact h.next (by have:=ha (k-1) k _ _ m0 hx0 hx;exact this) _
theorem ag' {l:List (Int×Int)}(ha:St.Asc l)(hF:∀ s∈l,s.1<1099511627776):∀ p∈St.KG l,∀ q∈St.KG l,ApS p q:=by
 unfold St.KG;rcases OM ha l.length (aro _)with⟨_,e⟩|⟨x,y,hx,hk,h⟩
 ·rw[e];intro p hp;cases hp
 ·have:=h.pop (y:=1099511627776) (hF _ (arb hx)) 0
  rw[List.drop_zero]at this;exact this.1
theorem BD (ps:List ax)(hn:ps.length<=300):Lam (bK ps):=by
 obtain⟨ha,hF,_,_⟩:=St.eQ (iL ps);intro p hp q hq;have h:=ag' ha hF _ ((wo ps hn).subset (List.mem_map_of_mem hp)) _ ((wo ps hn).subset (List.mem_map_of_mem hq));exact h
theorem pX (ps:List ax):(bK ps).Pairwise fun p q=>St.dH (toP p) (toP q):=by
 have h:=(St.lC (St.gN (dF ps)) [] .nil).1;have e:(bK ps).map toP=(St.gN (dF ps)).foldl St.ip []:=ac1 ps;rw[<- e,List.pairwise_map]at h;exact h
theorem vT:∀ {l m:List ax},(l.Pairwise fun p q=>St.dH (toP p) (toP q))->(m.Pairwise fun p q=>St.dH (toP p) (toP q))->l.Perm m->l=m
 |[],m,_,_,h=>(List.Perm.nil_eq h)
 |p::l,[],_,_,h=>absurd h.length_eq m5
 |p::l,q::m,hl,hm,h=>by
  have hp:p∈q::m:=h.subset (arX ..);have hq:q∈p::l:=h.symm.subset (arX ..);have e:p=q:=by
   rcases arp.1 hp with e|hp
   ·exact e
   ·rcases arp.1 hq with e|hq
    ·exact e.symm
    ·have h1:=List.rel_of_pairwise_cons hl hq
     have h2:=List.rel_of_pairwise_cons hm hp;unfold St.dH toP at h1 h2;dsimp only at h1 h2;exact Jf m0 m0
  subst e;rw[vT (List.Pairwise.of_cons hl) (List.Pairwise.of_cons hm) ((List.perm_cons p).1 h)]
theorem dc (a b:List ap)(t:Int):aD (a++b) t=aD a t++aD b t:=by unfold aD;rw[List.filter_append,ark]
theorem pV {l:List ap}{t:Int}{r:List Val}(h:r∈aD l t):∃ f∈l,f.row=r:=by
 obtain⟨f,hf,rfl⟩:=arK.1 h;exact⟨f,(List.mem_filter.1 hf).1,rfl⟩
theorem ak' {ps:List ax}{p:ax}(hp:p∈ps){t:Int}(h:aM p t=true):0<cR ps t:=by
 unfold cR;exact List.length_pos_of_mem (List.mem_filter.2 ⟨hp,h⟩)
theorem adg {l:List ap}{R:List (List Val)}(h:dJ l R)(r:List Val):r∈R ↔ ∃ t,0<cR (bn l r) t:=by
 constructor
 ·intro hr
  obtain⟨f,hf,hv,e⟩:=(h.2 r).1 hr;have hp:f.valid∈bn l r:=arK.2 ⟨f,List.mem_filter.2 ⟨hf,by simp[hv,e]⟩,rfl⟩;have hV:=(x9 f.valid).1 (show St.aQ (toP f.valid)=true from hv);exact⟨f.valid.lo,ak' hp ((cI hV _).2 ⟨Int.le_refl _,hV.2.1⟩)⟩
 ·rintro⟨t,ht⟩
  refine Classical.byContradiction fun hr=>?_
  rw[ac7 h hr]at ht;exact absurd ht (by simp[cR])
theorem af' {ps qs:List ax}(hn:ps.length<=300)(hm:qs.length<=300)(h:∀ t,cR ps t=cR qs t):bK ps=bK qs:=by
 have hc:∀ t,cR (bK ps) t=cR (bK qs) t:=fun t=>by rw[xm ps hn,xm qs hm,h]
 exact vT (pX ps) (pX qs) (Di _ (bK ps) (bK qs) rfl (BD ps hn) (BD qs hm) (fun p hp=>(x9 p).1 (iJ ps hn p hp)) (fun p hp=>(x9 p).1 (iJ qs hm p hp)) hc)
theorem alT {l m:List ap}{R T:List (List Val)}(h:dJ l R)(k:dJ m T)(hl:l.length<=300)(hm:m.length<=300)(hp:∀ t,(aD l t).Perm (aD m t)):dz l R=dz m T:=by
 have hc:∀ r t,cR (bn l r) t=cR (bn m r) t:=fun r t=>by rw[<- s8,<- s8];exact(hp t).count_eq r
 have hR:R=T:=y7 h.1 k.1 fun r=>by rw[adg h,adg k];simp only[hc]
 subst hR;unfold dz;rw[List.flatMap_def,List.flatMap_def];congr 1;refine List.map_congr_left fun r _=>?_
 rw[af' (Nat.le_trans (eD l r) hl) (Nat.le_trans (eD m r) hm) (hc r)]
noncomputable def amq (l:List ap):List (List Val):=Classical.choose (BQ l)
theorem lH (l:List ap):dJ l (amq l):=(Classical.choose_spec (BQ l)).1
noncomputable def canon (l:List ap):List ap:=dz l (amq l)
theorem xi {l:List ap}{R:List (List Val)}(h:dJ l R):dz l R=canon l:=by unfold canon;rw[dJ.ext h (lH l)]
theorem iN {l:List ap}(hn:l.length<=300):(canon l).length<=l.length:=al_ (lH l) hn
theorem iZ {l:List ap}(hn:l.length<=300)(t:Int):(aD (canon l) t).Perm (aD l t):=anj (lH l) hn t
theorem oT {l m:List ap}(hl:l.length<=300)(hm:m.length<=300)(hp:∀ t,(aD l t).Perm (aD m t)):canon l=canon m:=alT (lH l) (lH m) hl hm hp
theorem tt {l:List ap}(hn:l.length<=300){f:ap}(h:f∈canon l):aw f.valid=true /\ ∃ g∈l,g.row=f.row:=by
 unfold canon dz at h;obtain⟨r,hr,h⟩:=List.mem_flatMap.1 h;obtain⟨p,hp,rfl⟩:=arK.1 h;obtain⟨g,hg,_,e⟩:=((lH l).2 r).1 hr;exact⟨iJ _ (Nat.le_trans (eD l r) hn) p hp,g,hg,e⟩
theorem bC {l:List ap}(h:bp l):bp (canon l):=by
 have hn:l.length<=300:=by have:=h.1;omega
 refine⟨Nat.le_trans (iN hn) h.1,fun f hf=>?_⟩;obtain⟨_,g,hg,e⟩:=tt hn hf;rw[<- e];exact h.2 g hg
theorem lR {l:List ap}(h:bp l):qq l=some (canon l):=by
 obtain⟨R,hR,e⟩:=adX l h;rw[e,xi hR]
theorem ui {l:List ap}(h:bp l):∀ f∈l,f.row.length<=1000000:=fun f hf=>by have:=(h.2 f hf).1;omega
theorem sQ {l:List ap}(h:bp l):gL l l=some true:=aao l (by have:=h.1;omega) (ui h)
theorem ku {r:aW}(hk:r.kinds.length<=1000000)(h:bp r.facts):lG r r=some true:=by
 unfold lG;rw[rq _ hk,aq5,aq8,sQ h];rfl
theorem AA {k:List Int}{l:List ap}(hk:k.length<=1000000)(h:bp l):oO k l=some ⟨k,canon l⟩:=by
 unfold oO;rw[aq_ m0,aq8,lR h];rfl
structure LJ (r:aW):Prop where
 len:r.facts.length<=16
 kinds:r.kinds.length<=48
 per:∀ f∈r.facts,aw f.valid=true
 row:∀ f∈r.facts,f.row.length=r.kinds.length
 val:∀ f∈r.facts,∀ v∈f.row,vF v=true
theorem LJ.fcts {r:aW}(h:LJ r):bp r.facts:=⟨by have:=h.len;omega,fun f hf=>⟨by rw[h.row f hf];have:=h.kinds;omega,fun v hv=>(ri (h.val f hf v hv)).vok⟩⟩
theorem acp {row:List Val}{kinds:List Int}(hk:kinds.length<=1000000):∃ b,rX row kinds=some b/\(b=true->row.length=kinds.length /\ ∀ v∈row,vF v=true):=by
 by_cases he:row.length=kinds.length
 ·obtain⟨b,hb⟩:=ae7 row kinds m0
  refine⟨b,hb,fun hbt=>⟨he,?_⟩⟩;subst hbt;unfold rX at hb;rw[show decide (((row.length:Nat):Int)≠((kinds.length:Nat):Int))=false from aq9 m0,aq7]at hb;have key:∀ (n i:Nat),i<=row.length->row.length-i<n->(ao (gl row kinds) n (i:Int)).bind I7=some true ->∀ v∈row.drop i,vF v=true:=by
   intro n
   induction n with
   |zero=>intro i _ h;omega
   |succ n ih =>
    intro i hi hn hb v hv;rw[ao]at hb;by_cases hlt:i<row.length
    ·obtain⟨x,hx⟩:=gol_ hlt
     obtain⟨k,hk⟩:=gol_ (l:=kinds) (i:=i) m0;have h1:gl row kinds (i:Int)=bif (!vF x)then some (.ret false)else bif decide (x.kind≠0)then bif decide (x.kind≠k)then some (.ret false)else some (.next ((i+1:Nat):Int))else some (.next ((i+1:Nat):Int)):=by
      unfold gl;dsimp only;rw[aL hx,aq8,gn_ hx,gn_ hk];simp only[aq5];rw[iu,aq5,wrapN m0]
     have hd:row.drop i=x::row.drop (i+1):=by rw[arG hlt,(aq6.1 hx).2]
     rw[hd]at hv
     cases hvx:vF x with
     |false=>rw[h1,hvx]at hb;exact absurd (show(some false:Option Bool)=some true from hb) m9
     |true =>
      have h2:gl row kinds (i:Int)=some (.next ((i+1:Nat):Int)):=by
       rw[h1,hvx,Bool.not_true,aq7]
       cases c1:decide (x.kind≠0)with
       |false=>rfl
       |true =>
        cases c2:decide (x.kind≠k)with
        |false=>rfl
        |true=>rw[h1,hvx,Bool.not_true,aq7,c1,c2]at hb;exact absurd (show(some false:Option Bool)=some true from hb) m9
      rw[h2]at hb;rcases arp.1 hv with rfl|hv
      ·exact hvx
      ·exact ih (i+1) m0 m0 hb v hv
    ·rw[List.drop_eq_nil_of_le m0]at hv;cases hv
  exact fun v hv=>key fuel 0 (aru _) (by unfold fuel;omega) hb v (by rw[List.drop_zero];exact hv)
 ·refine⟨false,?_,fun h=>by cases h⟩
  unfold rX;rw[show decide (((row.length:Nat):Int)≠((kinds.length:Nat):Int))=true from aq_ m0];rfl
theorem C5 {r:aW}(hl:r.facts.length<=1000)(hk:r.kinds.length<=48):∃ b,vN r=some b/\(b=true->(∀ f∈r.facts,aw f.valid=true)/\(∀ f∈r.facts,f.row.length=r.kinds.length) /\ ∀ f∈r.facts,∀ v∈f.row,vF v=true):=by
 have key:∀ (n i:Nat),i<=r.facts.length->r.facts.length-i<n ->∃ b,(ao (fq r) n (i:Int)).bind (pc r)=some b/\(b=true ->∀ f∈r.facts.drop i,aw f.valid=true/\f.row.length=r.kinds.length /\ ∀ v∈f.row,vF v=true):=by
  intro n
  induction n with
  |zero=>intro i _ h;omega
  |succ n ih =>
   intro i hi hn;rw[ao];by_cases hlt:i<r.facts.length
   ·obtain⟨x,hx⟩:=gol_ hlt
    have hd:r.facts.drop i=x::r.facts.drop (i+1):=by rw[arG hlt,(aq6.1 hx).2]
    obtain⟨b,hb,hb2⟩:=acp (row:=x.row) (kinds:=r.kinds) m0;have h1:fq r (i:Int)=bif !(aw x.valid)then some (.ret false)else bif !b then some (.ret false)else some (.next ((i+1:Nat):Int)):=by
     unfold fq;dsimp only;rw[aL hx,aq8,gn_ hx,aq5,mM,aq5,hb,aq5,wrapN m0]
    rw[h1]
    cases hp:aw x.valid with
    |false=>exact⟨false,rfl,fun h=>by cases h⟩
    |true =>
     cases b with
     |false=>exact⟨false,rfl,fun h=>by cases h⟩
     |true =>
      obtain⟨c,hc,hc2⟩:=ih (i+1) m0 m0;refine⟨c,hc,fun h f hf=>?_⟩;rw[hd]at hf;rcases arp.1 hf with rfl|hf
      ·exact⟨hp,hb2 rfl⟩
      ·exact hc2 h f hf
   ·have:i=r.facts.length:=m0
    subst this;have h1:fq r ((r.facts.length:Nat):Int)=some (.exit ((r.facts.length:Nat):Int)):=by
     unfold fq;dsimp only;rw[lF_,aq7]
    rw[h1];obtain⟨b,hb⟩:=ae0 r.kinds m0;have:∃ c,pc r (.inl ((r.facts.length:Nat):Int))=some c:=by
     unfold pc;dsimp only;rw[hb]
     cases decide ((0:Int)<((r.kinds.length:Nat):Int))<;>cases decide (((r.kinds.length:Nat):Int)<=48)<;>exact⟨_,rfl⟩
    obtain⟨c,hc⟩:=this;refine⟨c,hc,fun _ f hf=>?_⟩;rw[asb]at hf;cases hf
 obtain⟨b,hb,hb2⟩:=key fuel 0 (aru _) (by unfold fuel;omega);refine⟨b,hb,fun h=>?_⟩;have:=hb2 h;rw[List.drop_zero]at this;exact⟨fun f hf=>(this f hf).1,fun f hf=>(this f hf).2.1,fun f hf=>(this f hf).2.2⟩
theorem fp (p:ax)(t:Int):aM p t=true↔aw p=true/\p.lo<=t/\t<p.hi:=by
 constructor
 ·intro h
  have hv:aw p=true:=by
   have h2:St.aX (toP p) t=true:=h;unfold St.aX at h2;rw[arq,arq]at h2;exact h2.1.1
  obtain⟨a,b,c⟩:=il hv;exact⟨hv,(cI ⟨a,b,c⟩ t).1 h⟩
 ·rintro⟨hv,h⟩
  obtain⟨a,b,c⟩:=il hv;exact(cI ⟨a,b,c⟩ t).2 h
theorem lD (p:ax):aw p=true↔0<=p.lo/\p.lo<p.hi/\p.hi<=1099511627776:=by
 constructor
 ·exact il
 ·rintro⟨a,b,c⟩
  unfold aw;rw[aq_ a,aq_ b,aq_ c];rfl
def ovB (p q:ax):Bool:=aw p&&(aw q&&(decide (p.lo<q.hi)&&decide (q.lo<p.hi)))
theorem x8 (p q:ax):ovB p q=true↔aw p=true/\aw q=true/\p.lo<q.hi/\q.lo<p.hi:=by
 unfold ovB;generalize aw p=a;generalize aw q=b;rw[arq,arq,arq,decide_eq_true_iff,decide_eq_true_iff]
def aj4 (p q:ax):ax:=⟨max p.lo q.lo,min p.hi q.hi⟩
theorem Dz {a b:Bool}(h:a=true↔b=true):a=b:=by
 cases a<;>cases b<;>simp_all
theorem Np {p q:ax}(h:ovB p q=true)(t:Int):aM (aj4 p q) t=(aM p t&&aM q t):=by
 obtain⟨hp,hq,h1,h2⟩:=(x8 p q).1 h;have hp':=(lD p).1 hp;have hq':=(lD q).1 hq;refine Dz ?_;rw[arq,fp,fp,fp,lD,hp,hq];show((0<=max p.lo q.lo/\max p.lo q.lo<min p.hi q.hi/\min p.hi q.hi<=1099511627776)/\max p.lo q.lo<=t/\t<min p.hi q.hi)↔_;simp only[true_and];omega
theorem KJ {p q:ax}(h:ovB p q=false)(t:Int):(aM p t&&aM q t)=false:=by
 cases hc:(aM p t&&aM q t)with
 |false=>rfl
 |true =>
  rw[arq,fp,fp]at hc;obtain⟨⟨hp,h1,h2⟩,hq,h3,h4⟩:=hc;have:ovB p q=true:=(x8 p q).2 ⟨hp,hq,m0,m0⟩;rw[h]at this;cases this
def bQ (r:List Val)(ps:List ax):List ap:=ps.map fun p=>⟨r,p⟩
theorem fZ (f:ap)(l:List ap)(t:Int):aD (f::l) t=(if aM f.valid t=true then [f.row]else [])++aD l t:=by
 unfold aD;rw[List.filter_cons];split<;>rfl
theorem mK (r:List Val)(p:ax)(t:Int):aD [⟨r,p⟩] t=if aM p t=true then [r]else []:=by
 rw[fZ];exact arJ _
