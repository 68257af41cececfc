/- Parts. No condition. -/
import Derived.Test.YtlcceppoloaecaaGreatDoorKBT
set_option linter.unusedSimpArgs false
set_option linter.unusedVariables false
namespace Go.Proofs.YtlcceppoloaecaaGreatDoor
open Go.RowKit Go.MapKept
set_option maxRecDepth 100000
def yn (e:Ex)(row:List Val):Val:=(gX fuel e row).getD bJ
theorem val_ok {e:Ex}(h:gD fuel e)(row:List Val):gX fuel e row=some (yn e row)/\qR fuel e row=some (yn e row)/\vF (yn e row)=true:=by
 obtain⟨v,h1,h2,h3⟩:=GV row fuel e h;unfold yn;rw[h1];exact⟨rfl,h2,h3⟩
def hU (e:Ex)(row:List Val):Bool:=decide (tF_ (yn e row)=2)
theorem aba {e:Ex}(h:gD fuel e)(row:List Val):AE e row=some (tF_ (yn e row)):=by
 unfold AE;rw[(val_ok h row).2.1,ap9,gZ];rfl
theorem abx {e:Ex}(kinds:List Int)(h:gD fuel e):∃ n,sj e kinds=some n:=by
 obtain⟨c,c1,_⟩:=Lr kinds h;unfold sj;rw[c1,ap9]
 cases decide (c.2≠0)<;>cases decide (c.1≠3)<;>cases decide (c.1≠0)<;>exact⟨_,rfl⟩
def apm:TI :={ aa2 with dyn:=true }
theorem Av:TIok Tryz.prog apm:=⟨tab_ok.size,tab_ok.agg,tab_ok.elem,tab_ok.field,tab_ok.zero,tab_ok.bytes,tab_ok.kind,tab_ok.struct,tab_ok.zok,tab_ok.eqs⟩
def xE (e:Ex):List AC:=[.int .i64 e.op,.int .i64 e.int,.int .i64 e.v.kind,.int .i64 e.v.int,.str e.v.text,.str e.nm,.lst (e.args.map tE)]
def anv:TI :={ aa2 with soft:=true }
theorem KC:TIok Tryz.prog anv:=⟨tab_ok.size,tab_ok.agg,tab_ok.elem,tab_ok.field,tab_ok.zero,tab_ok.bytes,tab_ok.kind,tab_ok.struct,tab_ok.zok,tab_ok.eqs⟩
theorem F_:∀ {T' T:Tm},zZ T' T ->∀ p∈T,T'.lookup p.1=some p.2
 |T',[],_,p,hp=>by cases hp
 |T',q::T,h,p,hp=>by
  rcases aqp.1 hp with rfl|hp
  ·exact h.1
  ·exact F_ h.2 p hp
theorem jL.slots {N n0:Nat}{T T':Tm}{L:List Ob}(h:zZ T T'):jL N n0 T L T' L:=jL.less fun t x hx=>F_ h _ (kQ hx)
theorem aaM {p q:ax}(h:iS p q=true):An p q=some (nk p q,true):=by
 obtain⟨h1,h2,h3,h4⟩:=(sW p q).1 h;unfold An IL;rw[iP,ap9,h1,aqa,iP,ap9,h2,aqa,aqc h3,aqa,aqc h4];show some ((⟨zb p.lo q.lo,mnI p.hi q.hi⟩:ax),true)=_;rw[AP,acy];rfl
theorem y5 {x y:List Val}(h0:0<x.length+y.length)(h1:x.length+y.length<=1000000):xm x y=some (x++y):=by
 unfold xm ab5;rw[aqc h0,aqc h1];rfl
def aav (e:Ex)(a b:List ap)(p:cz):Option (Nat×List Val×ax):=match a[p.a.toNat]?,b[p.b.toNat]? with
 |some f,some g=>bif hU e (f.row++g.row)then some (p.a.toNat,f.row++g.row,nk f.valid g.valid)else none
 |_,_=>none
def acG {σ:Type}(nxt:σ->Nat->List Val->ax->σ)(s:σ):Option (Nat×List Val×ax)->σ
 |some (i,row,p)=>nxt s i row p
 |none=>s
def nw {σ:Type}(nxt:σ->Nat->List Val->ax->σ)(e:Ex)(a b:List ap)(l:List cz)(s:σ):σ:=l.foldl (fun s p=>acG nxt s (aav e a b p)) s
theorem af0 {σ:Type}(nxt:σ->Nat->List Val->ax->σ)(e:Ex)(a b:List ap)(l:List cz)(p:cz)(s:σ):nw nxt e a b (l++[p]) s=acG nxt (nw nxt e a b l s) (aav e a b p):=by
 unfold nw;rw[List.foldl_append];rfl
theorem ade {α:Type}{q:α->α->Bool}{a0 b:List α}:∀ {a pre:List α} {p:cz},a0=pre++a->p∈dW q b a pre.length ->∃ (i k:Nat) (x y:α),p=⟨(i:Int),(k:Int)⟩/\a0[i]?=some x/\b[k]?=some y/\q x y=true
 |[],pre,p,_,h=>by cases h
 |x::a,pre,p,h0,h=>by
  rw[dW,aqB]at h;rcases h with h|h
  ·unfold kX at h
   obtain⟨j,hj,rfl⟩:=aqJ.1 h;obtain⟨y,hy,hq,h0j⟩:=adh (q x) b b [] rfl j (by simpa using hj);refine⟨pre.length,j.toNat,x,y,?_,by rw[h0];simp,hy,hq⟩;rw[Int.toNat_of_nonneg h0j]
  ·exact ade (a:=a) (pre:=pre++[x]) (by rw[h0];simp) (by simpa using h)
def GT (a b:a6)(e:Ex)(g:FuncId)(prs:List cz)(k:Nat):Tm:=[(3,.one (.clo g [.ptr 4 0])),(4,.one (.c (.ref (aU a)))),(5,.one (.c (.ref (aU b)))),(6,.one (.c (.ref (xE e)))),(19,.one (.c (.lst (prs.map g9)))),(20,.one (.c (.int .i64 prs.length))),(21,.one (.c (.int .i64 k)))]
theorem Cf (a b:a6)(e:Ex)(g:FuncId)(prs:List cz)(k:Nat):gk 20 (GT a b e g prs k):=⟨(by intro x hx;simp at hx;subst hx;show 4<20;omega),t7,t7,t7,t7,t7,t7,t7⟩
def GL {σ:Type}(O:Nat->σ->Ob)(s:σ):List Ob:=zX O s++[.dead,.dead,.dead]
theorem apd {x:Cap}{m n:Nat}(h:x.below m)(hn:m<=n):x.below n:=by
 cases x with
 |c _=>trivial
 |ptr id _=>exact aqN h hn
theorem svb {x:SV}{m n:Nat}(h:x.below m)(hn:m<=n):x.below n:=by
 cases x with
 |c _=>trivial
 |emp=>trivial
 |own _ _=>exact aqN h hn
 |ptr _ _=>exact aqN h hn
 |sl _ _ _ _=>exact aqN h hn
 |ep _ _ _ _=>exact aqN h hn
 |mp _=>exact aqN h hn
 |clo _ caps=>exact fun y hy=>apd (h y hy) hn
theorem avb {x:AV}{m n:Nat}(h:x.below m)(hn:m<=n):x.below n:=by
 cases x with
 |one _=>exact svb h hn
 |agg _=>exact fun y hy=>svb (h y hy) hn
 |tup _=>trivial
 |tupS _=>exact fun y hy=>svb (h y hy) hn
 |undef=>trivial
theorem anp {x:Ob}{n:Nat}(h:x.below 17)(hn:17<=n):x.below n:=by
 cases x with
 |box cs=>exact fun y hy=>svb (h y hy) hn
 |spare _ _=>trivial
 |row _ es _=>exact fun e he y hy=>svb (h e he y hy) hn
 |map kvs=>exact fun p hp=>avb (h p hp) hn
 |dead=>trivial
theorem Dk {σ:Type}{O:Nat->σ->Ob}(hb:∀ s i,i<17->(O i s).below 17)(s:σ):mT 20 (GL O s):=by
 refine s9 fun x hx=>?_
 rcases aqB.1 hx with hx|hx
 ·exact anp (ff (hb s) x hx) m0
 ·simp at hx;subst hx;trivial
set_option maxHeartbeats 8000000 in
theorem Of {σ:Type}(O:Nat->σ->Ob)(g:FuncId)(nxt:σ->Nat->List Val->ax->σ)(ok:Nat->σ->Prop)(a b:a6)(e:Ex)(hbO:∀ s i,i<17->(O i s).below 17)
  (hstep:∀ n s i row p,ok n s->n<=1000000->i<a.facts.length->RTz g (zX O s) [.one (.c (.int .i64 (i:Int))),.one (.c (.lst (row.map cV))),.agg ((aN p).map SV.c),.one (.ptr 4 0)] (zX O (nxt s i row p)) (.tup [])/\ok (n+1) (nxt s i row p))
  (hmono:∀ n s,ok n s->ok (n+1) s) (ha:a.facts.length<=1000) (hbl:b.facts.length<=1000) (hra:∀ f∈a.facts,0<f.row.length/\f.row.length<=1000) (hrb:∀ f∈b.facts,f.row.length<=1000) (he:gD fuel e) (s0:σ) (h0:ok 0 s0) :
  RTz 52 (zX O s0) [.agg ((aU a).map SV.c),.agg ((aU b).map SV.c),.agg ((tE e).map SV.c),.one (.clo g [.ptr 4 0])] (zX O (nw nxt e a.facts b.facts (dW (fun x y:ap=>iS x.valid y.valid) b.facts a.facts 0) s0)) (.tup []):=by
 have hpairs:=Et a.facts b.facts ha hbl;have hpl:(dW (fun x y:ap=>iS x.valid y.valid) b.facts a.facts 0).length<=1000000:=Nat.le_trans (D1 _ _ _ _) (by have:=Nat.mul_le_mul ha hbl;omega);have hpm:=fun p=>ade (q:=fun x y:ap=>iS x.valid y.valid) (a0:=a.facts) (b:=b.facts) (a:=a.facts) (pre:=[]) (p:=p) rfl
 generalize dW (fun x y:ap=>iS x.valid y.valid) b.facts a.facts 0=prs at hpairs hpl hpm ⊢;have htr:∀ row,PTz 90 [.agg (xE e),.one (.lst (row.map cV))] (.val (.one (.int .i64 (tF_ (yn e row))))):=fun row=>by
  have:=gTruthE_ok (aba he row);rw[aC e]at this;exact this
 rw[aC e];refine bo am Tryz.func52 rfl rfl Tryz.ntmps52 m5 ?_;simp only[ed,aU,aqj,aqn];show Aw _ _ _ _ _ _ (zX O s0);unfold zX
 repeat' (first|(refine aS 17 (ts:=aU a) rfl rfl ?_)|(refine aS 18 (ts:=aU b) rfl rfl ?_)|(refine aS 19 (ts:=xE e) rfl rfl ?_)|refine aM rfl rfl rfl rfl hpairs rfl ?_|refine st_nil ?_|refine st_pop rfl rfl rfl rfl qp_ ?_|refine st_lop rfl rfl rfl rfl qp_ ?_|refine sS_ rfl rfl rfl qp_ ?_|refine st_lit rfl rfl rfl rfl qp_ ?_|refine st_skip rfl rfl rfl ?_|refine sk0_ rfl rfl ?_|(refine st_if rfl (fun hb=>?_) (fun hb=>?_)<;>(first|exact(fx_ hb).elim|rw[hb]))|refine aw_seq ?_|refine aw_region Av _ rfl ?_|refine aw_drawn2 tabS_ok _ rfl mixed (by decide +kernel) ?_|(refine aw_cond rfl (fun hb=>?_) (fun hb=>?_)<;>(try exact(fx_ hb).elim))|refine aw_block ?_|refine aw_exit ?_|refine aw_ret ?_|refine aw_skip ?_|fail)
 refine cA (fun k:Nat=>GT a b e g prs k) (fun k=>GL O (nw nxt e a.facts b.facts (prs.take k) s0)) (fun k=>k<=prs.length/\ok k (nw nxt e a.facts b.facts (prs.take k) s0)) (fun k=>prs.length-k) 0 ⟨aqu _,h0⟩ (fun _ _=>(by show 17<=20;omega))
  (fm_ ⟨rfl,rfl,rfl,rfl,rfl,aT m5,rfl,t7⟩ [] rfl (Cf _ _ _ _ _ _) (Dk hbO _)) ?_
 rintro k ⟨hk,hok⟩;by_cases hlt:k<prs.length
 ·obtain⟨pr,hpr⟩:=gol_ hlt
  have hvs:nw nxt e a.facts b.facts (prs.take (k+1)) s0=acG nxt (nw nxt e a.facts b.facts (prs.take k) s0) (aav e a.facts b.facts pr):=by rw[bO hpr,af0]
  obtain⟨i,j,x,y,rfl,hx,hy,hov⟩:=hpm pr (aqe hpr);generalize nw nxt e a.facts b.facts (prs.take k) s0=s at hok hvs ⊢;have hix:i<a.facts.length:=(ap_.1 hx).1;have hxr:=hra x (aqe hx);have hyr:=hrb y (aqe hy);have hconc:=zw (y5 (x:=x.row) (y:=y.row) m0 m0);have hint:=gInterP_ok (aaM hov);have htr:=htr (x.row++y.row);have hvf:aav e a.facts b.facts ⟨(i:Int),(j:Int)⟩=bif hU e (x.row++y.row)then some (i,x.row++y.row,nk x.valid y.valid)else none:=by
   unfold aav;simp only[Int.toNat_natCast,hx,hy]
  rw[hvf]at hvs;have hst:=hstep k s i (x.row++y.row) (nk x.valid y.valid) hok m0 hix;unfold hU at hvs;unfold GT GL zX
  cases hsel:decide (tF_ (yn e (x.row++y.row))=2)with
  |false =>
   have hne:decide (tF_ (yn e (x.row++y.row))≠2)=true:=by have:=of_decide_eq_false hsel;exact aqc this
   rw[hsel,ap']at hvs
   repeat' (first|(refine aS 20 (ts:=g9 ⟨i,j⟩) rfl rfl ?_;refine alr [4,5,9] KC [(3,.one (.clo g [.ptr 4 0])),(4,.one (.c (.ref (aU a)))),(5,.one (.c (.ref (aU b)))),(6,.one (.c (.ref (xE e)))),(9,.one (.c (.ref (g9 ⟨i,j⟩)))),(10,.one (.c (.ref (aG x)))),(11,.one (.c (.ref (aG y)))),(19,.one (.c (.lst (prs.map g9)))),(20,.one (.c (.int .i64 prs.length))),(21,.one (.c (.int .i64 k)))] (zX O s++[.dead,.dead,.dead,.dead,.dead,.dead]) 12 m9 m9 mixed (by decide +kernel) (by decide +kernel) rfl ?_ ?_ ?_)|(refine(jL.box 21 rfl rfl).trans ((jL.box 22 rfl rfl).trans (jL.slots ?_));exact⟨rfl,rfl,rfl,rfl,rfl,rfl,rfl,rfl,rfl,rfl,t7⟩)|(refine bB rfl rfl rfl rfl rfl rfl rfl rfl (bq hx) ?_ ?_;· exact⟨Int.natCast_nonneg _,rfl⟩)|(refine bB rfl rfl rfl rfl rfl rfl rfl rfl (bq hy) ?_ ?_;· exact⟨Int.natCast_nonneg _,rfl⟩)|rw[hne]|(refine bB rfl rfl rfl rfl rfl rfl rfl rfl (bq hpr) ?_ ?_;· exact⟨m0,rfl⟩)|refine aM rfl rfl rfl rfl hconc rfl ?_|refine aM rfl rfl rfl rfl htr rfl ?_|refine aM rfl rfl rfl rfl hint rfl ?_|refine st_nil ?_|refine st_pop rfl rfl rfl rfl qp_ ?_|refine st_lop rfl rfl rfl rfl qp_ ?_|refine sS_ rfl rfl rfl qp_ ?_|refine st_lit rfl rfl rfl rfl qp_ ?_|refine st_skip rfl rfl rfl ?_|refine sk0_ rfl rfl ?_|(refine st_if rfl (fun hb=>?_) (fun hb=>?_)<;>(first|exact(fx_ hb).elim|rw[hb]))|refine aw_seq ?_|refine aw_region Av _ rfl ?_|refine aw_drawn2 tabS_ok _ rfl mixed (by decide +kernel) ?_|(refine aw_cond rfl (fun hb=>?_) (fun hb=>?_)<;>(try exact(fx_ hb).elim))|refine aw_block ?_|refine aw_exit ?_|refine aw_ret ?_|refine aw_skip ?_|fail)
   exact⟨k+1,⟨m0,by rw[hvs];exact hmono _ _ hok⟩,m0,fm_ ⟨rfl,rfl,rfl,rfl,rfl,rfl,aT (a7 m0 m0),t7⟩ [_,_,_] (by rw[hvs];rfl) (Cf _ _ _ _ _ _) (Dk hbO _)⟩
  |true =>
   have hne:decide (tF_ (yn e (x.row++y.row))≠2)=false:=by have:=aqC hsel;rw[this];rfl
   rw[hsel,aqa]at hvs;have hvs:nw nxt e a.facts b.facts (prs.take (k+1)) s0=nxt s i (x.row++y.row) (nk x.valid y.valid):=hvs
   repeat' (first|(refine aS 20 (ts:=g9 ⟨i,j⟩) rfl rfl ?_;refine alr [4,5,9] KC [(3,.one (.clo g [.ptr 4 0])),(4,.one (.c (.ref (aU a)))),(5,.one (.c (.ref (aU b)))),(6,.one (.c (.ref (xE e)))),(9,.one (.c (.ref (g9 ⟨i,j⟩)))),(10,.one (.c (.ref (aG x)))),(11,.one (.c (.ref (aG y)))),(19,.one (.c (.lst (prs.map g9)))),(20,.one (.c (.int .i64 prs.length))),(21,.one (.c (.int .i64 k)))] (zX O s++[.dead,.dead,.dead,.dead,.dead,.dead]) 12 m9 m9 mixed (by decide +kernel) (by decide +kernel) rfl ?_ ?_ ?_)|(refine(jL.box 21 rfl rfl).trans ((jL.box 22 rfl rfl).trans (jL.slots ?_));exact⟨rfl,rfl,rfl,rfl,rfl,rfl,rfl,rfl,rfl,rfl,t7⟩)|(refine bB rfl rfl rfl rfl rfl rfl rfl rfl (bq hx) ?_ ?_;· exact⟨Int.natCast_nonneg _,rfl⟩)|(refine bB rfl rfl rfl rfl rfl rfl rfl rfl (bq hy) ?_ ?_;· exact⟨Int.natCast_nonneg _,rfl⟩)|rw[hne]|(refine yp 17 (zX O s) (zX O (nxt s i (x.row++y.row) (nk x.valid y.valid))) [.dead,.dead,.dead,.dead,.dead,.dead,.box ((aN (nk x.valid y.valid)).map SV.c)] rfl rfl rfl rfl rfl hst.1 rfl rfl (ff (hbO _)) (ff (hbO _)) (bW ⟨t7,t7,(fun z hz=>by have hz:z∈(aN (nk x.valid y.valid)).map SV.c:=hz;obtain⟨w,_,rfl⟩:=aqJ.1 hz;trivial),(by show 4<17;omega),t7⟩) ?_)|(refine bB rfl rfl rfl rfl rfl rfl rfl rfl (bq hpr) ?_ ?_;· exact⟨m0,rfl⟩)|refine aM rfl rfl rfl rfl hconc rfl ?_|refine aM rfl rfl rfl rfl htr rfl ?_|refine aM rfl rfl rfl rfl hint rfl ?_|refine st_nil ?_|refine st_pop rfl rfl rfl rfl qp_ ?_|refine st_lop rfl rfl rfl rfl qp_ ?_|refine sS_ rfl rfl rfl qp_ ?_|refine st_lit rfl rfl rfl rfl qp_ ?_|refine st_skip rfl rfl rfl ?_|refine sk0_ rfl rfl ?_|(refine st_if rfl (fun hb=>?_) (fun hb=>?_)<;>(first|exact(fx_ hb).elim|rw[hb]))|refine aw_seq ?_|refine aw_region Av _ rfl ?_|refine aw_drawn2 tabS_ok _ rfl mixed (by decide +kernel) ?_|(refine aw_cond rfl (fun hb=>?_) (fun hb=>?_)<;>(try exact(fx_ hb).elim))|refine aw_block ?_|refine aw_exit ?_|refine aw_ret ?_|refine aw_skip ?_|fail)
   exact⟨k+1,⟨m0,by rw[hvs];exact hst.2⟩,m0,fm_ ⟨rfl,rfl,rfl,rfl,rfl,rfl,aT (a7 m0 m0),t7⟩ [_,_,_,_] (by rw[hvs];rfl) (Cf _ _ _ _ _ _) (Dk hbO _)⟩
 ·have hk2:k=prs.length:=m0
  subst hk2;rw[List.take_length];unfold GT GL
  repeat' (first|refine st_nil ?_|refine st_pop rfl rfl rfl rfl qp_ ?_|refine st_lop rfl rfl rfl rfl qp_ ?_|refine sS_ rfl rfl rfl qp_ ?_|refine st_lit rfl rfl rfl rfl qp_ ?_|refine st_skip rfl rfl rfl ?_|refine sk0_ rfl rfl ?_|(refine st_if rfl (fun hb=>?_) (fun hb=>?_)<;>(first|exact(fx_ hb).elim|rw[hb]))|refine aw_seq ?_|refine aw_region Av _ rfl ?_|refine aw_drawn2 tabS_ok _ rfl mixed (by decide +kernel) ?_|(refine aw_cond rfl (fun hb=>?_) (fun hb=>?_)<;>(try exact(fx_ hb).elim))|refine aw_block ?_|refine aw_exit ?_|refine aw_ret ?_|refine aw_skip ?_|fail)
  exact⟨.inl rfl,⟨.inr ⟨.tup [],⟨t7,rfl⟩,rfl⟩,⟨_,rfl⟩,aqo _,fun x hx=>ff (hbO _) x hx,t7⟩⟩
section
variable {P:Program} {ti:TI} {N n0:Nat} {T:Tm} {L:List Ob}
theorem aa4 {Q:AX->Tm->List Ob->Prop}{c:Code}(id:Nat){ver k:Nat}{es:List (List SV)}{cs:List (List AC)}(hid:L[id]?=some (.row ver es k))(hn':dV es=some cs)(h:Aw P N n0 c Q T (L.set id (.row ver (cs.map (List.map SV.c)) k))):Aw P N n0 c Q T L:=by
 intro hn B R γ w a hi hT;have hlt:=(ap_.1 hid).1;have hlen:=oy hn';have hm:Mv R R γ γ L (L.set id (.row ver (cs.map (List.map SV.c)) k)):=by
  refine⟨PH.sub_refl _,m5,fun t n k' hlt' e=>⟨n,?_,aqo _,fun _=>rfl⟩,fun t ver' es0 k' hlt' e=>?_,fun i b e=>e⟩
  ·have hne:t≠id:=by rintro rfl;rw[aqs hlt']at e;cases e
   rw[aqt (Ne.symm hne)]at e;exact e
  ·by_cases hne:t=id
   ·subst hne
    rw[aqs hlt']at e;injection e with e
    injection e with e1 e2 e3
    subst e1 e2 e3;exact⟨ver,es,hid,aqo _,fun _=>⟨by rw[aqk];exact hlen,rfl⟩⟩
   ·rw[aqt (Ne.symm hne)]at e
    exact⟨ver',es0,e,aqo _,fun _=>⟨rfl,rfl⟩⟩
 refine wp_mono (h (by simpa using hn) B R γ w a ?_ (hT.mv hm)) fun _ _ _ hh=>hh.ext (Ext.refl _ _ _) hi.len (nl.of hn hm)
 refine⟨by simp[hi.len],hi.val,fun q y g hy hg=>?_,hi.inj,hi.new,hi.bsz⟩;by_cases hii:q=id
 ·subst hii
  rw[aqs hlt]at hy;injection hy with hy;subst hy
  have hob:=hi.obj q _ _ hid hg
  match g,hob with
  |.arr b cp,⟨⟨vs,E,h1,h2,h3⟩,h4,h5,h6,h7⟩ =>
   refine⟨⟨vs,E,h1,h2,fun i e j u x he' hu hx=>?_⟩,by rw[aqk,<- hlen];exact h4,h5,?_,h7⟩
   ·rw[aqw]at he'
    cases hc:cs[i]? with
    |none=>rw[hc]at he';cases he'
    |some c0 =>
     rw[hc]at he';simp only[Option.map_some,Option.some.injEq]at he';subst he';rw[aqw]at hx
     cases hj:c0[j]? with
     |none=>rw[hj]at hx;cases hx
     |some y =>
      rw[hj]at hx;simp only[Option.map_some,Option.some.injEq]at hx;subst hx;obtain⟨e,he,hne⟩:=jh hn' i c0 hc;have hl:=en hne;have hje:j<e.length:=by rw[<- hl];exact(ap_.1 hj).1
      obtain⟨z,hz⟩:∃ z,e[j]?=some z:=⟨_,aqh hje⟩;exact SV.norm_rep (h3 i e j u z he hu hz) (ji hne j z y hz hj)
   ·intro e he'
    obtain⟨c0,hc0,rfl⟩:=aqJ.1 he';obtain⟨i,hi',rfl⟩:=List.getElem_of_mem hc0;obtain⟨e,he,hne⟩:=jh hn' i _ (aqh hi');rw[aqk,en hne];exact h6 e (aqe he)
  |.none,hob =>
   have hes:es=[]:=hob;subst hes;have:cs=[]:=aqz (by rw[<- hlen];rfl);subst this;rfl
 ·rw[aqt (Ne.symm hii)]at hy
  exact(hi.obj q y g hy hg).mv hm (fun _ _=>rfl) (fun _ _ _ h=>h)
theorem LA {f:FuncId}{ps:List PV}{L1:List Ob}{r:AV}{p:PV}(h:Run P f [] (ps.map PV.av) L1 r)(hr:r.norm=some p):Pure P f ps (.val p):=by
 refine⟨h.1,fun R w vs hR hs hv=>?_⟩;have hi:Inv (· <w.heap.size) R [] [] w:=⟨rfl,hR,fun id x g hx=>by simp at hx,fun i j gi gj h1=>by simp at h1,fun i g b h1=>by simp at h1,fun b hb=>hb⟩;refine(h.2 (· <w.heap.size) R [] w vs hi (by simpa using hs) fun j v x hjv hx=>?_).mono ?_
 ·rw[aqw]at hx
  cases hp:ps[j]? with
  |none=>rw[hp]at hx;cases hx
  |some q =>
   rw[hp]at hx;simp only[Option.map_some,Option.some.injEq]at hx;subst hx;exact PV.av_rep (hv j v q hjv hp)
 ·rintro e w' ⟨v,R',γ',rfl,i1,i2,i3,i4⟩
  exact⟨v,R',rfl,i2,i1.val,AV.norm_rep i4 hr⟩
end
def M17 (O:Nat->Ob):List Ob:=[O 0,O 1,O 2,O 3,O 4,O 5,O 6,O 7,O 8,O 9,O 10,O 11,O 12,O 13,O 14,O 15,O 16]
theorem adO {O O':Nat->Ob}(h:∀ k,k<17->O k=O' k):M17 O=M17 O':=by
 unfold M17;rw[h 0 m0,h 1 m0,h 2 m0,h 3 m0,h 4 m0,h 5 m0,h 6 m0,h 7 m0,h 8 m0,h 9 m0,h 10 m0,h 11 m0,h 12 m0,h 13 m0,h 14 m0,h 15 m0,h 16 m0]
theorem JF (O:Nat->Ob):M17 O=(List.range 17).map O:=rfl
theorem aje (O:Nat->Ob)(G:List Ob){j:Nat}(hj:j<17):(M17 O++G)[j]?=some (O j):=by
 rw[JF,aqm (by simpa using hj),aqw,List.getElem?_range hj];rfl
theorem aky (O:Nat->Ob)(G:List Ob){j:Nat}(hj:j<17)(x:Ob):(M17 O++G).set j x=M17 (fun k=>if k=j then x else O k)++G:=by
 rw[JF,JF,List.set_append_left _ _ (by simpa using hj)];congr 1;refine List.ext_getElem? fun k=>?_
 rw[List.getElem?_set,aqw,aqw];by_cases hk:j=k
 ·subst hk
  rw[if_pos rfl,if_pos (by simpa using hj),List.getElem?_range hj];simp
 ·rw[if_neg hk]
  by_cases hk17:k<17
  ·rw[List.getElem?_range hk17];simp[Ne.symm hk]
  ·rw[aqX (by simpa using hk17)];rfl
section
variable {P:Program} {ti:TI} {N:Nat} {ds:List (Option Tmp)} {K:Tm->List Ob->Prop} {rest:List Oper} {o:Oper} {T:Tm} {L:List Ob}
theorem ao4 (L:List Ob)(x:Ob)(hx:x.ren [L.length]=x):joinL [] L [x]=L++[x]:=by
 simp[joinL,join,db,b6,fo,hx]
theorem co_ {g:FuncId}{asx:List AV}{es:List (List AC)}{n k d:Nat}(hd:o.dst=some d)(hN:Nat.blt d N=true)(hg:fR ds T o.guard=some true)(hp:dd ti (look T) o.op=some (g,asx))(h:aI P ti N ds K rest ((d,.one (.own es L.length))::T) (L++[.spare n k]))
  (hc:Run P g [] asx [.spare n k] (.one (.own es 0)):=by assumption) (ha:asx=asx.map (AV.ren []):=by rfl) (hb:Cd 0 asx=true:=by rfl):aI P ti N ds K (o::rest) T L :=
 cI [] hd hN hg hp hc ha ⟨rfl,List.nodup_nil,fun i y hy=>by simp at hy,fun x hx=>(by cases hx),ny hb⟩ (by simp[AV.ren,SV.ren,b6,fo,je]) (ao4 L _ rfl) h
end
theorem an_ {p:Prop}(h:p:=by
 refine aY ?_
 first
  |exact⟨.inl rfl,⟨.inl ⟨_,rfl,rfl⟩,⟨[],rfl⟩,aqu _,eW rfl,gN rfl⟩⟩
  |exact⟨.inr rfl,⟨.inl ⟨_,rfl,rfl⟩,⟨[],rfl⟩,aqu _,eW rfl,gN rfl⟩⟩):p:=h
set_option maxHeartbeats 8000000
noncomputable section
theorem abg {a_l:(List ap)}{a_f:(List ax)->Option ((List ax))}{r:(List ap)}{F_a_f:FuncId}{caps_a_f:List AC}(hf_a_f:∀ (y0:(List ax)) (r:(List ax)),a_f y0=some r->PTz F_a_f ([.one (.lst (y0.map aN))]++caps_a_f.map .one) (.val (.one (.lst (r.map aN)))))(H:xR a_l a_f=some r):RTz 145 [] [.one (.c (.lst (a_l.map aG))),.one (.c (.fn F_a_f caps_a_f))] [.spare r.length 3] (.one (.own (r.map aG) 0)):=by
 unfold xR at H;refine bo tab_ok Tryz.func145 rfl rfl Tryz.ntmps145 m5 ?_;simp only[ed];obtain⟨r_1,c1,H⟩:=bd_ H;replace c1:=BM c1;refine aY ?_;refine bU 5 3 rfl ?_;refine alM_ (fun s:(List ap)×Int=>match s with|(out_2,v_3)=>[(1,.one (.c (.fn F_a_f caps_a_f))),(5,.one (.own (out_2.map aG) 0)),(11,.one (.c (.lst (r_1.map af)))),(12,.one (.c (.int .i64 ((r_1.length:Nat):Int)))),(13,.one (.c (.int .i64 v_3)))]) (fun s=>match s with|(out_2,v_3)=>[.spare out_2.length 3]) H (fun _=>aqu _)
  (fm_ bF [] rfl bn cm) ?_
 rintro⟨out_2,v_3⟩ st3 hb3 hk3;unfold nR at hb3;dsimp only at hb3 ⊢;rcases aj hb3 with⟨q_4,hb3⟩|⟨q_4,hb3⟩
 ·obtain⟨x_5,i2z,i2,i2x,hb3⟩:=bw (f:=af) hb3
  obtain⟨r_6,c3,hb3⟩:=bd_ hb3;replace c3:=hf_a_f _ _ c3
  try simp only[aql,aqj,aqn,aqd,aC]at c3
  refine aY ?_;refine alM_ (fun s:(List ap)×Int=>match s with|(out_7,v_8)=>[(1,.one (.c (.fn F_a_f caps_a_f))),(5,.one (.own (out_7.map aG) 0)),(7,.one (.ptr 1 0)),(11,.one (.c (.lst (r_1.map af)))),(12,.one (.c (.int .i64 ((r_1.length:Nat):Int)))),(13,.one (.c (.int .i64 v_3))),(20,.one (.c (.lst (r_6.map aN)))),(21,.one (.c (.int .i64 ((r_6.length:Nat):Int)))),(22,.one (.c (.int .i64 v_8)))]) (fun s=>match s with|(out_7,v_8)=>[.spare out_7.length 3,.box [.c (.lst (x_5.row.map cV)),.c (.lst (x_5.periods.map aN))]]) hb3 (fun _=>aqu _)
   (fm_ bF [] rfl bn cm) ?_
  rintro⟨out_7,v_8⟩ st4 hb4 hk4;unfold oh at hb4;dsimp only at hb4 ⊢;rcases aj hb4 with⟨q_9,hb4⟩|⟨q_9,hb4⟩
  ·obtain⟨x_10,i4z,i4,i4x,hb4⟩:=bw (f:=aN) hb4
   obtain⟨g5,hb4⟩:=aK hb4;obtain⟨g6,hb4⟩:=aK hb4
   cases hb4;refine aY ?_;exact⟨_,rfl,fm_ qI [_,_] oO bn cm⟩
  cases hb4;have hx4:oz v_3 (.inl (out_7,v_8))=some _:=hk4;unfold oz at hx4;dsimp only at hx4
  cases hx4;refine aY ?_;exact⟨_,rfl,fm_ qI [_] oO bn cm⟩
 cases hb3;have hx3:kK (.inl (out_2,v_3))=some _:=hk3;unfold kK at hx3;dsimp only at hx3
 cases hx3;exact an_
end
end Go.Proofs.YtlcceppoloaecaaGreatDoor
namespace Go.Proofs.YtlcceppoloaecaaGreatDoor.St
open Go.RowKit
theorem Asc.of_list {l:List (Int×Int)}(h:l.Pairwise fun x y=>x.1<y.1):Asc l:=by
 intro i j x y hij hx hy;obtain⟨hi,rfl⟩:=ap_.1 hx;obtain⟨hj,rfl⟩:=ap_.1 hy;exact List.pairwise_iff_getElem.1 h i j hi hj hij
theorem cK:∀ {l:List (Int×Int)} {p:Int×Int},dm p l=true->(p::l).Pairwise (fun x y=>x.1<y.1) /\ ∀ s∈l,s.1<1099511627776
 |[],p,_=>⟨m5,m5⟩
 |q::r,p,h=>by
  simp only[dm,aqr]at h;obtain⟨h1,h2⟩:=cK (l:=r) (p:=q) h.2;have hs:p.1<q.1/\q.1<1099511627776:=by have:=h.1;simp[rL]at this;omega
  refine⟨aq5.2 ⟨fun y hy=>?_,h1⟩,fun s hs'=>?_⟩
  ·rcases aqp.1 hy with e|e
   ·subst e;exact hs.1
   ·have:=(aq5.1 h1).1 y e;omega
  ·rcases aqp.1 hs' with e|e
   ·subst e;exact hs.2
   ·exact h2 s e
theorem eK {l:List (Int×Int)}(h:cD l=true):Asc l/\(∀ s∈l,s.1<1099511627776)/\l≠[] /\ ∀ x,l[0]?=some x->x.1=0:=by
 match l,h with
 |p::r,h =>
  simp only[cD,aqr,beq_iff_eq]at h;obtain⟨h1,h2⟩:=cK h.2;refine⟨Asc.of_list h1,fun s hs=>?_,m5,fun x hx=>?_⟩
  ·rcases aqp.1 hs with e|e
   ·subst e;omega
   ·exact h2 s e
  ·simp at hx;subst hx;exact h.1
def dM (z:Int)(l:List (Int×Int))(t:Int):Int:=l.foldl (fun n s=>if s.1<=t then s.2 else n) z
theorem ru {l:List (Int×Int)}{t:Int}(h1:0<=t)(h2:t<1099511627776):pF l t=dM 0 l t:=by unfold pF;rw[if_pos ⟨h1,h2⟩];rfl
theorem aj9 {l:List (Int×Int)}{t:Int}(h:¬ (0<=t/\t<1099511627776)):pF l t=0:=by unfold pF;rw[if_neg h]
theorem bP (z:Int)(p:Int×Int)(l:List (Int×Int))(t:Int):dM z (p::l) t=dM (if p.1<=t then p.2 else z) l t:=rfl
theorem dS {z:Int}{l:List (Int×Int)}{t:Int}(h:∀ x∈l,t<x.1):dM z l t=z:=sV t l z h
theorem DK (z:Int)(l:List (Int×Int))(q:Int×Int)(t:Int):dM z (l++[q]) t=if q.1<=t then q.2 else dM z l t:=by unfold dM;rw[List.foldl_append];rfl
theorem LQ {u:List (Int×Int)}{x y:Int}{q:Int×Int}(hu:cD u=true)(hl:u.getLast?=some (x,y))(h1:x<q.1)(h2:q.1<1099511627776)(h3:q.2≠y):cD (u++[q])=true:=by
 match u,hu with
 |p::r,hu =>
  simp only[cD,aqr,beq_iff_eq]at hu;simp only[List.cons_append,cD,aqr,beq_iff_eq];refine⟨hu.1,?_⟩;have he:(p::r).getLast m5=(x,y):=by
   rw[List.getLast?_eq_some_getLast m5]at hl;exact aqG hl
  rw[rA,hu.2,he];unfold rL;simp[h1,h2,h3]
theorem aec {u:List (Int×Int)}(ha:Asc u){x y t:Int}(hl:u.getLast?=some (x,y))(ht:x<=t)(z:Int):dM z u t=y:=by
 have hne:u≠[]:=by intro e;subst e;simp at hl
 have hu:u=u.dropLast++[(x,y)]:=by
  have h1:=List.dropLast_concat_getLast hne;rw[List.getLast?_eq_some_getLast hne]at hl;rw[<- aqG hl];exact h1.symm
 rw[hu,DK,if_pos ht]
theorem akk {u:List (Int×Int)}(ha:Asc u){x y p v:Int}(hl:u.getLast?=some (x,y))(hp:x<p)(z t:Int):dM z (dB u (p,v)) t=if p<=t then v else dM z u t:=by
 unfold dB;rw[hl];simp only[Option.map_some,Option.some.injEq];by_cases e:y=v
 ·rw[if_pos e]
  split
  ·rw[aec ha hl m0,e]
  ·rfl
 ·rw[if_neg e,DK]
theorem adX {u:List (Int×Int)}{x y p v:Int}(hu:cD u=true)(hl:u.getLast?=some (x,y))(hp:x<p)(hF:p<1099511627776):cD (dB u (p,v))=true /\ ∃ x' y',(dB u (p,v)).getLast?=some (x',y')/\x'<=p:=by
 unfold dB;rw[hl];simp only[Option.map_some,Option.some.injEq];by_cases e:y=v
 ·rw[if_pos e];exact⟨hu,x,y,hl,m0⟩
 ·rw[if_neg e];exact⟨LQ hu hl hp hF (fun h=>e h.symm),p,v,m5,Int.le_refl _⟩
theorem C7 (f:Int->Int):∀ (P:List Int) (u:List (Int×Int)) (x y:Int),cD u=true->u.getLast?=some (x,y)->(∀ p∈P,x<p/\p<1099511627776)->cN P ->
  cD (P.foldl (fun acc p=>dB acc (p,f p)) u)=true /\ ∀ z t,dM z (P.foldl (fun acc p=>dB acc (p,f p)) u) t=dM (dM z u t) (P.map fun p=>(p,f p)) t
 |[],u,x,y,hu,hl,_,_=>⟨hu,fun z t=>rfl⟩
 |p::P,u,x,y,hu,hl,hP,hA=>by
  obtain⟨h1,h2⟩:=hP p m5;obtain⟨g1,x',y',g2,g3⟩:=adX (v:=f p) hu hl h1 h2;obtain⟨k1,k2⟩:=C7 f P (dB u (p,f p)) x' y' g1 g2 (fun q hq=>⟨by have:=hA.head q hq;omega,(hP q (by simp[hq])).2⟩) hA.tail;refine⟨k1,fun z t=>?_⟩;rw[aqZ,k2,akk (eK hu).1 hl h1,aqj,bP]
theorem yk (f:Int->Int){P:List Int}(hA:cN P)(h0:P.head?=some 0)(hF:∀ p∈P,p<1099511627776):cD (cQ f P)=true /\ ∀ z t,dM z (cQ f P) t=dM z (P.map fun p=>(p,f p)) t:=by
 match P,h0 with
 |p::P,h0 =>
  simp at h0;subst h0;have h1:=C7 f P [(0,f 0)] 0 (f 0) rfl rfl (fun q hq=>⟨hA.head q hq,hF q (by simp[hq])⟩) hA.tail;have h2:cQ f (0::P)=P.foldl (fun acc p=>dB acc (p,f p)) [(0,f 0)]:=rfl;rw[h2];refine⟨h1.1,fun z t=>?_⟩;rw[h1.2,aqj,bP];rfl
def ai0 (g:Int->Int)(P:List Int):Prop :=∀ t p,0<=t->t<1099511627776->p∈P->p<=t->(∀ q∈P,q<=t->q<=p)->g t=g p
theorem F9 (g:Int->Int):∀ (P:List Int) (z t:Int),cN P->(∃ p∈P,p<=t) ->∃ p∈P,p<=t/\(∀ q∈P,q<=t->q<=p)/\dM z (P.map fun p=>(p,g p)) t=g p
 |[],z,t,_,⟨p,hp,_⟩=>by simp at hp
 |a::P,z,t,hA,⟨p,hp,hpt⟩=>by
  have hat:a<=t:=by
   rcases aqp.1 hp with e|e
   ·omega
   ·have:=hA.head p e;omega
  rw[aqj,bP,if_pos hat];by_cases h:∃ q∈P,q<=t
  ·obtain⟨q,h1,h2,h3,h4⟩:=F9 g P (g a) t hA.tail h
   refine⟨q,by simp[h1],h2,fun r hr hrt=>?_,h4⟩;rcases aqp.1 hr with e|e
   ·have:=hA.head q h1;omega
   ·exact h3 r e hrt
  ·refine⟨a,m5,hat,fun r hr hrt=>?_,?_⟩
   ·rcases aqp.1 hr with e|e
    ·omega
    ·exact absurd ⟨r,e,hrt⟩ h
   ·refine dS fun x hx=>?_
    obtain⟨q,hq,e⟩:=aqJ.1 hx;subst e;exact Int.not_le.1 fun hh=>h ⟨q,hq,hh⟩
theorem Mc (g:Int->Int){P:List Int}(hA:cN P)(h0:P.head?=some 0)(hF:∀ p∈P,p<1099511627776)(hC:ai0 g P){t:Int}(t1:0<=t)(t2:t<1099511627776):pF (cQ g P) t=g t:=by
 rw[ru t1 t2,(yk g hA h0 hF).2];have h0m:(0:Int)∈P:=List.mem_of_mem_head? h0;obtain⟨p,h1,h2,h3,h4⟩:=F9 g P 0 t hA ⟨0,h0m,t1⟩;rw[h4,hC t p t1 t2 h1 h2 h3]
theorem G9 {P:List Int}(hA:cN P)(h0:(0:Int)∈P)(hp:∀ p∈P,0<=p):P.head?=some 0:=by
 match P,h0 with
 |a::P,h0 =>
  have ha:=hp a m5;rcases aqp.1 h0 with e|e
  ·rw[<- e];rfl
  ·have:=hA.head 0 e;omega
theorem nc {l:List (Int×Int)}(h:cD l=true):∀ s∈l,0<=s.1:=by
 obtain⟨h1,_,h3,h4⟩:=eK h;intro s hs;obtain⟨i,hi,e⟩:=List.mem_iff_getElem.1 hs;have hpos:0<l.length:=m0
 have h0:=h4 l[0] (aqh hpos);by_cases e0:i=0
 ·subst e0;rw[<- e];omega
 ·have:=h1 0 i _ _ m0 (aqh hpos) (aqh hi)
  rw[e]at this;omega
theorem of_ok (l:List ((Int×Int)×Int)):cD (cQ (mc l) (ft l))=true /\ ∀ t,0<=t->t<1099511627776->pF (cQ (mc l) (ft l)) t=mc l t:=by
 obtain⟨h1,h2⟩:=fG l;have hnn:∀ p∈ft l,0<=p:=by
  intro p hp;rcases((h2 p).1 hp).1 with e|⟨y,hy⟩
  ·omega
  ·exact(yw (p,y) hy).1
 have h0:(ft l).head?=some 0:=G9 h1 ((h2 0).2 ⟨.inl rfl,m0⟩) hnn;have hF:∀ p∈ft l,p<1099511627776:=fun p hp=>((h2 p).1 hp).2
 have hC:ai0 (mc l) (ft l):=by
  intro t p t1 t2 hp hpt hmax;rw[pm,pm];congr 1;unfold mX;congr 1;refine List.map_congr_left fun c hc=>?_
  have hiff:aW c.1 t=aW c.1 p:=by
   unfold aW;by_cases hv:aQ c.1=true
   ·have hm:∀ q,q=c.1.1\/q=c.1.2->q<=t->q<=p:=by
     intro q hq hqt;refine hmax q ((h2 q).2 ⟨.inr ?_,m0⟩) hqt;rcases hq with e|e
     ·exact⟨c.2,List.mem_flatMap.2 ⟨c,hc,by unfold kj;rw[if_pos hv];simp[e]⟩⟩
     ·exact⟨wrap64 (-c.2),List.mem_flatMap.2 ⟨c,hc,by unfold kj;rw[if_pos hv];simp[e]⟩⟩
    have m1:=hm c.1.1 (.inl rfl);have m2:=hm c.1.2 (.inr rfl);rw[hv,aqH,aqH,Bool.eq_iff_iff];simp only[aqr,decide_eq_true_eq];constructor
    ·rintro⟨u1,u2⟩;exact⟨m1 u1,m0⟩
    ·rintro⟨u1,u2⟩
     refine⟨m0,Int.not_le.1 fun hh=>?_⟩;have:=m2 hh;omega
   ·have:aQ c.1=false:=by simpa using hv
    rw[this];simp
  rw[hiff]
 exact⟨(yk _ h1 h0 hF).1,fun t t1 t2=>Mc _ h1 h0 hF hC t1 t2⟩
def cnt (X:List (Int×Int))(t:Int):Int:=(X.map fun p=>if aW p t then(1:Int)else 0).sum
theorem pG (X Y:List (Int×Int))(t:Int):cnt (X++Y) t=cnt X t+cnt Y t:=by simp[cnt]
theorem IZ {a b t:Int}(h0:0<=a)(h1:a<b)(h2:b<=1099511627776):cnt [(a,b)] t=if a<=t/\t<b then 1 else 0:=by
 have hv:aQ (a,b)=true:=by simp[aQ];omega
 simp[cnt,aW,hv]
theorem BO (n t v:Int)(out:List (Int×Int)){a b:Int}(h0:0<=a)(h1:a<b)(h2:b<=1099511627776)(hout:∀ q∈out,aQ q=true/\q.2<=a) :
  (∀ q∈cE n out ((a,b),v),aQ q=true/\q.2<=b)/\cnt (cE n out ((a,b),v)) t=cnt out t+(if n<=v/\a<=t/\t<b then 1 else 0):=by
 have hv:aQ (a,b)=true:=by simp[aQ];omega
 have happ:(∀ q∈out++[(a,b)],aQ q=true/\q.2<=b)/\cnt (out++[(a,b)]) t=cnt out t+(if a<=t/\t<b then 1 else 0):=by
  refine⟨fun q hq=>?_,by rw[pG,IZ h0 h1 h2]⟩;rcases aqB.1 hq with e|e
  ·have:=hout q e;exact⟨this.1,m0⟩
  ·simp at e;subst e;exact⟨hv,Int.le_refl _⟩
 unfold cE;by_cases hn:n<=v
 ·rw[if_pos hn]
  simp only[hn,true_and];unfold eY;split
  ·rename_i q hq
   split
   ·rename_i hle
    have hmem:q∈out:=List.mem_of_getLast? hq;obtain⟨hq1,hq2⟩:=hout q hmem;have hle':a<=q.2:=hle;have hqe:q.2=a:=m0
    have hsp:out=out.dropLast++[q]:=by
     have hne:out≠[]:=by intro e;rw[e]at hmem;simp at hmem
     rw[List.getLast?_eq_some_getLast hne]at hq;injection hq with hq
     rw[<- hq];exact(List.dropLast_concat_getLast hne).symm
    have hqv:0<=q.1/\q.1<q.2/\q.2<=1099511627776:=by simp[aQ]at hq1;omega
    have hm:max q.2 b=b:=m0
    show(∀ x∈out.dropLast++[(q.1,max q.2 b)],aQ x=true/\x.2<=b)/\cnt (out.dropLast++[(q.1,max q.2 b)]) t=_;rw[hm];refine⟨fun x hx=>?_,?_⟩
    ·rcases aqB.1 hx with e|e
     ·have:=hout x (List.dropLast_subset _ e);exact⟨this.1,m0⟩
     ·simp at e;subst e;exact⟨by simp[aQ];omega,Int.le_refl _⟩
    ·have e1:cnt out t=cnt out.dropLast t+cnt [(q.1,q.2)] t:=by rw[<- pG];exact congrArg (cnt · t) hsp
     rw[e1,pG,IZ hqv.1 m0 h2,IZ hqv.1 hqv.2.1 hqv.2.2];split<;>split<;>split<;>omega
   ·exact happ
  ·exact happ
 ·rw[if_neg hn]
  refine⟨fun q hq=>?_,by simp[hn]⟩;have:=hout q hq;exact⟨this.1,m0⟩
theorem KB (n t:Int)(ht:t<1099511627776):∀ (r:List (Int×Int)) (x:Int×Int) (out:List (Int×Int)),0<=x.1->(x::r).Pairwise (fun p q=>p.1<q.1)->(∀ s∈x::r,s.1<1099511627776)->(∀ q∈out,aQ q=true/\q.2<=x.1) ->
  cnt ((kC (x::r)).foldl (cE n) out) t=cnt out t+(if x.1<=t/\n<=dM x.2 r t then 1 else 0)
 |[],x,out,h0,_,hM,hout=>by
  have:=(BO n t x.2 out h0 (hM x m5) (Int.le_refl _) hout).2;simp only[kC,aqZ,List.foldl_nil,this];have e:dM x.2 [] t=x.2:=rfl;rw[e];split<;>split<;>omega
 |y::r,x,out,h0,hp,hM,hout=>by
  have hxy:x.1<y.1:=(aq5.1 hp).1 y m5;have hy:=(aq5.1 hp).2;obtain⟨h1,h2⟩:=BO n t x.2 out h0 hxy (by have:=hM y m5;omega) hout;have ih:=KB n t ht r y _ m0 hy (fun s hs=>hM s (aqx _ hs)) h1;have e:kC (x::y::r)=((x.1,y.1),x.2)::kC (y::r):=rfl;rw[e,aqZ,ih,h2,bP];by_cases hyt:y.1<=t
  ·rw[if_pos hyt]
   split<;>split<;>split<;>omega
  ·rw[if_neg hyt]
   have e2:dM x.2 r t=x.2:=dS fun q hq=>by have:=(aq5.1 hy).1 q hq;omega
   rw[e2];split<;>split<;>split<;>omega
theorem ajL {l:List (Int×Int)}(h:cD l=true)(n t:Int)(h1:0<=t)(h2:t<1099511627776):cnt (DI l n) t=if n<=pF l t then 1 else 0:=by
 match l,h with
 |p::r,h =>
  have ha:=eK h;have hp0:p.1=0:=ha.2.2.2 p rfl;simp only[cD,aqr]at h;have hv:=cK h.2;have:=KB n t h2 r p [] m0 hv.1 ha.2.1 m5;unfold DI;rw[this,ru h1 h2,bP,if_pos (show p.1<=t by omega)];have e:cnt [] t=0:=rfl;rw[e];simp[hp0,h1]
theorem Hz {l:List (Int×Int)}(h:cD l=true)(t:Int)(h1:0<=t)(h2:t<1099511627776)(h3:0<=pF l t):∀ k:Nat,cnt (nr l k) t=if (k:Int)<=pF l t then(k:Int)else pF l t
 |0=>by
  have e:cnt (nr l 0) t=0:=rfl;rw[e];split<;>omega
 |k+1=>by
  rw[ug,pG,Hz h t h1 h2 h3 k,ajL h _ t h1 h2];split<;>split<;>split<;>omega
theorem ahC {a b:List (Int×Int)}(h:a.Perm b)(t:Int):cnt a t=cnt b t:=by
 unfold cnt
 induction h with
 |nil=>rfl
 |cons x _ ih=>simp only[aqj,List.sum_cons,ih]
 |swap x y l=>simp only[aqj,List.sum_cons];omega
 |trans _ _ ih1 ih2=>exact ih1.trans ih2
theorem MZ {l:List (Int×Int)}(h:cD l=true)(t:Int)(h1:0<=t)(h2:t<1099511627776)(h3:0<=pF l t)(h4:pF l t<=600):cnt (qG l) t=pF l t:=by
 have hp:(qG l).Perm (nr l 600):=by
  have h0:=(kP (gq l) [] .nil).2;rw[aqd]at h0;have e:gq l=nr l 600:=by unfold gq nr;rfl
  rw[<- e];exact h0
 rw[ahC hp,Hz h t h1 h2 h3];split<;>omega
def yX (X:List (Int×Int)):List ((Int×Int)×Int):=X.map fun p=>(p,1)
theorem qp (X:List (Int×Int))(t:Int):mX (yX X) t=cnt X t:=by
 unfold mX yX cnt;rw[List.map_map];rfl
end Go.Proofs.YtlcceppoloaecaaGreatDoor.St
namespace Go.Proofs.YtlcceppoloaecaaGreatDoor
open Go.RowKit
def aL (p:ax)(t:Int):Bool:=St.aW (toP p) t
theorem lw (p:ax)(t:Int):aL p t=(St.aQ (toP p)&&(decide (p.lo<=t)&&decide (t<p.hi))):=Bool.and_assoc _ _ _
def cO (ps:List ax)(t:Int):Nat:=(ps.filter fun p=>aL p t).length
theorem AZ (ps:List ax)(t:Int):St.cnt (ps.map toP) t=(cO ps t:Int):=by
 unfold St.cnt cO
 induction ps with
 |nil=>rfl
 |cons p ps ih =>
  rw[aqj,aqj,List.sum_cons,ih,List.filter_cons];unfold aL;by_cases h:St.aW (toP p) t=true
  ·rw[if_pos h,if_pos h,aqv];omega
  ·rw[if_neg h,if_neg h];omega
theorem dD (p:ax)(ps:List ax)(t:Int):cO (p::ps) t=(if aL p t=true then 1 else 0)+cO ps t:=by
 unfold cO;rw[List.filter_cons];split<;>simp<;>omega
theorem abK {p:ax}{t:Int}(h:aL p t=true):0<=t/\t<1099511627776:=by
 unfold aL St.aW St.aQ at h;simp only[aqr,decide_eq_true_eq]at h;omega
theorem Eu {t:Int}(h:¬(0<=t/\t<1099511627776))(ps:List ax):cO ps t=0:=by
 unfold cO;rw[aqK,List.filter_eq_nil_iff];exact fun p _ hp=>h (abK hp)
theorem acC (ps:List ax)(t:Int):cO ps t<=ps.length:=List.length_filter_le _ _
def dy (ps:List ax):List (Int×Int):=St.KG ((ones ps).map toC)
theorem I9 (ps:List ax):(ones ps).map toC=St.yX (ps.map toP):=by
 unfold ones St.yX;rw[List.map_map,List.map_map];rfl
theorem adn (ps:List ax):(bI ps).map toP=St.qG (dy ps):=by
 unfold bI yu vm dy;rw[List.map_map,List.map_map];have e1:(toP∘ofP)=id:=by funext x;rfl
 have e2:(toS∘ofS)=id:=by funext x;rfl
 rw[e1,e2,List.map_id,List.map_id]
theorem ik (ps:List ax):St.cD (dy ps)=true:=(St.of_ok _).1
theorem H8 (ps:List ax)(hn:ps.length<=300)(t:Int):St.pF (dy ps) t=(cO ps t:Int):=by
 by_cases h:0<=t/\t<1099511627776
 ·rw[show dy ps=St.cQ (St.mc ((ones ps).map toC)) (St.ft ((ones ps).map toC))from rfl,(St.of_ok _).2 t h.1 h.2,St.oe t (q9 ps) (by simp[ones];omega),I9,St.qp,AZ]
 ·rw[St.aj9 h,Eu h];rfl
theorem mK (ps:List ax)(hn:ps.length<=300)(t:Int):0<=St.pF (dy ps) t/\St.pF (dy ps) t<=600:=by
 have:=H8 ps hn t;have:=acC ps t;omega
theorem wu (ps:List ax)(hn:ps.length<=300)(t:Int):cO (bI ps) t=cO ps t:=by
 by_cases h:0<=t/\t<1099511627776
 ·have h1:=AZ (bI ps) t
  rw[adn,St.MZ (ik ps) t h.1 h.2 (mK ps hn t).1 (mK ps hn t).2,H8 ps hn]at h1;omega
 ·rw[Eu h,Eu h]
def zU (ps:List ax)(x:Int):Nat:=(ps.filter fun p=>St.aQ (toP p)&&decide (p.lo<=x)).length
theorem oC (p:ax)(ps:List ax)(t:Int):zU (p::ps) t=(if (St.aQ (toP p)&&decide (p.lo<=t))=true then 1 else 0)+zU ps t:=by
 unfold zU;rw[List.filter_cons];split<;>simp<;>omega
theorem MJ {x y:Int}(h:x<y):∀ ps:List ax,cO ps y+zU ps x<=cO ps x+zU ps y
 |[]=>by simp[cO,zU]
 |p::ps=>by
  have ih:=MJ h ps;rw[dD,dD,oC,oC];have:(if aL p y=true then 1 else 0)+(if (St.aQ (toP p)&&decide (p.lo<=x))=true then 1 else 0)<=(if aL p x=true then 1 else 0)+(if (St.aQ (toP p)&&decide (p.lo<=y))=true then 1 else 0):=by
   rw[lw,lw]
   cases hv:St.aQ (toP p)
   ·simp
   ·simp only[aqH,aqr,decide_eq_true_eq]
    split<;>split<;>split<;>split<;>omega
  omega
theorem aju (ps:List ax)(x:Int):cO ps x<=zU ps x:=by
 induction ps with
 |nil=>simp[cO,zU]
 |cons p ps ih =>
  rw[dD,oC];have:(if aL p x=true then 1 else 0)<=(if (St.aQ (toP p)&&decide (p.lo<=x))=true then 1 else 0):=by
   rw[lw]
   cases hv:St.aQ (toP p)
   ·simp
   ·simp only[aqH,aqr,decide_eq_true_eq]
    split<;>split<;>omega
  omega
theorem ah0 {x y:Int}(h:x<=y)(ps:List ax):zU ps x<=zU ps y:=by
 induction ps with
 |nil=>simp[zU]
 |cons p ps ih =>
  rw[oC,oC];have:(if (St.aQ (toP p)&&decide (p.lo<=x))=true then 1 else 0)<=(if (St.aQ (toP p)&&decide (p.lo<=y))=true then 1 else 0):=by
   cases hv:St.aQ (toP p)
   ·simp
   ·simp only[aqH,decide_eq_true_eq]
    split<;>split<;>omega
  omega
theorem Ip {l:List (Int×Int)}(ps:List ax)(ha:St.Asc l)(hF:∀ s∈l,0<=s.1/\s.1<1099511627776)(hy:∀ s∈l,s.2=(cO ps s.1:Int)):∀ k,k<=l.length ->
  (∀ q∈(St.jT l k).2,St.aQ q=true)/\(∀ f∈(St.jT l k).1,0<=f/\f<1099511627776 /\ ∃ (j:Nat) (y:Int),j<k/\l[j]?=some (f,y)) /\
  ((k=0/\(St.jT l k).1=[]/\(St.jT l k).2=[]) \/ ∃ x y,l[k-1]?=some (x,y)/\0<k/\(St.jT l k).1.length=cO ps x/\(St.jT l k).2.length+(St.jT l k).1.length<=zU ps x)
 |0,_=>⟨fun q hq=>(by cases hq),fun f hf=>(by cases hf),.inl ⟨rfl,rfl,rfl⟩⟩
 |k+1,hk=>by
  obtain⟨h1,h2,h3⟩:=Ip ps ha hF hy k m0;have hx:l[k]?=some (l[k]' m0):=aqh m0;generalize l[k]' m0=p at hx;obtain⟨x,y⟩:=p;have hm:=aqe hx;have hxF:=hF _ hm;have hxy:y=(cO ps x:Int):=hy _ hm;rw[St.nv hx];have hc:St.lF y=cO ps x:=by
   unfold St.lF;rw[hxy];split<;>omega
  unfold St.wI;dsimp only;rw[hc];refine⟨fun q hq=>?_,fun f hf=>?_,.inr ⟨x,y,by simpa using hx,m0,St.nL _ _ _,?_⟩⟩
  ·rcases aqB.1 hq with hq|hq
   ·exact h1 q hq
   ·obtain⟨f,hf,rfl⟩:=aqJ.1 hq
    obtain⟨f1,f2,j,z,hj,hz⟩:=h2 f (List.mem_of_mem_drop hf);have:=ha j k _ _ hj hz hx;show St.aQ (f,x)=true;unfold St.aQ;simp only[aqr,decide_eq_true_eq];dsimp only at this hxF;omega
  ·unfold St.vv at hf
   rcases aqB.1 hf with hf|hf
   ·obtain⟨f1,f2,j,z,hj,hz⟩:=h2 f (aq6 hf)
    exact⟨f1,f2,j,z,m0,hz⟩
   ·obtain⟨_,rfl⟩:=List.mem_replicate.1 hf
    exact⟨hxF.1,hxF.2,k,y,m0,hx⟩
  ·rw[St.nL,aqg,aqk,List.length_drop]
   rcases h3 with⟨_,e1,e2⟩|⟨x0,y0,hx0,hk0,e1,e2⟩
   ·rw[e1,e2]
    have:=aju ps x;simp only[aqE];omega
   ·have hlt:=ha (k-1) k _ _ m0 hx0 hx
    dsimp only at hlt;have b1:=MJ hlt ps;have b2:=ah0 (Int.le_of_lt hlt) ps;omega
theorem CW (ps:List ax)(hn:ps.length<=300):(St.IC (dy ps)).length<=ps.length /\ ∀ q∈St.IC (dy ps),St.aQ q=true:=by
 obtain⟨ha,hF,hne,_⟩:=St.eK (ik ps);have hnn:=St.nc (ik ps);have hy:∀ s∈dy ps,s.2=(cO ps s.1:Int):=by
  intro s hs;have h:=((St.Di ((ones ps).map toC)).2 s hs).2;rw[h,St.oe s.1 (q9 ps) (by simp[ones];omega),I9,St.qp,AZ]
 obtain⟨h1,h2,h3⟩:=Ip ps ha (fun s hs=>⟨hnn s hs,hF s hs⟩) hy (dy ps).length (aqo _);unfold St.IC;refine⟨?_,fun q hq=>?_⟩
 ·rw[aqg,aqk]
  rcases h3 with⟨_,e1,e2⟩|⟨x,y,_,_,_,e2⟩
  ·rw[e1,e2];exact aqu _
  ·exact Nat.le_trans e2 (List.length_filter_le _ _)
 ·rcases aqB.1 hq with hq|hq
  ·exact h1 q hq
  ·obtain⟨f,hf,rfl⟩:=aqJ.1 hq
   obtain⟨f1,f2,_⟩:=h2 f hf;show St.aQ (f,1099511627776)=true;unfold St.aQ;simp only[aqr,decide_eq_true_eq];omega
theorem wz (ps:List ax)(hn:ps.length<=300):((bI ps).map toP).Perm (St.IC (dy ps)):=by
 obtain⟨ha,hF,_,_⟩:=St.eK (ik ps);have hM:∀ s∈dy ps,s.2<=600:=by
  intro s hs;have h:=((St.Di ((ones ps).map toC)).2 s hs).2;rw[h,St.oe s.1 (q9 ps) (by simp[ones];omega),I9,St.qp,AZ];have:=acC ps s.1;omega
 rw[adn];have h0:=(St.kP (St.gq (dy ps)) [] .nil).2;rw[aqd]at h0;exact h0.trans (St.G3 ha hF hM).symm
theorem acX (ps:List ax)(hn:ps.length<=300):(bI ps).length<=ps.length:=by
 have:=(wz ps hn).length_eq;rw[aqk]at this;rw[this];exact(CW ps hn).1
theorem iq (ps:List ax)(hn:ps.length<=300):∀ p∈bI ps,St.aQ (toP p)=true:=fun p hp =>
 (CW ps hn).2 _ ((wz ps hn).subset (List.mem_map_of_mem hp))
open Go.RowKit Go.MapKept
set_option maxRecDepth 100000
theorem M5 {r:List Val}{R:List (List Val)}(h:qO (r::R)):r∉R:=by
 intro hr;have:=List.rel_of_pairwise_cons h hr;rw[tCr_.refl]at this;omega
theorem aeD (s t:List ap)(r:List Val):bm (s++t) r=bm s r++bm t r:=by unfold bm;rw[List.filter_append,aql]
theorem EF (r:List Val):∀ ps:List ax,(∀ p∈ps,St.aQ (toP p)=true)->bm (ps.map fun p=>(⟨r,p⟩:ap)) r=ps
 |[],_=>rfl
 |p::ps,h=>by
  have ih:=EF r ps fun q hq=>h q (aqx _ hq)
  have hp:aq p=true:=h p (aqW ..);unfold bm at ih ⊢;rw[aqj,List.filter_cons_of_pos (by simp[hp]),aqj,ih]
theorem K1 {r x:List Val}(hx:x≠r)(ps:List ax):bm (ps.map fun p=>(⟨x,p⟩:ap)) r=[]:=by
 unfold bm;rw[List.map_eq_nil_iff,List.filter_eq_nil_iff];intro f hf h;obtain⟨p,_,rfl⟩:=aqJ.1 hf;simp only[aqr,decide_eq_true_eq]at h;exact hx h.2
theorem u7 (L:List Val->List ax)(hL:∀ r,∀ p∈L r,St.aQ (toP p)=true):∀ (R:List (List Val)),qO R ->∀ r,bm (R.flatMap fun r=>(L r).map fun p=>(⟨r,p⟩:ap)) r=if r∈R then L r else []
 |[],_,r=>rfl
 |x::R,h,r=>by
  have ih:=u7 L hL R (List.Pairwise.of_cons h) r;rw[aqM,aeD,ih];by_cases hx:x=r
  ·subst hx
   rw[EF x _ (hL x),if_neg (M5 h),if_pos (aqW ..),aqI]
  ·rw[K1 hx,aqd]
   by_cases hr:r∈R
   ·rw[if_pos hr,if_pos (aqx _ hr)]
   ·rw[if_neg hr,if_neg (by intro h;rcases aqp.1 h with h|h;exact hx h.symm;exact hr h)]
theorem BW {α:Type}(p:α->Bool):∀ l:List α,(l.filter p).length+(l.filter fun x => !p x).length=l.length
 |[]=>rfl
 |x::l=>by
  have:=BW p l;rw[List.filter_cons,List.filter_cons]
  cases h:p x<;>simp<;>omega
theorem agX (l:List ap)(r:List Val):(bm l r).length<=(l.filter fun f=>decide (f.row=r)).length:=by
 unfold bm;rw[aqk]
 induction l with
 |nil=>exact aqo _
 |cons f l ih =>
  rw[List.filter_cons,List.filter_cons]
  cases aq f.valid<;>cases decide (f.row=r)<;>simp<;>omega
theorem aby {r x:List Val}(h:x≠r)(l:List ap):bm l x=bm (l.filter fun f => !decide (f.row=r)) x:=by
 unfold bm;rw[List.filter_filter];congr 1;apply List.filter_congr;intro f _;by_cases hx:f.row=x
 ·have:f.row≠r:=fun e=>h (hx.symm.trans e)
  simp[hx,h]
 ·simp[hx]
theorem Ho:∀ (R:List (List Val)) (l:List ap),qO R->(R.flatMap fun r=>bm l r).length<=l.length
 |[],l,_=>aqu _
 |r::R,l,h=>by
  rw[aqM,aqg];have e:(R.flatMap fun x=>bm l x)=R.flatMap fun x=>bm (l.filter fun f => !decide (f.row=r)) x:=by
   rw[List.flatMap_def,List.flatMap_def];congr 1;refine List.map_congr_left fun x hx=>aby ?_ l
   rintro rfl;exact M5 h hx
  rw[e];have h1:=Ho R (l.filter fun f => !decide (f.row=r)) (List.Pairwise.of_cons h);have h2:=agX l r;have h3:=BW (fun f:ap=>decide (f.row=r)) l;omega
theorem dJ {α β γ:Type}(f:α->List β)(g:α->List γ):∀ l:List α,(∀ x∈l,(f x).length<=(g x).length)->(l.flatMap f).length<=(l.flatMap g).length
 |[],_=>aqo _
 |x::l,h=>by
  rw[aqM,aqM,aqg,aqg];have:=h x (aqW ..);have:=dJ f g l fun y hy=>h y (aqx _ hy)
  omega
theorem dY (l:List ap)(r:List Val):(bm l r).length<=l.length:=by
 unfold bm;rw[aqk];exact List.length_filter_le _ _
theorem acW {l:List ap}{R:List (List Val)}(h:dA l R){r:List Val}(hr:r∉R):bm l r=[]:=by
 unfold bm;rw[List.map_eq_nil_iff,List.filter_eq_nil_iff];intro f hf hc;rw[aqr]at hc;exact hr ((h.2 r).2 ⟨f,hf,hc.1,aqC hc.2⟩)
section
variable {l:List ap} {R:List (List Val)} (h:dA l R) (hn:l.length<=300)
include h hn
theorem ajR:(dw l R).length<=l.length:=by
 refine Nat.le_trans ?_ (Ho R l h.1);refine dJ _ _ _ fun r _=>?_
 rw[aqk];exact acX _ (Nat.le_trans (dY l r) hn)
theorem acD (r:List Val):bm (dw l R) r=if r∈R then bI (bm l r)else [] :=
 u7 (fun r=>bI (bm l r)) (fun r p hp=>iq _ (Nat.le_trans (dY l r) hn) p hp) R h.1 r
end
def aD (l:List ap)(t:Int):List (List Val):=(l.filter fun f=>aL f.valid t).map (·.row)
theorem rB (t:Int)(r:List Val):∀ l:List ap,(aD l t).count r=cO (bm l r) t
 |[]=>rfl
 |f::l=>by
  have ih:=rB t r l;unfold aD at ih ⊢;have e:bm (f::l) r=(if (aq f.valid&&decide (f.row=r))=true then [f.valid]else [])++bm l r:=by
   unfold bm;rw[List.filter_cons];split<;>simp
  rw[List.filter_cons,e];by_cases hc:aL f.valid t=true
  ·have hv:aq f.valid=true:=by
    have:=hc;rw[lw,aqr]at this;exact this.1
   rw[if_pos hc,aqj,List.count_cons,ih];by_cases hr:f.row=r
   ·simp only[hv,hr,decide_true,Bool.and_self,if_true,List.cons_append,aqd,beq_self_eq_true]
    rw[dD,if_pos hc];omega
   ·simp[hr]
  ·rw[if_neg hc,ih]
   split
   ·rw[List.cons_append,aqd,dD,if_neg hc,aqR]
   ·rfl
theorem amj {l:List ap}{R:List (List Val)}(h:dA l R)(hn:l.length<=300)(t:Int):(aD (dw l R) t).Perm (aD l t):=by
 rw[List.perm_iff_count];intro r;rw[rB,rB,acD h hn r];split
 ·exact wu _ (Nat.le_trans (dY l r) hn) t
 ·rename_i hr
  rw[acW h hr]
def Apart (p q:ax):Prop:=p.hi<q.lo\/q.hi<p.lo\/(p.lo<=q.lo/\q.hi<=p.hi)\/(q.lo<=p.lo/\p.hi<=q.hi)
def Lam (L:List ax):Prop :=∀ p∈L,∀ q∈L,Apart p q
def qE (p:ax):Prop:=0<=p.lo/\p.lo<p.hi/\p.hi<=1099511627776
theorem xz (p:ax):St.aQ (toP p)=true↔qE p:=by
 unfold St.aQ qE toP;simp only[aqr,decide_eq_true_eq];omega
theorem cG {p:ax}(h:qE p)(t:Int):aL p t=true↔p.lo<=t/\t<p.hi:=by
 rw[lw,(xz p).2 h,aqH,aqr,decide_eq_true_eq,decide_eq_true_eq]
theorem cnt_mono {s t:Int}:∀ L:List ax,(∀ p∈L,aL p s=true->aL p t=true)->cO L s<=cO L t
 |[],_=>aqo _
 |p::L,h=>by
  have ih:=cnt_mono L fun q hq=>h q (aqx _ hq)
  have h0:=h p (aqW ..);rw[dD,dD];by_cases hs:aL p s=true
  ·rw[if_pos hs,if_pos (h0 hs)];omega
  ·rw[if_neg hs];omega
theorem oJ (A B:List ax)(t:Int):cO (A++B) t=cO A t+cO B t:=by
 unfold cO;rw[List.filter_append,aqg]
theorem cnt_lt {s t:Int}{L:List ax}(h:∀ p∈L,aL p s=true->aL p t=true){q:ax}(hq:q∈L)(h1:aL q t=true)(h2:aL q s=false):cO L s<cO L t:=by
 obtain⟨A,B,rfl⟩:=List.append_of_mem hq;have hA:=cnt_mono A fun p hp=>h p (by simp[hp])
 have hB:=cnt_mono B fun p hp=>h p (by simp[hp])
 rw[oJ,oJ,dD,dD,if_pos h1,if_neg (by rw[h2];decide)];omega
theorem ags {s t:Int}{L:List ax}(h:cO L s<cO L t):∃ q∈L,aL q t=true/\aL q s=false:=by
 apply Classical.byContradiction;intro hn;have:=cnt_mono (s:=t) (t:=s) L fun p hp h1=>by
  cases h2:aL p s
  ·exact absurd ⟨p,hp,h1,h2⟩ hn
  ·rfl
 omega
theorem aiw:∀ L:List ax,L≠[] ->∃ p∈L,∀ q∈L,p.hi-p.lo<=q.hi-q.lo
 |[],h=>absurd rfl h
 |p::L,_=>by
  by_cases hL:L=[]
  ·subst hL
   exact⟨p,aqW .., fun q hq=>by simp at hq;subst hq;omega⟩
  ·obtain⟨m,hm,h⟩:=aiw L hL
   by_cases hpm:p.hi-p.lo<=m.hi-m.lo
   ·exact⟨p,aqW .., fun q hq=>by
     rcases aqp.1 hq with rfl|hq
     ·omega
     ·have:=h q hq;omega⟩
   ·exact⟨m,aqx _ hm,fun q hq=>by
     rcases aqp.1 hq with rfl|hq
     ·omega
     ·exact h q hq⟩
theorem Kv {p q:ax}(h1:p.lo=q.lo)(h2:p.hi=q.hi):p=q:=by
 cases p;cases q;simp_all
theorem falls {M:List ax}(hM:Lam M)(vM:∀ p∈M,qE p){q:ax}(hq:q∈M):cO M q.hi<cO M (q.hi-1):=by
 have vq:=vM q hq;unfold qE at vq;refine cnt_lt (fun s hs h=>?_) hq ((cG (vM q hq) _).2 m0) ?_
 ·have vs:=vM s hs
  have ha:=hM q hq s hs;rw[cG vs]at h ⊢;unfold qE at vs;unfold Apart at ha;omega
 ·cases h:aL q q.hi
  ·rfl
  ·have:=(cG (vM q hq) _).1 h
   omega
theorem rises {M:List ax}(hM:Lam M)(vM:∀ p∈M,qE p){q:ax}(hq:q∈M):cO M (q.lo-1)<cO M q.lo:=by
 have vq:=vM q hq;unfold qE at vq;refine cnt_lt (fun s hs h=>?_) hq ((cG (vM q hq) _).2 m0) ?_
 ·have vs:=vM s hs
  have ha:=hM q hq s hs;rw[cG vs]at h ⊢;unfold qE at vs;unfold Apart at ha;omega
 ·cases h:aL q (q.lo-1)
  ·rfl
  ·have:=(cG (vM q hq) _).1 h
   omega
theorem Dt:∀ (n:Nat) (L M:List ax),L.length=n->Lam L->Lam M->(∀ p∈L,qE p)->(∀ p∈M,qE p)->(∀ t,cO L t=cO M t)->L.Perm M
 |0,L,M,hn,_,_,_,vM,hc=>by
  obtain rfl:=aqK.1 hn
  cases M with
  |nil=>exact .nil
  |cons q M =>
   have vq:=vM q (aqW ..);have h:=hc q.lo;rw[dD,if_pos ((cG vq _).2 (by unfold qE at vq;omega))]at h;simp[cO]at h;omega
 |n+1,L,M,hn,hL,hM,vL,vM,hc=>by
  obtain⟨p,hp,hmin⟩:=aiw L (by intro e;rw[e]at hn;simp at hn);have vp:=vL p hp;have vp':=vp;unfold qE at vp';have sup:∀ q∈L,∀ t,p.lo<=t->t<p.hi->aL q t=true->q.lo<=p.lo/\p.hi<=q.hi:=by
   intro q hq t h1 h2 h3;rw[cG (vL q hq)]at h3;have ha:=hL p hp q hq;have hm:=hmin q hq;unfold Apart at ha;omega
  have const:∀ s t,p.lo<=s->s<p.hi->p.lo<=t->t<p.hi->cO L s<=cO L t:=by
   intro s t h1 h2 h3 h4;refine cnt_mono L fun q hq h=>?_
   have:=sup q hq s h1 h2 h;rw[cG (vL q hq)];omega
  have r1:=rises hL vL hp;have f1:=falls hL vL hp;rw[hc,hc]at r1 f1;obtain⟨q,hq,q1,q2⟩:=ags r1;obtain⟨r,hr,e1,e2⟩:=ags f1;have vq:=vM q hq;have vr:=vM r hr;have vq':=vq;have vr':=vr;unfold qE at vq' vr';rw[cG vq]at q1;rw[cG vr]at e1;have q3:¬ (q.lo<=p.lo-1/\p.lo-1<q.hi):=fun h=>by rw[(cG vq _).2 h]at q2;cases q2
  have e3:¬ (r.lo<=p.hi/\p.hi<r.hi):=fun h=>by rw[(cG vr _).2 h]at e2;cases e2
  have q4:p.hi<=q.hi:=by
   apply Classical.byContradiction;intro hlt;have f2:=falls hM vM hq;have:=const (q.hi-1) q.hi m0 m0 m0 m0;rw[hc,hc]at this;omega
  have e4:r.lo<=p.lo:=by
   apply Classical.byContradiction;intro hlt;have f2:=rises hM vM hr;have:=const r.lo (r.lo-1) m0 m0 m0 m0;rw[hc,hc]at this;omega
  have hpM:p∈M:=by
   have ha:=hM q hq r hr;unfold Apart at ha;rcases ha with h|h|h|h
   ·omega
   ·omega
   ·rw[show p=r from Kv m0 m0];exact hr
   ·rw[show p=q from Kv m0 m0];exact hq
  obtain⟨A,B,rfl⟩:=List.append_of_mem hp;obtain⟨C,D,rfl⟩:=List.append_of_mem hpM;have sL:∀ x∈A++B,x∈A++p::B:=fun x hx=>by simp at hx ⊢;rcases hx with h|h<;>simp[h]
  have sM:∀ x∈C++D,x∈C++p::D:=fun x hx=>by simp at hx ⊢;rcases hx with h|h<;>simp[h]
  have ih:=Dt n (A++B) (C++D) (by simp at hn ⊢;omega) (fun x hx y hy=>hL x (sL x hx) y (sL y hy)) (fun x hx y hy=>hM x (sM x hx) y (sM y hy)) (fun x hx=>vL x (sL x hx)) (fun x hx=>vM x (sM x hx)) (fun t=>by
   have:=hc t;rw[oJ,oJ,dD,dD]at this;rw[oJ,oJ];omega)
  exact List.perm_middle.trans ((ih.cons p).trans List.perm_middle.symm)
def ApS (p q:Int×Int):Prop:=p.2<q.1\/q.2<p.1\/(p.1<=q.1/\q.2<=p.2)\/(q.1<=p.1/\p.2<=q.2)
structure Stk (E:List Int)(out:List (Int×Int))(x:Int):Prop where
 asc:E.Pairwise (· <= ·)
 out2:∀ p∈out,∀ q∈out,ApS p q
 fin:∀ p∈out,p.2<=x/\p.1<p.2
 opn:∀ f∈E,f<=x /\ ∀ q∈out,f<=q.1\/q.2<f
theorem Stk.pop {E:List Int}{out:List (Int×Int)}{x y:Int}(h:Stk E out x)(hxy:x<y)(c:Nat) :
  (∀ p∈out++(E.drop c).map (fun f=>(f,y)),∀ q∈out++(E.drop c).map (fun f=>(f,y)),ApS p q)/\(∀ p∈out++(E.drop c).map (fun f=>(f,y)),p.2<=y/\p.1<p.2):=by
 have key:∀ p∈out,∀ f∈E.drop c,ApS p (f,y)/\ApS (f,y) p:=by
  intro p hp f hf;have h1:=(h.opn f (List.mem_of_mem_drop hf)).2 p hp;have h2:=h.fin p hp;unfold ApS;dsimp only;omega
 have two:∀ f∈E.drop c,∀ g∈E.drop c,ApS (f,y) (g,y):=by
  intro f _ g _;unfold ApS;dsimp only;omega
 refine⟨fun p hp q hq=>?_,fun p hp=>?_⟩
 ·rcases aqB.1 hp with hp|hp<;>rcases aqB.1 hq with hq|hq
  ·exact h.out2 p hp q hq
  ·obtain⟨f,hf,rfl⟩:=aqJ.1 hq
   exact(key p hp f hf).1
  ·obtain⟨f,hf,rfl⟩:=aqJ.1 hp
   exact(key q hq f hf).2
  ·obtain⟨f,hf,rfl⟩:=aqJ.1 hp
   obtain⟨g,hg,rfl⟩:=aqJ.1 hq;exact two f hf g hg
 ·rcases aqB.1 hp with hp|hp
  ·have:=h.fin p hp;omega
  ·obtain⟨f,hf,rfl⟩:=aqJ.1 hp
   have:=(h.opn f (List.mem_of_mem_drop hf)).1;dsimp only;omega
theorem Stk.next {E:List Int}{out:List (Int×Int)}{x y:Int}(h:Stk E out x)(hxy:x<y)(c:Nat):Stk (St.vv E y c) (out++(E.drop c).map fun f=>(f,y)) y:=by
 obtain⟨h1,h2⟩:=h.pop hxy c;unfold St.vv;refine⟨?_,h1,h2,fun f hf=>?_⟩
 ·rw[List.pairwise_append]
  refine⟨h.asc.sublist (List.take_sublist _ _),List.pairwise_replicate.2 (.inr (Int.le_refl _)),fun a ha b hb=>?_⟩;obtain⟨_,rfl⟩:=List.mem_replicate.1 hb;have:=(h.opn a (aq6 ha)).1;omega
 ·rcases aqB.1 hf with hf|hf
  ·have h3:=h.opn f (aq6 hf)
   refine⟨m0,fun q hq=>?_⟩;rcases aqB.1 hq with hq|hq
   ·exact h3.2 q hq
   ·obtain⟨g,hg,rfl⟩:=aqJ.1 hq
    have hs:(E.take c++E.drop c).Pairwise (· <= ·):=by rw[aqU];exact h.asc
    exact .inl ((List.pairwise_append.1 hs).2.2 f hf g hg)
  ·obtain⟨hc,rfl⟩:=List.mem_replicate.1 hf
   refine⟨Int.le_refl _,fun q hq=>?_⟩;rcases aqB.1 hq with hq|hq
   ·have:=(h.fin q hq).1;exact .inr m0
   ·rw[List.drop_eq_nil_of_le m0]at hq
    cases hq
theorem NF {l:List (Int×Int)}(ha:St.Asc l):∀ k,k<=l.length->(k=0/\St.jT l k=([],[])) \/ ∃ x y,l[k-1]?=some (x,y)/\0<k/\Stk (St.jT l k).1 (St.jT l k).2 x
 |0,_ => .inl ⟨rfl,rfl⟩
 |k+1,hk=>by
  have ih:=NF ha k m0;have hx:l[k]?=some (l[k]' m0):=aqh m0;generalize l[k]' m0=p at hx;obtain⟨x,y⟩:=p;refine .inr ⟨x,y,by simpa using hx,m0,?_⟩;rw[St.nv hx];unfold St.wI;dsimp only;rcases ih with⟨_,e⟩|⟨x0,y0,hx0,hk0,h⟩
  ·rw[e]
   exact Stk.next (x:=x-1) ⟨.nil,fun p hp=>(by cases hp),fun p hp=>(by cases hp),fun f hf=>(by cases hf)⟩ m0 _
  ·exact h.next (by have:=ha (k-1) k _ _ m0 hx0 hx;exact this) _
theorem aiA {l:List (Int×Int)}(ha:St.Asc l)(hF:∀ s∈l,s.1<1099511627776):∀ p∈St.IC l,∀ q∈St.IC l,ApS p q:=by
 unfold St.IC;rcases NF ha l.length (aqo _)with⟨_,e⟩|⟨x,y,hx,hk,h⟩
 ·rw[e];intro p hp;cases hp
 ·have:=h.pop (y:=1099511627776) (hF _ (aqe hx)) 0
  rw[List.drop_zero]at this;exact this.1
theorem AH (ps:List ax)(hn:ps.length<=300):Lam (bI ps):=by
 obtain⟨ha,hF,_,_⟩:=St.eK (ik ps);intro p hp q hq;have h:=aiA ha hF _ ((wz ps hn).subset (List.mem_map_of_mem hp)) _ ((wz ps hn).subset (List.mem_map_of_mem hq));exact h
theorem qq (ps:List ax):(bI ps).Pairwise fun p q=>St.dz (toP p) (toP q):=by
 have h:=(St.kP (St.gq (dy ps)) [] .nil).1;have e:(bI ps).map toP=(St.gq (dy ps)).foldl St.gS []:=adn ps;rw[<- e,List.pairwise_map]at h;exact h
theorem vd:∀ {l m:List ax},(l.Pairwise fun p q=>St.dz (toP p) (toP q))->(m.Pairwise fun p q=>St.dz (toP p) (toP q))->l.Perm m->l=m
 |[],m,_,_,h=>(List.Perm.nil_eq h)
 |p::l,[],_,_,h=>absurd h.length_eq m5
 |p::l,q::m,hl,hm,h=>by
  have hp:p∈q::m:=h.subset (aqW ..);have hq:q∈p::l:=h.symm.subset (aqW ..);have e:p=q:=by
   rcases aqp.1 hp with e|hp
   ·exact e
   ·rcases aqp.1 hq with e|hq
    ·exact e.symm
    ·have h1:=List.rel_of_pairwise_cons hl hq
     have h2:=List.rel_of_pairwise_cons hm hp;unfold St.dz toP at h1 h2;dsimp only at h1 h2;exact Kv m0 m0
  subst e;rw[vd (List.Pairwise.of_cons hl) (List.Pairwise.of_cons hm) ((List.perm_cons p).1 h)]
theorem cZ (a b:List ap)(t:Int):aD (a++b) t=aD a t++aD b t:=by unfold aD;rw[List.filter_append,aql]
theorem ajb {ps:List ax}{p:ax}(hp:p∈ps){t:Int}(h:aL p t=true):0<cO ps t:=by
 unfold cO;exact List.length_pos_of_mem (List.mem_filter.2 ⟨hp,h⟩)
theorem acw {l:List ap}{R:List (List Val)}(h:dA l R)(r:List Val):r∈R ↔ ∃ t,0<cO (bm l r) t:=by
 constructor
 ·intro hr
  obtain⟨f,hf,hv,e⟩:=(h.2 r).1 hr;have hp:f.valid∈bm l r:=aqJ.2 ⟨f,List.mem_filter.2 ⟨hf,by simp[hv,e]⟩,rfl⟩;have hV:=(xz f.valid).1 (show St.aQ (toP f.valid)=true from hv);exact⟨f.valid.lo,ajb hp ((cG hV _).2 ⟨Int.le_refl _,hV.2.1⟩)⟩
 ·rintro⟨t,ht⟩
  refine Classical.byContradiction fun hr=>?_
  rw[acW h hr]at ht;exact absurd ht (by simp[cO])
theorem adP {ps qs:List ax}(hn:ps.length<=300)(hm:qs.length<=300)(h:∀ t,cO ps t=cO qs t):bI ps=bI qs:=by
 have hc:∀ t,cO (bI ps) t=cO (bI qs) t:=fun t=>by rw[wu ps hn,wu qs hm,h]
 exact vd (qq ps) (qq qs) (Dt _ (bI ps) (bI qs) rfl (AH ps hn) (AH qs hm) (fun p hp=>(xz p).1 (iq ps hn p hp)) (fun p hp=>(xz p).1 (iq qs hm p hp)) hc)
theorem ak5 {l m:List ap}{R T:List (List Val)}(h:dA l R)(k:dA m T)(hl:l.length<=300)(hm:m.length<=300)(hp:∀ t,(aD l t).Perm (aD m t)):dw l R=dw m T:=by
 have hc:∀ r t,cO (bm l r) t=cO (bm m r) t:=fun r t=>by rw[<- rB,<- rB];exact(hp t).count_eq r
 have hR:R=T:=xH h.1 k.1 fun r=>by rw[acw h,acw k];simp only[hc]
 subst hR;unfold dw;rw[List.flatMap_def,List.flatMap_def];congr 1;refine List.map_congr_left fun r _=>?_
 rw[adP (Nat.le_trans (dY l r) hl) (Nat.le_trans (dY m r) hm) (hc r)]
noncomputable def alq (l:List ap):List (List Val):=Classical.choose (Dw l)
theorem lB (l:List ap):dA l (alq l):=(Classical.choose_spec (Dw l)).1
noncomputable def canon (l:List ap):List ap:=dw l (alq l)
theorem wl {l:List ap}{R:List (List Val)}(h:dA l R):dw l R=canon l:=by unfold canon;rw[dA.ext h (lB l)]
theorem iU {l:List ap}(hn:l.length<=300):(canon l).length<=l.length:=ajR (lB l) hn
theorem jD {l:List ap}(hn:l.length<=300)(t:Int):(aD (canon l) t).Perm (aD l t):=amj (lB l) hn t
theorem tq {l m:List ap}(hl:l.length<=300)(hm:m.length<=300)(hp:∀ t,(aD l t).Perm (aD m t)):canon l=canon m:=ak5 (lB l) (lB m) hl hm hp
theorem zF {l:List ap}(hn:l.length<=300):canon (canon l)=canon l:=tq (Nat.le_trans (iU hn) hn) hn (jD hn)
theorem th {l:List ap}(hn:l.length<=300){f:ap}(h:f∈canon l):aq f.valid=true /\ ∃ g∈l,g.row=f.row:=by
 unfold canon dw at h;obtain⟨r,hr,h⟩:=List.mem_flatMap.1 h;obtain⟨p,hp,rfl⟩:=aqJ.1 h;obtain⟨g,hg,_,e⟩:=((lB l).2 r).1 hr;exact⟨iq _ (Nat.le_trans (dY l r) hn) p hp,g,hg,e⟩
theorem bH {l:List ap}(h:bz l):bz (canon l):=by
 have hn:l.length<=300:=by have:=h.1;omega
 refine⟨Nat.le_trans (iU hn) h.1,fun f hf=>?_⟩;obtain⟨_,g,hg,e⟩:=th hn hf;rw[<- e];exact h.2 g hg
theorem k6 {l:List ap}(h:bz l):pi l=some (canon l):=by
 obtain⟨R,hR,e⟩:=acY l h;rw[e,wl hR]
theorem MX {l:List ap}(hn:l.length<=300)(hr:∀ f∈l,f.row.length<=1000000):lT l=some (canon l):=by
 obtain⟨R,hR,e,_⟩:=NR l hn hr;rw[e,wl hR]
theorem sX {l:List ap}(h:bz l):∀ f∈l,f.row.length<=1000000:=fun f hf=>by have:=(h.2 f hf).1;omega
theorem hZ {l:List ap}(h:bz l):lT l=some (canon l):=MX (by have:=h.1;omega) (sX h)
theorem rJ {l:List ap}(h:bz l):gl l l=some true:=Lp l (by have:=h.1;omega) (sX h)
structure Oa (r:a6):Prop where
 len:r.facts.length<=16
 kinds:r.kinds.length<=48
 per:∀ f∈r.facts,aq f.valid=true
 row:∀ f∈r.facts,f.row.length=r.kinds.length
 val:∀ f∈r.facts,∀ v∈f.row,vF v=true
theorem Oa.fcts {r:a6}(h:Oa r):bz r.facts:=⟨by have:=h.len;omega,fun f hf=>⟨by rw[h.row f hf];have:=h.kinds;omega,fun v hv=>(rZ (h.val f hf v hv)).vok⟩⟩
theorem OB {row:List Val}{kinds:List Int}(hk:kinds.length<=1000000):∃ b,qS row kinds=some b/\(b=true->row.length=kinds.length /\ ∀ v∈row,vF v=true):=by
 by_cases he:row.length=kinds.length
 ·obtain⟨b,hb⟩:=aeh row kinds m0
  refine⟨b,hb,fun hbt=>⟨he,?_⟩⟩;subst hbt;unfold qS at hb;rw[show decide (((row.length:Nat):Int)≠((kinds.length:Nat):Int))=false from aqb m0,ap']at hb;have key:∀ (n i:Nat),i<=row.length->row.length-i<n->(ao (fW row kinds) n (i:Int)).bind Gu=some true ->∀ v∈row.drop i,vF v=true:=by
   intro n
   induction n with
   |zero=>intro i _ h;omega
   |succ n ih =>
    intro i hi hn hb v hv;rw[ao]at hb;by_cases hlt:i<row.length
    ·obtain⟨x,hx⟩:=gol_ hlt
     obtain⟨k,hk⟩:=gol_ (l:=kinds) (i:=i) m0;have h1:fW row kinds (i:Int)=bif (!vF x)then some (.ret false)else bif decide (x.kind≠0)then bif decide (x.kind≠k)then some (.ret false)else some (.next ((i+1:Nat):Int))else some (.next ((i+1:Nat):Int)):=by
      unfold fW;dsimp only;rw[aO hx,aqa,gn_ hx,gn_ hk];simp only[ap9];rw[ia,ap9,wrapN m0]
     have hd:row.drop i=x::row.drop (i+1):=by rw[aqF hlt,(ap_.1 hx).2]
     rw[hd]at hv
     cases hvx:vF x with
     |false=>rw[h1,hvx]at hb;exact absurd (show(some false:Option Bool)=some true from hb) m9
     |true =>
      have h2:fW row kinds (i:Int)=some (.next ((i+1:Nat):Int)):=by
       rw[h1,hvx,Bool.not_true,ap']
       cases c1:decide (x.kind≠0)with
       |false=>rfl
       |true =>
        cases c2:decide (x.kind≠k)with
        |false=>rfl
        |true=>rw[h1,hvx,Bool.not_true,ap',c1,c2]at hb;exact absurd (show(some false:Option Bool)=some true from hb) m9
      rw[h2]at hb;rcases aqp.1 hv with rfl|hv
      ·exact hvx
      ·exact ih (i+1) m0 m0 hb v hv
    ·rw[List.drop_eq_nil_of_le m0]at hv;cases hv
  exact fun v hv=>key fuel 0 (aqu _) (by unfold fuel;omega) hb v (by rw[List.drop_zero];exact hv)
 ·refine⟨false,?_,fun h=>by cases h⟩
  unfold qS;rw[show decide (((row.length:Nat):Int)≠((kinds.length:Nat):Int))=true from aqc m0];rfl
theorem CB {r:a6}(hl:r.facts.length<=1000)(hk:r.kinds.length<=48):∃ b,uO r=some b/\(b=true->(∀ f∈r.facts,aq f.valid=true)/\(∀ f∈r.facts,f.row.length=r.kinds.length) /\ ∀ f∈r.facts,∀ v∈f.row,vF v=true):=by
 have key:∀ (n i:Nat),i<=r.facts.length->r.facts.length-i<n ->∃ b,(ao (fg r) n (i:Int)).bind (nz r)=some b/\(b=true ->∀ f∈r.facts.drop i,aq f.valid=true/\f.row.length=r.kinds.length /\ ∀ v∈f.row,vF v=true):=by
  intro n
  induction n with
  |zero=>intro i _ h;omega
  |succ n ih =>
   intro i hi hn;rw[ao];by_cases hlt:i<r.facts.length
   ·obtain⟨x,hx⟩:=gol_ hlt
    have hd:r.facts.drop i=x::r.facts.drop (i+1):=by rw[aqF hlt,(ap_.1 hx).2]
    obtain⟨b,hb,hb2⟩:=OB (row:=x.row) (kinds:=r.kinds) m0;have h1:fg r (i:Int)=bif !(aq x.valid)then some (.ret false)else bif !b then some (.ret false)else some (.next ((i+1:Nat):Int)):=by
     unfold fg;dsimp only;rw[aO hx,aqa,gn_ hx,ap9,l8,ap9,hb,ap9,wrapN m0]
    rw[h1]
    cases hp:aq x.valid with
    |false=>exact⟨false,rfl,fun h=>by cases h⟩
    |true =>
     cases b with
     |false=>exact⟨false,rfl,fun h=>by cases h⟩
     |true =>
      obtain⟨c,hc,hc2⟩:=ih (i+1) m0 m0;refine⟨c,hc,fun h f hf=>?_⟩;rw[hd]at hf;rcases aqp.1 hf with rfl|hf
      ·exact⟨hp,hb2 rfl⟩
      ·exact hc2 h f hf
   ·have:i=r.facts.length:=m0
    subst this;have h1:fg r ((r.facts.length:Nat):Int)=some (.exit ((r.facts.length:Nat):Int)):=by
     unfold fg;dsimp only;rw[lF_,ap']
    rw[h1];obtain⟨b,hb⟩:=afu r.kinds m0;have:∃ c,nz r (.inl ((r.facts.length:Nat):Int))=some c:=by
     unfold nz;dsimp only;rw[hb]
     cases decide ((0:Int)<((r.kinds.length:Nat):Int))<;>cases decide (((r.kinds.length:Nat):Int)<=48)<;>exact⟨_,rfl⟩
    obtain⟨c,hc⟩:=this;refine⟨c,hc,fun _ f hf=>?_⟩;rw[aq4]at hf;cases hf
 obtain⟨b,hb,hb2⟩:=key fuel 0 (aqu _) (by unfold fuel;omega);refine⟨b,hb,fun h=>?_⟩;have:=hb2 h;rw[List.drop_zero]at this;exact⟨fun f hf=>(this f hf).1,fun f hf=>(this f hf).2.1,fun f hf=>(this f hf).2.2⟩
theorem fe (p:ax)(t:Int):aL p t=true↔aq p=true/\p.lo<=t/\t<p.hi:=by
 constructor
 ·intro h
  have hv:aq p=true:=by
   have h2:St.aW (toP p) t=true:=h;unfold St.aW at h2;rw[aqr,aqr]at h2;exact h2.1.1
  obtain⟨a,b,c⟩:=hY hv;exact⟨hv,(cG ⟨a,b,c⟩ t).1 h⟩
 ·rintro⟨hv,h⟩
  obtain⟨a,b,c⟩:=hY hv;exact(cG ⟨a,b,c⟩ t).2 h
theorem kN (p:ax):aq p=true↔0<=p.lo/\p.lo<p.hi/\p.hi<=1099511627776:=by
 constructor
 ·exact hY
 ·rintro⟨a,b,c⟩
  unfold aq;rw[aqc a,aqc b,aqc c];rfl
def ovB (p q:ax):Bool:=aq p&&(aq q&&(decide (p.lo<q.hi)&&decide (q.lo<p.hi)))
theorem wO (p q:ax):ovB p q=true↔aq p=true/\aq q=true/\p.lo<q.hi/\q.lo<p.hi:=by
 unfold ovB;generalize aq p=a;generalize aq q=b;rw[aqr,aqr,aqr,decide_eq_true_iff,decide_eq_true_iff]
def akA (p q:ax):ax:=⟨max p.lo q.lo,min p.hi q.hi⟩
theorem ES {a b:Bool}(h:a=true↔b=true):a=b:=by
 cases a<;>cases b<;>simp_all
theorem LV {p q:ax}(h:ovB p q=true)(t:Int):aL (akA p q) t=(aL p t&&aL q t):=by
 obtain⟨hp,hq,h1,h2⟩:=(wO p q).1 h;have hp':=(kN p).1 hp;have hq':=(kN q).1 hq;refine ES ?_;rw[aqr,fe,fe,fe,kN,hp,hq];show((0<=max p.lo q.lo/\max p.lo q.lo<min p.hi q.hi/\min p.hi q.hi<=1099511627776)/\max p.lo q.lo<=t/\t<min p.hi q.hi)↔_;simp only[true_and];omega
theorem Jq {p q:ax}(h:ovB p q=false)(t:Int):(aL p t&&aL q t)=false:=by
 cases hc:(aL p t&&aL q t)with
 |false=>rfl
 |true =>
  rw[aqr,fe,fe]at hc;obtain⟨⟨hp,h1,h2⟩,hq,h3,h4⟩:=hc;have:ovB p q=true:=(wO p q).2 ⟨hp,hq,m0,m0⟩;rw[h]at this;cases this
def bN (r:List Val)(ps:List ax):List ap:=ps.map fun p=>⟨r,p⟩
theorem fO (f:ap)(l:List ap)(t:Int):aD (f::l) t=(if aL f.valid t=true then [f.row]else [])++aD l t:=by
 unfold aD;rw[List.filter_cons];split<;>rfl
