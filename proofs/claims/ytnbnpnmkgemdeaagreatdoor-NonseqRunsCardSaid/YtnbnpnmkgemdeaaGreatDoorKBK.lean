/- Parts. No condition. -/
import Derived.Test.YtnbnpnmkgemdeaaGreatDoorKBH
import Derived.Test.YtnbnpnmkgemdeaaGreatDoorKCB
import Derived.Test.YtnbnpnmkgemdeaaGreatDoorKCC
set_option maxHeartbeats 8000000
set_option maxRecDepth 100000
set_option linter.unusedSimpArgs false
set_option linter.unusedVariables false
namespace Go.Proofs.YtnbnpnmkgemdeaaGreatDoor
open IntKind (i64)
open Go.RowKit Go.MapKept Tryz
structure aga (p:Pl):Prop where
 ins:p.inputs.length<=1000
 rows:p.rows.length<=1000
 keys:p.keys.length<=1000
 aggs:p.aggs.length<=1000
 kinds:p.kinds.length<=1000
 exprs:p.exprs.length<=1000
 pred:du fuel p.pred
 exs:∀ e∈p.exprs,du fuel e
def wA:Nat->Pl->Prop
 |0,_=>False
 |n+1,p=>aga p /\ ∀ x∈p.inputs,wA n x
theorem m_:∀ {n m:Nat} {p:Pl},n<=m->wA n p->wA m p
 |0,_,_,_,h=>h.elim
 |n+1,0,_,h,_=>by omega
 |n+1,m+1,p,h,k=>⟨k.1,λx hx=>m_ m0 (k.2 x hx)⟩
theorem Ej (p:Pl)(m:Int)(hm:1<=m/\m<=1000)(rec:Pl->Int->Option Int)
  (Pq:∀ x∈p.inputs,∀ k:Int,1<=k->k<m ->∃ r,rec x k=some r/\1<=r/\r<=6*k+1/\(r<k->wA r.toNat x)) :
  ∀ (N i:Nat) (c:Int),1<=c->c<=6*m+1->i<=p.inputs.length->(m-c).toNat<N->(i:Int)<=c ->
   ∃ r j,af (fq p m rec) N (c,(i:Int))=some (.inl (r,j))/\c<=r/\r<=6*m+1/\(r<m->((p.inputs.length-i:Nat):Int)<=r-c /\ ∀ x∈p.inputs.drop i,wA (r-c).toNat x)
 |0,i,c,_,_,_,h,_=>by omega
 |N+1,i,c,h1,h2,hi,hN,hic=>by
  rw[af];by_cases O8:i<p.inputs.length
  .obtain⟨x,hx⟩:=gol_ O8
   have Ss:=ahX hx;by_cases hc:c<m
   .obtain⟨w,hw,w1,w2,w3⟩:=Pq x Ss (m-c) m0 m0
    have hb:fq p m rec (c,(i:Int))=some (.next (c+w,((i+1:Nat):Int))):=by
     unfold fq;dsimp only;rw[aG hx,ahT,ahV hc,ahT,gn_ hx,ahQ,aV m0,hw,ahQ,aV m0,wrapN m0]
    rw[hb];obtain⟨r,j,e1,e2,e3,e4⟩:=Ej p m hm rec Pq N (i+1) (c+w) m0 m0 m0 m0 m0;refine⟨r,j,e1,m0,e3,λhr=>?_⟩;obtain⟨f1,f2⟩:=e4 hr;refine⟨m0,λy hy=>?_⟩;rw[ail O8,(ahR.1 hx).2]at hy;obtain rfl|hy:=ah8.1 hy
    .exact m_ m0 (w3 m0)
    .exact m_ m0 (f2 y hy)
   .have hb:fq p m rec (c,(i:Int))=some (.exit (c,(i:Int))):=by
     unfold fq;dsimp only;rw[aG hx,ahT,ahU hc,ahS]
    rw[hb];exact⟨c,_,rfl,Int.le_refl _,h2,λhr=>absurd hr hc⟩
  .have:i=p.inputs.length:=m0
   subst this;have hb:fq p m rec (c,(p.inputs.length:Int))=some (.exit (c,(p.inputs.length:Int))):=by
    unfold fq;dsimp only;rw[lF_,ahS]
   rw[hb];refine⟨c,_,rfl,Int.le_refl _,h2,λhr=>⟨m0,λy hy=>?_⟩⟩;rw[aiG]at hy
   cases hy
theorem f9 (a b:Int):pe a b=min a b:=by unfold pe;split<;>omega
theorem L_:∀ (n:Nat) (p:Pl) (m:Int),1<=m->m<=1000->m<=(n:Int) ->∃ r,Ad n p m=some r/\1<=r/\r<=6*m+1/\(r<m->wA r.toNat p)
 |0,p,m,h1,_,h3=>by omega
 |n+1,p,m,h1,h2,h3=>by
  have Pq:∀ x∈p.inputs,∀ k:Int,1<=k->k<m ->∃ r,Ad n x k=some r/\1<=r/\r<=6*k+1/\(r<k->wA r.toNat x):=λx _ k k1 k2=>L_ n x k k1 m0 m0
  obtain⟨a,a1,a2,a3,a4⟩:=wS fuel p.pred m h1 h2 (by unfold fuel;omega);obtain⟨b,b1,b2,b3,b4⟩:=wS fuel (Ex.mk (0:Int) (0:Int) (⟨(0:Int),(0:Int),ByteArray.empty⟩:Val) ByteArray.empty p.exprs) m h1 h2 (by unfold fuel;omega);have q1:0<=pe (p.rows.length:Int) m/\pe (p.rows.length:Int) m<=m:=by rw[f9];omega
  have q2:0<=pe (p.keys.length:Int) m/\pe (p.keys.length:Int) m<=m:=by rw[f9];omega
  have q3:0<=pe (p.aggs.length:Int) m/\pe (p.aggs.length:Int) m<=m:=by rw[f9];omega
  have q4:0<=pe (p.kinds.length:Int) m/\pe (p.kinds.length:Int) m<=m:=by rw[f9];omega
  obtain⟨r,j,e1,e2,e3,e4⟩:=Ej p m ⟨h1,h2⟩ (Ad n) Pq fuel 0 (1+a+b+pe (p.rows.length:Int) m+pe (p.keys.length:Int) m+pe (p.aggs.length:Int) m+pe (p.kinds.length:Int) m) m0 m0 (aia _) (by unfold fuel;omega) m0;refine⟨r,?_,m0,e3,λhr=>?_⟩
  .show A7 (Ad n) p m=_
   unfold A7;rw[a1,ahQ,b1,ahQ,aV (x:=1+a) m0,aV (x:=1+a+b) m0,aV (x:=1+a+b+pe (p.rows.length:Int) m) m0,aV (x:=1+a+b+pe (p.rows.length:Int) m+pe (p.keys.length:Int) m) m0,aV (x:=1+a+b+pe (p.rows.length:Int) m+pe (p.keys.length:Int) m+pe (p.aggs.length:Int) m) m0,aV m0];rw[show((0:Nat):Int)=0 from rfl]at e1;rw[e1];rfl
  .obtain⟨f1,f2⟩:=e4 hr
   rw[List.drop_zero]at f2;obtain⟨k,hk⟩:∃ k,r.toNat=k+1:=⟨r.toNat-1,m0⟩;rw[f9]at q1 q2 q3 q4;simp only[f9]at e2 f1 f2;obtain⟨c1,c2,c3⟩:=b4 m0;have c2:(p.exprs.length:Int)<b:=c2;rw[hk];refine⟨⟨m0,m0,m0,m0,m0,m0,?_,λe he=>?_⟩,λx hx=>m_ m0 (f2 x hx)⟩
   .exact j8 (by unfold fuel;omega) (a4 m0).1
   .exact j8 (by unfold fuel;omega) (c3 e he)
theorem w9 (p:Pl)(m:Int)(hm:1<=m/\m<=1000)(B:Int)(hB:B<=4611686018427387904)(rec:Pl->Option Int)(TY:Pl->Int->Option Int)
  (Pq:∀ x∈p.inputs,∃ d,rec x=some d/\1<=d/\d<=B/\TY x (m-1)=some (min d m)) (hlen:p.inputs.length<=100000) :
  ∀ (N i:Nat) (a:Int),0<=a->a<=max 0 B->i<=p.inputs.length->p.inputs.length-i<N ->
   ∃ r,af (dc p rec) N (a,(i:Int))=some (.inl (r,(p.inputs.length:Int)))/\af (dW p m TY) N (min a m,(i:Int))=some (.inl (min r m,(p.inputs.length:Int)))/\0<=r/\r<=max 0 B
 |0,i,a,_,_,_,h=>by omega
 |N+1,i,a,h1,h2,hi,hN=>by
  rw[af,af];by_cases O8:i<p.inputs.length
  .obtain⟨x,hx⟩:=gol_ O8
   obtain⟨d,e1,e2,e3,e4⟩:=Pq x (ahX hx);have hb:dc p rec (a,(i:Int))=some (.next (max a d,((i+1:Nat):Int))):=by
    unfold dc;dsimp only;rw[aG hx,ahT,gn_ hx,ahQ,e1,ahQ,wrapN m0];congr 3;unfold wZ;split<;>omega
   have Pe:dW p m TY (min a m,(i:Int))=some (.next (min (max a d) m,((i+1:Nat):Int))):=by
    unfold dW;dsimp only;rw[aG hx,ahT,gn_ hx,ahQ,aV m0,e4,ahQ,wrapN m0];congr 3;unfold wZ;split<;>omega
   rw[hb,Pe];exact w9 p m hm B hB rec TY Pq hlen N (i+1) (max a d) m0 m0 m0 m0
  .have:i=p.inputs.length:=m0
   subst this;have hb:dc p rec (a,(p.inputs.length:Int))=some (.exit (a,(p.inputs.length:Int))):=by
    unfold dc;dsimp only;rw[lF_,ahS]
   have Pe:dW p m TY (min a m,(p.inputs.length:Int))=some (.exit (min a m,(p.inputs.length:Int))):=by
    unfold dW;dsimp only;rw[lF_,ahS]
   rw[hb,Pe];exact⟨a,rfl,rfl,h1,h2⟩
theorem w_:∀ (n:Nat) (p:Pl),n<=4611686018427387904->wA n p ->∃ d,lc n p=some d/\1<=d/\d<=(n:Int) /\ ∀ m:Int,0<=m->m<=1000->n3 n p m=some (min d (m+1))
 |0,_,_,h=>h.elim
 |n+1,p,hn,h=>by
  have hlen:p.inputs.length<=100000:=by have:=h.1.ins;omega
  have hd:∃ r,(∀ m:Int,1<=m->m<=1000->af (dW p m (n3 n)) fuel (0,0)=some (.inl (min r m,(p.inputs.length:Int))))/\af (dc p (lc n)) fuel (0,0)=some (.inl (r,(p.inputs.length:Int)))/\0<=r/\r<=max 0 (n:Int):=by
   have key:∀ m:Int,1<=m->m<=1000->_:=λm h1 h2=>w9 p m ⟨h1,h2⟩ (n:Int) m0 (lc n) (n3 n) (by
    intro x hx;obtain⟨d,e1,e2,e3,e4⟩:=w_ n x m0 (h.2 x hx);exact⟨d,e1,e2,e3,by rw[e4 (m-1) m0 m0,show m-1+1=m by omega]⟩) hlen fuel 0 0 (Int.le_refl _) m0 (aia _) (by unfold fuel;omega)
   obtain⟨r,e1,e2,e3,e4⟩:=key 1 m0 m0;refine⟨r,λm h1 h2=>?_,e1,e3,e4⟩;obtain⟨r',f1,f2,f3,f4⟩:=key m h1 h2;have:r'=r:=by
    rw[e1]at f1;have:=aim f1;injection this with this
    injection this with this _
    exact this.symm
   subst this;rw[show min (0:Int) m=0 by omega]at f2;exact f2
  obtain⟨r,k1,k2,k3,k4⟩:=hd;refine⟨r+1,?_,m0,m0,λm h1 h2=>?_⟩
  .show np (lc n) p=_
   unfold np;rw[k2];show some (i64.wrap (r+1))=_;rw[aV m0]
  .show pJ (n3 n) p m=_
   unfold pJ;by_cases hm:m<=0
   .rw[ahV hm,ahT]
    congr 1;omega
   .rw[ahU hm,ahS,k1 m m0 h2]
    show some (i64.wrap (min r m+1))=_;rw[aV m0];congr 1;omega
theorem vS {σ α τ ρ:Type}{l:List α}(PX:σ->Nat->τ){body:τ->Option (Step τ ρ)}(f:σ->α->σ)(P:σ->Nat->Prop)(h1:∀ (s:σ) (i:Nat) (x:α),l[i]?=some x->P s i->body (PX s i)=some (.next (PX (f s x) (i+1)))/\P (f s x) (i+1))(h2:∀ s,P s l.length->body (PX s l.length)=some (.exit (PX s l.length))):∀ (n i:Nat) (s:σ),i<=l.length->l.length-i<n->P s i->af body n (PX s i)=some (.inl (PX ((l.drop i).foldl f s) l.length))/\P ((l.drop i).foldl f s) l.length
 |0,i,s,_,h,_=>by omega
 |n+1,i,s,hi,hn,hP=>by
  rw[af];by_cases O8:i<l.length
  .obtain⟨x,hx⟩:=gol_ O8
   obtain⟨e1,e2⟩:=h1 s i x hx hP;have ih:=vS PX f P h1 h2 n (i+1) (f s x) m0 m0 e2;rw[e1,ail O8,(ahR.1 hx).2,aiC];exact ih
  .have:i=l.length:=m0
   subst this;rw[h2 s hP,aiG];exact⟨rfl,hP⟩
theorem af' (row:List Val)(i:Int):qo row i=E4 row i:=rfl
theorem Ot (row:List Val){l:List Int}(hl:l.length<=100000):yB row l=some (a_ row l):=by
 unfold yB;rw[bX (l:=l) (λk=>[E4 row k]) 4398046511104 ?_ ?_ (by unfold fuel;omega) [] (by rw[fo_];simp;omega)]
 .rw[ahQ,ahW,fo_];rfl
 .intro s i x hx hs
  have hi:=(ahR.1 hx).1;unfold rl;dsimp only;rw[aG hx,ahT,gn_ hx,ahQ,L8,ahQ,af',wrapN m0,ahV (show s.length+1<=4398046511104 from hs),ahT]
 .intro s
  unfold rl;dsimp only;rw[lF_,ahS]
def inB (v:Val):Prop := -1125899906842624<=v.int/\v.int<=1125899906842624
theorem aen {v:Val}(h:vF v=true):inB v:=by
 have:=(oT h).int;unfold inB;omega
theorem N4 (s:Int×Int):vO s=E_ s:=by
 unfold vO E_;rw[show jI=(⟨0,0,ByteArray.empty⟩:Val)from rfl];generalize i64.wrap (uP (i64.wrap (s.1+jj s.2))+Bh s.2)=n
 cases (bif decide (i64.wrap (s.1+jj s.2) < -2147483648)then true else decide (2147483648<i64.wrap (s.1+jj s.2)))with
 |true=>rfl
 |false =>
  rw[ahS,ahS];unfold iw;by_cases h1:n < -1125899906842624
  .rw[ahV h1,ahT,ahT,if_neg m0]
  .rw[ahU h1,ahS]
   by_cases h2:1125899906842624<n
   .rw[ahV h2,ahT,if_neg m0]
   .rw[ahU h2,ahS]
theorem acm {l:List Val}(hl:l.length<=1000000)(hv:∀ v∈l,inB v):Cj l=iw (vg l):=by
 unfold Cj;rw[N4];exact M5 l hl hv
theorem zb (arg:Int)(rows:List (List Val)):mP arg rows=rows.flatMap (dj arg []):=by
 have:∀ (rows:List (List Val)) (acc:List Val),rows.foldl (dj arg) acc=acc++rows.flatMap (dj arg []):=by
  intro rows
  induction rows with
  |nil=>intro acc;simp
  |cons r rows ih =>
   intro acc;rw[aiC,ih,ais,<- aig];congr 1;unfold dj
   cases decide (arg<(r.length:Int))with
   |false=>simp
   |true =>
    simp only[ahT]
    cases r[arg.toNat]? with
    |none=>simp
    |some v =>
     dsimp only
     cases decide (v.kind≠0)with
     |false=>rw[ahS,ahS,aio]
     |true=>rw[ahT,ahT];rfl
 have:=this rows [];simpa[mP]using this
theorem adE {arg:Int}{rows:List (List Val)}{v:Val}(h:v∈mP arg rows):∃ r∈rows,v∈r:=by
 rw[zb]at h;obtain⟨r,hr,hv⟩:=List.mem_flatMap.1 h;refine⟨r,hr,?_⟩;unfold dj at hv
 cases h1:decide (arg<(r.length:Int))with
 |false=>rw[h1]at hv;cases hv
 |true =>
  rw[h1,ahT]at hv
  cases h2:r[arg.toNat]? with
  |none=>rw[h2]at hv;cases hv
  |some w =>
   rw[h2]at hv;simp only at hv
   cases h3:decide (w.kind≠0)with
   |false=>rw[h3]at hv;cases hv
   |true=>rw[h3,ahT]at hv;simp at hv;subst hv;exact ahX h2
theorem abv (x:Int)(h : -1125899906842624<=x/\x<=1125899906842624): -1073741824<=x.tdiv 1048576/\x.tdiv 1048576<=1073741824 /\ -1048576<x.tmod 1048576/\x.tmod 1048576<1048576:=by
 have h1:=Int.tmod_add_mul_tdiv x 1048576;have h2:=Int.tmod_lt_of_pos x (show(0:Int)<1048576 by omega);have h3:=Int.lt_tmod_of_pos x (show(0:Int)<1048576 by omega);omega
theorem Ia {l:List Val}(hl:l.length<=1000)(hv:∀ v∈l,inB v):(af (fx l) fuel ((0:Int),(0:Int),(0:Int))).bind nw=some (iw (vg l)):=by
 have h1:∀ (s:Int×Int) (i:Nat) (x:Val),l[i]?=some x->(i<=l.length/\(-1073741824*(i:Int)<=s.1/\s.1<=1073741824*(i:Int)) /\ -1048576*(i:Int)<=s.2/\s.2<=1048576*(i:Int))->fx l (s.1,s.2,((i:Nat):Int))=some (.next ((lP s x).1,(lP s x).2,((i+1:Nat):Int)))/\(i+1<=l.length/\(-1073741824*((i+1:Nat):Int)<=(lP s x).1/\(lP s x).1<=1073741824*((i+1:Nat):Int)) /\ -1048576*((i+1:Nat):Int)<=(lP s x).2/\(lP s x).2<=1048576*((i+1:Nat):Int)):=by
  intro s i x hx hP;obtain⟨h0,⟨p1,p2⟩,p3,p4⟩:=hP;have hi:=(ahR.1 hx).1;obtain⟨d1,d2,d3,d4⟩:=abv x.int (hv x (ahX hx));refine⟨?_,m0,?_,?_⟩
  .unfold fx lP
   dsimp only;rw[aG hx,ahT,gn_ hx,ahQ,show decide ((1048576:Int)≠0)=true from rfl,ahT,ahT,aV (x:=x.int.tdiv 1048576) m0,aV (x:=s.1+x.int.tdiv 1048576) m0,aV (x:=s.2+x.int.tmod 1048576) m0,wrapN m0]
  .unfold lP;simp only;omega
  .unfold lP;simp only;omega
 have h2:∀ s:Int×Int,fx l (s.1,s.2,(l.length:Int))=some (.exit (s.1,s.2,(l.length:Int))):=by
  intro s;unfold fx;dsimp only;rw[lF_,ahS]
 have H:=vS (l:=l) (λ(s:Int×Int) (i:Nat)=>(s.1,s.2,((i:Nat):Int))) (body:=fx l) lP (λs i=>i<=l.length/\(-1073741824*(i:Int)<=s.1/\s.1<=1073741824*(i:Int)) /\ -1048576*(i:Int)<=s.2/\s.2<=1048576*(i:Int)) h1 (λs _=>h2 s) fuel 0 (0,0) (aia _) (by unfold fuel;omega) ⟨aia _,m5,m5⟩;rw[List.drop_zero]at H;obtain⟨e,hP⟩:=H;have WS:=AB l (0,0);generalize l.foldl lP (0,0)=s at e hP WS;obtain⟨a,b⟩:=s;obtain⟨_,⟨p1,p2⟩,p3,p4⟩:=hP;simp only at p1 p2 p3 p4 WS;have ZE:(l.length:Int)<=1000:=m0
 have e2:af (fx l) fuel ((0:Int),(0:Int),(0:Int))=some (.inl (a,b,(l.length:Int))):=e;rw[e2,ahQ];have hd:=Int.tmod_add_mul_tdiv b 1048576;have X1:=Int.tmod_lt_of_pos b (show(0:Int)<1048576 by omega);have hd3:=Int.lt_tmod_of_pos b (show(0:Int)<1048576 by omega);have hs2:(a+b.tdiv 1048576)*1048576+b.tmod 1048576=vg l:=m0
 unfold nw;dsimp only;rw[show decide ((1048576:Int)≠0)=true from rfl,ahT,ahT,aV (x:=b.tdiv 1048576) m0,aV (x:=a+b.tdiv 1048576) m0];by_cases h1:1099511627776<a+b.tdiv 1048576
 .rw[ahV h1,ahT,bJ]
  unfold iw;rw[if_neg m0];rfl
 .rw[ahU h1,ahS]
  by_cases h2:a+b.tdiv 1048576 < -1099511627776
  .rw[ahV h2,ahT,bJ]
   unfold iw;rw[if_neg m0];rfl
  .rw[ahU h2,ahS,aV (x:=(a+b.tdiv 1048576)*1048576) m0,hs2,aV m0,t8];rfl
theorem F5 (a:Ag)(x:Val){l:List Val}(hl:l.length<=1000):(af (fr a (x::l)) fuel (x.kind,x.int,x.text,(1:Int))).bind m6=some ((x::l).foldl (bW a.op) x):=by
 have h1:∀ (s:Val) (i:Nat) (y:Val),(x::l)[i]?=some y->True->fr a (x::l) (s.kind,s.int,s.text,((i:Nat):Int))=some (.next ((bW a.op s y).kind,(bW a.op s y).int,(bW a.op s y).text,((i+1:Nat):Int)))/\True:=by
  intro s i y hx _;refine⟨?_,t7⟩;have hi:=(ahR.1 hx).1;rw[aib]at hi;unfold fr bW;dsimp only;rw[aG hx,ahT,gn_ hx,ahQ,uB,ahQ,wrapN m0];by_cases h3:a.op=3
  .rw[ahV h3,ahU (show ¬ a.op=4 by omega)]
   cases decide (jl y s<0)<;>rfl
  .rw[ahU h3]
   cases decide (a.op=4)<;>cases decide (0<jl y s)<;>rfl
 have h2:∀ s:Val,fr a (x::l) (s.kind,s.int,s.text,(((x::l).length:Nat):Int))=some (.exit (s.kind,s.int,s.text,(((x::l).length:Nat):Int))):=by
  intro s;unfold fr;dsimp only;rw[lF_,ahS]
 have H:=vS (l:=x::l) (λ(s:Val) (i:Nat)=>(s.kind,s.int,s.text,((i:Nat):Int))) (body:=fr a (x::l)) (bW a.op) (λ_ _=>True) h1 (λs _=>h2 s) fuel 1 x m5 (by rw[aib];unfold fuel;omega) trivial;have e2:af (fr a (x::l)) fuel (x.kind,x.int,x.text,(1:Int))=some (.inl _):=H.1;rw[e2,ahQ];unfold m6;dsimp only;have Z6:bW a.op x x=x:=by
  unfold bW
  cases (bif (bif decide (a.op=3)then decide (jl x x<0)else false)then true else(bif decide (a.op=4)then decide (0<jl x x)else false))<;>rfl
 rw[aiC,Z6];rfl
theorem MS {rows:List (List Val)}{a:Ag}(hl:rows.length<=1000)(hr:∀ r∈rows,a.arg<(r.length:Int))(hv:∀ r∈rows,∀ v∈r,inB v):zq rows a=some (cT a.op a.arg rows):=by
 unfold zq cT
 cases h0:decide (a.arg<0)with
 |true=>rw[ahT,ahT,t8];rfl
 |false =>
  have hneg:=of_decide_eq_false h0;have Tj:=FV a.arg rows;rw[ahS,ahS,bX (l:=rows) (dj a.arg []) 1000000 ?_ ?_ (by unfold fuel;omega) [] (by rw[<- zb];simp only[aik];omega)]
  .rw[ahQ,ahW,<- zb]
   have Sl:∀ v∈mP a.arg rows,inB v:=λv h=>by obtain⟨r,h1,h2⟩:=adE h;exact hv r h1 v h2
   unfold sf;dsimp only
   cases h1:decide (a.op=1)with
   |true=>rw[ahT,ahT,t8];rfl
   |false =>
    rw[ahS,ahS];generalize mP a.arg rows=C at Tj Sl
    cases C with
    |nil=>rw[show decide (((([]:List Val).length:Nat):Int)=0)=true from rfl,ahT,bJ];rfl
    |cons x l =>
     rw[ahU (show ¬ (((x::l).length:Nat):Int)=0 by rw[aib];omega),ahS];simp only
     cases h2:decide (a.op=2)with
     |true=>rw[ahT,ahT,Ia m0 Sl,acm m0 Sl]
     |false =>
      rw[ahS,ahS,show al (x::l) (0:Int)=some x from rfl,ahQ];exact F5 a x (by rw[aib]at Tj;omega)
  .intro s i x hx hs
   have hi:=(ahR.1 hx).1;have WJ:=hr x (ahX hx);obtain⟨v,Vt⟩:=gol_ (show a.arg.toNat<x.length by omega);have hg:al x a.arg=some v:=by
    have:=gn_ Vt;rwa[show(a.arg.toNat:Int)=a.arg by omega]at this
   unfold q_;dsimp only;unfold dj at hs ⊢;rw[ahV WJ,ahT,Vt]at hs ⊢;simp only at hs ⊢;rw[aG hx,ahT,gn_ hx,ahQ,hg,ahQ,wrapN m0]
   cases hk:decide (v.kind≠0)with
   |false=>simp
   |true =>
    rw[hk,ahT]at hs;rw[ahT,ahT,ahV (show s.length+1<=4398046511104 by simp at hs;omega),ahT];rfl
  .intro s
   unfold q_;dsimp only;rw[lF_,ahS]
theorem Dj {key:List Val}{rows:List (List Val)}{l:List Ag}(hk:key.length<=1000)(hl:l.length<=1000)(hn:rows.length<=1000)(hr:∀ a∈l,∀ r∈rows,a.arg<(r.length:Int))(hv:∀ r∈rows,∀ v∈r,inB v):vX key rows l=some (key++l.map λa=>cT a.op a.arg rows):=by
 unfold vX;rw[ahV (show key.length<=4398046511104 by omega),ahT,bX (l:=l) (λa=>[cT a.op a.arg rows]) 4398046511104 ?_ ?_ (by unfold fuel;omega) key (by rw[fo_,ah3];omega)]
 .rw[ahQ,fo_];rfl
 .intro s i x hx hs
  have hi:=(ahR.1 hx).1;unfold rM;dsimp only;rw[aG hx,ahT,gn_ hx,ahQ,MS hn (hr x (ahX hx)) hv,ahQ,wrapN m0,ahV (show s.length+1<=4398046511104 from hs),ahT]
 .intro s
  unfold rM;dsimp only;rw[lF_,ahS]
def si (k:aN):KR:=(k.key,k.row)
theorem Dv {α:Type}(y:α)(b:List α):gE (y::b) (1:Int) (((y::b).length:Nat):Int)=some b:=by
 have h:∀ (l:List α) (a c:Int),0<=a->a<=c->c<=(l.length:Nat)->gE l a c=some ((l.take c.toNat).drop a.toNat):=λl a c h1 h2 h3=>by
  unfold gE;simp[h1,h2,h3]
 rw[h _ _ _ m0 (by rw[aib];omega) m0];simp
theorem adL {α:Type}(l:List α)(c:Nat)(h:c<=l.length):gE l (0:Int) ((c:Nat):Int)=some (l.take c):=by
 unfold gE;simp[h]
theorem acG {α:Type}(l:List α)(c:Nat)(h:c<=l.length):gE l ((c:Nat):Int) (l.length:Int)=some (l.drop c):=by
 unfold gE;simp[h]
theorem we {σ ρ:Type}{body:σ->Option (Step σ ρ)}{s t:σ}(h:body s=some (.exit t)):∀ n,0<n->af body n s=some (.inl t)
 |0,hn=>absurd hn m0
 |n+1,_=>by rw[af,h]
theorem sY:∀ (n:Nat) (a b out:List aN),a.length+b.length<n->out.length+a.length+b.length<=1000->(∀ x∈a,x.key.length<=1000000)->(∀ x∈b,x.key.length<=1000000) ->∃ r,(af fk n (a,b,out)).bind dy=some r/\r.map si=out.map si++Bj (a.map si) (b.map si)
 |0,a,b,out,h,_,_,_=>by omega
 |n+1,[],b,out,h,hl,ha,hb=>by
  have e:fk ([],b,out)=some (.exit ([],b,out)):=rfl;rw[af,e];refine⟨out++[]++b,?_,by simp[Bj]⟩;show dy (.inl ([],b,out))=_;unfold dy;dsimp only;simp only[aik]at hl;rw[ahV (show out.length+([]:List aN).length<=2932031007402 by simp;omega),ahT,ahV (show out.length+([]:List aN).length+b.length<=2932031007402 by simp;omega),ahT]
 |n+1,x::a,[],out,h,hl,ha,hb=>by
  have e:fk (x::a,[],out)=some (.exit (x::a,[],out)):=by
   unfold fk;dsimp only;rw[ahV (show(0:Int)<(((x::a).length:Nat):Int)by rw[aib];omega),ahT];rfl
  rw[af,e];refine⟨out++(x::a)++[],?_,by simp[ug]⟩;show dy (.inl (x::a,[],out))=_;unfold dy;dsimp only;simp only[aib,aik]at hl;rw[ahV (show out.length+(x::a).length<=2932031007402 by rw[aib];omega),ahT,ahV (show out.length+(x::a).length+([]:List aN).length<=2932031007402 by simp;omega),ahT]
 |n+1,x::a,y::b,out,h,hl,ha,hb=>by
  simp only[aib]at h hl;have hx:=ha x m5;have hy:=hb y m5;have e:fk (x::a,y::b,out)=bif decide (aX y.key x.key<0)then some (.next (x::a,b,out++[y]))else some (.next (a,y::b,out++[x])):=by
   unfold fk;dsimp only;rw[ahV (show(0:Int)<(((x::a).length:Nat):Int)by rw[aib];omega),ahT,ahV (show(0:Int)<(((y::b).length:Nat):Int)by rw[aib];omega),ahT,show al (y::b) (0:Int)=some y from rfl,ahQ,show al (x::a) (0:Int)=some x from rfl,ahQ,ni _ _ m0 m0,ahQ,ahV (show out.length+1<=2932031007402 by omega),ahT,ahT,Dv,Dv];rfl
  rw[af,e];rw[ah2,ah2,rc];by_cases hc:aX y.key x.key<0
  .rw[ahV hc,if_pos (show aX (si y).1 (si x).1<0 from hc)]
   obtain⟨r,h1,h2⟩:=sY n (x::a) b (out++[y]) (by simp only[aib];omega) (by simp only[aib,ahZ,aik];omega) ha (λz hz=>hb z (by simp[hz]));exact⟨r,h1,by rw[h2];simp⟩
  .rw[ahU hc,if_neg (show ¬ aX (si y).1 (si x).1<0 from hc)]
   obtain⟨r,h1,h2⟩:=sY n a (y::b) (out++[x]) (by simp only[aib];omega) (by simp only[aib,ahZ,aik];omega) (λz hz=>ha z (by simp[hz])) hb;exact⟨r,h1,by rw[h2];simp⟩
theorem MA {l r:List aN}(hp:(r.map si).Perm (l.map si))(h:∀ x∈l,x.key.length<=1000000):∀ x∈r,x.key.length<=1000000:=by
 intro x hx;have:si x∈l.map si:=hp.mem_iff.1 (List.mem_map_of_mem hx);obtain⟨y,hy,e⟩:=aip.1 this;have e1:y.key=x.key:=congrArg Prod.fst e;rw[<- e1];exact h y hy
theorem wE:∀ (n:Nat) (l:List aN),0<n->l.length<=n->n<=1000->(∀ x∈l,x.key.length<=1000000) ->∃ r,wP n l=some r/\r.map si=vE n (l.map si)
 |0,_,h,_,_,_=>absurd h m0
 |n+1,l,_,hl,hn,hk=>by
  unfold wP yo vE;by_cases h2:l.length<2
  .rw[ahV (show(l.length:Int)<2 by omega),if_pos (by rw[ah3];exact h2)]
   exact⟨l,rfl,rfl⟩
  .have hw:i64.wrap ((l.length:Int).tdiv 2)=((l.length/2:Nat):Int):=by
    rw[aV]
    .rw[Int.tdiv_eq_ediv_of_nonneg m0];omega
    .rw[Int.tdiv_eq_ediv_of_nonneg m0];omega
   rw[ahU (show ¬ (l.length:Int)<2 by omega),ahS,if_neg (by rw[ah3];exact h2),show decide ((2:Int)≠0)=true from rfl,ahT,hw,adL l _ m0,ahQ];obtain⟨r1,a1,a2⟩:=wE n (l.take (l.length/2)) m0 (by rw[aiD];omega) m0 (λx hx=>hk x (List.mem_of_mem_take hx));obtain⟨r2,b1,b2⟩:=wE n (l.drop (l.length/2)) m0 (by rw[List.length_drop];omega) m0 (λx hx=>hk x (List.mem_of_mem_drop hx));have p1:=(rA n ((l.take (l.length/2)).map si) (by rw[ah3,aiD];omega)).2.1;have p2:=(rA n ((l.drop (l.length/2)).map si) (by rw[ah3,List.length_drop];omega)).2.1;rw[<- a2]at p1;rw[<- b2]at p2;have l1:=p1.length_eq;have l2:=p2.length_eq;simp only[ah3,aiD,List.length_drop]at l1 l2;rw[a1,ahQ,ahT,acG l _ m0,ahQ,b1,ahQ];obtain⟨r,c1,c2⟩:=sY fuel r1 r2 [] (by unfold fuel;omega) (by simp only[aik];omega) (MA p1 λx hx=>hk x (List.mem_of_mem_take hx)) (MA p2 λx hx=>hk x (List.mem_of_mem_drop hx));refine⟨r,c1,?_⟩;rw[c2,a2,b2,ah6,ahW,ah3,List.map_take,List.map_drop]
theorem HV {A:List aN}{i:Nat}{x:aN}(hx:A[i]?=some x)(hA:∀ y∈A,y.key.length<=1000000)(hl:A.length<=1000):∀ (n k:Nat) (rows:List (List Val)),k<=A.length->A.length-k<n->rows.length<=k->af (eY A (i:Int)) n (rows,(k:Int))=some (.inl (rows++((A.drop k).takeWhile λp=>decide (p.key=x.key)).map aN.row,((k+((A.drop k).takeWhile λp=>decide (p.key=x.key)).length:Nat):Int)))
 |0,k,rows,_,h,_=>by omega
 |n+1,k,rows,hk,hn,hr=>by
  rw[af];by_cases O8:k<A.length
  .obtain⟨y,hy⟩:=gol_ O8
   have hb:eY A (i:Int) (rows,(k:Int))=bif decide (y.key=x.key)then some (.next (rows++[y.row],((k+1:Nat):Int)))else some (.exit (rows,(k:Int))):=by
    unfold eY;dsimp only;rw[aG hy,ahT,gn_ hy,ahQ,gn_ hx,ahQ,lO _ _ (hA y (ahX hy)) (hA x (ahX hx)),ahQ,ahV (show rows.length+1<=5864062014805 by omega),ahT,wrapN m0]
   rw[hb,ail O8,(ahR.1 hy).2];by_cases he:y.key=x.key
   .rw[ahV he,List.takeWhile_cons_of_pos (p:=λp:aN=>decide (p.key=x.key)) (a:=y) (by simpa using he),ah2,aib]
    show af _ n _=_;rw[HV hx hA hl n (k+1) _ m0 m0 m8,aig];congr 3;omega
   .rw[ahU he,List.takeWhile_cons_of_neg (p:=λp:aN=>decide (p.key=x.key)) (a:=y) (by simpa using he)]
    show some (Sum.inl (rows,(k:Int)))=_;simp
  .have:k=A.length:=m0
   subst this;have hb:eY A (i:Int) (rows,(A.length:Int))=some (.exit (rows,(A.length:Int))):=by
    unfold eY;dsimp only;rw[lF_,ahS]
   rw[hb,aiG];simp
theorem abw (k:List Val):∀ l:List aN,((l.takeWhile λp=>decide (p.key=k)).map aN.row=((l.map si).takeWhile λp=>decide (p.1=k)).map (·.2))/\(l.drop (l.takeWhile λp=>decide (p.key=k)).length).map si=(l.map si).dropWhile λp=>decide (p.1=k)
 |[]=>⟨rfl,rfl⟩
 |x::l=>by
  have ih:=abw k l;rw[ah2];by_cases e:x.key=k
  .rw[List.takeWhile_cons_of_pos (p:=λp:aN=>decide (p.key=k)) (a:=x) (ahV e),List.takeWhile_cons_of_pos (p:=λp:KR=>decide (p.1=k)) (a:=si x) (ahV (show(si x).1=k from e)),List.dropWhile_cons_of_pos (p:=λp:KR=>decide (p.1=k)) (a:=si x) (ahV (show(si x).1=k from e)),aib,List.drop_succ_cons,ah2,ah2,ih.1]
   exact⟨rfl,ih.2⟩
  .rw[List.takeWhile_cons_of_neg (p:=λp:aN=>decide (p.key=k)) (a:=x) (λh=>e (aii h)),List.takeWhile_cons_of_neg (p:=λp:KR=>decide (p.1=k)) (a:=si x) (λh=>e (aii h)),List.dropWhile_cons_of_neg (p:=λp:KR=>decide (p.1=k)) (a:=si x) (λh=>e (aii h))]
   exact⟨rfl,rfl⟩
def vZ (aggs:List Ag)(p:List Val×List (List Val)):List Val:=p.1++aggs.map λa=>cT a.op a.arg p.2
theorem zV {A:List aN}{aggs:List Ag}{r1:List Int×Int}(hl:A.length<=700)(hA:∀ y∈A,y.key.length<=48)(S1:aggs.length<=48)(QZ:∀ a∈aggs,∀ y∈A,a.arg<(y.row.length:Int))(hv:∀ y∈A,∀ v∈y.row,inB v):∀ (n i:Nat) (c:List (List Val)),i<=A.length->A.length-i<n->c.length<=i->(∀ r∈c,r.length<=1000) ->
  (af (fb aggs A) n (c,(i:Int))).bind (gJ r1)=some ⟨r1.1,aH (c++(runs n ((A.drop i).map si)).map (vZ aggs))⟩
 |0,i,c,_,h,_,_=>by omega
 |n+1,i,c,hi,hn,hc,T9=>by
  rw[af];by_cases O8:i<A.length
  .obtain⟨x,hx⟩:=gol_ O8
   have ex:=(ahR.1 hx).2;have hA2:∀ y∈A,y.key.length<=1000000:=λy hy=>by have:=hA y hy;omega
   have S_:=HV hx hA2 m0 fuel i [] (Nat.le_of_lt O8) (by unfold fuel;omega) (aia _);rw[ahW]at S_;have hd:A.drop i=x::A.drop (i+1):=by rw[ail O8,ex]
   have htw:=abw x.key (A.drop (i+1));have hR:((A.drop i).takeWhile λp=>decide (p.key=x.key)).map aN.row=x.row::(((A.drop (i+1)).map si).takeWhile λp=>decide (p.1=x.key)).map (·.2):=by
    rw[hd,List.takeWhile_cons_of_pos (p:=λp:aN=>decide (p.key=x.key)) (a:=x) m5,ah2,htw.1]
   have hL:((A.drop i).takeWhile λp=>decide (p.key=x.key)).length=((A.drop (i+1)).takeWhile λp=>decide (p.key=x.key)).length+1:=by
    rw[hd,List.takeWhile_cons_of_pos (p:=λp:aN=>decide (p.key=x.key)) (a:=x) m5,aib]
   have hRl:(((A.drop i).takeWhile λp=>decide (p.key=x.key)).map aN.row).length<=A.length:=by
    rw[ah3];have:=(List.takeWhile_sublist (l:=A.drop i) λp:aN=>decide (p.key=x.key)).length_le;rw[List.length_drop]at this;omega
   have hRm:∀ r∈((A.drop i).takeWhile λp=>decide (p.key=x.key)).map aN.row,∃ y∈A,y.row=r:=λr hr=>by
    obtain⟨y,hy,e⟩:=aip.1 hr;exact⟨y,List.mem_of_mem_drop ((List.takeWhile_sublist _).subset hy),e⟩
   have RE:i+((A.drop i).takeWhile λp=>decide (p.key=x.key)).length<=A.length:=by
    have:=(List.takeWhile_sublist (l:=A.drop i) λp:aN=>decide (p.key=x.key)).length_le;rw[List.length_drop]at this;omega
   have hone:=Dj (key:=x.key) (rows:=((A.drop i).takeWhile λp=>decide (p.key=x.key)).map aN.row) (l:=aggs) (by have:=hA x (ahX hx);omega) m0 m0 (λa ha r hr=>by obtain⟨y,hy,e⟩:=hRm r hr;rw[<- e];exact QZ a ha y hy) (λr hr=>by obtain⟨y,hy,e⟩:=hRm r hr;rw[<- e];exact hv y hy);have hb:fb aggs A (c,(i:Int))=some (.next (c++[vZ aggs (x.key,x.row::(((A.drop (i+1)).map si).takeWhile λp=>decide (p.1=x.key)).map (·.2))],((i+(((A.drop (i+1)).takeWhile λp=>decide (p.key=x.key)).length+1):Nat):Int))):=by
    unfold fb;dsimp only;rw[aG hx,ahT,S_,ahQ];unfold gQ;dsimp only;rw[gn_ hx,ahQ,hone,ahQ,ahV (show c.length+1<=5864062014805 by omega),ahT,hR,hL];rfl
   rw[hb];show(af _ n _).bind _=_;rw[zV hl hA S1 QZ hv n _ _ m0 m0 m8 (λr hr=>?_)]
   .have ZM:(A.drop (i+(((A.drop (i+1)).takeWhile λp=>decide (p.key=x.key)).length+1))).map si=((A.drop (i+1)).map si).dropWhile λp=>decide (p.1=x.key):=by
     rw[<- htw.2,List.drop_drop];congr 2;omega
    rw[ZM,hd,ah2,aig];rfl
   .obtain hr|hr:=aih.1 hr
    .exact T9 r hr
    .rw[List.mem_singleton]at hr
     have:=hA x (ahX hx);rw[hr];unfold vZ;rw[ahZ,ah3];show x.key.length+_<=_;omega
  .have:i=A.length:=m0
   subst this;have hb:fb aggs A (c,(A.length:Int))=some (.exit (c,(A.length:Int))):=by
    unfold fb;dsimp only;rw[lF_,ahS]
   rw[hb,aiG];show gJ r1 (.inl (c,(A.length:Int)))=_;unfold gJ;dsimp only;rw[dI _ m0 (λr hr=>by have:=T9 r hr;omega)];have:(runs (n+1) (([]:List aN).map si)).map (vZ aggs)=[]:=rfl;rw[this,aio];rfl
def i_ (keys:List Int)(aggs:List Ag)(rows:List (List Val)):List (List Val):=aH ((dN [] (rows.map λr=>a_ r keys)).map λk=>vZ aggs (k,rows.filter λr=>decide (a_ r keys=k)))
theorem Il (keys:List Int)(aggs:List Ag){rows:List (List Val)}{n m:Nat}(hn:rows.length<=n)(hm:rows.length<=m):aH ((runs m (vE n (rows.map λr=>(a_ r keys,r)))).map (vZ aggs))=i_ keys aggs rows:=by
 obtain⟨h1,h2,h3⟩:=rA n (rows.map λr=>(a_ r keys,r)) (by rw[ah3];exact hn);have hl:=h2.length_eq;rw[ah3]at hl;rw[LG m _ m0 h1];have hs:(vE n (rows.map λr=>(a_ r keys,r))).map (·.1)=aH (rows.map λr=>a_ r keys):=by
  refine k9 tCr_ ?_ (cZ _) (((h2.map (·.1)).trans ?_).trans (aP _).symm)
  .exact List.pairwise_map.2 h1
  .rw[List.map_map];exact List.Perm.refl _
 have hf:∀ k,((vE n (rows.map λr=>(a_ r keys,r))).filter λp=>decide (p.1=k)).map (·.2)=rows.filter λr=>decide (a_ r keys=k):=λk=>by
  rw[h3 k,List.filter_map,List.map_map];exact List.map_id' _
 rw[hs,List.map_map];unfold i_;rw[Kq (λr=>a_ r keys) (λk g=>vZ aggs (k,g)) rows];congr 1;refine List.map_congr_left λk _=>?_
 show vZ aggs (k,_)=_;rw[hf k]
theorem xh {b:aJ}{keys:List Int}{aggs:List Ag}{gk:List Int×Int}(hb:bM 700 b)(T_:keys.length<=48)(Vq:aggs.length<=48)(QZ:∀ a∈aggs,a.arg<(b.kinds.length:Int))(hg:dA b.kinds keys aggs=some gk)(h0:keys≠[]\/b.rows≠[]):h_ b keys aggs=some ⟨gk.1,i_ keys aggs b.rows⟩:=by
 have hl:=hb.len;unfold h_;rw[hg,ahQ,bX (l:=b.rows) (λr=>[(⟨a_ r keys,r⟩:aN)]) 2932031007402 ?_ ?_ (by unfold fuel;omega) [] (by rw[fo_];simp;omega)]
 .rw[ahQ,ahW,fo_]
  unfold jz;dsimp only;have Vk:∀ x∈b.rows.map (λr=>(⟨a_ r keys,r⟩:aN)),x.key.length<=48:=λx hx=>by
   obtain⟨r,_,rfl⟩:=aip.1 hx;show(keys.map _).length<=48;rw[ah3];exact T_
  obtain⟨A,a1,a2⟩:=wE 701 (b.rows.map λr=>(⟨a_ r keys,r⟩:aN)) m0 (by rw[ah3];omega) m0 (λx hx=>by have:=Vk x hx;omega);have hmm:(b.rows.map λr=>(⟨a_ r keys,r⟩:aN)).map si=b.rows.map λr=>(a_ r keys,r):=by rw[List.map_map];rfl
  rw[hmm]at a2;have W2:=(rA 701 (b.rows.map λr=>(a_ r keys,r)) (by rw[ah3];omega)).2.1;rw[<- a2]at W2;have hAl:=W2.length_eq;rw[ah3,ah3]at hAl;have hAm:∀ y∈A,∃ r∈b.rows,y.key=a_ r keys/\y.row=r:=λy hy=>by
   have:si y∈b.rows.map λr=>(a_ r keys,r):=W2.mem_iff.1 (List.mem_map_of_mem hy)
   obtain⟨r,hr,e⟩:=aip.1 this;exact⟨r,hr,(congrArg Prod.fst e).symm,(congrArg Prod.snd e).symm⟩
  rw[a1,ahQ];by_cases hA0:A.length=0
  .have hr0:b.rows=[]:=aif m0
   have UD:keys≠[]:=h0.resolve_right λh=>h hr0
   have hkp:¬ keys.length=0:=λh=>UD (aif h)
   rw[ahV (show(A.length:Int)=0 by omega),ahT,ahU (show ¬ (keys.length:Int)=0 by omega),ahS,we (s:=()) (t:=()) rfl fuel (by unfold fuel;omega),ahQ];unfold lQ;dsimp only;rw[dI _ m5 (λr hr=>by cases hr),hr0];rfl
  .rw[ahU (show ¬ (A.length:Int)=0 by omega),ahS]
   have:=zV (r1:=gk) (A:=A) (aggs:=aggs) m0 (λy hy=>by obtain⟨r,_,e,_⟩:=hAm y hy;rw[e];show(keys.map _).length<=48;rw[ah3];exact T_) Vq (λa ha y hy=>by obtain⟨r,hr,_,e⟩:=hAm y hy;rw[e,hb.row r hr];exact QZ a ha) (λy hy v hv=>by obtain⟨r,hr,_,e⟩:=hAm y hy;rw[e]at hv;exact aen (hb.val r hr v hv)) fuel 0 [] (aia _) (by unfold fuel;omega) (ah7 _) (λr hr=>by cases hr);rw[show((([]:List (List Val)),((0:Nat):Int)):List (List Val)×Int)=([],(0:Int))from rfl]at this;rw[this,List.drop_zero,ahW,a2,Il keys aggs m0 (by unfold fuel;omega)]
 .intro s i x hx hs
  have hi:=(ahR.1 hx).1;unfold gS;dsimp only;rw[aG hx,ahT,gn_ hx,ahQ,Ot x m0,ahQ,wrapN m0,ahV (show s.length+1<=2932031007402 from hs),ahT]
 .intro s
  unfold gS;dsimp only;rw[lF_,ahS]
theorem B4 {b:aJ}{aggs:List Ag}{gk:List Int×Int}(Vq:aggs.length<=48)(hg:dA b.kinds [] aggs=some gk)(h0:b.rows=[]):h_ b [] aggs=some ⟨gk.1,[aggs.map λa=>cT a.op a.arg []]⟩:=by
 unfold h_;have Zq:af (gS b []) fuel ([],(0:Int))=some (.inl ([],(0:Int))):=we (by unfold gS;dsimp only;rw[h0];rfl) fuel (by unfold fuel;omega);rw[hg,ahQ,Zq,ahQ];unfold jz;dsimp only;rw[show wP 701 []=some []from rfl,ahQ,show decide (((([]:List aN).length:Nat):Int)=0)=true from rfl,ahT,show decide (((([]:List Int).length:Nat):Int)=0)=true from rfl,ahT,Dj (key:=[]) (rows:=[]) (l:=aggs) m5 m0 m5 (λ_ _ r hr=>by cases hr) (λr hr=>by cases hr),ahQ,show decide (1<=5864062014805)=true from rfl,ahT,we (s:=()) (t:=()) rfl fuel (by unfold fuel;omega),ahQ];unfold lF;dsimp only;rw[dI _ m5 (λr hr=>by rw[List.mem_singleton]at hr;rw[hr,ahW,ah3];omega)];rfl
def pf (aggs:List Ag):List Do:=aggs.map λa=>(a.op,a.arg)
def aaD (b:aJ)(keys:List Int)(aggs:List Ag):Bool:=decide (b.kinds.length<=100000)&&decide (keys.length<=1000)&&decide (aggs.length<=1000)&&decide (0<keys.length+aggs.length)&&decide (b.rows.length<=700)&&vn b.rows
theorem ac5 {b:aJ}{keys:List Int}{aggs:List Ag}(h:aaD b keys aggs=true):b.kinds.length<=100000/\keys.length<=1000/\aggs.length<=1000/\0<keys.length+aggs.length/\b.rows.length<=700 /\ ∀ r∈b.rows,r.length<=1000 /\ ∀ v∈r,KO v:=by
 unfold aaD at h;simp only[ah9,decide_eq_true_eq]at h;obtain⟨⟨⟨⟨⟨h1,h2⟩,h3⟩,h4⟩,h5⟩,h6⟩:=h;exact⟨h1,h2,h3,h4,h5,(t6 h6).2⟩
def iv (keys:List Int)(aggs:List Ag)(rows:List (List Val)):List (List Val):=bif keys.isEmpty then [aggs.map λa=>cT a.op a.arg rows]else i_ keys aggs rows
def qR (b:aJ)(keys:List Int)(aggs:List Ag):Option aJ:=bif aaD b keys aggs then some ⟨(fL b.kinds keys (pf aggs)).1,iv keys aggs b.rows⟩else none
theorem acK {r:List Val}(h:∀ v∈r,KO v)(i:Int):KO (E4 r i):=by
 have hn:KO jI:=⟨⟨by decide,by decide⟩,⟨by decide,by decide⟩,by show(0:Nat)<=10000000000;omega⟩;unfold E4;split
 .cases hx:r[i.toNat]? with
  |none=>exact hn
  |some v=>exact h v (ahX hx)
 .exact hn
theorem abE (keys:List Int)(aggs:List Ag)(rows:List (List Val)):aH ((gN (λr=>cg ce (a_ r keys)) rows).G.map (jH keys (pf aggs)))=i_ keys aggs rows:=by
 have e:(gN (λr=>cg ce (a_ r keys)) rows).G=Bl (λr=>a_ r keys) rows:=aaH (λr=>a_ r keys) rows;rw[e];unfold Bl i_;rw[List.map_map];congr 1;refine List.map_congr_left λk hk=>?_
 have hh:=abz (λr=>a_ r keys) rows hk;show a_ ((rows.filter λr=>decide (a_ r keys=k)).headD []) keys++(pf aggs).map _=vZ aggs _;rw[hh];unfold vZ pf;rw[List.map_map];rfl
theorem abu (aggs:List Ag):eU (pf aggs) = .lst (aggs.map ol):=by
 unfold eU pf;rw[List.map_map];rfl
theorem G8 (aggs:List Ag)(rows:List (List Val)):((pf aggs).map λz=>cT z.1 z.2 rows)=aggs.map λa=>cT a.op a.arg rows:=by
 unfold pf;rw[List.map_map];rfl
theorem KG {b:aJ}{keys:List Int}{aggs:List Ag}{r:aJ}(H:qR b keys aggs=some r):PTz 124 [.agg (bn b),.one (.lst (keys.map (λx=>[AC.int .i64 x]))),.one (.lst (aggs.map ol))] (.val (.agg (bn r))):=by
 unfold qR at H;obtain⟨g,H⟩:=ie H;obtain rfl:=aim H;obtain⟨h1,h2,h3,h4,h5,h6⟩:=ac5 g;rw[<- abu];have Vq:(pf aggs).length=aggs.length:=ah3 _;have SN:∀ r∈b.rows,r.length<=1000000:=λr hr=>by have:=(h6 r hr).1;omega
 obtain⟨kinds,rows⟩:=b;simp only at h1 h5 h6 SN
 cases keys with
 |nil =>
  have ha:pf aggs≠[]:=λe=>by rw[e]at Vq;simp at Vq h4;omega
  cases rows with
  |nil =>
   have:=HZ kinds (pf aggs) h1 m0 ha;rw[G8]at this;exact this
  |cons x l =>
   have:=Ha kinds (pf aggs) (x::l) h1 m0 ha h5 m5 SN;rw[G8]at this;exact this
 |cons k ks =>
  have:=Jh ce kinds (k::ks) (pf aggs) rows h1 m0 m0 h5 m5 SN (λr hr=>mD (a_ r (k::ks)) (by show((k::ks).map _).length<=_;rw[ah3];exact h2) (λv hv=>by
   obtain⟨i,_,rfl⟩:=aip.1 hv;exact acK (h6 r hr).2 i))
  rw[abE]at this;exact this
theorem ab6 {kinds:List Int}{l:List Ag}{a:Ag}{i:Nat}(hx:l[i]?=some a)(hi:i<=1000){acc:List Int}(hacc:acc.length<=1000000):co kinds l (acc,(i:Int))=bif decide (cB kinds (a.op,a.arg)=0)then some (.next (acc++[cS kinds (a.op,a.arg)],((i+1:Nat):Int)))else some (.ret ([],cB kinds (a.op,a.arg))):=by
 unfold co;dsimp only;rw[aG hx,ahT,gn_ hx,ahQ,wrapN m0,ahV (show acc.length+1<=17592186044416 by omega)];obtain⟨op,arg⟩:=a;dsimp only;have hK:∀ x,kinds[arg.toNat]?=some x->kinds.getD arg.toNat 0=x:=λx h=>x7 h
 by_cases hr:arg<0
 .by_cases hm:arg = -1
  .subst hm
   by_cases h1:op=1
   .subst h1;simp[cB,cS]
   .by_cases h2:op=2
    .subst h2;simp[cB,cS,o_]
    .by_cases h3:op=3
     .subst h3;simp[cB,cS,o_]
     .by_cases h4:op=4
      .subst h4;simp[cB,cS,o_]
      .have h5:(bif decide (op<1)then true else decide (4<op))=true:=by
        by_cases h6:op<1
        .simp[h6]
        .have:4<op:=m0
         simp[h6,this]
       simp[cB,h5,h1,h2,h3,h4]
  .by_cases h1:op=1
   .subst h1;simp[cB,cS,o_,hr,hm]
   .by_cases h2:op=2
    .subst h2;simp[cB,cS,o_,hr,hm]
    .by_cases h3:op=3
     .subst h3;simp[cB,cS,o_,hr,hm]
     .by_cases h4:op=4
      .subst h4;simp[cB,cS,o_,hr,hm]
      .have h5:(bif decide (op<1)then true else decide (4<op))=true:=by
        by_cases h6:op<1
        .simp[h6]
        .have:4<op:=m0
         simp[h6,this]
       simp[cB,h5,h1,h2,h3,h4]
 .have hm:¬ arg = -1:=m0
  by_cases hl:(kinds.length:Int)<=arg
  .by_cases h1:op=1
   .subst h1;simp[cB,cS,o_,hr,hm,hl]
   .by_cases h2:op=2
    .subst h2;simp[cB,cS,o_,hr,hm,hl]
    .by_cases h3:op=3
     .subst h3;simp[cB,cS,o_,hr,hm,hl]
     .by_cases h4:op=4
      .subst h4;simp[cB,cS,o_,hr,hm,hl]
      .have h5:(bif decide (op<1)then true else decide (4<op))=true:=by
        by_cases h6:op<1
        .simp[h6]
        .have:4<op:=m0
         simp[h6,this]
       simp[cB,h5,h1,h2,h3,h4]
  .obtain⟨x,Px⟩:=gol_ (show arg.toNat<kinds.length by omega)
   have hg:al kinds arg=some x:=by
    have:=gn_ Px;rwa[show(arg.toNat:Int)=arg by omega]at this
   have hd:=hK x Px;rw[hg];by_cases h1:op=1
   .subst h1;simp[cB,cS,o_,hr,hm,hl]
   .by_cases h2:op=2
    .subst h2
     by_cases O0:x=1
     .simp[cB,cS,o_,hr,hm,hl,Px,O0]
     .simp[cB,cS,o_,hr,hm,hl,Px,O0]
    .by_cases h3:op=3
     .subst h3;simp[cB,cS,o_,hr,hm,hl,Px]
     .by_cases h4:op=4
      .subst h4;simp[cB,cS,o_,hr,hm,hl,Px]
      .have h5:(bif decide (op<1)then true else decide (4<op))=true:=by
        by_cases h6:op<1
        .simp[h6]
        .have:4<op:=m0
         simp[h6,this]
       simp[cB,h5,h1,h2,h3,h4]
theorem ac4 {l:List Ag}{i:Nat}{a:Ag}(h:l[i]?=some a):(pf l)[i]?=some (a.op,a.arg):=by unfold pf;rw[aic,h];rfl
theorem Em (kinds:List Int){l:List Ag}(hl:l.length<=1000):∀ (n i:Nat) (acc:List Int),acc.length<=1000+i->i<=l.length->l.length-i<n->(af (co kinds l) n (acc,(i:Int))).bind aF=some (cW kinds ((pf l).drop i) acc)
 |0,i,acc,_,_,h=>by omega
 |n+1,i,acc,ha,hi,hn=>by
  rw[af];by_cases O8:i<l.length
  .obtain⟨a,hx⟩:=gol_ O8
   rw[ab6 hx m0 m0,uW kinds (pf l) acc (ac4 hx)]
   cases decide (cB kinds (a.op,a.arg)=0)with
   |true=>exact Em kinds hl n (i+1) _ (by rw[ahZ,List.length_singleton];omega) m0 m0
   |false=>rfl
  .have:i=l.length:=m0
   subst this;have hb:co kinds l (acc,(l.length:Int))=some (.exit (acc,(l.length:Int))):=by
    unfold co;dsimp only;rw[lF_,ahS]
   have hd:(pf l).drop l.length=[]:=List.drop_eq_nil_of_le (by unfold pf;rw[ah3];exact ah7 _);rw[hb,hd];rfl
theorem D_ (kinds:List Int){keys:List Int}{l:List Ag}(hk:keys.length<=1000)(hl:l.length<=1000):∀ (n i:Nat) (acc:List Int),acc.length=i->i<=keys.length->keys.length-i<n->(af (cL kinds keys) n (acc,(i:Int))).bind (bR kinds l)=some (bif decide ((cm kinds (keys.drop i) acc).2=0)then cW kinds (pf l) (cm kinds (keys.drop i) acc).1 else([],(cm kinds (keys.drop i) acc).2))
 |0,i,acc,_,_,h=>by omega
 |n+1,i,acc,ha,hi,hn=>by
  rw[af];by_cases O8:i<keys.length
  .obtain⟨k,hx⟩:=gol_ O8
   have hb:cL kinds keys (acc,(i:Int))=bif o_ kinds k then some (.next (acc++[kinds.getD k.toNat 0],((i+1:Nat):Int)))else some (.ret ([],6)):=by
    unfold cL;dsimp only;rw[aG hx,ahT,gn_ hx,ahQ,wrapN m0,ahV (show acc.length+1<=17592186044416 by omega)];by_cases h1:k<0
    .simp[o_,h1]
    .by_cases h2:(kinds.length:Int)<=k
     .simp[o_,h1,h2]
     .obtain⟨x,Px⟩:=gol_ (show k.toNat<kinds.length by omega)
      have hg:al kinds k=some x:=by
       have:=gn_ Px;rwa[show(k.toNat:Int)=k by omega]at this
      have hd:=x7 Px;rw[hg];simp[o_,h1,h2,Px]
   rw[hb,uM kinds keys acc hx]
   cases o_ kinds k with
   |true=>exact D_ kinds hk hl n (i+1) _ (by rw[ahZ,ha];rfl) m0 m0
   |false=>rfl
  .have:i=keys.length:=m0
   subst this;have hb:cL kinds keys (acc,(keys.length:Int))=some (.exit (acc,(keys.length:Int))):=by
    unfold cL;dsimp only;rw[lF_,ahS]
   rw[hb,aiG];show bR kinds l (.inl (acc,(keys.length:Int)))=some (cW kinds (pf l) acc);unfold bR;dsimp only;have:=Em kinds hl fuel 0 acc m0 (aia _) (by unfold fuel;omega);rw[List.drop_zero]at this;exact this
theorem mj (kinds:List Int){keys:List Int}{l:List Ag}(hk:keys.length<=1000)(hl:l.length<=1000):dA kinds keys l=some (fL kinds keys (pf l)):=by
 have:=D_ kinds hk hl fuel 0 [] rfl (aia _) (by unfold fuel;omega);rw[List.drop_zero]at this;unfold dA;exact this
theorem xd (kinds:List Int):∀ (l:List Do) (acc:List Int),(cW kinds l acc).2=0 ->∀ a∈l,a.2<(kinds.length:Int)\/a.2<0
 |[],_,_,a,ha=>by cases ha
 |x::l,acc,h,a,ha=>by
  unfold cW at h;by_cases he:cB kinds x=0
  .rw[ahV he,ahT]at h
   obtain rfl|ha:=ah8.1 ha
   .unfold cB at he
    by_cases h1:a.2<(kinds.length:Int)
    .exact .inl h1
    .by_cases h2:a.2<0
     .exact .inr h2
     .exfalso
      have SI:o_ kinds a.2=false:=by unfold o_;simp;omega
      rw[SI]at he;have hm:¬ a.2 = -1:=m0
      rw[ahU hm]at he
      cases hq:(bif decide (a.1<1)then true else decide (4<a.1))with
      |true=>rw[hq]at he;simp at he
      |false=>rw[hq]at he;simp at he
   .exact xd kinds l _ h a ha
  .rw[ahU he,ahS]at h
   exact absurd h he
theorem adx {l:List Ag}{a:Ag}(h:a∈l):(a.op,a.arg)∈pf l:=List.mem_map_of_mem (f:=λa:Ag=>(a.op,a.arg)) h
theorem Ij {kinds keys:List Int}{l:List Ag}(h:(fL kinds keys (pf l)).2=0)(hk:0<kinds.length):∀ a∈l,a.arg<(kinds.length:Int):=by
 intro a ha;unfold fL at h
 cases hc:decide ((cm kinds keys []).2=0)with
 |false=>rw[hc,ahS]at h;exact absurd h (of_decide_eq_false hc)
 |true =>
  rw[hc,ahT]at h;rcases xd kinds (pf l) _ h _ (adx ha)with h1|h1
  .exact h1
  .have:a.arg<0:=h1
   omega
theorem ac1 {b:aJ}{keys:List Int}{l:List Ag}(hb:bM 700 b)(h0:0<keys.length+l.length)(h1:keys.length+l.length<=48):aaD b keys l=true:=by
 have hk:=hb.kinds;have hl:=hb.len;unfold aaD;rw[ahV (show b.kinds.length<=100000 by omega),ahV (show keys.length<=1000 by omega),ahV (show l.length<=1000 by omega),ahV h0,ahV (show b.rows.length<=700 by omega),(hb.rk m0).keys];rfl
theorem JL {b:aJ}{keys:List Int}{l:List Ag}(hb:bM 700 b)(h0:0<keys.length+l.length)(h1:keys.length+l.length<=48):qR b keys l=some ⟨(fL b.kinds keys (pf l)).1,iv keys l b.rows⟩:=by
 unfold qR;rw[ac1 hb h0 h1];rfl
theorem JS (l:List Ag){rows:List (List Val)}(h:rows≠[]):i_ [] l rows=[l.map λa=>cT a.op a.arg rows]:=by
 have hp:∀ r,a_ r []=[]:=λ_=>rfl
 have hd:dN [] (rows.map λr=>a_ r [])=[[]]:=by
  have hm:∀ x,x∈dN [] (rows.map λr=>a_ r [])↔x=[]:=λx=>by
   rw[eD];constructor
   .intro hx;obtain⟨r,_,e⟩:=aip.1 hx;exact e.symm
   .intro hx;subst hx
    obtain⟨r,hr⟩:=List.exists_mem_of_ne_nil _ h;exact aip.2 ⟨r,hr,rfl⟩
  have hn:=tN (rows.map λr=>a_ r []);generalize dN [] (rows.map λr=>a_ r [])=D at hm hn
  match D,hm,hn with
  |[],hm,_=>exact absurd ((hm []).2 rfl) m5
  |[x],hm,_=>rw[(hm x).1 m5]
  |x::y::D,hm,hn =>
   have h1:=(hm x).1 m5;have h2:=(hm y).1 m5;rw[h1,h2]at hn;exact absurd (List.nodup_cons.1 hn).1 m5
 have hf:(rows.filter λr=>decide (a_ r []=[]))=rows:=List.filter_eq_self.2 λr _=>ahV (hp r)
 unfold i_;rw[hd,ah2,ah6,hf];rfl
theorem aaO {b:aJ}{keys:List Int}{l:List Ag}(hb:bM 700 b)(h1:keys.length+l.length<=48)(he:(fL b.kinds keys (pf l)).2=0):h_ b keys l=some ⟨(fL b.kinds keys (pf l)).1,iv keys l b.rows⟩:=by
 have hg:=mj b.kinds (keys:=keys) (l:=l) m0 m0;by_cases hk:keys=[]
 .subst hk
  by_cases hr:b.rows=[]
  .rw[B4 (by simp at h1;omega) hg hr,hr];rfl
  .rw[xh hb m5 (by simp at h1;omega) (Ij he hb.pos) hg (.inr hr),JS l hr];rfl
 .rw[xh hb m0 m0 (Ij he hb.pos) hg (.inl hk)]
  unfold iv
  cases keys with
  |nil=>exact absurd rfl hk
  |cons k ks=>rfl
def aeg {σ ρ τ:Type}(f:ρ->τ):Step σ ρ->Step σ τ
 |.next s => .next s
 |.exit s => .exit s
 |.ret q => .ret (f q)
def ahl {σ ρ τ:Type}(f:ρ->τ):Sum σ ρ->Sum σ τ
 |.inl s => .inl s
 |.inr q => .inr (f q)
theorem BJ {σ ρ τ:Type}{b1:σ->Option (Step σ ρ)}{b2:σ->Option (Step σ τ)}(f:ρ->τ)(h:∀ s,b2 s=(b1 s).map (aeg f)):∀ (n:Nat) (s:σ),af b2 n s=(af b1 n s).map (ahl f)
 |0,s=>rfl
 |n+1,s=>by
  rw[af,af,h]
  cases b1 s with
  |none=>rfl
  |some st =>
   cases st with
   |next t=>exact BJ f h n t
   |exit t=>rfl
   |ret q=>rfl
theorem DV {σ ρ:Type}{b:σ->Option (Step σ ρ)}{Q:ρ->Prop}(h:∀ s q,b s=some (.ret q)->Q q):∀ (n:Nat) (s:σ) (q:ρ),af b n s=some (.inr q)->Q q
 |0,s,q,e=>by cases e
 |n+1,s,q,e=>by
  rw[af]at e
  cases hb:b s with
  |none=>rw[hb]at e;cases e
  |some st =>
   rw[hb]at e
   cases st with
   |next t=>exact DV h n t q e
   |exit t=>cases e
   |ret q' =>
    obtain rfl:q'=q:=by injection e with e;injection e
    exact h s q' hb
theorem Ao {α β ρ:Type}{l:List α}{body:(List β×Int)->Option (Step (List β×Int) ρ)}(t:α->Option ρ)(g:α->β)(h1:∀ (s:List β) (i:Nat) x,l[i]?=some x->s.length=i->body (s,(i:Int))=some (match t x with|some q => .ret q|none => .next (s++[g x],((i+1:Nat):Int))))(h2:∀ s,body (s,(l.length:Int))=some (.exit (s,(l.length:Int)))):∀ (n i:Nat) (s:List β),i<=l.length->l.length-i<n->s.length=i->af body n (s,(i:Int))=some (match (l.drop i).findSome? t with|some q => .inr q|none => .inl (s++(l.drop i).map g,(l.length:Int)))
 |0,i,s,_,h,_=>by omega
 |n+1,i,s,hi,hn,hs=>by
  rw[af];by_cases O8:i<l.length
  .obtain⟨x,hx⟩:=gol_ O8
   rw[h1 s i x hx hs,ail O8,(ahR.1 hx).2,List.findSome?_cons]
   cases t x with
   |some q=>rfl
   |none =>
    show af body n (s++[g x],((i+1:Nat):Int))=_;rw[Ao t g h1 h2 n (i+1) (s++[g x]) m0 m0 (by rw[ahZ,hs];rfl)];dsimp only
    cases (l.drop (i+1)).findSome? t with
    |some q=>rfl
    |none=>dsimp only;rw[aig];rfl
  .have:i=l.length:=m0
   subst this;rw[h2,aiG];show some (Sum.inl (s,_))=some (Sum.inl (s++[],_));rw[aio]
theorem GM {α ρ:Type}{l:List α}{body:Int->Option (Step Int ρ)}(t:α->Option ρ)(h1:∀ (i:Nat) x,l[i]?=some x->body (i:Int)=some (match t x with|some q => .ret q|none => .next ((i+1:Nat):Int)))(h2:body (l.length:Int)=some (.exit (l.length:Int))):∀ (n i:Nat),i<=l.length->l.length-i<n->af body n (i:Int)=some (match (l.drop i).findSome? t with|some q => .inr q|none => .inl (l.length:Int))
 |0,i,_,h=>by omega
 |n+1,i,hi,hn=>by
  rw[af];by_cases O8:i<l.length
  .obtain⟨x,hx⟩:=gol_ O8
   rw[h1 i x hx,ail O8,(ahR.1 hx).2,List.findSome?_cons]
   cases t x with
   |some q=>rfl
   |none=>exact GM t h1 h2 n (i+1) m0 m0
  .have:i=l.length:=m0
   subst this;rw[h2,aiG];rfl
theorem Bi (l:List Int):sc l=kL l:=by
 have hb:nL l=dK l:=by
  funext i;unfold nL dK;dsimp only
  cases al l i with
  |none=>simp only[Option.bind_none]
  |some x =>
   simp only[ahQ];unfold pM;by_cases h1:x<1
   .rw[ahV h1,ahU (show ¬ x=1 by omega),ahU (show ¬ x=2 by omega),ahU (show ¬ x=3 by omega)];rfl
   .by_cases h3:3<x
    .rw[ahU h1,ahV h3,ahU (show ¬ x=1 by omega),ahU (show ¬ x=2 by omega),ahU (show ¬ x=3 by omega)];rfl
    .have:x=1\/x=2\/x=3:=m0
     rcases this with rfl|rfl|rfl<;>rfl
 have hk:fc=kg:=by
  funext s
  cases s<;>rfl
 unfold sc kL;rw[hb,hk]
theorem Dc (row:List Val)(kinds:List Int):yq row kinds=fK row kinds:=by
 unfold yq fK;by_cases he:row.length=kinds.length
 .rw[ahU (show ¬ (row.length:Int)≠(kinds.length:Int)by omega),ahS,ahS]
  have hb:r9 row kinds=dH row kinds:=by
   funext i;unfold r9 dH;dsimp only
   cases hg:al row i with
   |none=>simp only[Option.bind_none]
   |some x =>
    obtain⟨i0,hx⟩:=kw hg;have hi:=(ahR.1 hx).1;obtain⟨k,hk⟩:=gol_ (l:=kinds) (i:=i.toNat) m0;have hgk:al kinds i=some k:=by unfold al;rw[if_pos i0];exact hk
    simp only[ahQ];rw[hgk,ot,fa];simp only[ahQ]
    cases vF x with
    |false=>rfl
    |true =>
     cases decide (x.kind≠0)<;>cases decide (x.kind≠k)<;>rfl
  have hk:gI=fw:=by
   funext s
   cases s<;>rfl
  rw[hb,hk]
 .rw[ahV (show(row.length:Int)≠(kinds.length:Int)by omega),ahT,ahT]
theorem C5 {e:Ex}(kinds:List Int)(he:du fuel e):∃ q,j4 e kinds=some q/\sQ e kinds=some q:=by
 obtain⟨h1,h2⟩:=EQ kinds he;obtain⟨q,hq⟩:=Ja kinds he;refine⟨q,hq,?_⟩;rw[<- hq];unfold sQ j4;rw[h1,h2]
theorem NM {l:List Ex}(kinds:List Int)(he:∀ e∈l,du fuel e):tF l kinds=ik kinds l:=by
 have hb:fy l kinds=bO kinds l:=by
  funext s;obtain⟨o,i⟩:=s;unfold fy bO;dsimp only
  cases hg:al l i with
  |none=>simp only[Option.bind_none]
  |some x =>
   obtain⟨h1,h2⟩:=EQ kinds (he x (ahX (kw hg).2));simp only[ahQ];rw[h1,h2]
 have hk:fE=dB:=by
  funext s
  cases s<;>rfl
 unfold tF ik;rw[hb,hk]
theorem FS (keys:List Int)(l:List Ag)(kinds:List Int):nh keys l kinds=dA kinds keys l:=by
 have hb:jV l kinds=co kinds l:=by
  funext s;obtain⟨o,i⟩:=s;unfold jV co;dsimp only
  cases al l i with
  |none=>simp only[Option.bind_none]
  |some x =>
   obtain⟨op,arg⟩:=x;simp only[ahQ];by_cases h1:op<1
   .rw[ahV h1,ahV (show op≠1 by omega),ahV (show op≠2 by omega),ahV (show op≠3 by omega),ahV (show op≠4 by omega)];rfl
   .by_cases h4:4<op
    .rw[ahU h1,ahV h4,ahV (show op≠1 by omega),ahV (show op≠2 by omega),ahV (show op≠3 by omega),ahV (show op≠4 by omega)];rfl
    .have:op=1\/op=2\/op=3\/op=4:=m0
     generalize decide (arg=(-1:Int))=c1;generalize decide (arg<(0:Int))=c2;generalize decide ((kinds.length:Int)<=arg)=c3;rcases this with rfl|rfl|rfl|rfl<;>cases c1<;>cases c2<;>cases c3<;>rfl
 have h2:bv=aF:=by
  funext s
  cases s<;>rfl
 have hk:cI l kinds=bR kinds l:=by
  funext s
  cases s with
  |inr q=>rfl
  |inl s =>
   obtain⟨o,i⟩:=s;unfold cI bR;dsimp only;rw[hb,h2]
 have h1:nK keys kinds=cL kinds keys:=by
  funext s;obtain⟨o,i⟩:=s;rfl
 unfold nh dA;rw[hk,h1]
theorem xk (p:Pl)(hr:p.rows.length<=1000)(hk:p.kinds.length<=1000):∃ e,ql p=some e/\lq p=some (if e=0 then(p.kinds,0)else([],e))/\(e=0 ->∀ r∈p.rows,fK r p.kinds=some true):=by
 obtain⟨b,hb⟩:=Dt p.kinds m0;unfold ql lq;rw[ahU (show ¬ (4096:Int)<(p.rows.length:Int)by omega),ahS,ahS,Bi,hb,ahQ,ahQ]
 cases b with
 |false=>exact⟨7,rfl,rfl,λh=>absurd h m9⟩
 |true =>
  rw[Bool.not_true,ahS,ahS];have hf:∀ r,∃ c,fK r p.kinds=some c:=λr=>by
   by_cases he:r.length=p.kinds.length
   .exact C7 r p.kinds m0
   .exact⟨false,by unfold fK;rw[ahV (show(r.length:Int)≠(p.kinds.length:Int)by omega)];rfl⟩
  have hB:∀ s,je p s=(e_ p s).map (aeg λe=>([],e)):=by
   intro s;unfold je e_;dsimp only
   cases decide (s<(p.rows.length:Int))with
   |false=>rfl
   |true =>
    cases al p.rows s with
    |none=>simp only[Option.bind_none,ahT,Option.map_none]
    |some r =>
     obtain⟨c,hc⟩:=hf r;simp only[ahQ,ahT];rw[Dc,hc]
     cases c<;>rfl
  have hl:=GM (l:=p.rows) (body:=e_ p) (λr=>if fK r p.kinds=some true then none else some 8) (λi x hx=>by
   have hi:=(ahR.1 hx).1;obtain⟨c,hc⟩:=hf x;unfold e_;dsimp only;rw[aG hx,ahT,gn_ hx,ahQ,Dc,hc,ahQ,wrapN m0]
   cases c<;>rfl) (by
   unfold e_;dsimp only;rw[lF_];rfl) fuel 0 (aia _) (by unfold fuel;omega)
  rw[List.drop_zero,show((0:Nat):Int)=0 from rfl]at hl;rw[BJ _ hB,hl]
  cases hs:p.rows.findSome? (λr=>if fK r p.kinds=some true then none else some (8:Int))with
  |some q =>
   obtain⟨r,_,hr2⟩:=List.exists_of_findSome?_eq_some hs;have hq:q=8:=by
    split at hr2
    .cases hr2
    .exact(aim hr2).symm
   subst hq;exact⟨8,rfl,rfl,λh=>absurd h m9⟩
  |none =>
   refine⟨0,rfl,rfl,λ_ r hr=>?_⟩;have:=List.findSome?_eq_none_iff.1 hs r hr;split at this
   .assumption
   .cases this
theorem I9 (a b:List Int)(ha:a.length<=1000):∃ e,oy a b=some e/\(((decide ((a.length:Int)≠(b.length:Int))=true/\e=13)\/(decide ((a.length:Int)≠(b.length:Int))=false /\ ∃ c,dE a b=some c/\e=bif c then 0 else 7))):=by
 unfold oy
 cases hd:decide ((a.length:Int)≠(b.length:Int))with
 |true=>exact⟨13,rfl,Or.inl ⟨rfl,rfl⟩⟩
 |false =>
  obtain⟨c,hc⟩:=Ce a b m0;have hB:∀ s,oo a b s=(bS a b s).map (aeg λ_=>(7:Int)):=by
   intro s;unfold oo bS;dsimp only
   cases decide (s<(a.length:Int))with
   |false=>rfl
   |true =>
    cases al a s with
    |none=>simp only[ahQ,Option.bind_none,ahT,Option.map_none]
    |some x =>
     cases al b s with
     |none=>simp only[ahQ,Option.bind_none,ahT,Option.map_none]
     |some y =>
      simp only[ahQ,ahT]
      cases decide (x≠y)<;>rfl
  have Vm:=hc;unfold dE at Vm;rw[hd,ahS]at Vm;obtain⟨r,hr,hk⟩:=bd_ Vm;rw[ahS,BJ _ hB,hr]
  cases r with
  |inl i =>
   have:c=true:=(aim hk).symm;subst this;exact⟨0,rfl,Or.inr ⟨rfl,true,hc,rfl⟩⟩
  |inr q =>
   have h1:q=c:=aim hk;have h2:q=false:=DV (Q:=λq=>q=false) (λs q hs=>by
    unfold bS at hs;dsimp only at hs;obtain⟨_,hs⟩|⟨_,hs⟩:=ae hs
    .obtain⟨x,_,hs⟩:=bd_ hs
     obtain⟨y,_,hs⟩:=bd_ hs;obtain⟨_,hs⟩|⟨_,hs⟩:=ae hs
     .have hs:=aim hs
      injection hs with hs
      exact hs.symm
     .have hs:=aim hs
      cases hs
    .have hs:=aim hs
     cases hs) fuel _ q hr
   subst h1;subst h2;exact⟨7,rfl,Or.inr ⟨rfl,false,hc,rfl⟩⟩
