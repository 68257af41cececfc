/- Parts. No condition. -/
import Derived.Test.YtlcceppoloaecaaGreatDoorKBP
set_option linter.unusedSimpArgs false
set_option linter.unusedVariables false
namespace Go.Proofs.YtlcceppoloaecaaGreatDoor.St
open _root_.List (replicate)
open Go.RowKit
theorem Asc.of_list {l:List (Int×Int)}(h:l.Pairwise λx y=>x.1<y.1):Asc l:=by
 intro i j x y hij hx hy;obtain⟨hi,rfl⟩:=aqp.1 hx;obtain⟨hj,rfl⟩:=aqp.1 hy;exact List.pairwise_iff_getElem.1 h i j hi hj hij
theorem cB:∀ {l:List (Int×Int)} {p:Int×Int},di p l=true->(p::l).Pairwise (λx y=>x.1<y.1) /\ ∀ s∈l,s.1<1099511627776
 |[],p,_=>⟨m5,m5⟩
 |q::r,p,h=>by
  simp only[di,aqI]at h;obtain⟨h1,h2⟩:=cB (l:=r) (p:=q) h.2;have hs:p.1<q.1/\q.1<1099511627776:=by have:=h.1;simp[sH]at this;omega
  refine⟨aro.2 ⟨λy hy=>?_,h1⟩,λs hs'=>?_⟩
  ·obtain e|e:=aqH.1 hy
   ·subst e;exact hs.1
   ·have:=(aro.1 h1).1 y e;omega
  ·obtain e|e:=aqH.1 hs'
   ·subst e;exact hs.2
   ·exact h2 s e
theorem eJ {l:List (Int×Int)}(h:cI l=true):Asc l/\(∀ s∈l,s.1<1099511627776)/\l≠[] /\ ∀ x,l[0]?=some x->x.1=0:=by
 match l,h with
 |p::r,h =>
  simp only[cI,aqI,beq_iff_eq]at h;obtain⟨h1,h2⟩:=cB h.2;refine⟨Asc.of_list h1,λs hs=>?_,m5,λx hx=>?_⟩
  ·obtain e|e:=aqH.1 hs
   ·subst e;omega
   ·exact h2 s e
  ·simp at hx;subst hx;exact h.1
def dT (z:Int)(l:List (Int×Int))(t:Int):Int:=l.foldl (λn s=>if s.1<=t then s.2 else n) z
theorem tB {l:List (Int×Int)}{t:Int}(h1:0<=t)(h2:t<1099511627776):se l t=dT 0 l t:=by unfold se;rw[if_pos ⟨h1,h2⟩];rfl
theorem ah0 {l:List (Int×Int)}{t:Int}(h:¬ (0<=t/\t<1099511627776)):se l t=0:=by unfold se;rw[if_neg h]
theorem bP (z:Int)(p:Int×Int)(l:List (Int×Int))(t:Int):dT z (p::l) t=dT (if p.1<=t then p.2 else z) l t:=rfl
theorem dN {z:Int}{l:List (Int×Int)}{t:Int}(h:∀ x∈l,t<x.1):dT z l t=z:=sc t l z h
theorem zP (z:Int)(l:List (Int×Int))(q:Int×Int)(t:Int):dT z (l++[q]) t=if q.1<=t then q.2 else dT z l t:=by unfold dT;rw[List.foldl_append];rfl
theorem He {u:List (Int×Int)}{x y:Int}{q:Int×Int}(hu:cI u=true)(hl:u.getLast?=some (x,y))(h1:x<q.1)(h2:q.1<1099511627776)(h3:q.2≠y):cI (u++[q])=true:=by
 match u,hu with
 |p::r,hu =>
  simp only[cI,aqI,beq_iff_eq]at hu;simp only[List.cons_append,cI,aqI,beq_iff_eq];refine⟨hu.1,?_⟩;have he:(p::r).getLast m5=(x,y):=by
   rw[List.getLast?_eq_some_getLast m5]at hl;exact aqX hl
  rw[n9,hu.2,he];unfold sH;simp[h1,h2,h3]
theorem abl {u:List (Int×Int)}(ha:Asc u){x y t:Int}(hl:u.getLast?=some (x,y))(ht:x<=t)(z:Int):dT z u t=y:=by
 have hne:u≠[]:=by intro e;subst e;simp at hl
 have hu:u=u.dropLast++[(x,y)]:=by
  have h1:=List.dropLast_concat_getLast hne;rw[List.getLast?_eq_some_getLast hne]at hl;rw[<- aqX hl];exact h1.symm
 rw[hu,zP,if_pos ht]
theorem aij {u:List (Int×Int)}(ha:Asc u){x y p v:Int}(hl:u.getLast?=some (x,y))(hp:x<p)(z t:Int):dT z (dy u (p,v)) t=if p<=t then v else dT z u t:=by
 unfold dy;rw[hl];simp only[Option.map_some,Option.some.injEq];by_cases e:y=v
 ·rw[if_pos e]
  split
  ·rw[abl ha hl m0,e]
  ·rfl
 ·rw[if_neg e,zP]
theorem abg {u:List (Int×Int)}{x y p v:Int}(hu:cI u=true)(hl:u.getLast?=some (x,y))(hp:x<p)(hF:p<1099511627776):cI (dy u (p,v))=true /\ ∃ x' y',(dy u (p,v)).getLast?=some (x',y')/\x'<=p:=by
 unfold dy;rw[hl];simp only[Option.map_some,Option.some.injEq];by_cases e:y=v
 ·rw[if_pos e];exact⟨hu,x,y,hl,m0⟩
 ·rw[if_neg e];exact⟨He hu hl hp hF (λh=>e h.symm),p,v,m5,Int.le_refl _⟩
theorem Ax (f:Int->Int):∀ (P:List Int) (u:List (Int×Int)) (x y:Int),cI u=true->u.getLast?=some (x,y)->(∀ p∈P,x<p/\p<1099511627776)->dd P ->
  cI (P.foldl (λacc p=>dy acc (p,f p)) u)=true /\ ∀ z t,dT z (P.foldl (λacc p=>dy acc (p,f p)) u) t=dT (dT z u t) (P.map λp=>(p,f p)) t
 |[],u,x,y,hu,hl,_,_=>⟨hu,λz t=>rfl⟩
 |p::P,u,x,y,hu,hl,hP,hA=>by
  obtain⟨h1,h2⟩:=hP p m5;obtain⟨g1,x',y',g2,g3⟩:=abg (v:=f p) hu hl h1 h2;obtain⟨k1,k2⟩:=Ax f P (dy u (p,f p)) x' y' g1 g2 (λq hq=>⟨by have:=hA.head q hq;omega,(hP q (by simp[hq])).2⟩) hA.tail;refine⟨k1,λz t=>?_⟩;rw[arh,k2,aij (eJ hu).1 hl h1,aqB,bP]
theorem xR (f:Int->Int){P:List Int}(hA:dd P)(h0:P.head?=some 0)(hF:∀ p∈P,p<1099511627776):cI (dc f P)=true /\ ∀ z t,dT z (dc f P) t=dT z (P.map λp=>(p,f p)) t:=by
 match P,h0 with
 |p::P,h0 =>
  simp at h0;subst h0;have h1:=Ax f P [(0,f 0)] 0 (f 0) rfl rfl (λq hq=>⟨hA.head q hq,hF q (by simp[hq])⟩) hA.tail;have h2:dc f (0::P)=P.foldl (λacc p=>dy acc (p,f p)) [(0,f 0)]:=rfl;rw[h2];refine⟨h1.1,λz t=>?_⟩;rw[h1.2,aqB,bP];rfl
def ah1 (g:Int->Int)(P:List Int):Prop :=∀ t p,0<=t->t<1099511627776->p∈P->p<=t->(∀ q∈P,q<=t->q<=p)->g t=g p
theorem FH (g:Int->Int):∀ (P:List Int) (z t:Int),dd P->(∃ p∈P,p<=t) ->∃ p∈P,p<=t/\(∀ q∈P,q<=t->q<=p)/\dT z (P.map λp=>(p,g p)) t=g p
 |[],z,t,_,⟨p,hp,_⟩=>by simp at hp
 |a::P,z,t,hA,⟨p,hp,hpt⟩=>by
  have hat:a<=t:=by
   obtain e|e:=aqH.1 hp
   ·omega
   ·have:=hA.head p e;omega
  rw[aqB,bP,if_pos hat];by_cases h:∃ q∈P,q<=t
  ·obtain⟨q,h1,h2,h3,h4⟩:=FH g P (g a) t hA.tail h
   refine⟨q,by simp[h1],h2,λr hr hrt=>?_,h4⟩;obtain e|e:=aqH.1 hr
   ·have:=hA.head q h1;omega
   ·exact h3 r e hrt
  ·refine⟨a,m5,hat,λr hr hrt=>?_,?_⟩
   ·obtain e|e:=aqH.1 hr
    ·omega
    ·exact absurd ⟨r,e,hrt⟩ h
   ·refine dN λx hx=>?_
    obtain⟨q,hq,e⟩:=aq0.1 hx;subst e;exact Int.not_le.1 λhh=>h ⟨q,hq,hh⟩
theorem MH (g:Int->Int){P:List Int}(hA:dd P)(h0:P.head?=some 0)(hF:∀ p∈P,p<1099511627776)(hC:ah1 g P){t:Int}(t1:0<=t)(t2:t<1099511627776):se (dc g P) t=g t:=by
 rw[tB t1 t2,(xR g hA h0 hF).2];have h0m:(0:Int)∈P:=List.mem_of_mem_head? h0;obtain⟨p,h1,h2,h3,h4⟩:=FH g P 0 t hA ⟨0,h0m,t1⟩;rw[h4,hC t p t1 t2 h1 h2 h3]
theorem Fq {P:List Int}(hA:dd P)(h0:(0:Int)∈P)(hp:∀ p∈P,0<=p):P.head?=some 0:=by
 match P,h0 with
 |a::P,h0 =>
  have ha:=hp a m5;obtain e|e:=aqH.1 h0
  ·rw[<- e];rfl
  ·have:=hA.head 0 e;omega
theorem lc {l:List (Int×Int)}(h:cI l=true):∀ s∈l,0<=s.1:=by
 obtain⟨h1,_,h3,h4⟩:=eJ h;intro s hs;obtain⟨i,hi,e⟩:=List.mem_iff_getElem.1 hs;have hpos:0<l.length:=m0
 have h0:=h4 l[0] (aqz hpos);by_cases e0:i=0
 ·subst e0;rw[<- e];omega
 ·have:=h1 0 i _ _ m0 (aqz hpos) (aqz hi)
  rw[e]at this;omega
theorem of_ok (l:List ((Int×Int)×Int)):cI (dc (jZ l) (eU l))=true /\ ∀ t,0<=t->t<1099511627776->se (dc (jZ l) (eU l)) t=jZ l t:=by
 obtain⟨h1,h2⟩:=fr l;have hnn:∀ p∈eU l,0<=p:=by
  intro p hp;rcases((h2 p).1 hp).1 with e|⟨y,hy⟩
  ·omega
  ·exact(w9 (p,y) hy).1
 have h0:(eU l).head?=some 0:=Fq h1 ((h2 0).2 ⟨.inl rfl,m0⟩) hnn;have hF:∀ p∈eU l,p<1099511627776:=λp hp=>((h2 p).1 hp).2
 have hC:ah1 (jZ l) (eU l):=by
  intro t p t1 t2 hp hpt hmax;rw[pW,pW];congr 1;unfold o9;congr 1;refine List.map_congr_left λc hc=>?_
  have hiff:aS c.1 t=aS c.1 p:=by
   unfold aS;by_cases hv:aK c.1=true
   ·have hm:∀ q,q=c.1.1\/q=c.1.2->q<=t->q<=p:=by
     intro q hq hqt;refine hmax q ((h2 q).2 ⟨.inr ?_,m0⟩) hqt;obtain e|e:=hq
     ·exact⟨c.2,List.mem_flatMap.2 ⟨c,hc,by unfold lQ;rw[if_pos hv];simp[e]⟩⟩
     ·exact⟨wrap64 (-c.2),List.mem_flatMap.2 ⟨c,hc,by unfold lQ;rw[if_pos hv];simp[e]⟩⟩
    have m1:=hm c.1.1 (.inl rfl);have m2:=hm c.1.2 (.inr rfl);rw[hv,aqY,aqY,Bool.eq_iff_iff];simp only[aqI,decide_eq_true_eq];constructor
    ·rintro⟨u1,u2⟩;exact⟨m1 u1,m0⟩
    ·rintro⟨u1,u2⟩
     refine⟨m0,Int.not_le.1 λhh=>?_⟩;have:=m2 hh;omega
   ·have:aK c.1=false:=by simpa using hv
    rw[this];simp
  rw[hiff]
 exact⟨(xR _ h1 h0 hF).1,λt t1 t2=>MH _ h1 h0 hF hC t1 t2⟩
def cnt (X:List (Int×Int))(t:Int):Int:=(X.map λp=>if aS p t then(1:Int)else 0).sum
theorem om (X Y:List (Int×Int))(t:Int):cnt (X++Y) t=cnt X t+cnt Y t:=by simp[cnt]
theorem Ig {a b t:Int}(h0:0<=a)(h1:a<b)(h2:b<=1099511627776):cnt [(a,b)] t=if a<=t/\t<b then 1 else 0:=by
 have hv:aK (a,b)=true:=by simp[aK];omega
 simp[cnt,aS,hv]
theorem Ab (n t v:Int)(out:List (Int×Int)){a b:Int}(h0:0<=a)(h1:a<b)(h2:b<=1099511627776)(hout:∀ q∈out,aK q=true/\q.2<=a) :
  (∀ q∈cF n out ((a,b),v),aK q=true/\q.2<=b)/\cnt (cF n out ((a,b),v)) t=cnt out t+(if n<=v/\a<=t/\t<b then 1 else 0):=by
 have hv:aK (a,b)=true:=by simp[aK];omega
 have happ:(∀ q∈out++[(a,b)],aK q=true/\q.2<=b)/\cnt (out++[(a,b)]) t=cnt out t+(if a<=t/\t<b then 1 else 0):=by
  refine⟨λq hq=>?_,by rw[om,Ig h0 h1 h2]⟩;obtain e|e:=aqS.1 hq
  ·have:=hout q e;exact⟨this.1,m0⟩
  ·simp at e;subst e;exact⟨hv,Int.le_refl _⟩
 unfold cF;by_cases hn:n<=v
 ·rw[if_pos hn]
  simp only[hn,true_and];unfold fh;split
  ·rename_i q hq
   split
   ·rename_i hle
    have hmem:q∈out:=List.mem_of_getLast? hq;obtain⟨hq1,hq2⟩:=hout q hmem;have hle':a<=q.2:=hle;have hqe:q.2=a:=m0
    have hsp:out=out.dropLast++[q]:=by
     have hne:out≠[]:=by intro e;rw[e]at hmem;simp at hmem
     rw[List.getLast?_eq_some_getLast hne]at hq;injection hq with hq
     rw[<- hq];exact(List.dropLast_concat_getLast hne).symm
    have hqv:0<=q.1/\q.1<q.2/\q.2<=1099511627776:=by simp[aK]at hq1;omega
    have hm:max q.2 b=b:=m0
    show(∀ x∈out.dropLast++[(q.1,max q.2 b)],aK x=true/\x.2<=b)/\cnt (out.dropLast++[(q.1,max q.2 b)]) t=_;rw[hm];refine⟨λx hx=>?_,?_⟩
    ·obtain e|e:=aqS.1 hx
     ·have:=hout x (List.dropLast_subset _ e);exact⟨this.1,m0⟩
     ·simp at e;subst e;exact⟨by simp[aK];omega,Int.le_refl _⟩
    ·have e1:cnt out t=cnt out.dropLast t+cnt [(q.1,q.2)] t:=by rw[<- om];exact congrArg (cnt · t) hsp
     rw[e1,om,Ig hqv.1 m0 h2,Ig hqv.1 hqv.2.1 hqv.2.2];split<;>split<;>split<;>omega
   ·exact happ
  ·exact happ
 ·rw[if_neg hn]
  refine⟨λq hq=>?_,by simp[hn]⟩;have:=hout q hq;exact⟨this.1,m0⟩
theorem Lq (n t:Int)(ht:t<1099511627776):∀ (r:List (Int×Int)) (x:Int×Int) (out:List (Int×Int)),0<=x.1->(x::r).Pairwise (λp q=>p.1<q.1)->(∀ s∈x::r,s.1<1099511627776)->(∀ q∈out,aK q=true/\q.2<=x.1) ->
  cnt ((mc (x::r)).foldl (cF n) out) t=cnt out t+(if x.1<=t/\n<=dT x.2 r t then 1 else 0)
 |[],x,out,h0,_,hM,hout=>by
  have:=(Ab n t x.2 out h0 (hM x m5) (Int.le_refl _) hout).2;simp only[mc,arh,List.foldl_nil,this];have e:dT x.2 [] t=x.2:=rfl;rw[e];split<;>split<;>omega
 |y::r,x,out,h0,hp,hM,hout=>by
  have hxy:x.1<y.1:=(aro.1 hp).1 y m5;have hy:=(aro.1 hp).2;obtain⟨h1,h2⟩:=Ab n t x.2 out h0 hxy (by have:=hM y m5;omega) hout;have ih:=Lq n t ht r y _ m0 hy (λs hs=>hM s (aqO _ hs)) h1;have e:mc (x::y::r)=((x.1,y.1),x.2)::mc (y::r):=rfl;rw[e,arh,ih,h2,bP];by_cases hyt:y.1<=t
  ·rw[if_pos hyt]
   split<;>split<;>split<;>omega
  ·rw[if_neg hyt]
   have e2:dT x.2 r t=x.2:=dN λq hq=>by have:=(aro.1 hy).1 q hq;omega
   rw[e2];split<;>split<;>split<;>omega
theorem aht {l:List (Int×Int)}(h:cI l=true)(n t:Int)(h1:0<=t)(h2:t<1099511627776):cnt (Is l n) t=if n<=se l t then 1 else 0:=by
 match l,h with
 |p::r,h =>
  have ha:=eJ h;have hp0:p.1=0:=ha.2.2.2 p rfl;simp only[cI,aqI]at h;have hv:=cB h.2;have:=Lq n t h2 r p [] m0 hv.1 ha.2.1 m5;unfold Is;rw[this,tB h1 h2,bP,if_pos (show p.1<=t by omega)];have e:cnt [] t=0:=rfl;rw[e];simp[hp0,h1]
theorem EX {l:List (Int×Int)}(h:cI l=true)(t:Int)(h1:0<=t)(h2:t<1099511627776)(h3:0<=se l t):∀ k:Nat,cnt (pQ l k) t=if (k:Int)<=se l t then(k:Int)else se l t
 |0=>by
  have e:cnt (pQ l 0) t=0:=rfl;rw[e];split<;>omega
 |k+1=>by
  rw[uf,om,EX h t h1 h2 h3 k,aht h _ t h1 h2];split<;>split<;>split<;>omega
theorem aeb {a b:List (Int×Int)}(h:a.Perm b)(t:Int):cnt a t=cnt b t:=by
 unfold cnt
 induction h with
 |nil=>rfl
 |cons x _ ih=>simp only[aqB,List.sum_cons,ih]
 |swap x y l=>simp only[aqB,List.sum_cons];omega
 |trans _ _ ih1 ih2=>exact ih1.trans ih2
theorem MC {l:List (Int×Int)}(h:cI l=true)(t:Int)(h1:0<=t)(h2:t<1099511627776)(h3:0<=se l t)(h4:se l t<=600):cnt (tt l) t=se l t:=by
 have hp:(tt l).Perm (pQ l 600):=by
  have h0:=(kK (gm l) [] .nil).2;rw[aqv]at h0;have e:gm l=pQ l 600:=by unfold gm pQ;rfl
  rw[<- e];exact h0
 rw[aeb hp,EX h t h1 h2 h3];split<;>omega
def C3 (X:List (Int×Int)):List ((Int×Int)×Int):=X.map λp=>(p,1)
theorem od (X:List (Int×Int))(t:Int):o9 (C3 X) t=cnt X t:=by
 unfold o9 C3 cnt;rw[List.map_map];rfl
end Go.Proofs.YtlcceppoloaecaaGreatDoor.St
namespace Go.Proofs.YtlcceppoloaecaaGreatDoor
open _root_.List (replicate)
open Go.RowKit
def aM (p:ax)(t:Int):Bool:=St.aS (toP p) t
theorem lB (p:ax)(t:Int):aM p t=(St.aK (toP p)&&(decide (p.lo<=t)&&decide (t<p.hi))):=Bool.and_assoc _ _ _
def de (ps:List ax)(t:Int):Nat:=(ps.filter λp=>aM p t).length
theorem BV (ps:List ax)(t:Int):St.cnt (ps.map toP) t=(de ps t:Int):=by
 unfold St.cnt de
 induction ps with
 |nil=>rfl
 |cons p ps ih =>
  rw[aqB,aqB,List.sum_cons,ih,List.filter_cons];unfold aM;by_cases h:St.aS (toP p) t=true
  ·rw[if_pos h,if_pos h,aqM];omega
  ·rw[if_neg h,if_neg h];omega
theorem dI (p:ax)(ps:List ax)(t:Int):de (p::ps) t=(if aM p t=true then 1 else 0)+de ps t:=by
 unfold de;rw[List.filter_cons];split<;>simp<;>omega
theorem Lx {p:ax}{t:Int}(h:aM p t=true):0<=t/\t<1099511627776:=by
 unfold aM St.aS St.aK at h;simp only[aqI,decide_eq_true_eq]at h;omega
theorem AU {t:Int}(h:¬(0<=t/\t<1099511627776))(ps:List ax):de ps t=0:=by
 unfold de;rw[aq1,List.filter_eq_nil_iff];exact λp _ hp=>h (Lx hp)
theorem acJ (ps:List ax)(t:Int):de ps t<=ps.length:=List.length_filter_le _ _
def dx (ps:List ax):List (Int×Int):=St.ofL ((ones ps).map toC)
theorem Jt (ps:List ax):(ones ps).map toC=St.C3 (ps.map toP):=by
 unfold ones St.C3;rw[List.map_map,List.map_map];rfl
theorem adX (ps:List ax):(bI ps).map toP=St.tt (dx ps):=by
 unfold bI A8 xW dx;rw[List.map_map,List.map_map];have e1:(toP∘ofP)=id:=by funext x;rfl
 have e2:(toS∘ofS)=id:=by funext x;rfl
 rw[e1,e2,List.map_id,List.map_id]
theorem gN (ps:List ax):St.cI (dx ps)=true:=(St.of_ok _).1
theorem EI (ps:List ax)(hn:ps.length<=300)(t:Int):St.se (dx ps) t=(de ps t:Int):=by
 by_cases h:0<=t/\t<1099511627776
 ·rw[show dx ps=St.dc (St.jZ ((ones ps).map toC)) (St.eU ((ones ps).map toC))from rfl,(St.of_ok _).2 t h.1 h.2,St.nc t (rx ps) (by simp[ones];omega),Jt,St.od,BV]
 ·rw[St.ah0 h,AU h];rfl
theorem lC (ps:List ax)(hn:ps.length<=300)(t:Int):0<=St.se (dx ps) t/\St.se (dx ps) t<=600:=by
 have:=EI ps hn t;have:=acJ ps t;omega
theorem wI (ps:List ax)(hn:ps.length<=300)(t:Int):de (bI ps) t=de ps t:=by
 by_cases h:0<=t/\t<1099511627776
 ·have h1:=BV (bI ps) t
  rw[adX,St.MC (gN ps) t h.1 h.2 (lC ps hn t).1 (lC ps hn t).2,EI ps hn]at h1;omega
 ·rw[AU h,AU h]
def Ff (ps:List ax)(x:Int):Nat:=(ps.filter λp=>St.aK (toP p)&&decide (p.lo<=x)).length
theorem m6 (p:ax)(ps:List ax)(t:Int):Ff (p::ps) t=(if (St.aK (toP p)&&decide (p.lo<=t))=true then 1 else 0)+Ff ps t:=by
 unfold Ff;rw[List.filter_cons];split<;>simp<;>omega
theorem K0 {x y:Int}(h:x<y):∀ ps:List ax,de ps y+Ff ps x<=de ps x+Ff ps y
 |[]=>by simp[de,Ff]
 |p::ps=>by
  have ih:=K0 h ps;rw[dI,dI,m6,m6];have:(if aM p y=true then 1 else 0)+(if (St.aK (toP p)&&decide (p.lo<=x))=true then 1 else 0)<=(if aM p x=true then 1 else 0)+(if (St.aK (toP p)&&decide (p.lo<=y))=true then 1 else 0):=by
   rw[lB,lB]
   cases hv:St.aK (toP p)
   ·simp
   ·simp only[aqY,aqI,decide_eq_true_eq]
    split<;>split<;>split<;>split<;>omega
  omega
theorem ah7 (ps:List ax)(x:Int):de ps x<=Ff ps x:=by
 induction ps with
 |nil=>simp[de,Ff]
 |cons p ps ih =>
  rw[dI,m6];have:(if aM p x=true then 1 else 0)<=(if (St.aK (toP p)&&decide (p.lo<=x))=true then 1 else 0):=by
   rw[lB]
   cases hv:St.aK (toP p)
   ·simp
   ·simp only[aqY,aqI,decide_eq_true_eq]
    split<;>split<;>omega
  omega
theorem ad9 {x y:Int}(h:x<=y)(ps:List ax):Ff ps x<=Ff ps y:=by
 induction ps with
 |nil=>simp[Ff]
 |cons p ps ih =>
  rw[m6,m6];have:(if (St.aK (toP p)&&decide (p.lo<=x))=true then 1 else 0)<=(if (St.aK (toP p)&&decide (p.lo<=y))=true then 1 else 0):=by
   cases hv:St.aK (toP p)
   ·simp
   ·simp only[aqY,decide_eq_true_eq]
    split<;>split<;>omega
  omega
theorem EN {l:List (Int×Int)}(ps:List ax)(ha:St.Asc l)(hF:∀ s∈l,0<=s.1/\s.1<1099511627776)(hy:∀ s∈l,s.2=(de ps s.1:Int)):∀ k,k<=l.length ->
  (∀ q∈(St.kO l k).2,St.aK q=true)/\(∀ f∈(St.kO l k).1,0<=f/\f<1099511627776 /\ ∃ (j:Nat) (y:Int),j<k/\l[j]?=some (f,y)) /\
  ((k=0/\(St.kO l k).1=[]/\(St.kO l k).2=[]) \/ ∃ x y,l[k-1]?=some (x,y)/\0<k/\(St.kO l k).1.length=de ps x/\(St.kO l k).2.length+(St.kO l k).1.length<=Ff ps x)
 |0,_=>⟨λq hq=>(by cases hq),λf hf=>(by cases hf),.inl ⟨rfl,rfl,rfl⟩⟩
 |k+1,hk=>by
  obtain⟨h1,h2,h3⟩:=EN ps ha hF hy k m0;have hx:l[k]?=some (l[k]' m0):=aqz m0;generalize l[k]' m0=p at hx;obtain⟨x,y⟩:=p;have hm:=aqw hx;have hxF:=hF _ hm;have hxy:y=(de ps x:Int):=hy _ hm;rw[St.nt hx];have hc:St.mq y=de ps x:=by
   unfold St.mq;rw[hxy];split<;>omega
  unfold St.wS;dsimp only;rw[hc];refine⟨λq hq=>?_,λf hf=>?_,.inr ⟨x,y,by simpa using hx,m0,St.nX _ _ _,?_⟩⟩
  ·obtain hq|hq:=aqS.1 hq
   ·exact h1 q hq
   ·obtain⟨f,hf,rfl⟩:=aq0.1 hq
    obtain⟨f1,f2,j,z,hj,hz⟩:=h2 f (List.mem_of_mem_drop hf);have:=ha j k _ _ hj hz hx;show St.aK (f,x)=true;unfold St.aK;simp only[aqI,decide_eq_true_eq];dsimp only at this hxF;omega
  ·unfold St.yT at hf
   obtain hf|hf:=aqS.1 hf
   ·obtain⟨f1,f2,j,z,hj,hz⟩:=h2 f (arp hf)
    exact⟨f1,f2,j,z,m0,hz⟩
   ·obtain⟨_,rfl⟩:=List.mem_replicate.1 hf
    exact⟨hxF.1,hxF.2,k,y,m0,hx⟩
  ·rw[St.nX,aqy,aqC,List.length_drop]
   obtain⟨_,e1,e2⟩|⟨x0,y0,hx0,hk0,e1,e2⟩:=h3
   ·rw[e1,e2]
    have:=ah7 ps x;simp only[aqV];omega
   ·have hlt:=ha (k-1) k _ _ m0 hx0 hx
    dsimp only at hlt;have b1:=K0 hlt ps;have b2:=ad9 (Int.le_of_lt hlt) ps;omega
theorem yJ (ps:List ax)(hn:ps.length<=300):(St.Nz (dx ps)).length<=ps.length /\ ∀ q∈St.Nz (dx ps),St.aK q=true:=by
 obtain⟨ha,hF,hne,_⟩:=St.eJ (gN ps);have hnn:=St.lc (gN ps);have hy:∀ s∈dx ps,s.2=(de ps s.1:Int):=by
  intro s hs;have h:=((St.B6 ((ones ps).map toC)).2 s hs).2;rw[h,St.nc s.1 (rx ps) (by simp[ones];omega),Jt,St.od,BV]
 obtain⟨h1,h2,h3⟩:=EN ps ha (λs hs=>⟨hnn s hs,hF s hs⟩) hy (dx ps).length (aqG _);unfold St.Nz;refine⟨?_,λq hq=>?_⟩
 ·rw[aqy,aqC]
  obtain⟨_,e1,e2⟩|⟨x,y,_,_,_,e2⟩:=h3
  ·rw[e1,e2];exact aqL _
  ·exact Nat.le_trans e2 (List.length_filter_le _ _)
 ·obtain hq|hq:=aqS.1 hq
  ·exact h1 q hq
  ·obtain⟨f,hf,rfl⟩:=aq0.1 hq
   obtain⟨f1,f2,_⟩:=h2 f hf;show St.aK (f,1099511627776)=true;unfold St.aK;simp only[aqI,decide_eq_true_eq];omega
theorem uK (ps:List ax)(hn:ps.length<=300):((bI ps).map toP).Perm (St.Nz (dx ps)):=by
 obtain⟨ha,hF,_,_⟩:=St.eJ (gN ps);have hM:∀ s∈dx ps,s.2<=600:=by
  intro s hs;have h:=((St.B6 ((ones ps).map toC)).2 s hs).2;rw[h,St.nc s.1 (rx ps) (by simp[ones];omega),Jt,St.od,BV];have:=acJ ps s.1;omega
 rw[adX];have h0:=(St.kK (St.gm (dx ps)) [] .nil).2;rw[aqv]at h0;exact h0.trans (St.EO ha hF hM).symm
theorem ac2 (ps:List ax)(hn:ps.length<=300):(bI ps).length<=ps.length:=by
 have:=(uK ps hn).length_eq;rw[aqC]at this;rw[this];exact(yJ ps hn).1
theorem ib (ps:List ax)(hn:ps.length<=300):∀ p∈bI ps,St.aK (toP p)=true:=λp hp =>
 (yJ ps hn).2 _ ((uK ps hn).subset (List.mem_map_of_mem hp))
open Go.RowKit Go.MapKept
set_option maxRecDepth 100000
theorem Jr {r:List Val}{R:List (List Val)}(h:ut (r::R)):r∉R:=by
 intro hr;have:=List.rel_of_pairwise_cons h hr;rw[tCr_.refl]at this;omega
theorem Oz (s t:List ap)(r:List Val):bo (s++t) r=bo s r++bo t r:=by unfold bo;rw[List.filter_append,aqD]
theorem zX (r:List Val):∀ ps:List ax,(∀ p∈ps,St.aK (toP p)=true)->bo (ps.map λp=>(⟨r,p⟩:ap)) r=ps
 |[],_=>rfl
 |p::ps,h=>by
  have ih:=zX r ps λq hq=>h q (aqO _ hq)
  have hp:aw p=true:=h p (arc ..);unfold bo at ih ⊢;rw[aqB,List.filter_cons_of_pos (by simp[hp]),aqB,ih]
theorem GZ {r x:List Val}(hx:x≠r)(ps:List ax):bo (ps.map λp=>(⟨x,p⟩:ap)) r=[]:=by
 unfold bo;rw[List.map_eq_nil_iff,List.filter_eq_nil_iff];intro f hf h;obtain⟨p,_,rfl⟩:=aq0.1 hf;simp only[aqI,decide_eq_true_eq]at h;exact hx h.2
theorem tA (L:List Val->List ax)(hL:∀ r,∀ p∈L r,St.aK (toP p)=true):∀ (R:List (List Val)),ut R ->∀ r,bo (R.flatMap λr=>(L r).map λp=>(⟨r,p⟩:ap)) r=if r∈R then L r else []
 |[],_,r=>rfl
 |x::R,h,r=>by
  have ih:=tA L hL R (List.Pairwise.of_cons h) r;rw[aq3,Oz,ih];by_cases hx:x=r
  ·subst hx
   rw[zX x _ (hL x),if_neg (Jr h),if_pos (arc ..),aqZ]
  ·rw[GZ hx,aqv]
   by_cases hr:r∈R
   ·rw[if_pos hr,if_pos (aqO _ hr)]
   ·rw[if_neg hr,if_neg (by intro h;rcases aqH.1 h with h|h;exact hx h.symm;exact hr h)]
theorem Ai {α:Type}(p:α->Bool):∀ l:List α,(l.filter p).length+(l.filter λx => !p x).length=l.length
 |[]=>rfl
 |x::l=>by
  have:=Ai p l;rw[List.filter_cons,List.filter_cons]
  cases h:p x<;>simp<;>omega
theorem adQ (l:List ap)(r:List Val):(bo l r).length<=(l.filter λf=>decide (f.row=r)).length:=by
 unfold bo;rw[aqC]
 induction l with
 |nil=>exact aqG _
 |cons f l ih =>
  rw[List.filter_cons,List.filter_cons]
  cases aw f.valid<;>cases decide (f.row=r)<;>simp<;>omega
theorem Jy {r x:List Val}(h:x≠r)(l:List ap):bo l x=bo (l.filter λf => !decide (f.row=r)) x:=by
 unfold bo;rw[List.filter_filter];congr 1;apply List.filter_congr;intro f _;by_cases hx:f.row=x
 ·have:f.row≠r:=λe=>h (hx.symm.trans e)
  simp[hx,h]
 ·simp[hx]
theorem Fg:∀ (R:List (List Val)) (l:List ap),ut R->(R.flatMap λr=>bo l r).length<=l.length
 |[],l,_=>aqL _
 |r::R,l,h=>by
  rw[aq3,aqy];have e:(R.flatMap λx=>bo l x)=R.flatMap λx=>bo (l.filter λf => !decide (f.row=r)) x:=by
   rw[List.flatMap_def,List.flatMap_def];congr 1;refine List.map_congr_left λx hx=>Jy ?_ l
   rintro rfl;exact Jr h hx
  rw[e];have h1:=Fg R (l.filter λf => !decide (f.row=r)) (List.Pairwise.of_cons h);have h2:=adQ l r;have h3:=Ai (λf:ap=>decide (f.row=r)) l;omega
theorem dE {α β γ:Type}(f:α->List β)(g:α->List γ):∀ l:List α,(∀ x∈l,(f x).length<=(g x).length)->(l.flatMap f).length<=(l.flatMap g).length
 |[],_=>aqG _
 |x::l,h=>by
  rw[aq3,aq3,aqy,aqy];have:=h x (arc ..);have:=dE f g l λy hy=>h y (aqO _ hy)
  omega
theorem dV (l:List ap)(r:List Val):(bo l r).length<=l.length:=by
 unfold bo;rw[aqC];exact List.length_filter_le _ _
theorem ac8 {l:List ap}{R:List (List Val)}(h:dP l R){r:List Val}(hr:r∉R):bo l r=[]:=by
 unfold bo;rw[List.map_eq_nil_iff,List.filter_eq_nil_iff];intro f hf hc;rw[aqI]at hc;exact hr ((h.2 r).2 ⟨f,hf,hc.1,aqT hc.2⟩)
section
variable {l:List ap} {R:List (List Val)} (h:dP l R) (hn:l.length<=300)
include h hn
theorem ahL:(dH l R).length<=l.length:=by
 refine Nat.le_trans ?_ (Fg R l h.1);refine dE _ _ _ λr _=>?_
 rw[aqC];exact ac2 _ (Nat.le_trans (dV l r) hn)
theorem acM (r:List Val):bo (dH l R) r=if r∈R then bI (bo l r)else [] :=
 tA (λr=>bI (bo l r)) (λr p hp=>ib _ (Nat.le_trans (dV l r) hn) p hp) R h.1 r
end
def aD (l:List ap)(t:Int):List (List Val):=(l.filter λf=>aM f.valid t).map (·.row)
theorem rC (t:Int)(r:List Val):∀ l:List ap,(aD l t).count r=de (bo l r) t
 |[]=>rfl
 |f::l=>by
  have ih:=rC t r l;unfold aD at ih ⊢;have e:bo (f::l) r=(if (aw f.valid&&decide (f.row=r))=true then [f.valid]else [])++bo l r:=by
   unfold bo;rw[List.filter_cons];split<;>simp
  rw[List.filter_cons,e];by_cases hc:aM f.valid t=true
  ·have hv:aw f.valid=true:=by
    have:=hc;rw[lB,aqI]at this;exact this.1
   rw[if_pos hc,aqB,List.count_cons,ih];by_cases hr:f.row=r
   ·simp only[hv,hr,decide_true,Bool.and_self,if_true,List.cons_append,aqv,beq_self_eq_true]
    rw[dI,if_pos hc];omega
   ·simp[hr]
  ·rw[if_neg hc,ih]
   split
   ·rw[List.cons_append,aqv,dI,if_neg hc,aq8]
   ·rfl
theorem aj9 {l:List ap}{R:List (List Val)}(h:dP l R)(hn:l.length<=300)(t:Int):(aD (dH l R) t).Perm (aD l t):=by
 rw[List.perm_iff_count];intro r;rw[rC,rC,acM h hn r];split
 ·exact wI _ (Nat.le_trans (dV l r) hn) t
 ·rename_i hr
  rw[ac8 h hr]
def Apart (p q:ax):Prop:=p.hi<q.lo\/q.hi<p.lo\/(p.lo<=q.lo/\q.hi<=p.hi)\/(q.lo<=p.lo/\p.hi<=q.hi)
def Lam (L:List ax):Prop :=∀ p∈L,∀ q∈L,Apart p q
def tR (p:ax):Prop:=0<=p.lo/\p.lo<p.hi/\p.hi<=1099511627776
theorem Ad (p:ax):St.aK (toP p)=true↔tR p:=by
 unfold St.aK tR toP;simp only[aqI,decide_eq_true_eq];omega
theorem cH {p:ax}(h:tR p)(t:Int):aM p t=true↔p.lo<=t/\t<p.hi:=by
 rw[lB,(Ad p).2 h,aqY,aqI,decide_eq_true_eq,decide_eq_true_eq]
theorem cnt_mono {s t:Int}:∀ L:List ax,(∀ p∈L,aM p s=true->aM p t=true)->de L s<=de L t
 |[],_=>aqG _
 |p::L,h=>by
  have ih:=cnt_mono L λq hq=>h q (aqO _ hq)
  have h0:=h p (arc ..);rw[dI,dI];by_cases hs:aM p s=true
  ·rw[if_pos hs,if_pos (h0 hs)];omega
  ·rw[if_neg hs];omega
theorem oO (A B:List ax)(t:Int):de (A++B) t=de A t+de B t:=by
 unfold de;rw[List.filter_append,aqy]
theorem cnt_lt {s t:Int}{L:List ax}(h:∀ p∈L,aM p s=true->aM p t=true){q:ax}(hq:q∈L)(h1:aM q t=true)(h2:aM q s=false):de L s<de L t:=by
 obtain⟨A,B,rfl⟩:=List.append_of_mem hq;have hA:=cnt_mono A λp hp=>h p (by simp[hp])
 have hB:=cnt_mono B λp hp=>h p (by simp[hp])
 rw[oO,oO,dI,dI,if_pos h1,if_neg (by rw[h2];decide)];omega
theorem ahj {s t:Int}{L:List ax}(h:de L s<de L t):∃ q∈L,aM q t=true/\aM q s=false:=by
 apply Classical.byContradiction;intro hn;have:=cnt_mono (s:=t) (t:=s) L λp hp h1=>by
  cases h2:aM p s
  ·exact absurd ⟨p,hp,h1,h2⟩ hn
  ·rfl
 omega
theorem agL:∀ L:List ax,L≠[] ->∃ p∈L,∀ q∈L,p.hi-p.lo<=q.hi-q.lo
 |[],h=>absurd rfl h
 |p::L,_=>by
  by_cases hL:L=[]
  ·subst hL
   exact⟨p,arc .., λq hq=>by simp at hq;subst hq;omega⟩
  ·obtain⟨m,hm,h⟩:=agL L hL
   by_cases hpm:p.hi-p.lo<=m.hi-m.lo
   ·exact⟨p,arc .., λq hq=>by
     obtain rfl|hq:=aqH.1 hq
     ·omega
     ·have:=h q hq;omega⟩
   ·exact⟨m,aqO _ hm,λq hq=>by
     obtain rfl|hq:=aqH.1 hq
     ·omega
     ·exact h q hq⟩
theorem HW {p q:ax}(h1:p.lo=q.lo)(h2:p.hi=q.hi):p=q:=by
 cases p;cases q;simp_all
theorem falls {M:List ax}(hM:Lam M)(vM:∀ p∈M,tR p){q:ax}(hq:q∈M):de M q.hi<de M (q.hi-1):=by
 have vq:=vM q hq;unfold tR at vq;refine cnt_lt (λs hs h=>?_) hq ((cH (vM q hq) _).2 m0) ?_
 ·have vs:=vM s hs
  have ha:=hM q hq s hs;rw[cH vs]at h ⊢;unfold tR at vs;unfold Apart at ha;omega
 ·cases h:aM q q.hi
  ·rfl
  ·have:=(cH (vM q hq) _).1 h
   omega
theorem rises {M:List ax}(hM:Lam M)(vM:∀ p∈M,tR p){q:ax}(hq:q∈M):de M (q.lo-1)<de M q.lo:=by
 have vq:=vM q hq;unfold tR at vq;refine cnt_lt (λs hs h=>?_) hq ((cH (vM q hq) _).2 m0) ?_
 ·have vs:=vM s hs
  have ha:=hM q hq s hs;rw[cH vs]at h ⊢;unfold tR at vs;unfold Apart at ha;omega
 ·cases h:aM q (q.lo-1)
  ·rfl
  ·have:=(cH (vM q hq) _).1 h
   omega
theorem B8:∀ (n:Nat) (L M:List ax),L.length=n->Lam L->Lam M->(∀ p∈L,tR p)->(∀ p∈M,tR p)->(∀ t,de L t=de M t)->L.Perm M
 |0,L,M,hn,_,_,_,vM,hc=>by
  obtain rfl:=aq1.1 hn
  cases M with
  |nil=>exact .nil
  |cons q M =>
   have vq:=vM q (arc ..);have h:=hc q.lo;rw[dI,if_pos ((cH vq _).2 (by unfold tR at vq;omega))]at h;simp[de]at h;omega
 |n+1,L,M,hn,hL,hM,vL,vM,hc=>by
  obtain⟨p,hp,hmin⟩:=agL L (by intro e;rw[e]at hn;simp at hn);have vp:=vL p hp;have vp':=vp;unfold tR at vp';have sup:∀ q∈L,∀ t,p.lo<=t->t<p.hi->aM q t=true->q.lo<=p.lo/\p.hi<=q.hi:=by
   intro q hq t h1 h2 h3;rw[cH (vL q hq)]at h3;have ha:=hL p hp q hq;have hm:=hmin q hq;unfold Apart at ha;omega
  have const:∀ s t,p.lo<=s->s<p.hi->p.lo<=t->t<p.hi->de L s<=de L t:=by
   intro s t h1 h2 h3 h4;refine cnt_mono L λq hq h=>?_
   have:=sup q hq s h1 h2 h;rw[cH (vL q hq)];omega
  have r1:=rises hL vL hp;have f1:=falls hL vL hp;rw[hc,hc]at r1 f1;obtain⟨q,hq,q1,q2⟩:=ahj r1;obtain⟨r,hr,e1,e2⟩:=ahj f1;have vq:=vM q hq;have vr:=vM r hr;have vq':=vq;have vr':=vr;unfold tR at vq' vr';rw[cH vq]at q1;rw[cH vr]at e1;have q3:¬ (q.lo<=p.lo-1/\p.lo-1<q.hi):=λh=>by rw[(cH vq _).2 h]at q2;cases q2
  have e3:¬ (r.lo<=p.hi/\p.hi<r.hi):=λh=>by rw[(cH vr _).2 h]at e2;cases e2
  have q4:p.hi<=q.hi:=by
   apply Classical.byContradiction;intro hlt;have f2:=falls hM vM hq;have:=const (q.hi-1) q.hi m0 m0 m0 m0;rw[hc,hc]at this;omega
  have e4:r.lo<=p.lo:=by
   apply Classical.byContradiction;intro hlt;have f2:=rises hM vM hr;have:=const r.lo (r.lo-1) m0 m0 m0 m0;rw[hc,hc]at this;omega
  have hpM:p∈M:=by
   have ha:=hM q hq r hr;unfold Apart at ha;obtain h|h|h|h:=ha
   ·omega
   ·omega
   ·rw[show p=r from HW m0 m0];exact hr
   ·rw[show p=q from HW m0 m0];exact hq
  obtain⟨A,B,rfl⟩:=List.append_of_mem hp;obtain⟨C,D,rfl⟩:=List.append_of_mem hpM;have sL:∀ x∈A++B,x∈A++p::B:=λx hx=>by simp at hx ⊢;rcases hx with h|h<;>simp[h]
  have sM:∀ x∈C++D,x∈C++p::D:=λx hx=>by simp at hx ⊢;rcases hx with h|h<;>simp[h]
  have ih:=B8 n (A++B) (C++D) (by simp at hn ⊢;omega) (λx hx y hy=>hL x (sL x hx) y (sL y hy)) (λx hx y hy=>hM x (sM x hx) y (sM y hy)) (λx hx=>vL x (sL x hx)) (λx hx=>vM x (sM x hx)) (λt=>by
   have:=hc t;rw[oO,oO,dI,dI]at this;rw[oO,oO];omega)
  exact List.perm_middle.trans ((ih.cons p).trans List.perm_middle.symm)
def ApS (p q:Int×Int):Prop:=p.2<q.1\/q.2<p.1\/(p.1<=q.1/\q.2<=p.2)\/(q.1<=p.1/\p.2<=q.2)
structure Stk (E:List Int)(out:List (Int×Int))(x:Int):Prop where
 asc:E.Pairwise (· <= ·)
 out2:∀ p∈out,∀ q∈out,ApS p q
 fin:∀ p∈out,p.2<=x/\p.1<p.2
 opn:∀ f∈E,f<=x /\ ∀ q∈out,f<=q.1\/q.2<f
theorem Stk.pop {E:List Int}{out:List (Int×Int)}{x y:Int}(h:Stk E out x)(hxy:x<y)(c:Nat) :
  (∀ p∈out++(E.drop c).map (λf=>(f,y)),∀ q∈out++(E.drop c).map (λf=>(f,y)),ApS p q)/\(∀ p∈out++(E.drop c).map (λf=>(f,y)),p.2<=y/\p.1<p.2):=by
 have key:∀ p∈out,∀ f∈E.drop c,ApS p (f,y)/\ApS (f,y) p:=by
  intro p hp f hf;have h1:=(h.opn f (List.mem_of_mem_drop hf)).2 p hp;have h2:=h.fin p hp;unfold ApS;dsimp only;omega
 have two:∀ f∈E.drop c,∀ g∈E.drop c,ApS (f,y) (g,y):=by
  intro f _ g _;unfold ApS;dsimp only;omega
 refine⟨λp hp q hq=>?_,λp hp=>?_⟩
 ·rcases aqS.1 hp with hp|hp<;>rcases aqS.1 hq with hq|hq
  ·exact h.out2 p hp q hq
  ·obtain⟨f,hf,rfl⟩:=aq0.1 hq
   exact(key p hp f hf).1
  ·obtain⟨f,hf,rfl⟩:=aq0.1 hp
   exact(key q hq f hf).2
  ·obtain⟨f,hf,rfl⟩:=aq0.1 hp
   obtain⟨g,hg,rfl⟩:=aq0.1 hq;exact two f hf g hg
 ·obtain hp|hp:=aqS.1 hp
  ·have:=h.fin p hp;omega
  ·obtain⟨f,hf,rfl⟩:=aq0.1 hp
   have:=(h.opn f (List.mem_of_mem_drop hf)).1;dsimp only;omega
theorem Stk.next {E:List Int}{out:List (Int×Int)}{x y:Int}(h:Stk E out x)(hxy:x<y)(c:Nat):Stk (St.yT E y c) (out++(E.drop c).map λf=>(f,y)) y:=by
 obtain⟨h1,h2⟩:=h.pop hxy c;unfold St.yT;refine⟨?_,h1,h2,λf hf=>?_⟩
 ·rw[List.pairwise_append]
  refine⟨h.asc.sublist (List.take_sublist _ _),List.pairwise_replicate.2 (.inr (Int.le_refl _)),λa ha b hb=>?_⟩;obtain⟨_,rfl⟩:=List.mem_replicate.1 hb;have:=(h.opn a (arp ha)).1;omega
 ·obtain hf|hf:=aqS.1 hf
  ·have h3:=h.opn f (arp hf)
   refine⟨m0,λq hq=>?_⟩;obtain hq|hq:=aqS.1 hq
   ·exact h3.2 q hq
   ·obtain⟨g,hg,rfl⟩:=aq0.1 hq
    have hs:(E.take c++E.drop c).Pairwise (· <= ·):=by rw[ara];exact h.asc
    exact .inl ((List.pairwise_append.1 hs).2.2 f hf g hg)
  ·obtain⟨hc,rfl⟩:=List.mem_replicate.1 hf
   refine⟨Int.le_refl _,λq hq=>?_⟩;obtain hq|hq:=aqS.1 hq
   ·have:=(h.fin q hq).1;exact .inr m0
   ·rw[List.drop_eq_nil_of_le m0]at hq
    cases hq
theorem M9 {l:List (Int×Int)}(ha:St.Asc l):∀ k,k<=l.length->(k=0/\St.kO l k=([],[])) \/ ∃ x y,l[k-1]?=some (x,y)/\0<k/\Stk (St.kO l k).1 (St.kO l k).2 x
 |0,_ => .inl ⟨rfl,rfl⟩
 |k+1,hk=>by
  have ih:=M9 ha k m0;have hx:l[k]?=some (l[k]' m0):=aqz m0;generalize l[k]' m0=p at hx;obtain⟨x,y⟩:=p;refine .inr ⟨x,y,by simpa using hx,m0,?_⟩;rw[St.nt hx];unfold St.wS;dsimp only;obtain⟨_,e⟩|⟨x0,y0,hx0,hk0,h⟩:=ih
  ·rw[e]
   exact Stk.next (x:=x-1) ⟨.nil,λp hp=>(by cases hp),λp hp=>(by cases hp),λf hf=>(by cases hf)⟩ m0 _
  ·exact h.next (by have:=ha (k-1) k _ _ m0 hx0 hx;exact this) _
theorem aeZ {l:List (Int×Int)}(ha:St.Asc l)(hF:∀ s∈l,s.1<1099511627776):∀ p∈St.Nz l,∀ q∈St.Nz l,ApS p q:=by
 unfold St.Nz;rcases M9 ha l.length (aqG _)with⟨_,e⟩|⟨x,y,hx,hk,h⟩
 ·rw[e];intro p hp;cases hp
 ·have:=h.pop (y:=1099511627776) (hF _ (aqw hx)) 0
  rw[List.drop_zero]at this;exact this.1
theorem Dm (ps:List ax)(hn:ps.length<=300):Lam (bI ps):=by
 obtain⟨ha,hF,_,_⟩:=St.eJ (gN ps);intro p hp q hq;have h:=aeZ ha hF _ ((uK ps hn).subset (List.mem_map_of_mem hp)) _ ((uK ps hn).subset (List.mem_map_of_mem hq));exact h
theorem oZ (ps:List ax):(bI ps).Pairwise λp q=>St.dM (toP p) (toP q):=by
 have h:=(St.kK (St.gm (dx ps)) [] .nil).1;have e:(bI ps).map toP=(St.gm (dx ps)).foldl St.ij []:=adX ps;rw[<- e,List.pairwise_map]at h;exact h
theorem sV:∀ {l m:List ax},(l.Pairwise λp q=>St.dM (toP p) (toP q))->(m.Pairwise λp q=>St.dM (toP p) (toP q))->l.Perm m->l=m
 |[],m,_,_,h=>(List.Perm.nil_eq h)
 |p::l,[],_,_,h=>absurd h.length_eq m5
 |p::l,q::m,hl,hm,h=>by
  have hp:p∈q::m:=h.subset (arc ..);have hq:q∈p::l:=h.symm.subset (arc ..);have e:p=q:=by
   obtain e|hp:=aqH.1 hp
   ·exact e
   ·obtain e|hq:=aqH.1 hq
    ·exact e.symm
    ·have h1:=List.rel_of_pairwise_cons hl hq
     have h2:=List.rel_of_pairwise_cons hm hp;unfold St.dM toP at h1 h2;dsimp only at h1 h2;exact HW m0 m0
  subst e;rw[sV (List.Pairwise.of_cons hl) (List.Pairwise.of_cons hm) ((List.perm_cons p).1 h)]
theorem cR (a b:List ap)(t:Int):aD (a++b) t=aD a t++aD b t:=by unfold aD;rw[List.filter_append,aqD]
theorem aio {ps:List ax}{p:ax}(hp:p∈ps){t:Int}(h:aM p t=true):0<de ps t:=by
 unfold de;exact List.length_pos_of_mem (List.mem_filter.2 ⟨hp,h⟩)
theorem acY {l:List ap}{R:List (List Val)}(h:dP l R)(r:List Val):r∈R ↔ ∃ t,0<de (bo l r) t:=by
 constructor
 ·intro hr
  obtain⟨f,hf,hv,e⟩:=(h.2 r).1 hr;have hp:f.valid∈bo l r:=aq0.2 ⟨f,List.mem_filter.2 ⟨hf,by simp[hv,e]⟩,rfl⟩;have hV:=(Ad f.valid).1 (show St.aK (toP f.valid)=true from hv);exact⟨f.valid.lo,aio hp ((cH hV _).2 ⟨Int.le_refl _,hV.2.1⟩)⟩
 ·rintro⟨t,ht⟩
  refine Classical.byContradiction λhr=>?_
  rw[ac8 h hr]at ht;exact absurd ht (by simp[de])
theorem aa7 {ps qs:List ax}(hn:ps.length<=300)(hm:qs.length<=300)(h:∀ t,de ps t=de qs t):bI ps=bI qs:=by
 have hc:∀ t,de (bI ps) t=de (bI qs) t:=λt=>by rw[wI ps hn,wI qs hm,h]
 exact sV (oZ ps) (oZ qs) (B8 _ (bI ps) (bI qs) rfl (Dm ps hn) (Dm qs hm) (λp hp=>(Ad p).1 (ib ps hn p hp)) (λp hp=>(Ad p).1 (ib qs hm p hp)) hc)
theorem ahy {l m:List ap}{R T:List (List Val)}(h:dP l R)(k:dP m T)(hl:l.length<=300)(hm:m.length<=300)(hp:∀ t,(aD l t).Perm (aD m t)):dH l R=dH m T:=by
 have hc:∀ r t,de (bo l r) t=de (bo m r) t:=λr t=>by rw[<- rC,<- rC];exact(hp t).count_eq r
 have hR:R=T:=xG h.1 k.1 λr=>by rw[acY h,acY k];simp only[hc]
 subst hR;unfold dH;rw[List.flatMap_def,List.flatMap_def];congr 1;refine List.map_congr_left λr _=>?_
 rw[aa7 (Nat.le_trans (dV l r) hl) (Nat.le_trans (dV m r) hm) (hc r)]
noncomputable def ak7 (l:List ap):List (List Val):=Classical.choose (Do l)
theorem lV (l:List ap):dP l (ak7 l):=(Classical.choose_spec (Do l)).1
noncomputable def canon (l:List ap):List ap:=dH l (ak7 l)
theorem uU {l:List ap}{R:List (List Val)}(h:dP l R):dH l R=canon l:=by unfold canon;rw[dP.ext h (lV l)]
theorem jk {l:List ap}(hn:l.length<=300):(canon l).length<=l.length:=ahL (lV l) hn
theorem jF {l:List ap}(hn:l.length<=300)(t:Int):(aD (canon l) t).Perm (aD l t):=aj9 (lV l) hn t
theorem rX {l m:List ap}(hl:l.length<=300)(hm:m.length<=300)(hp:∀ t,(aD l t).Perm (aD m t)):canon l=canon m:=ahy (lV l) (lV m) hl hm hp
theorem rh {l:List ap}(hn:l.length<=300){f:ap}(h:f∈canon l):aw f.valid=true /\ ∃ g∈l,g.row=f.row:=by
 unfold canon dH at h;obtain⟨r,hr,h⟩:=List.mem_flatMap.1 h;obtain⟨p,hp,rfl⟩:=aq0.1 h;obtain⟨g,hg,_,e⟩:=((lV l).2 r).1 hr;exact⟨ib _ (Nat.le_trans (dV l r) hn) p hp,g,hg,e⟩
theorem bH {l:List ap}(h:bz l):bz (canon l):=by
 have hn:l.length<=300:=by have:=h.1;omega
 refine⟨Nat.le_trans (jk hn) h.1,λf hf=>?_⟩;obtain⟨_,g,hg,e⟩:=rh hn hf;rw[<- e];exact h.2 g hg
theorem kw {l:List ap}(h:bz l):q9 l=some (canon l):=by
 obtain⟨R,hR,e⟩:=ac3 l h;rw[e,uU hR]
theorem GH {l:List ap}(hn:l.length<=300)(hr:∀ f∈l,f.row.length<=1000000):mj l=some (canon l):=by
 obtain⟨R,hR,e,_⟩:=KT l hn hr;rw[e,uU hR]
theorem rD {l:List ap}(h:bz l):∀ f∈l,f.row.length<=1000000:=λf hf=>by have:=(h.2 f hf).1;omega
theorem gF {l:List ap}(h:bz l):mj l=some (canon l):=GH (by have:=h.1;omega) (rD h)
theorem pO {l:List ap}(h:bz l):gX l l=some true:=Gw l (by have:=h.1;omega) (rD h)
structure aa2 (r:bj):Prop where
 len:r.facts.length<=16
 kinds:r.kinds.length<=48
 per:∀ f∈r.facts,aw f.valid=true
 row:∀ f∈r.facts,f.row.length=r.kinds.length
 val:∀ f∈r.facts,∀ v∈f.row,vF v=true
theorem aa2.fcts {r:bj}(h:aa2 r):bz r.facts:=⟨by have:=h.len;omega,λf hf=>⟨by rw[h.row f hf];have:=h.kinds;omega,λv hv=>(uw (h.val f hf v hv)).vok⟩⟩
theorem K_ {row:List Val}{kinds:List Int}(hk:kinds.length<=1000000):∃ b,tu row kinds=some b/\(b=true->row.length=kinds.length /\ ∀ v∈row,vF v=true):=by
 by_cases he:row.length=kinds.length
 ·obtain⟨b,hb⟩:=abn row kinds m0
  refine⟨b,hb,λhbt=>⟨he,?_⟩⟩;subst hbt;unfold tu at hb;rw[show decide ((row.length:Int)≠(kinds.length:Int))=false from aqt m0,aqr]at hb;have key:∀ (n i:Nat),i<=row.length->row.length-i<n->(ao (fV row kinds) n (i:Int)).bind FB=some true ->∀ v∈row.drop i,vF v=true:=by
   intro n
   induction n with
   |zero=>intro i _ h;omega
   |succ n ih =>
    intro i hi hn hb v hv;rw[ao]at hb;by_cases hlt:i<row.length
    ·obtain⟨x,hx⟩:=gol_ hlt
     obtain⟨k,hk⟩:=gol_ (l:=kinds) (i:=i) m0;have h1:fV row kinds (i:Int)=bif (!vF x)then some (.ret false)else bif decide (x.kind≠0)then bif decide (x.kind≠k)then some (.ret false)else some (.next ((i+1:Nat):Int))else some (.next ((i+1:Nat):Int)):=by
      unfold fV;dsimp only;rw[aO hx,aqs,gn_ hx,gn_ hk];simp only[aqo];rw[gu,aqo,wrapN m0]
     have hd:row.drop i=x::row.drop (i+1):=by rw[aqW hlt,(aqp.1 hx).2]
     rw[hd]at hv
     cases hvx:vF x with
     |false=>rw[h1,hvx]at hb;exact absurd (show(some false:Option Bool)=some true from hb) m9
     |true =>
      have h2:fV row kinds (i:Int)=some (.next ((i+1:Nat):Int)):=by
       rw[h1,hvx,Bool.not_true,aqr]
       cases c1:decide (x.kind≠0)with
       |false=>rfl
       |true =>
        cases c2:decide (x.kind≠k)with
        |false=>rfl
        |true=>rw[h1,hvx,Bool.not_true,aqr,c1,c2]at hb;exact absurd (show(some false:Option Bool)=some true from hb) m9
      rw[h2]at hb;obtain rfl|hv:=aqH.1 hv
      ·exact hvx
      ·exact ih (i+1) m0 m0 hb v hv
    ·rw[List.drop_eq_nil_of_le m0]at hv;cases hv
  exact λv hv=>key fuel 0 (aqL _) (by unfold fuel;omega) hb v (by rw[List.drop_zero];exact hv)
 ·refine⟨false,?_,λh=>by cases h⟩
  unfold tu;rw[show decide ((row.length:Int)≠(kinds.length:Int))=true from aqu m0];rfl
theorem zg {r:bj}(hl:r.facts.length<=1000)(hk:r.kinds.length<=48):∃ b,wy r=some b/\(b=true->(∀ f∈r.facts,aw f.valid=true)/\(∀ f∈r.facts,f.row.length=r.kinds.length) /\ ∀ f∈r.facts,∀ v∈f.row,vF v=true):=by
 have key:∀ (n i:Nat),i<=r.facts.length->r.facts.length-i<n ->∃ b,(ao (fb r) n (i:Int)).bind (nk r)=some b/\(b=true ->∀ f∈r.facts.drop i,aw f.valid=true/\f.row.length=r.kinds.length /\ ∀ v∈f.row,vF v=true):=by
  intro n
  induction n with
  |zero=>intro i _ h;omega
  |succ n ih =>
   intro i hi hn;rw[ao];by_cases hlt:i<r.facts.length
   ·obtain⟨x,hx⟩:=gol_ hlt
    have hd:r.facts.drop i=x::r.facts.drop (i+1):=by rw[aqW hlt,(aqp.1 hx).2]
    obtain⟨b,hb,hb2⟩:=K_ (row:=x.row) (kinds:=r.kinds) m0;have h1:fb r (i:Int)=bif !(aw x.valid)then some (.ret false)else bif !b then some (.ret false)else some (.next ((i+1:Nat):Int)):=by
     unfold fb;dsimp only;rw[aO hx,aqs,gn_ hx,aqo,ko,aqo,hb,aqo,wrapN m0]
    rw[h1]
    cases hp:aw x.valid with
    |false=>exact⟨false,rfl,λh=>by cases h⟩
    |true =>
     cases b with
     |false=>exact⟨false,rfl,λh=>by cases h⟩
     |true =>
      obtain⟨c,hc,hc2⟩:=ih (i+1) m0 m0;refine⟨c,hc,λh f hf=>?_⟩;rw[hd]at hf;obtain rfl|hf:=aqH.1 hf
      ·exact⟨hp,hb2 rfl⟩
      ·exact hc2 h f hf
   ·have:i=r.facts.length:=m0
    subst this;have h1:fb r (r.facts.length:Int)=some (.exit (r.facts.length:Int)):=by
     unfold fb;dsimp only;rw[lF_,aqr]
    rw[h1];obtain⟨b,hb⟩:=NZ r.kinds m0;have:∃ c,nk r (.inl (r.facts.length:Int))=some c:=by
     unfold nk;dsimp only;rw[hb]
     cases decide ((0:Int)<(r.kinds.length:Int))<;>cases decide ((r.kinds.length:Int)<=48)<;>exact⟨_,rfl⟩
    obtain⟨c,hc⟩:=this;refine⟨c,hc,λ_ f hf=>?_⟩;rw[arn]at hf;cases hf
 obtain⟨b,hb,hb2⟩:=key fuel 0 (aqL _) (by unfold fuel;omega);refine⟨b,hb,λh=>?_⟩;have:=hb2 h;rw[List.drop_zero]at this;exact⟨λf hf=>(this f hf).1,λf hf=>(this f hf).2.1,λf hf=>(this f hf).2.2⟩
def bQ (r:List Val)(ps:List ax):List ap:=ps.map λp=>⟨r,p⟩
def cT (e:Ex)(x y:ap):Bool:=iz e (x.row++y.row)
def jnY (e:Ex)(x y:ap):List ap:=bif jY x.valid y.valid&&cT e x y then [⟨x.row++y.row,o8 x.valid y.valid⟩]else []
def jnX (e:Ex)(b:List ap)(x:ap):List ap:=b.flatMap (jnY e x)
def uB (e:Ex)(a b:List ap):List ap:=a.flatMap (jnX e b)
def alX (e:Ex)(n:Nat)(b:List ap)(x:ap):List ap:=bQ (x.row++replicate n bK) (hU (cT e) b x)
def lT (e:Ex)(n:Nat)(a b:List ap):List ap:=a.flatMap (alX e n b)
def seX (e:Ex)(b:List ap)(x:ap):List ap:=bQ x.row (Hv (cT e) b x)
def seL (e:Ex)(a b:List ap):List ap:=a.flatMap (seX e b)
theorem ahx (e:Ex)(x y:ap):(jnY e x y).length<=1:=by unfold jnY;cases jY x.valid y.valid&&cT e x y<;>simp
theorem aix (e:Ex)(b:List ap)(x:ap):(jnX e b x).length<=b.length:=wC _ (ahx e x) b
theorem oo {α β:Type}(g:α->List β)(k:Nat):∀ l:List α,(∀ x∈l,(g x).length<=k)->(l.flatMap g).length<=l.length*k
 |[],_=>by simp
 |x::l,h=>by
  have h1:=h x m5;have h2:=oo g k l λy hy=>h y (by simp[hy])
  rw[aq3,aqy,aqM,Nat.add_mul];omega
theorem po (e:Ex){a b:List ap}(ha:a.length<=12)(hb:b.length<=12):(uB e a b).length<=144:=by
 have:=oo (jnX e b) 12 a λx _=>by have:=aix e b x;omega
 unfold uB;omega
theorem pM (e:Ex)(n:Nat){a b:List ap}(ha:a.length<=12)(hb:b.length<=12)(hv:∀ f∈a,aw f.valid=true):(lT e n a b).length<=156:=by
 have:=oo (alX e n b) 13 a λx hx=>by
  have:=Br (c:=cT e) (b:=b) (hv x hx);unfold alX bQ;rw[aqC];omega
 unfold lT;omega
theorem H9 (e:Ex){a b:List ap}(ha:a.length<=12)(hb:b.length<=12)(hv:∀ f∈a,aw f.valid=true):(seL e a b).length<=144:=by
 have:=oo (seX e b) 12 a λx hx=>by
  have:=H5 (c:=cT e) (b:=b) (hv x hx);unfold seX bQ;rw[aqC];omega
 unfold seL;omega
theorem ah9 {e:Ex}{a b:List ap}{f:ap}(h:f∈uB e a b):∃ x∈a,∃ y∈b,f.row=x.row++y.row:=by
 obtain⟨x,hx,h⟩:=List.mem_flatMap.1 h;obtain⟨y,hy,h⟩:=List.mem_flatMap.1 h;refine⟨x,hx,y,hy,?_⟩;unfold jnY at h
 cases hc:jY x.valid y.valid&&cT e x y with
 |false=>rw[hc]at h;cases h
 |true=>rw[hc,aqs,aq6]at h;rw[h]
theorem ack {e:Ex}{n:Nat}{a b:List ap}{f:ap}(h:f∈lT e n a b):∃ x∈a,f.row=x.row++replicate n bK:=by
 obtain⟨x,hx,h⟩:=List.mem_flatMap.1 h;obtain⟨p,_,rfl⟩:=aq0.1 h;exact⟨x,hx,rfl⟩
theorem ais {e:Ex}{a b:List ap}{f:ap}(h:f∈seL e a b):∃ x∈a,f.row=x.row:=by
 obtain⟨x,hx,h⟩:=List.mem_flatMap.1 h;obtain⟨p,_,rfl⟩:=aq0.1 h;exact⟨x,hx,rfl⟩
section
variable {σ:Type} (nxt:σ->Nat->List Val->ax->σ) (e:Ex)
def Hw (i:Nat)(x:ap):List ap->σ->σ
 |[],s=>s
 |y::b,s=>Hw i x b (bif jY x.valid y.valid&&cT e x y then nxt s i (x.row++y.row) (o8 x.valid y.valid)else s)
def Ja (b:List ap):List ap->Nat->σ->σ
 |[],_,s=>s
 |x::a,i,s=>Ja b a (i+1) (Hw nxt e i x b s)
theorem LP (a b:List ap)(l m:List cD)(s:σ):qt nxt e a b (l++m) s=qt nxt e a b m (qt nxt e a b l s):=by unfold qt;rw[List.foldl_append]
theorem acK {a b0:List ap}{i:Nat}{x:ap}(hx:a[i]?=some x):∀ (b pre:List ap) (s:σ),b0=pre++b->qt nxt e a b0 (mA (λy:ap=>jY x.valid y.valid) (i:Int) b pre.length) s=Hw nxt e i x b s
 |[],pre,s,_=>rfl
 |y::b,pre,s,h0=>by
  have ih:=acK (b0:=b0) hx b (pre++[y]);rw[aqy]at ih;have hy:b0[pre.length]?=some y:=by rw[h0];simp
  unfold mA at ih ⊢;rw[iU,aqD,LP,Hw];have hone:qt nxt e a b0 ((bif jY x.valid y.valid then [(pre.length:Int)]else []).map λj=>(⟨(i:Int),j⟩:cD)) s=bif jY x.valid y.valid&&cT e x y then nxt s i (x.row++y.row) (o8 x.valid y.valid)else s:=by
   cases ho:jY x.valid y.valid with
   |false=>rfl
   |true =>
    show adJ nxt s (ae8 e a b0 ⟨(i:Int),(pre.length:Int)⟩)=_;unfold ae8 cT;simp only[Int.toNat_natCast,hx,hy]
    cases iz e (x.row++y.row)<;>rfl
  rw[hone];exact ih _ (by rw[h0];simp)
theorem Ip {a0 b:List ap}:∀ (a pre:List ap) (s:σ),a0=pre++a->qt nxt e a0 b (eP (λx y:ap=>jY x.valid y.valid) b a pre.length) s=Ja nxt e b a pre.length s
 |[],pre,s,_=>rfl
 |x::a,pre,s,h0=>by
  have ih:=Ip (a0:=a0) (b:=b) a (pre++[x]);rw[aqy]at ih;have hx:a0[pre.length]?=some x:=by rw[h0];simp
  have h1:qt nxt e a0 b (mA (λy:ap=>jY x.valid y.valid) (pre.length:Int) b 0) s=Hw nxt e pre.length x b s:=acK (b0:=b) nxt e hx b [] s rfl;rw[eP,LP,Ja,h1];exact ih _ (by rw[h0];simp)
end
def afZ (l:List ap)(_:Nat)(row:List Val)(p:ax):List ap:=l++[⟨row,p⟩]
theorem LN (e:Ex)(i:Nat)(x:ap):∀ (b:List ap) (s:List ap),Hw afZ e i x b s=s++jnX e b x
 |[],s=>by simp[Hw,jnX]
 |y::b,s=>by
  rw[Hw,LN e i x b];show _=s++(jnY e x y++jnX e b x);unfold jnY
  cases jY x.valid y.valid&&cT e x y with
  |false=>rfl
  |true=>show(s++[_])++_=_;rw[aqR];rfl
theorem Na (e:Ex)(b:List ap):∀ (a:List ap) (i:Nat) (s:List ap),Ja afZ e b a i s=s++uB e a b
 |[],i,s=>by simp[Ja,uB]
 |x::a,i,s=>by
  rw[Ja,Na e b a,LN,aqR];rfl
theorem afD (e:Ex)(a b:List ap):qt afZ e a b (eP (λx y:ap=>jY x.valid y.valid) b a 0) []=uB e a b:=by
 have:=Ip (a0:=a) (b:=b) afZ e a [] [] rfl;rw[Na]at this;exact this
def oV (ps:List (List ax))(i:Nat)(_:List Val)(p:ax):List (List ax):=ps.set i (ps.getD i []++[p])
theorem uH (e:Ex)(i:Nat)(x:ap):∀ (b:List ap) (ps:List (List ax)),i<ps.length->Hw oV e i x b ps=ps.set i (ps.getD i []++dm (cT e) b x)
 |[],ps,h=>by
  show ps=ps.set i (ps.getD i []++[]);rw[aqZ,arj,aqz h];show ps=ps.set i ps[i];rw[List.set_getElem_self]
 |y::b,ps,h=>by
  show Hw oV e i x b _=ps.set i (ps.getD i []++((bif jY x.valid y.valid&&cT e x y then [o8 x.valid y.valid]else [])++dm (cT e) b x))
  cases jY x.valid y.valid&&cT e x y with
  |false=>exact uH e i x b ps h
  |true =>
   rw[aqs,uH e i x b _ (by unfold oV;simpa using h)];unfold oV;rw[List.set_set,arj,aqJ h,aqs];show ps.set i ((ps.getD i []++[_])++_)=_;rw[aqR]
theorem LZ (e:Ex)(b:List ap):∀ (a:List ap) (pre:List (List ax)),Ja oV e b a pre.length (pre++replicate a.length [])=pre++a.map (dm (cT e) b)
 |[],pre=>by simp[Ja]
 |x::a,pre=>by
  rw[Ja,uH e _ x b _ m5];have e1:(pre++replicate (x::a).length []).getD pre.length []=([]:List ax):=by
   rw[arj,aqx (aqG _),Nat.sub_self];rfl
  rw[e1,aqv,List.set_append_right _ _ (aqG _),Nat.sub_self,aqM,List.replicate_succ,List.set_cons_zero];have ih:=LZ e b a (pre++[dm (cT e) b x]);rw[aqy,aqR]at ih;show Ja oV e b a (pre.length+1) _=_;rw[show pre++dm (cT e) b x::replicate a.length []=pre++([dm (cT e) b x]++replicate a.length [])from rfl];refine ih.trans ?_;simp
theorem afO (e:Ex)(a b:List ap):qt oV e a b (eP (λx y:ap=>jY x.valid y.valid) b a 0) (replicate a.length [])=a.map (dm (cT e) b):=by
 have:=Ip (a0:=a) (b:=b) oV e a [] (replicate a.length []) rfl;have h2:=LZ e b a [];rw[aqv]at h2;exact this.trans h2
set_option maxHeartbeats 4000000
def anO (f:FuncId):Bool:=Nat.beq f 52||Nat.beq f 54||Nat.beq f 92||Nat.beq f 145||Nat.beq f 18||Nat.beq f 62||anw f
def aoB:TI :={ tab with owns:=anO,dyn:=true }
theorem bB:TIok Tryz.prog aoB:=⟨tab_ok.size,tab_ok.agg,tab_ok.elem,tab_ok.field,tab_ok.zero,tab_ok.bytes,tab_ok.kind,tab_ok.struct,tab_ok.zok,tab_ok.eqs⟩
def amA:TI :={ tab with owns:=anO,soft:=true }
theorem b6:TIok Tryz.prog amA:=⟨tab_ok.size,tab_ok.agg,tab_ok.elem,tab_ok.field,tab_ok.zero,tab_ok.bytes,tab_ok.kind,tab_ok.struct,tab_ok.zok,tab_ok.eqs⟩
theorem aiv {l r:List ap}(H:q9 l=some r):RTz 92 [] [.one (.c (.lst (l.map aH)))] [.spare r.length 3] (.one (.own (r.map aH) 0)):=by
 unfold q9 at H;obtain⟨r1,H1,H2⟩:=bd_ H;obtain rfl:=aqX H2;have hb:=LD (F_a_f:=146) (caps_a_f:=[]) (λx0 r h=>gBag1_ok h) H1;refine be bB Tryz.func92 rfl rfl Tryz.ntmps92 m5 ?_;simp only[eL]
 repeat' (first|refine co_ rfl rfl rfl rfl ?_ hb|refine gv_ bB b6 ?_|(refine gi_ (λhb=>?_) (λhb=>?_)<;>(try exact(fx_ hb).elim))|fail)
 exact⟨.inr rfl,⟨.inl ⟨_,rfl,rfl⟩,⟨[],rfl⟩,aqL _,eV rfl,g_ rfl⟩⟩
theorem aiC {k:List Int}{l r:List ap}(hk:k.length<=1000000)(H:q9 l=some r):RTz 54 [.spare k.length 1] [.one (.own (k.map λx=>[AC.int .i64 x]) 0),.one (.c (.lst (l.map aH)))] [.spare k.length 1,.box [.own (k.map λx=>[AC.int .i64 x]) 2,.own (r.map aH) 3],.spare k.length 1,.spare r.length 3] (.agg [.own (k.map λx=>[AC.int .i64 x]) 2,.own (r.map aH) 3]):=by
 have hb:=aiv H;refine tQ bB Tryz.func54 rfl rfl Tryz.ntmps54 m5 ?_;simp only[eL]
 repeat' (first|refine co_ rfl rfl rfl rfl ?_ hb|refine gv_ bB b6 ?_|(refine gi_ (λhb=>?_) (λhb=>?_)<;>(try exact(fx_ hb).elim))|fail)
 exact⟨.inr rfl,⟨.inr ⟨4,_,1,0,_,rfl,rfl,rfl,by repeat' (first|exact t7|rfl|exact aqA rfl|omega|apply And.intro)⟩,⟨[],by rw[aqC];rfl⟩,by show 1<=4;omega,eV rfl,g_ rfl⟩⟩
def OJ:Nat->List ap->Ob
 |0,_ => .dead
 |1,_ => .dead
 |2,_ => .dead
 |3,_ => .box [.emp,.emp]
 |4,l => .box [.own (l.map aH) 5]
 |5,l => .spare l.length 3
 |_,_ => .spare 0 1
def JL (es:List (List AC))(n:Nat):List Ob:=[.dead,.dead,.dead,.box [.emp,.emp],.box [.own es 5],.spare n 3,.spare 0 1,.spare 0 1,.spare 0 1,.spare 0 1,.spare 0 1,.spare 0 1,.spare 0 1,.spare 0 1,.spare 0 1,.spare 0 1,.spare 0 1]
theorem v6 (l:List ap):∀ i,i<17->(OJ i l).below 17
 |0,_=>trivial
 |1,_=>trivial
 |2,_=>trivial
 |3,_=>(by intro x hx;simp at hx;subst hx;trivial)
 |4,_=>(by intro x hx;simp at hx;subst hx;show 5<17;omega)
 |5,_=>trivial
 |i+6,_=>trivial
theorem OG (l:List ap)(i:Nat)(row:List Val)(p:ax)(hl:l.length<=1000000):RTz 53 (FZ OJ l) [.one (.c (.int .i64 (i:Int))),.one (.c (.lst (row.map cV))),.agg ((aP p).map SV.c),.one (.ptr 4 0)] (FZ OJ (l++[⟨row,p⟩])) (.tup []):=by
 have e1:(l++[(⟨row,p⟩:ap)]).map aH=l.map aH++[aH ⟨row,p⟩]:=aqD;have e2:(l++[(⟨row,p⟩:ap)]).length=l.length+1:=by simp
 refine be bB Tryz.func53 rfl rfl Tryz.ntmps53 m5 ?_;simp only[eL];unfold FZ
 repeat' (first|refine gv_ bB b6 ?_|(refine gi_ (λhb=>?_) (λhb=>?_)<;>(try exact(fx_ hb).elim))|fail)
 exact⟨.inl rfl,⟨.inr ⟨.tup [],⟨t7,rfl⟩,rfl⟩,⟨[_],by show _=JL ((l++[(⟨row,p⟩:ap)]).map aH) (l++[(⟨row,p⟩:ap)]).length++[_];rw[e1,e2];rfl⟩,aqG _,λx hx=>fc (v6 _) x hx,t7⟩⟩
def aoj (ks fs gs:List (List AC))(n m q:Nat):List Ob:=[.dead,.dead,.dead,.box [.own ks 19,.own fs 20],.dead,.spare q 3,.spare 0 1,.spare 0 1,.spare 0 1,.spare 0 1,.spare 0 1,.spare 0 1,.spare 0 1,.spare 0 1,.spare 0 1,.spare 0 1,.spare 0 1,.spare n 1,.box [.own ks 19,.own fs 20],.spare n 1,.spare m 3]
theorem LG (a b:bj)(e:Ex)(ha:a.facts.length<=1000)(hb:b.facts.length<=1000)(hra:∀ f∈a.facts,0<f.row.length/\f.row.length<=1000)(hrb:∀ f∈b.facts,f.row.length<=1000)(he:il fuel e)(hka:a.kinds.length<=1000)(hkb:b.kinds.length<=1000){r:List ap}(H:q9 (uB e a.facts b.facts)=some r) :
  ∃ gs q,RTz 18 [] [.agg ((aW a).map SV.c),.agg ((aW b).map SV.c),.agg ((tE e).map SV.c)] (aoj ((a.kinds++b.kinds).map λx=>[AC.int .i64 x]) (r.map aH) gs (a.kinds++b.kinds).length r.length q) (.agg [.own ((a.kinds++b.kinds).map λx=>[AC.int .i64 x]) 19,.own (r.map aH) 20]):=by
 have heach:=JG (λi l=>OJ i l) 53 afZ (λn l=>l.length<=n) a b e (λl=>v6 l) (λn l i row p hl hn _=>⟨OG l i row p m0,by unfold afZ;simp;omega⟩) (λn l h=>by omega) ha hb hra hrb he [] m5;rw[afD,aC e]at heach;have hrel:=aiC (k:=a.kinds++b.kinds) (by rw[aqy];omega) H;have hkl:(a.kinds++b.kinds).length=(a.kinds.map λx=>[AC.int .i64 x]).length+(b.kinds.map λx=>[AC.int .i64 x]).length:=by simp
 have hkm:(a.kinds++b.kinds).map (λx=>[AC.int .i64 x])=a.kinds.map (λx=>[AC.int .i64 x])++b.kinds.map (λx=>[AC.int .i64 x]):=aqD;rw[hkl,hkm]at hrel ⊢;generalize uB e a.facts b.facts=jl at heach hrel;refine⟨jl.map aH,jl.length,?_⟩;rw[aC e];refine tQ bB Tryz.func18 rfl rfl Tryz.ntmps18 m5 ?_;simp only[eL,aW,aqB,aqF]
 repeat' (first|(refine aT 0 (ts:=aW a) rfl rfl ?_)|(refine aT 1 (ts:=aW b) rfl rfl ?_)|(refine aT 2 (ts:=xE e) rfl rfl ?_)|(refine xw 4 0 3 rfl rfl ?_;refine xb 1 11 _ ?_)|(refine b9 rfl rfl rfl rfl rfl (mL (Pj:=[.ptr 4 0]) rfl) ?_)|(refine xI 17 (FZ (λi l=>OJ i l) []) (FZ (λi l=>OJ i l) jl) [] rfl rfl rfl rfl rfl heach rfl rfl (fc (v6 _)) (fc (v6 _)) (bV ⟨(λz hz=>by obtain⟨w,_,rfl⟩:=aq0.1 (show z∈(aW a).map SV.c from hz);trivial),(λz hz=>by obtain⟨w,_,rfl⟩:=aq0.1 (show z∈(aW b).map SV.c from hz);trivial),(λz hz=>by obtain⟨w,_,rfl⟩:=aq0.1 (show z∈(xE e).map SV.c from hz);trivial),(by intro x hx;simp at hx;subst hx;show 4<17;omega),t7⟩) ?_)|(refine aT 4 (ts:=[.lst (jl.map aH)]) rfl rfl ?_)|(refine cJ [17] rfl rfl rfl rfl hrel rfl ⟨rfl,m5,λi x hx=>by(match i,hx with|0,hx=>obtain rfl:=aqX hx;rfl|i+1,hx=>simp at hx),a8 ⟨t7,t7⟩,bV ⟨(by show 0<1;omega),t7,t7⟩⟩ rfl rfl ?_)|refine gv_ bB b6 ?_|(refine gi_ (λhb=>?_) (λhb=>?_)<;>(try exact(fx_ hb).elim))|fail)
 exact⟨.inr rfl,⟨.inr ⟨6,_,3,0,_,rfl,rfl,rfl,by repeat' (first|exact t7|rfl|exact aqA rfl|omega|apply And.intro)⟩,⟨[],rfl⟩,aqL _,eV rfl,g_ rfl⟩⟩
set_option maxHeartbeats 4000000
def vW:Nat:=83+65536
def OS (n:Nat)(rw:Ob)(f:Nat->Nat):Nat->Ob
 |0 => .dead
 |1 => .dead
 |2 => .dead
 |3=>rw
 |4 => .box [.sl 3 vW 0 n]
 |i+5 => .spare (f i) 2
def rwP (ps:List (List ax)):Ob := .row vW (l7 5 ((ps.take 12).map λl=>l.map aP)) 1
def OP (n:Nat)(i:Nat)(ps:List (List ax)):Ob:=OS n (rwP ps) (λk=>(ps.getD k []).length) i
theorem uJ (n:Nat)(ps:List (List ax)):∀ i,i<17->(OP n i ps).below 17
 |0,_=>trivial
 |1,_=>trivial
 |2,_=>trivial
 |3,_=>J3 _ _ _ _ (by rw[aqC,ari];omega)
 |4,_=>(by intro x hx;simp at hx;subst hx;show 3<17;omega)
 |i+5,_=>trivial
theorem alm (n:Nat)(rw:Ob)(f:Nat->Nat)(G:List Ob){i:Nat}(hi:i<12):(M17 (OS n rw f)++G)[5+i]?=some (.spare (f i) 2):=by
 rw[aiy _ _ m0,Nat.add_comm];rfl
theorem ajI (n:Nat)(rw:Ob)(f:Nat->Nat)(G:List Ob){i:Nat}(hi:i<12)(m:Nat):(M17 (OS n rw f)++G).set (5+i) (.spare m 2)=M17 (OS n rw λk=>if k=i then m else f k)++G:=by
 rw[aii _ _ m0];congr 1;refine abu λk _=>?_
 match k with
 |0=>rw[if_neg m0];rfl
 |1=>rw[if_neg m0];rfl
 |2=>rw[if_neg m0];rfl
 |3=>rw[if_neg m0];rfl
 |4=>rw[if_neg m0];rfl
 |k+5 =>
  show(if k+5=5+i then Ob.spare m 2 else .spare (f k) 2) = .spare (if k=i then m else f k) 2;by_cases h:k=i
  ·rw[if_pos m0,if_pos h]
  ·rw[if_neg m0,if_neg h]
theorem OC (n:Nat)(ps:List (List ax))(i:Nat)(row:List Val)(p:ax)(hn:ps.length=n)(hn12:n<=12)(hi:i<n)(hl:∀ l∈ps,l.length<=1000000):RTz 99 (FZ (λi ps=>OP n i ps) ps) [.one (.c (.int .i64 (i:Int))),.one (.c (.lst (row.map cV))),.agg ((aP p).map SV.c),.one (.ptr 4 0)] (FZ (λi ps=>OP n i ps) (oV ps i row p)) (.tup []):=by
 obtain⟨l,hpl⟩:=gol_ (l:=ps) (i:=i) m0;have hll:=hl l (aqw hpl);have hgd:ps.getD i []=l:=by rw[arj,hpl];rfl
 have htk:ps.take 12=ps:=aq5 m0;have hrw:rwP ps = .row vW (l7 5 (ps.map λl=>l.map aP)) 1:=by unfold rwP;rw[htk]
 have hge:(l7 5 (ps.map λl=>l.map aP))[0+((i:Nat):Int).toNat]?=some [.own (l.map aP) (5+i)]:=by
  rw[aq8,Int.toNat_natCast];exact LX _ _ _ _ (by rw[aqN,hpl];rfl)
 show Run _ _ (M17 (OS n (rwP ps) λk=>(ps.getD k []).length)) _ (M17 (OS n (rwP (oV ps i row p)) λk=>((oV ps i row p).getD k []).length)) _;have hf:(λk=>((oV ps i row p).getD k []).length)=λk=>if k=i then l.length+1 else(ps.getD k []).length:=by
  funext k;unfold oV;rw[hgd,arj,List.getElem?_set];by_cases hk:k=i
  ·subst hk;rw[if_pos rfl,if_pos rfl,if_pos m0];simp
  ·rw[if_neg (Ne.symm hk),if_neg hk,arj]
 have hr2:rwP (oV ps i row p) = .row vW ((l7 5 (ps.map λl=>l.map aP)).set (0+((i:Nat):Int).toNat) [.own (l.map aP++[aP p]) (5+i)]) 1:=by
  unfold rwP oV;rw[aq5 (by rw[List.length_set];omega),List.map_set,hgd,aqD,aq8,Int.toNat_natCast,<- Jd];rfl
 have hbl:∀ x∈M17 (OS n (rwP (oV ps i row p)) λk=>((oV ps i row p).getD k []).length),x.below 17:=fc (O:=λi ps=>OP n i ps) (uJ n (oV ps i row p));rw[hf,hr2]at hbl;rw[hf,hr2,hrw];have hget:=λrw G=>alm n rw (λk=>(ps.getD k []).length) G (i:=i) m0
 have hset:=λrw G=>ajI n rw (λk=>(ps.getD k []).length) G (i:=i) m0 (l.length+1)
 simp only[hgd]at hget;generalize (λk=>(ps.getD k []).length)=f at hget hset ⊢;refine be bB Tryz.func99 rfl rfl Tryz.ntmps99 m5 ?_;simp only[eL]
 repeat' (first|(refine mf rfl rfl rfl rfl rfl rfl rfl (e:=[.own (l.map aP) (5+i)]) (by exact hge) rfl ?_)|(refine ahs rfl rfl rfl rfl rfl rfl rfl rfl rfl rfl (hget _ _) ⟨rfl,rfl,aqC .., ⟨rfl,m0⟩,(by intro e he;simp at he;subst he;rfl),by(simp only[aqM,aqV];omega),by(simp only[aqM,aqV];omega)⟩ (hset _ _) ?_)|(refine oK rfl rfl rfl rfl rfl rfl (e:=[.own (l.map aP) (5+i)]) (by exact hge) ⟨aqA rfl,rfl⟩ rfl ?_)|refine gv_ bB b6 ?_|(refine gi_ (λhb=>?_) (λhb=>?_)<;>(try exact(fx_ hb).elim))|fail)
 exact⟨.inl rfl,⟨.inr ⟨.tup [],⟨t7,rfl⟩,rfl⟩,⟨[.box ((aP p).map SV.c)],rfl⟩,aqG _,λx hx=>hbl x hx,t7⟩⟩
theorem akf {P:Program}{N n0:Nat}{c:Code}{Q:AX->Tm->List Ob->Prop}{T:Tm}{L L':List Ob}(h:L=L')(k:Aw P N n0 c Q T L'):Aw P N n0 c Q T L:=h▸k
theorem L_ (n:Nat)(hn:n<=12):([Ob.dead,.dead,.dead,.row vW ([]++l7 5 (replicate n [])) 1,.box [.sl 3 vW 0 n]]++AO 2 (replicate n []))++replicate (12-n) (.spare 0 2)=FZ (λi ps=>OP n i ps) (replicate n []):=by
 have h1:AO 2 (replicate n [])++replicate (12-n) (Ob.spare 0 2)=replicate 12 (.spare 0 2):=by
  unfold AO;rw[List.map_replicate,show Ob.spare ([]:List (List AC)).length 2 = .spare 0 2 from rfl,List.replicate_append_replicate,show n+(12-n)=12 by omega]
 have h2:∀ k,(replicate n ([]:List ax)).getD k []=[]:=λk=>by
  rw[arj,List.getElem?_replicate];split<;>rfl
 have h3:rwP (replicate n []) = .row vW ([]++l7 5 (replicate n [])) 1:=by
  unfold rwP;rw[List.take_replicate,Nat.min_eq_right hn,List.map_replicate];rfl
 rw[aqR,h1];show _=M17 (OS n (rwP (replicate n [])) λk=>((replicate n ([]:List ax)).getD k []).length);rw[h3,show(λk=>((replicate n ([]:List ax)).getD k []).length)=λ_=>0 from funext λk=>by rw[h2];rfl];rfl
def yO (l:List ax):List AC:=[.lst (l.map aP)]
theorem aaB (ps:List (List ax))(hn:ps.length<=12):d_ (l7 5 ((ps.take 12).map λl=>l.map aP))=some (ps.map yO):=by
 rw[aq5 hn,D_,List.map_map];rfl
theorem GY (n v k:Nat)(cs:List (List AC)):(Ob.row v (cs.map (List.map SV.c)) k).below n:=by
 intro e he x hx;obtain⟨c,_,rfl⟩:=aq0.1 he;obtain⟨y,_,rfl⟩:=aq0.1 hx;trivial
theorem ud (a b:bj)(e:Ex)(ha:a.facts.length<=12)(hb:b.facts.length<=1000)(hra:∀ f∈a.facts,0<f.row.length/\f.row.length<=1000)(hrb:∀ f∈b.facts,f.row.length<=1000)(he:il fuel e) :
  RTz 62 [] [.agg ((aW a).map SV.c),.agg ((aW b).map SV.c),.agg ((tE e).map SV.c)] [.dead,.dead,.dead,.row vW (((a.facts.map (dm (cT e) b.facts)).map yO).map (List.map SV.c)) 1] (.one (.sl 3 vW 0 a.facts.length)):=by
 have heach:=JG (λi ps=>OP a.facts.length i ps) 99 oV (λn ps=>ps.length=a.facts.length /\ ∀ l∈ps,l.length<=n) a b e (λps=>uJ _ ps) (λn ps i row p h hn hi=>⟨OC a.facts.length ps i row p h.1 ha hi (λl hl=>Nat.le_trans (h.2 l hl) m0),by unfold oV;rw[List.length_set];exact h.1,λl hl=>by
   unfold oV at hl;obtain hl|hl:=List.mem_or_eq_of_mem_set hl
   ·have:=h.2 l hl;omega
   ·subst hl
    rw[aqy,List.length_singleton,arj,aqz (by rw[h.1];exact hi)];have:=h.2 _ (List.getElem_mem (by rw[h.1];exact hi));show(ps[i]).length+1<=n+1;omega⟩) (λn ps h=>⟨h.1,λl hl=>by have:=h.2 l hl;omega⟩) m0 hb hra hrb he (replicate a.facts.length []) ⟨m5,λl hl=>by rw[List.eq_of_mem_replicate hl];simp⟩
 rw[afO,aC e]at heach;have hst:=L_ a.facts.length ha;have hnorm:=aaB (a.facts.map (dm (cT e) b.facts)) (by rw[aqC];exact ha);generalize a.facts.map (dm (cT e) b.facts)=pt at heach hnorm ⊢;rw[aC e];refine be bB Tryz.func62 rfl rfl Tryz.ntmps62 m5 ?_;simp only[eL,aW,aqB,aqF]
 repeat' (first|rw[aqC]|(refine aT 0 (ts:=aW a) rfl rfl ?_)|(refine aT 1 (ts:=aW b) rfl rfl ?_)|(refine aT 2 (ts:=xE e) rfl rfl ?_)|(refine b9 rfl rfl rfl rfl rfl (C0 bB (n:=a.facts.length) rfl rfl rfl m9 rfl rfl rfl rfl m0 m0) ?_)|(refine adn 3 2 vW a.facts.length [] _ rfl ?_;refine xb 2 (12-a.facts.length) _ ?_;refine akf hst ?_)|(refine b9 rfl rfl rfl rfl rfl (mL (Pj:=[.ptr 4 0]) rfl) ?_)|(refine xI 17 (FZ (λi ps=>OP a.facts.length i ps) (replicate a.facts.length [])) (FZ (λi ps=>OP a.facts.length i ps) pt) [] rfl rfl rfl rfl (by rw[aqZ]) heach rfl rfl (fc (uJ _ _)) (fc (uJ _ _)) (bV ⟨(λz hz=>by obtain⟨w,_,rfl⟩:=aq0.1 (show z∈(aW a).map SV.c from hz);trivial),(λz hz=>by obtain⟨w,_,rfl⟩:=aq0.1 (show z∈(aW b).map SV.c from hz);trivial),(λz hz=>by obtain⟨w,_,rfl⟩:=aq0.1 (show z∈(xE e).map SV.c from hz);trivial),(by intro x hx;simp at hx;subst hx;show 4<17;omega),t7⟩) ?_)|(refine LU 3 (cs:=pt.map yO) rfl hnorm ?_)|refine gv_ bB b6 ?_|(refine gi_ (λhb=>?_) (λhb=>?_)<;>(try exact(fx_ hb).elim))|fail)
 exact⟨by first|exact .inl rfl|exact .inr rfl,⟨.inl ⟨6,rfl,rfl⟩,⟨_,rfl⟩,aqL _,a8 ⟨t7,t7,t7,GY _ _ _ _,t7⟩,(by show 3<4;omega)⟩⟩
theorem yh (a b:bj)(e:Ex)(ha:a.facts.length<=12)(hb:b.facts.length<=1000)(hra:∀ f∈a.facts,0<f.row.length/\f.row.length<=1000)(hrb:∀ f∈b.facts,f.row.length<=1000)(he:il fuel e):PTz 62 [.agg (aW a),.agg (aW b),.agg (tE e)] (.val (.one (.lst ((a.facts.map (dm (cT e) b.facts)).map yO)))):=by
 have h:=ud a b e ha hb hra hrb he;refine⟨h.1,λR w vs hR hs hv=>?_⟩;have hi:Inv (· <w.heap.size) R [] [] w:=⟨rfl,hR,λid x g hx=>by simp at hx,λi j g1 g2 h1=>by simp at h1,λi g b h1=>by simp at h1,λb hb=>hb⟩;refine(h.2 (· <w.heap.size) R [] w vs hi (by simpa using hs) λj v x hjv hx=>?_).mono ?_
 ·match j,hx with
  |0,hx=>obtain rfl:=aqX hx;exact PV.av_rep (p := .agg (aW a)) (hv 0 v _ hjv rfl)
  |1,hx=>obtain rfl:=aqX hx;exact PV.av_rep (p := .agg (aW b)) (hv 1 v _ hjv rfl)
  |2,hx=>obtain rfl:=aqX hx;exact PV.av_rep (p := .agg (tE e)) (hv 2 v _ hjv rfl)
  |j+3,hx=>simp at hx
 ·rintro e1 w' ⟨v,R',γ',rfl,i1,i2,i3,i4⟩
  have hL:([Ob.dead,.dead,.dead,.row vW (((a.facts.map (dm (cT e) b.facts)).map yO).map (List.map SV.c)) 1]:List Ob)[3]?=some (.row vW (((a.facts.map (dm (cT e) b.facts)).map yO).map (List.map SV.c)) 1):=rfl;obtain⟨R2,γ2,hI,hE,hM,hS⟩:=lK i1 hL (iK _);refine⟨v,R2,rfl,i2.trans hE,hI.val,?_⟩;have:=hS 0 a.facts.length v i4;rw[List.drop_zero,aq5 m5]at this;exact this
set_option maxHeartbeats 4000000
theorem adA (x y:Bool):PTz 154 ([.one (.bool x),.one (.bool y)]++([]:List AC).map .one) (.val (.one (.bool (x && !y)))):=by
 refine pa_ bB Tryz.func154 rfl rfl Tryz.ntmps154 m5 ?_;simp only[argT,PV.av,aqB,aqF,aqZ]
 cases x<;>cases y
 ·skip
  repeat' (first|refine gv_ bB b6 ?_|(refine gi_ (λhb=>?_) (λhb=>?_)<;>(try exact(fx_ hb).elim))|fail)
  exact⟨.inr rfl,⟨t7,t7⟩,rfl⟩
 ·skip
  repeat' (first|refine gv_ bB b6 ?_|(refine gi_ (λhb=>?_) (λhb=>?_)<;>(try exact(fx_ hb).elim))|fail)
  exact⟨.inr rfl,⟨t7,t7⟩,rfl⟩
 ·skip
  repeat' (first|refine gv_ bB b6 ?_|(refine gi_ (λhb=>?_) (λhb=>?_)<;>(try exact(fx_ hb).elim))|fail)
  exact⟨.inr rfl,⟨t7,t7⟩,rfl⟩
 ·skip
  repeat' (first|refine gv_ bB b6 ?_|(refine gi_ (λhb=>?_) (λhb=>?_)<;>(try exact(fx_ hb).elim))|fail)
  exact⟨.inr rfl,⟨t7,t7⟩,rfl⟩
theorem ahN (x y:Bool):PTz 101 ([.one (.bool x),.one (.bool y)]++([]:List AC).map .one) (.val (.one (.bool x))):=by
 refine pa_ bB Tryz.func101 rfl rfl Tryz.ntmps101 m5 ?_;simp only[argT,PV.av,aqB,aqF,aqZ]
 repeat' (first|refine gv_ bB b6 ?_|(refine gi_ (λhb=>?_) (λhb=>?_)<;>(try exact(fx_ hb).elim))|fail)
 exact⟨.inr rfl,⟨t7,t7⟩,rfl⟩
theorem aeg {c:ap->ap->Bool}{b:List ap}{x:ap}(hx:aw x.valid=true)(hb:b.length<=1000):PTz 96 [.one (.lst [aP x.valid]),.one (.lst ((dm c b x).map aP))] (.val (.one (.lst ((hU c b x).map aP)))):=by
 have hlp:(dm c b x).length<=1000:=Nat.le_trans (Dh c b x) hb;obtain⟨E,hp,hs,hed⟩:=zJ [x.valid] (dm c b x) m5 hlp;have hE:E.length<=4000:=by rw[hp.length_eq];have:=MR [x.valid] (dm c b x);simp at this;omega
 have hsw:=z_ (λp q=>p && !q) 154 [] adA [x.valid] (dm c b x) E hp hs hE hed;rw[abr hx hp hs (aqG _)]at hsw;refine pa_ bB Tryz.func96 rfl rfl Tryz.ntmps96 m5 ?_;simp only[argT,PV.av,aqB,aqF]
 repeat' (first|refine aN rfl rfl rfl rfl hsw rfl ?_|refine gv_ bB b6 ?_|(refine gi_ (λhb=>?_) (λhb=>?_)<;>(try exact(fx_ hb).elim))|fail)
 exact⟨.inr rfl,⟨t7,t7⟩,rfl⟩
theorem aiP {l r:List ax}(hsw:PTz 100 [.one (tPs l),.one (tPs []),.one (.fn 101 [])] (.val (.one (.lst (r.map aP))))):PTz 63 [.one (.lst (l.map aP))] (.val (.one (.lst (r.map aP)))):=by
 refine pa_ bB Tryz.func63 rfl rfl Tryz.ntmps63 m5 ?_;simp only[argT,PV.av,aqB,aqF]
 repeat' (first|refine aN rfl rfl rfl rfl hsw rfl ?_|refine gv_ bB b6 ?_|(refine gi_ (λhb=>?_) (λhb=>?_)<;>(try exact(fx_ hb).elim))|fail)
 exact⟨.inr rfl,⟨t7,t7⟩,rfl⟩
def encS (l:List ax):List SV:=[.c (.lst (l.map aP))]
theorem ab5 (ps:List (List ax)):(ps.map yO).map (List.map SV.c)=ps.map encS:=by rw[List.map_map];rfl
theorem yD (n v k:Nat)(ps:List (List ax)):(Ob.row v (ps.map encS) k).below n:=by
 intro e he x hx;obtain⟨y,_,rfl⟩:=aq0.1 he;simp[encS]at hx;subst hx;trivial
theorem amF (L:List Ob)(v:Nat)(ps:List (List ax)):joinL [] L [.dead,.dead,.dead,.row v (ps.map encS) 1]=L++[.dead,.dead,.dead,.row v (ps.map encS) 1]:=by
 have:∀ σ,Ob.ren σ (.row v (ps.map encS) 1) = .row v (ps.map encS) 1:=λσ=>by
  show Ob.row v ((ps.map encS).map (List.map (SV.ren σ))) 1=_;rw[List.map_map];rfl
 simp[joinL,join,cZ,this]
 first|rfl|exact⟨rfl,rfl,rfl⟩
def Hn (al pt:List (List ax))(i:Nat):List (List ax):=al.take i++pt.drop i
theorem aiu {al pt:List (List ax)}{i:Nat}{x:List ax}(h:al.length=pt.length)(hx:al[i]?=some x):((Hn al pt i).map encS).set (0+((i:Nat):Int).toNat) (encS x)=(Hn al pt (i+1)).map encS:=by
 have hi:i<al.length:=(aqp.1 hx).1;rw[aq8,Int.toNat_natCast,<- List.map_set];congr 1;unfold Hn;have hl:(al.take i).length=i:=by rw[ari];omega
 rw[List.set_append_right _ _ m0,hl,Nat.sub_self,aqW m0,List.set_cons_zero,bN hx,aqR];rfl
theorem ahZ {al pt:List (List ax)}{i:Nat}{y:List ax}(h:al.length=pt.length)(hy:pt[i]?=some y):((Hn al pt i).map encS)[0+((i:Nat):Int).toNat]?=some (encS y):=by
 have hi:i<pt.length:=(aqp.1 hy).1;rw[aq8,Int.toNat_natCast,aqN];unfold Hn;have hl:(al.take i).length=i:=by rw[ari];omega
 rw[aqx m0,hl,Nat.sub_self,arb,Nat.add_zero,hy];rfl
theorem aiL {al pt:List (List ax)}(h:al.length=pt.length){i:Nat}(hi:i<=pt.length):((Hn al pt i).map encS).length=pt.length:=by
 unfold Hn;rw[aqC,aqy,ari,List.length_drop];omega
theorem L7 (ps:List (List ax)):d_ (ps.map encS)=some (ps.map yO):=by
 rw[<- ab5];exact iK _
def AT (a:bj)(n i:Nat):Tm:=[(7,.one (.sl 6 vW 0 n)),(15,.one (.c (.lst (a.facts.map aH)))),(16,.one (.c (.int .i64 n))),(17,.one (.c (.int .i64 i)))]
theorem ME (a:bj)(n i:Nat):gQ 7 (AT a n i):=⟨(by show 6<7;omega),t7,t7,t7,t7⟩
def ALs (ps:List (List ax)):List Ob:=[.dead,.dead,.dead,.dead,.dead,.dead,.row vW (ps.map encS) 1]
theorem yN (a b:bj)(e:Ex)(ha:a.facts.length<=12)(hb:b.facts.length<=1000)(hra:∀ f∈a.facts,0<f.row.length/\f.row.length<=1000)(hrb:∀ f∈b.facts,f.row.length<=1000)(hv:∀ f∈a.facts,aw f.valid=true)(he:il fuel e):PTz 58 [.agg (aW a),.agg (aW b),.agg (tE e)] (.val (.one (.lst ((a.facts.map (hU (cT e) b.facts)).map yO)))):=by
 have hpart:=ud a b e ha hb hra hrb he;rw[ab5,aC e]at hpart;have hlp:(a.facts.map (dm (cT e) b.facts)).length=a.facts.length:=aqC ..;have hap:(a.facts.map (hU (cT e) b.facts)).length=(a.facts.map (dm (cT e) b.facts)).length:=by rw[aqC,aqC]
 rw[aC e];refine pa_ bB Tryz.func58 rfl rfl Tryz.ntmps58 m5 ?_;simp only[argT,PV.av,aW,aqB,aqF]
 repeat' (first|rw[aqC]|(refine aT 0 (ts:=aW a) rfl rfl ?_)|(refine aT 1 (ts:=aW b) rfl rfl ?_)|(refine aT 2 (ts:=xE e) rfl rfl ?_)|(refine cJ [] rfl rfl rfl rfl hpart rfl ⟨rfl,List.nodup_nil,λi y hy=>by simp at hy,λx hx=>(by cases hx),bV ⟨(λz hz=>by obtain⟨w,_,rfl⟩:=aq0.1 (show z∈(aW a).map SV.c from hz);trivial),(λz hz=>by obtain⟨w,_,rfl⟩:=aq0.1 (show z∈(aW b).map SV.c from hz);trivial),(λz hz=>by obtain⟨w,_,rfl⟩:=aq0.1 (show z∈(xE e).map SV.c from hz);trivial),t7⟩⟩ rfl (amF _ _ _) ?_)|refine gv_ bB b6 ?_|(refine gi_ (λhb=>?_) (λhb=>?_)<;>(try exact(fx_ hb).elim))|fail)
 refine cu (λi:Nat=>AT a a.facts.length i) (λi=>ALs (Hn (a.facts.map (hU (cT e) b.facts)) (a.facts.map (dm (cT e) b.facts)) i)) (λi=>i<=a.facts.length) (λi=>a.facts.length-i) 0 m0 (λ_ _=>aqL _)
  (fm_ ⟨rfl,rfl,aU m5,rfl,t7⟩ [] (by simp[Hn,ALs]) (ME _ _ _) ⟨t7,t7,t7,t7,t7,t7,yD _ _ _ _,t7⟩) ?_
 intro i hi;unfold AT ALs;by_cases hlt:i<a.facts.length
 ·obtain⟨x,hx⟩:=gol_ hlt
  have hxa:(a.facts.map (hU (cT e) b.facts))[i]?=some (hU (cT e) b.facts x):=by rw[aqN,hx];rfl
  have hxp:(a.facts.map (dm (cT e) b.facts))[i]?=some (dm (cT e) b.facts x):=by rw[aqN,hx];rfl
  have hsub:=aeg (c:=cT e) (hv x (aqw hx)) hb;have hget:=ahZ hap hxp;have hset:=aiu hap hxa;have hml:=aiL hap (i:=i) m0;rw[hlp]at hml;generalize a.facts.map (hU (cT e) b.facts)=al at hxa hget hset hml hap ⊢;generalize a.facts.map (dm (cT e) b.facts)=pt at hxp hget hset hml hap hlp ⊢
  repeat' (first|(refine mf rfl rfl rfl rfl rfl rfl rfl (e:=encS (dm (cT e) b.facts x)) (by exact hget) rfl ?_)|(refine oK rfl rfl rfl rfl rfl rfl (e:=encS (dm (cT e) b.facts x)) (by exact hget) ⟨aqA rfl,rfl⟩ rfl ?_)|(refine bw rfl rfl rfl rfl rfl rfl rfl rfl (bu hx) ?_ ?_;· exact⟨m0,rfl⟩)|refine aN rfl rfl rfl rfl hsub rfl ?_|refine gv_ bB b6 ?_|(refine gi_ (λhb=>?_) (λhb=>?_)<;>(try exact(fx_ hb).elim))|fail)
  exact⟨i+1,m0,m0,fm_ ⟨rfl,rfl,rfl,aU (aZ m0 m0),t7⟩ [_] (by rw[<- hset];rfl) (ME _ _ _) ⟨t7,t7,t7,t7,t7,t7,yD _ _ _ _,t7⟩⟩
 ·have hi2:i=a.facts.length:=m0
  have hmx:Hn (a.facts.map (hU (cT e) b.facts)) (a.facts.map (dm (cT e) b.facts)) i=a.facts.map (hU (cT e) b.facts):=by
   unfold Hn;rw[aq5 (by rw[aqC];omega),List.drop_eq_nil_of_le (by rw[aqC];omega),aqZ]
  rw[hmx,hi2];refine iL 6 7 (cs:=(a.facts.map (hU (cT e) b.facts)).map yO) rfl (L7 _) rfl m5 ?_
  repeat' (first|refine gv_ bB b6 ?_|(refine gi_ (λhb=>?_) (λhb=>?_)<;>(try exact(fx_ hb).elim))|fail)
  refine⟨.inr rfl,?_⟩
  first|exact⟨t7,rfl⟩|exact⟨⟨t7,t7⟩,rfl⟩|(refine⟨?_,rfl⟩;repeat' (first|exact t7|rfl|apply And.intro))
structure zI (a b:bj)(e:Ex):Prop where
 ha:a.facts.length<=12
 hb:b.facts.length<=1000
 hra:∀ f∈a.facts,0<f.row.length/\f.row.length<=1000
 hrb:∀ f∈b.facts,f.row.length<=1000
 hv:∀ f∈a.facts,aw f.valid=true
 he:il fuel e
 hka:a.kinds.length<=1000
 hkb:b.kinds.length<=1000
open Classical in
noncomputable def ad5 (a b:bj)(e:Ex):Option (List (List ax)):=if zI a b e then some (a.facts.map (dm (cT e) b.facts))else none
theorem afc {a b:bj}{e:Ex}{r:List (List ax)}(H:ad5 a b e=some r):PTz 62 [.agg (aW a),.agg (aW b),.agg (tE e)] (.val (.one (.lst (r.map (λx=>[AC.lst (x.map aP)]))))):=by
 unfold ad5 at H;split at H
 ·rename_i h;obtain rfl:=aqX H;exact yh a b e h.ha h.hb h.hra h.hrb h.he
 ·cases H
open Classical in
noncomputable def afi (a b:bj)(e:Ex):Option (List (List ax)):=if zI a b e then some (a.facts.map (hU (cT e) b.facts))else none
theorem ae_ {a b:bj}{e:Ex}{r:List (List ax)}(H:afi a b e=some r):PTz 58 [.agg (aW a),.agg (aW b),.agg (tE e)] (.val (.one (.lst (r.map (λx=>[AC.lst (x.map aP)]))))):=by
 unfold afi at H;split at H
 ·rename_i h;obtain rfl:=aqX H;exact yN a b e h.ha h.hb h.hra h.hrb h.hv h.he
 ·cases H
def spS (l:List ax):List ax:=ii (λp _=>p) l [] (kN l []) []
theorem uM (l:List ax):b8 (spS l) /\ ∀ t,eI (spS l) t=eI l t:=by
 obtain⟨h1,h2⟩:=rc (λp _=>p) l [];refine⟨h1,λt=>?_⟩;show eI (ii _ l [] (kN l []) []) t=_;rw[h2]
 cases h:eI l t with
 |false=>simp
 |true =>
  obtain⟨p,_,hp,h3,h4⟩:=(cX l t).1 h;have:=gE hp;rw[aqu (show 0<=t by omega),aqu (show t<1099511627776 by omega)];rfl
theorem aiO {c:ap->ap->Bool}{b:List ap}{x:ap}(hx:aw x.valid=true):spS (dm c b x)=Hv c b x :=
 lA (uM _).1 (vD hx).1 λt=>by rw[(uM _).2,(vD hx).2]
theorem aa1 {l:List ax}{E:List E3}(hp:E.Perm (uA l []))(hs:mh E){n:Nat}(hn:E.length+2<=n):iq (λp _=>p) n E 0 0 0 []=spS l:=by
 obtain⟨h1,h2⟩:=y6 (λp _=>p) hp hs hn;refine lA h1 (uM l).1 λt=>?_
 rw[h2,(uM l).2]
 cases h:eI l t with
 |false=>simp
 |true =>
  obtain⟨p,_,hp,h3,h4⟩:=(cX l t).1 h;have:=gE hp;rw[aqu (show 0<=t by omega),aqu (show t<1099511627776 by omega)];rfl
theorem afa (l:List ax)(hl:l.length<=1000):PTz 63 [.one (.lst (l.map aP))] (.val (.one (.lst ((spS l).map aP)))):=by
 obtain⟨E,hp,hs,hed⟩:=zJ l [] hl m5;have hE:E.length<=4000:=by rw[hp.length_eq];have:=MR l [];simp at this;omega
 have hsw:=z_ (λp _=>p) 101 [] ahN l [] E hp hs hE hed;rw[aa1 hp hs (aqG _)]at hsw;exact aiP hsw
def wV (l:List ax):Option (List ax):=bif decide (l.length<=1000)then some (spS l)else none
theorem MI {l r:List ax}(H:wV l=some r):PTz 63 [.one (.lst (l.map aP))] (.val (.one (.lst (r.map aP)))):=by
 unfold wV at H;obtain⟨g,H⟩:=fS H;obtain rfl:=aqX H;exact afa l (aqT g)
open Classical in
noncomputable def nQ (a b:bj)(e:Ex):Option bj:=if zI a b e then(q9 (uB e a.facts b.facts)).map λr=>⟨a.kinds++b.kinds,r⟩else none
theorem q6 {a b r:bj}{e:Ex}(H:nQ a b e=some r):PTz 18 [.agg (aW a),.agg (aW b),.agg (tE e)] (.val (.agg (aW r))):=by
 unfold nQ at H;split at H
 ·rename_i h
  cases hg:q9 (uB e a.facts b.facts)with
  |none=>rw[hg]at H;cases H
  |some l =>
   rw[hg]at H;obtain rfl:=aqX H;obtain⟨gs,q,hrun⟩:=LG a b e (by have:=h.ha;omega) h.hb h.hra h.hrb h.he h.hka h.hkb hg;exact G3 hrun rfl
 ·cases H
set_option maxHeartbeats 8000000
noncomputable section
def yf (a_kinds:(List Int))(a_l:(List ap)):Option (bj):=bif a_kinds.length<=17592186044416 then((q9 a_l).bind λr_1=>some (⟨a_kinds,r_1⟩:bj))else none
instance gRelT_ok {a_kinds : (List Int)} {a_l : (List ap)} {r : bj} : OkC (yf a_kinds a_l = some r) (PTz 54 [.one (.lst (a_kinds.map (λx => [AC.int .i64 x]))), .one (.lst (a_l.map aH))] (.val (.agg (aW r)))) := .mk λH => by
 unfold yf at H;refine po_ Tryz.func54 Tryz.ntmps54 ?_;exact ay H
end
def LT1 (a b:bj)(al:List (List ax))(out:List ap)(i:Nat):Tm:=[(3,.one (.c (.ref (aW a)))),(4,.one (.c (.ref (aW b)))),(6,.one (.ptr 3 0)),(7,.one (.ptr 25 0)),(8,.one (.own (out.map aH) 24)),(22,.one (.c (.lst (al.map yO)))),(23,.one (.c (.int .i64 al.length))),(24,.one (.c (.int .i64 i)))]
theorem Eo (a b:bj)(al:List (List ax))(out:List ap)(i:Nat):gQ 26 (LT1 a b al out i):=⟨t7,t7,(by show 3<26;omega),(by show 25<26;omega),(by show 24<26;omega),t7,t7,t7,t7⟩
def LT2 (a b:bj)(al:List (List ax))(l:List ax)(out:List ap)(i k:Nat):Tm:=[(3,.one (.c (.ref (aW a)))),(4,.one (.c (.ref (aW b)))),(6,.one (.ptr 3 0)),(7,.one (.ptr 25 0)),(8,.one (.own (out.map aH) 24)),(9,.one (.c (.int .i64 i))),(22,.one (.c (.lst (al.map yO)))),(23,.one (.c (.int .i64 al.length))),(24,.one (.c (.int .i64 i))),(29,.one (.c (.lst (l.map aP)))),(30,.one (.c (.int .i64 l.length))),(31,.one (.c (.int .i64 k)))]
theorem En (a b:bj)(al:List (List ax))(l:List ax)(out:List ap)(i k:Nat):gQ 26 (LT2 a b al l out i k):=⟨t7,t7,(by show 3<26;omega),(by show 25<26;omega),(by show 24<26;omega),t7,t7,t7,t7,t7,t7,t7,t7⟩
def LL (ks fs:List (List AC))(n q m:Nat):List Ob:=[.dead,.dead,.dead,.box [.emp,.emp],.dead,.dead,.dead,.box [.own ks 23,.own fs 24],.dead,.spare q 3,.spare 0 1,.spare 0 1,.spare 0 1,.spare 0 1,.spare 0 1,.spare 0 1,.spare 0 1,.spare 0 1,.spare 0 1,.spare 0 1,.spare 0 1,.spare n 1,.box [.own ks 23,.own fs 24],.spare n 1,.spare m 3,.box [.own ks 23,.own fs 24]]
theorem wd (ks fs:List (List AC))(n q m:Nat):n_ 26 (LL ks fs n q m):=rS (eV rfl)
theorem afe (e:Ex)(n:Nat)(a b:List ap)(x:ap):lT e n (a++[x]) b=lT e n a b++alX e n b x:=by unfold lT;rw[List.flatMap_append];simp
theorem aa0 (row:List Val)(l:List ax)(p:ax):bQ row (l++[p])=bQ row l++[⟨row,p⟩]:=by unfold bQ;rw[aqD];rfl
set_option maxHeartbeats 8000000 in
theorem aav (a b:bj)(e:Ex)(h:zI a b e)(hnb:1<=b.kinds.length/\b.kinds.length<=48)(hlb:b.facts.length<=12){r s:List ap}(H:q9 (uB e a.facts b.facts)=some r)(hr:r.length<=1000)(H2:q9 (r++lT e b.kinds.length a.facts b.facts)=some s):PTz 20 [.agg (aW a),.agg (aW b),.agg (tE e)] (.val (.agg (aW ⟨a.kinds++b.kinds,s⟩))):=by
 obtain⟨gs,q,hjoin⟩:=LG a b e (by have:=h.ha;omega) h.hb h.hra h.hrb h.he h.hka h.hkb H;have halo:=yN a b e h.ha h.hb h.hra h.hrb h.hv h.he;have hrel:=gRelT_ok (a_kinds:=a.kinds++b.kinds) (a_l:=r++lT e b.kinds.length a.facts b.facts) (r:=⟨a.kinds++b.kinds,s⟩) (by
  unfold yf;rw[aqu (by rw[aqy];have:=h.hka;have:=h.hkb;omega),aqs,H2];rfl)
 have hnul:=IR (n:=(b.kinds.length:Int)) (r:=replicate b.kinds.length bK) (by
  unfold Ih;rw[aqt m0,aqr,aqt m0,aqr,Int.toNat_natCast];rfl)
 have hall:∀ x∈a.facts,(hU (cT e) b.facts x).length<=13:=λx hx=>by have:=Br (c:=cT e) (b:=b.facts) (h.hv x hx);omega
 have hlal:(a.facts.map (hU (cT e) b.facts)).length=a.facts.length:=aqC ..;have hapx:=h.ha;rw[aC e]at hjoin halo;rw[aC e];refine pa_ bB Tryz.func20 rfl rfl Tryz.ntmps20 m5 ?_;simp only[argT,PV.av,aW,aqB,aqF]
 repeat' (first|(refine aT 0 (ts:=aW a) rfl rfl ?_)|(refine aT 1 (ts:=aW b) rfl rfl ?_)|(refine aT 2 (ts:=xE e) rfl rfl ?_)|(refine cJ [] rfl rfl rfl rfl hjoin rfl ⟨rfl,List.nodup_nil,λi y hy=>by simp at hy,λx hx=>(by cases hx),bV ⟨(λz hz=>by obtain⟨w,_,rfl⟩:=aq0.1 (show z∈(aW a).map SV.c from hz);trivial),(λz hz=>by obtain⟨w,_,rfl⟩:=aq0.1 (show z∈(aW b).map SV.c from hz);trivial),(λz hz=>by obtain⟨w,_,rfl⟩:=aq0.1 (show z∈(xE e).map SV.c from hz);trivial),t7⟩⟩ rfl rfl ?_)|refine aN rfl rfl rfl rfl halo rfl ?_|refine gv_ bB b6 ?_|(refine gi_ (λhb=>?_) (λhb=>?_)<;>(try exact(fx_ hb).elim))|fail)
 have hsz:∀ i,(lT e b.kinds.length (a.facts.take i) b.facts).length<=156:=λi=>pM e _ (by rw[ari];omega) hlb λf hf=>h.hv f (arp hf)
 generalize hal:a.facts.map (hU (cT e) b.facts)=al at hlal ⊢;refine cu (λi:Nat=>LT1 a b al (r++lT e b.kinds.length (a.facts.take i) b.facts) i) (λi=>LL ((a.kinds++b.kinds).map λx=>[AC.int .i64 x]) (r.map aH) (a.kinds++b.kinds).length q (r++lT e b.kinds.length (a.facts.take i) b.facts).length) (λi=>i<=a.facts.length) (λi=>a.facts.length-i) 0 m0 (λ_ _=>aqL _)
  (fm_ ⟨rfl,rfl,rfl,rfl,lE (by rw[List.take_zero];show _=(r++[]).map aH;rw[aqZ]),rfl,aU m5,rfl,t7⟩ [] (by rw[List.take_zero];show _=LL _ _ _ _ (r++[]).length;rw[aqZ];rfl) (Eo _ _ _ _ _) (wd _ _ _ _ _)) ?_
 intro i hi;by_cases hlt:i<a.facts.length
 ·obtain⟨x,hx⟩:=gol_ hlt
  have hxm:=aqw hx;have hxr:=h.hra x hxm;have hli:(al.map yO)[((i:Nat):Int).toNat]?=some (yO (hU (cT e) b.facts x)):=by rw[Int.toNat_natCast,aqN,<- hal,aqN,hx];rfl
  have hl13:=hall x hxm;have hnx:lT e b.kinds.length (a.facts.take (i+1)) b.facts=lT e b.kinds.length (a.facts.take i) b.facts++bQ (x.row++replicate b.kinds.length bK) (hU (cT e) b.facts x):=by rw[bN hx,afe];rfl
  have hsi:=hsz i;have hconc:=uI (vN (x:=x.row) (y:=replicate b.kinds.length bK) m0 (by rw[List.length_replicate];omega));generalize hU (cT e) b.facts x=l at hli hl13 hnx;have ho:(r++lT e b.kinds.length (a.facts.take i) b.facts).length<=1156:=by rw[aqy];omega
  have hon:r++lT e b.kinds.length (a.facts.take (i+1)) b.facts=(r++lT e b.kinds.length (a.facts.take i) b.facts)++bQ (x.row++replicate b.kinds.length bK) l:=by rw[hnx,aqR]
  generalize r++lT e b.kinds.length (a.facts.take i) b.facts=o at ho hon ⊢;unfold LT1 LL
  repeat' (first|(refine bw rfl rfl rfl rfl rfl rfl rfl rfl hli ?_ ?_;· exact⟨Int.natCast_nonneg _,rfl⟩)|rw[aqC]|refine gv_ bB b6 ?_|(refine gi_ (λhb=>?_) (λhb=>?_)<;>(try exact(fx_ hb).elim))|fail)
  refine cu (λk:Nat=>LT2 a b al l (o++bQ (x.row++replicate b.kinds.length bK) (l.take k)) i k) (λk=>LL ((a.kinds++b.kinds).map λx=>[AC.int .i64 x]) (r.map aH) (a.kinds++b.kinds).length q (o++bQ (x.row++replicate b.kinds.length bK) (l.take k)).length) (λk=>k<=l.length) (λk=>l.length-k) 0 m0 (λ_ _=>aqL _)
   (fm_ ⟨rfl,rfl,rfl,rfl,lE (by rw[List.take_zero];show _=(o++[]).map aH;rw[aqZ]),rfl,rfl,rfl,rfl,rfl,aU m5,rfl,t7⟩ [] (by rw[List.take_zero];show _=LL _ _ _ _ (o++[]).length;rw[aqZ];rfl) (En _ _ _ _ _ _ _) (wd _ _ _ _ _)) ?_
  intro k hk;by_cases hkl:k<l.length
  ·obtain⟨p,hp⟩:=gol_ hkl
   have hfs:o++bQ (x.row++replicate b.kinds.length bK) (l.take (k+1))=(o++bQ (x.row++replicate b.kinds.length bK) (l.take k))++[⟨x.row++replicate b.kinds.length bK,p⟩]:=by rw[bN hp,aa0,aqR]
   have hfl:(o++bQ (x.row++replicate b.kinds.length bK) (l.take (k+1))).length=(o++bQ (x.row++replicate b.kinds.length bK) (l.take k)).length+1:=by rw[hfs,aqy];rfl
   have ho2:(o++bQ (x.row++replicate b.kinds.length bK) (l.take k)).length<=1200:=by unfold bQ;rw[aqy,aqC,ari];omega
   generalize o++bQ (x.row++replicate b.kinds.length bK) (l.take k)=o2 at hfs hfl ho2 ⊢;unfold LT2 LL
   repeat' (first|rw[aqC]|(refine bw rfl rfl rfl rfl rfl rfl rfl rfl (bu hx) ?_ ?_;· exact⟨m0,rfl⟩)|(refine bw rfl rfl rfl rfl rfl rfl rfl rfl (bu hp) ?_ ?_;· exact⟨m0,rfl⟩)|refine aN rfl rfl rfl rfl hnul rfl ?_|refine aN rfl rfl rfl rfl hconc rfl ?_|refine gv_ bB b6 ?_|(refine gi_ (λhb=>?_) (λhb=>?_)<;>(try exact(fx_ hb).elim))|fail)
   exact⟨k+1,m0,m0,fm_ ⟨rfl,rfl,rfl,rfl,lE (by rw[hfs,aqD (l₁:=o2)];rfl),rfl,rfl,rfl,rfl,rfl,rfl,aU (aZ m0 m0),t7⟩ [_] (by rw[hfl];rfl) (En _ _ _ _ _ _ _) (wd _ _ _ _ _)⟩
  ·have hk2:k=l.length:=m0
   subst hk2;rw[List.take_length,<- hon];unfold LT2 LL
   repeat' (first|rw[aqC]|refine gv_ bB b6 ?_|(refine gi_ (λhb=>?_) (λhb=>?_)<;>(try exact(fx_ hb).elim))|fail)
   exact⟨i+1,m0,m0,fm_ ⟨rfl,rfl,rfl,rfl,rfl,rfl,rfl,aU (aZ m0 m0),t7⟩ [] rfl (Eo _ _ _ _ _) (wd _ _ _ _ _)⟩
 ·have hi2:i=a.facts.length:=m0
  subst hi2;rw[List.take_length];unfold LT1 LL
  repeat' (first|refine aN rfl rfl rfl rfl hrel rfl ?_|refine gv_ bB b6 ?_|(refine gi_ (λhb=>?_) (λhb=>?_)<;>(try exact(fx_ hb).elim))|fail)
  exact⟨.inr rfl,bg rfl (by repeat' (first|exact t7|rfl|exact aqA rfl|omega|apply And.intro)) rfl⟩
def aga (a b:bj)(e:Ex):Prop:=zI a b e/\(1<=b.kinds.length/\b.kinds.length<=48)/\b.facts.length<=12
open Classical in
noncomputable def o7 (a b:bj)(e:Ex):Option bj:=if aga a b e then(q9 (uB e a.facts b.facts)).bind λr=>if r.length<=1000 then(q9 (r++lT e b.kinds.length a.facts b.facts)).map λs=>⟨a.kinds++b.kinds,s⟩else none else none
theorem sb {a b r:bj}{e:Ex}(H:o7 a b e=some r):PTz 20 [.agg (aW a),.agg (aW b),.agg (tE e)] (.val (.agg (aW r))):=by
 unfold o7 at H;split at H
 ·rename_i h
  obtain⟨l,hl,H⟩:=bd_ H;split at H
  ·rename_i hr
   cases hg:q9 (l++lT e b.kinds.length a.facts b.facts)with
   |none=>rw[hg]at H;cases H
   |some s =>
    rw[hg]at H;obtain rfl:=aqX H;exact aav a b e h.1 h.2.1 h.2.2 hl hr hg
  ·cases H
 ·cases H
