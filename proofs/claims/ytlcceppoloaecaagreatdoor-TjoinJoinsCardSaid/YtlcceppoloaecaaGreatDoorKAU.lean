/- Parts. No condition. -/
import Derived.Test.YtlcceppoloaecaaGreatDoorKAT
set_option linter.unusedSimpArgs false
set_option linter.unusedVariables false
namespace Go.Proofs.YtlcceppoloaecaaGreatDoor.St
open Go.RowKit
theorem gH {α β:Type}{l:List α}{g:β->α->β}{b:β}{k:Nat}{x:α}(hx:l[k]?=some x):(l.take (k+1)).foldl g b=g ((l.take k).foldl g b) x:=by
 rw[List.take_add_one,hx];simp
def Hl (a b:Int):Int:=if a<b then -1 else if b<a then 1 else 0
def Parts (l:List (Int×Int))(t:Int)(i j:Nat):Prop:=(∀ q x,q<i->l[q]?=some x->x.1<t)/\(∀ q x,j<=q->l[q]?=some x->t<=x.1)
def Asc (l:List (Int×Int)):Prop :=∀ (i j:Nat) (x y:Int×Int),i<j->l[i]?=some x->l[j]?=some y->x.1<y.1
def Found (l:List (Int×Int))(t:Int)(i:Nat)(f:Bool):Prop:=i<=l.length/\Parts l t i i/\(f=true ↔ ∃ x,l[i]?=some x/\x.1=t)
theorem Parts.up {l:List (Int×Int)}{t:Int}{i j h:Nat}{x:Int×Int}(ha:Asc l)(hp:Parts l t i j)(hx:l[h]?=some x)(hlt:x.1<t):Parts l t (h+1) j :=
 ⟨λq y hq hy=>by
  by_cases e:q=h
  ·subst e;rw[hx]at hy;cases hy;exact hlt
  ·have:=ha q h y x m0 hy hx;omega,hp.2⟩
theorem Parts.down {l:List (Int×Int)}{t:Int}{i j h:Nat}{x:Int×Int}(ha:Asc l)(hp:Parts l t i j)(hx:l[h]?=some x)(hge:t<=x.1):Parts l t i h :=
 ⟨hp.1,λq y hq hy=>by
  by_cases e:q=h
  ·subst e;rw[hx]at hy;cases hy;exact hge
  ·have:=ha h q x y m0 hx hy;omega⟩
theorem sc (t:Int):∀ (l:List (Int×Int)) (z:Int),(∀ x∈l,t<x.1)->l.foldl (λn s=>if s.1<=t then s.2 else n) z=z
 |[],z,h=>rfl
 |x::l,z,h=>by
  rw[arh,if_neg (by have:=h x m5;omega)];exact sc t l z λy hy=>h y (by simp[hy])
def agm (l:List (Int×Int))(t:Int)(i:Int):Prop := -1<=i/\i<l.length/\(∀ (q:Nat) x,(q:Int)=i->l[q]?=some x->x.1<=t)/\(∀ (q:Nat) x,i<q->l[q]?=some x->t<x.1)
theorem Found.no {l:List (Int×Int)}{t:Int}{i:Nat}(ha:Asc l)(h:Found l t i false):agm l t (i-1):=by
 obtain⟨h1,h2,h3⟩:=h;refine⟨m0,m0,λq y hq hy=>?_,λq y hq hy=>?_⟩
 ·have:=h2.1 q y m0 hy;omega
 ·have h4:=h2.2 q y m0 hy
  by_cases e:q=i
  ·subst e
   have:¬ y.1=t:=λe=>by have:=h3.2 ⟨y,hy,e⟩;simp at this
   omega
  ·by_cases e2:y.1=t
   ·exfalso
    have hlt:i<l.length:=by have:=(aqp.1 hy).1;omega
    have hxi:l[i]?=some l[i]:=aqz hlt;have h5:=h2.2 i _ (aqG _) hxi;have h6:=ha i q _ y m0 hxi hy;omega
   ·omega
def dd (l:List Int):Prop :=∀ (i j:Nat) (x y:Int),i<j->l[i]?=some x->l[j]?=some y->x<y
def Merged (a b P:List (Int))(i k:Nat):Prop:=dd P/\(∀ x,x∈P↔x∈a.take i\/x∈b.take k)/\(∀ x∈P,∀ (q:Nat) y,i<=q->a[q]?=some y->x<=y)/\(∀ x∈P,∀ (q:Nat) y,k<=q->b[q]?=some y->x<=y)
def ai3 (l:List Int)(x:Int):List Int:=if l.getLast?=some x then l else l++[x]
theorem dd.snoc {l:List Int}{x:Int}(h:dd l)(hx:∀ y∈l,y<x):dd (l++[x]):=by
 intro i j u v hij hu hv;have hj:=(aqp.1 hv).1;simp at hj;rw[aqE m0]at hu;by_cases e:j=l.length
 ·subst e
  rw[aqx m0]at hv;simp at hv;subst hv;exact hx u (aqw hu)
 ·rw[aqE m0]at hv
  exact h i j u v hij hu hv
theorem dd.le_last {l:List Int}{z:Int}(h:dd l)(hz:l.getLast?=some z):∀ y∈l,y<=z:=by
 intro y hy;obtain⟨i,hi,e⟩:=List.mem_iff_getElem.1 hy;rw[List.getLast?_eq_getElem?]at hz;have hyi:l[i]?=some y:=by rw[aqz hi,e]
 by_cases e2:i=l.length-1
 ·subst e2;rw[hyi]at hz;cases hz;omega
 ·have:=h i (l.length-1) y z m0 hyi hz;omega
theorem aeD {l:List Int}{x:Int}(h:dd l)(hx:∀ y∈l,y<=x):dd (ai3 l x)/\(∀ y,y∈ai3 l x↔y∈l\/y=x):=by
 unfold ai3;by_cases e:l.getLast?=some x
 ·rw[if_pos e]
  refine⟨h,λy=>⟨.inl,λhy=>?_⟩⟩;obtain hy|rfl:=hy
  ·exact hy
  ·exact List.mem_of_getLast? e
 ·rw[if_neg e]
  refine⟨h.snoc λy hy=>?_,λy=>by simp⟩;have h1:=hx y hy;by_cases e2:y=x
  ·exfalso
   subst e2
   cases hl:l.getLast? with
   |none=>rw[List.getLast?_eq_none_iff]at hl;subst hl;simp at hy
   |some z =>
    have h2:=h.le_last hl y hy;have h3:=hx z (List.mem_of_getLast? hl);have:z=y:=m0
    subst this;exact e hl
  ·omega
theorem yb {l:List Int}{i:Nat}{x y:Int}(hx:l[i]?=some x):y∈l.take (i+1)↔y∈l.take i\/y=x:=by
 rw[List.take_add_one,hx];simp
theorem Merged.left {a b P:List Int}{i k:Nat}{x:Int}(h:Merged a b P i k)(ha:dd a)(hx:a[i]?=some x)(hb:∀ (q:Nat) y,k<=q->b[q]?=some y->x<=y):Merged a b (ai3 P x) (i+1) k:=by
 obtain⟨h1,h2,h3,h4⟩:=h;obtain⟨g1,g2⟩:=aeD h1 λy hy=>h3 y hy i x (aqG _) hx
 refine⟨g1,λy=>?_,λy hy q z hq hz=>?_,λy hy q z hq hz=>?_⟩
 ·rw[g2,h2,yb hx]
  grind
 ·rcases(g2 y).1 hy with u|u
  ·exact h3 y u q z m0 hz
  ·subst u;have:=ha i q y z m0 hx hz;omega
 ·rcases(g2 y).1 hy with u|u
  ·exact h4 y u q z hq hz
  ·subst u;exact hb q z hq hz
theorem Merged.right {a b P:List Int}{i k:Nat}{x:Int}(h:Merged a b P i k)(hb:dd b)(hx:b[k]?=some x)(ha:∀ (q:Nat) y,i<=q->a[q]?=some y->x<=y):Merged a b (ai3 P x) i (k+1):=by
 obtain⟨h1,h2,h3,h4⟩:=h;obtain⟨g1,g2,g3,g4⟩:=Merged.left (a:=b) (b:=a) ⟨h1,λy=>(h2 y).trans Or.comm,h4,h3⟩ hb hx ha;exact⟨g1,λy=>(g2 y).trans Or.comm,g4,g3⟩
theorem dd.from {l:List Int}(h:dd l){i:Nat}{x z:Int}(hx:l[i]?=some x)(hz:z<=x):∀ (q:Nat) y,i<=q->l[q]?=some y->z<=y:=by
 intro q y hq hy;by_cases e:q=i
 ·subst e;rw[hx]at hy;cases hy;exact hz
 ·have:=h i q x y m0 hx hy;omega
theorem Asc.map {l:List (Int×Int)}(h:Asc l):dd (l.map (·.1)):=by
 intro i j x y hij hx hy;simp at hx hy;obtain⟨u,hu⟩:=hx;obtain⟨v,hv⟩:=hy;exact h i j _ _ hij hu hv
theorem xC (n:Int):∀ (l:List Int) (y:Int),y∈ins n l↔y=n\/y∈l
 |[],y=>by simp[ins]
 |x::r,y=>by
  have:=xC n r y;unfold ins;split
  ·simp only[aqH,this];grind
  ·split
   ·simp
   ·obtain rfl:x=n:=m0
    simp
theorem dd.tail {x:Int}{l:List Int}(h:dd (x::l)):dd l:=λi j u v hij hu hv=>h (i+1) (j+1) u v m0 (by simpa using hu) (by simpa using hv)
theorem dd.head {x:Int}{l:List Int}(h:dd (x::l)):∀ y∈l,x<y:=by
 intro y hy;obtain⟨i,hi,e⟩:=List.mem_iff_getElem.1 hy;exact h 0 (i+1) x y m0 rfl (by simp[aqz hi,e])
theorem dd.cons {x:Int}{l:List Int}(h:dd l)(hx:∀ y∈l,x<y):dd (x::l):=by
 intro i j u v hij hu hv
 match i,j,hij with
 |0,j+1,_ =>
  simp at hu hv;subst hu;exact hx v (aqw hv)
 |i+1,j+1,hij=>exact h i j u v m0 (by simpa using hu) (by simpa using hv)
theorem dd.ins (n:Int):∀ {l:List Int},dd l->dd (ins n l)
 |[],_=>by
  intro i j u v hij hu hv;have h1:=(aqp.1 hu).1;have h2:=(aqp.1 hv).1;simp[Go.Proofs.YtlcceppoloaecaaGreatDoor.St.ins]at h1 h2;omega
 |x::r,h=>by
  unfold Go.Proofs.YtlcceppoloaecaaGreatDoor.St.ins;split
  ·refine(dd.ins n h.tail).cons λy hy=>?_
   rcases(xC n r y).1 hy with e|e
   ·omega
   ·exact h.head y e
  ·split
   ·refine h.cons λy hy=>?_
    obtain e|e:=aqH.1 hy
    ·omega
    ·have:=h.head y e;omega
   ·exact h
theorem dd.ext:∀ {a b:List Int},dd a->dd b->(∀ x,x∈a↔x∈b)->a=b
 |[],[],_,_,_=>rfl
 |[],y::b,_,_,h=>by have:=(h y).2 m5;simp at this
 |x::a,[],_,_,h=>by have:=(h x).1 m5;simp at this
 |x::a,y::b,ha,hb,h=>by
  have hxy:x=y:=by
   have h1:=(h x).1 m5;have h2:=(h y).2 m5;obtain e|e:=aqH.1 h1
   ·exact e
   ·obtain e2|e2:=aqH.1 h2
    ·exact e2.symm
    ·have:=hb.head x e;have:=ha.head y e2;omega
  subst hxy;rw[dd.ext ha.tail hb.tail λz=>⟨λhz=>?_,λhz=>?_⟩]
  ·rcases aqH.1 ((h z).1 (by simp[hz]))with e|e
   ·have:=ha.head z hz;omega
   ·exact e
  ·rcases aqH.1 ((h z).2 (by simp[hz]))with e|e
   ·have:=hb.head z hz;omega
   ·exact e
theorem dd.nil:dd []:=λi j x y _ h=>by simp at h
def dc (f:Int->Int)(P:List Int):List (Int×Int):=P.foldl (λacc p=>dy acc (p,f p)) []
theorem kU (f:Int->Int):∀ (P:List Int) (acc:List (Int×Int)),acc.length<=(P.foldl (λacc p=>dy acc (p,f p)) acc).length/\(P.foldl (λacc p=>dy acc (p,f p)) acc).length<=acc.length+P.length
 |[],acc=>by simp
 |x::P,acc=>by
  have h1:=kU f P (dy acc (x,f x));have h2:=afx acc (x,f x);simp only[arh,aqM];omega
theorem nD (f:Int->Int)(P:List Int):(dc f P).length<=P.length:=by have:=(kU f P []).2;unfold dc;simpa using this
theorem wc {α:Type}{enc:α->List Value}{k:Nat}(hk:∀ x,(enc x).length=k){x':α}{u:Value}{j:Nat}(hj:j<k):∀ {l:List α} {i:Nat} {x:α},l[i]?=some x->enc x'=(enc x).set j u->(l.flatMap enc).set (i*k+j) u=(l.set i x').flatMap enc
 |[],i,x,h,_=>by simp at h
 |y::l,0,x,h,he=>by
  simp at h;subst h;rw[List.set_cons_zero,aq3,aq3,he,Nat.zero_mul,aq8,List.set_append_left _ _ (by rw[hk];exact hj)]
 |y::l,i+1,x,h,he=>by
  have:=wc hk hj (l:=l) (i:=i) (x:=x) (by simpa using h) he;rw[List.set_cons_succ,aq3,aq3,<- this];have e:(i+1)*k+j=(enc y).length+(i*k+j):=by rw[hk,Nat.succ_mul];omega
  rw[e,List.set_append_right _ _ m0];congr 2;omega
theorem Own.at {α:Type}{enc:α->List Value}{k:Nat}{w:World}{E:TypeId}{base n c:Nat}{A:Option Addr}{l:List α}(h:Own enc k E w base (.slice A n c) l)(h0:0<n):∃ g,A=some ⟨g,0,none⟩/\base<=g/\g<w.heap.size/\(∀ o,w.frozen? ⟨g,o,none⟩=false):=by
 obtain⟨hv,hx⟩|⟨g,cap,cur,hv,hb,hh,_⟩:=h.2
 ·injection hv with h1 h2 h3;omega
 ·injection hv with h1 h2 h3
  exact⟨g,h1,hb,(aq_.1 hh).1,λo=>by simp[World.frozen?,hh]⟩
theorem Own.stored {α:Type}{enc:α->List Value}{k:Nat}{w:World}{E:TypeId}{base n c g i j:Nat}{l:List α}{x x':α}{u:Value}(hk:∀ x,(enc x).length=k)(h:Own enc k E w base (.slice (some ⟨g,0,none⟩) n c) l)(hj:j<k)(hx:l[i]?=some x)(he:enc x'=(enc x).set j u) :
  Own enc k E (w.setCell ⟨g,i*k+j,none⟩ u) base (.slice (some ⟨g,0,none⟩) n c) (l.set i x'):=by
 have hl:=h.len;subst hl;have:=(World.ownsRow.stored h (i*k+j) u).1;unfold Own;rw[List.length_set,<- wc hk hj hx he];exact this
theorem qx {α:Type}(q:α->Bool):∀ l:List α,(l.takeWhile q).length<=l.length
 |[]=>by simp
 |a::l=>by
  have:=qx q l;rw[List.takeWhile_cons];split<;>simp<;>omega
theorem Bn (a b:Int):wrap64 (wrap64 a+b)=wrap64 (a+b):=by unfold wrap64;omega
theorem abB (a b:Int):wrap64 (a+wrap64 b)=wrap64 (a+b):=by unfold wrap64;omega
theorem agF:wrap64 0=0:=by unfold wrap64;omega
def jZ (l:List ((Int×Int)×Int))(p:Int):Int:=l.foldl (λn c=>if aS c.1 p then wrap64 (n+c.2)else n) 0
def o9 (l:List ((Int×Int)×Int))(p:Int):Int:=(l.map λc=>if aS c.1 p then c.2 else 0).sum
theorem xz (p:Int):∀ (l:List ((Int×Int)×Int)) (z:Int),l.foldl (λn c=>if aS c.1 p then wrap64 (n+c.2)else n) (wrap64 z)=wrap64 (z+o9 l p)
 |[],z=>by simp[o9]
 |c::l,z=>by
  have hi:o9 (c::l) p=(if aS c.1 p then c.2 else 0)+o9 l p:=by simp[o9]
  rw[arh,hi];by_cases h:aS c.1 p=true
  ·rw[if_pos h,if_pos h,Bn,xz p l]
   congr 1;omega
  ·rw[if_neg h,if_neg h,xz p l]
   congr 1;omega
theorem pW (l:List ((Int×Int)×Int))(p:Int):jZ l p=wrap64 (o9 l p):=by
 have:=xz p l 0;rw[agF,Int.zero_add]at this;exact this
def lQ (c:(Int×Int)×Int):List (Int×Int):=if aK c.1 then [(c.1.1,c.2),(c.1.2,wrap64 (-c.2))]else []
def zA (l:List ((Int×Int)×Int)):List (Int×Int):=l.flatMap lQ
def tY (X:List (Int×Int))(p:Int):Int:=(X.map λs=>if s.1<=p then s.2 else 0).sum
theorem we (X Y:List (Int×Int))(p:Int):tY (X++Y) p=tY X p+tY Y p:=by simp[tY]
theorem Oi (c:(Int×Int)×Int)(p:Int):wrap64 (tY (lQ c) p)=wrap64 (if aS c.1 p then c.2 else 0):=by
 unfold lQ;by_cases h:aK c.1=true
 ·rw[if_pos h]
  have hv:c.1.1<c.1.2:=by simp[aK]at h;omega
  by_cases h1:c.1.1<=p
  ·by_cases h2:c.1.2<=p
   ·have hc:¬ aS c.1 p=true:=by simp[aS];omega
    rw[if_neg hc];simp only[tY,aqB,aqF,List.sum_cons,List.sum_nil,if_pos h1,if_pos h2];unfold wrap64;omega
   ·have hc:aS c.1 p=true:=by simp[aS,h];omega
    rw[if_pos hc];simp only[tY,aqB,aqF,List.sum_cons,List.sum_nil,if_pos h1,if_neg h2];congr 1;omega
  ·have hc:¬ aS c.1 p=true:=by simp[aS];omega
   rw[if_neg hc];simp only[tY,aqB,aqF,List.sum_cons,List.sum_nil,if_neg h1,if_neg (show ¬ c.1.2<=p by omega)];rfl
 ·rw[if_neg h]
  have hc:¬ aS c.1 p=true:=by simp[aS];intro e;exact absurd e h
  rw[if_neg hc];rfl
theorem uS:∀ (l:List ((Int×Int)×Int)) (p:Int),wrap64 (tY (zA l) p)=wrap64 (o9 l p)
 |[],p=>rfl
 |c::l,p=>by
  have hi:o9 (c::l) p=(if aS c.1 p then c.2 else 0)+o9 l p:=by simp[o9]
  have hc:zA (c::l)=lQ c++zA l:=by simp[zA]
  rw[hi,hc,we,<- Bn,Oi,Bn,<- abB,uS l p,abB]
theorem DY {X Y:List (Int×Int)}(h:X.Perm Y)(p:Int):tY X p=tY Y p:=by
 unfold tY
 induction h with
 |nil=>rfl
 |cons x _ ih=>simp only[aqB,List.sum_cons,ih]
 |swap x y l=>simp only[aqB,List.sum_cons];omega
 |trans _ _ ih1 ih2=>exact ih1.trans ih2
def Nn (X:List (Int×Int)):Int:=X.foldl (λs c=>wrap64 (s+c.2)) 0
theorem Ej:∀ (X:List (Int×Int)) (z:Int),X.foldl (λs c=>wrap64 (s+c.2)) (wrap64 z)=wrap64 (z+(X.map (·.2)).sum)
 |[],z=>by simp
 |c::X,z=>by
  rw[arh,Bn,Ej X];simp only[aqB,List.sum_cons];congr 1;omega
theorem aig (X:List (Int×Int)):Nn X=wrap64 (X.map (·.2)).sum:=by
 have:=Ej X 0;rw[agF,Int.zero_add]at this;exact this
theorem xl {X:List (Int×Int)}{k:Nat}{x y:Int}(hx:X[k]?=some (x,y)):Nn (X.take (k+1))=wrap64 (Nn (X.take k)+y):=gH hx
theorem afE {X:List (Int×Int)}{p:Int}(h:∀ s∈X,s.1<=p):tY X p=(X.map (·.2)).sum:=by
 unfold tY;congr 1;exact List.map_congr_left λs hs=>if_pos (h s hs)
theorem EK:∀ {X:List (Int×Int)} {p:Int},(∀ s∈X,p<s.1)->tY X p=0
 |[],p,_=>rfl
 |s::X,p,h=>by
  have h1:tY (s::X) p=(if s.1<=p then s.2 else 0)+tY X p:=by simp[tY]
  rw[h1,if_neg (by have:=h s m5;omega),EK λt ht=>h t (by simp[ht])];rfl
theorem oq {l:List ((Int×Int)×Int)}{C:List (Int×Int)}{k:Nat}{p:Int}(hp:C.Perm (zA l))(h1:∀ s∈C.take k,s.1<=p)(h2:∀ s∈C.drop k,p<s.1):Nn (C.take k)=jZ l p:=by
 rw[pW,<- uS,<- DY hp,aig,<- ara k C,we,afE h1,EK h2];simp
def agv (C:List (Int×Int)):Prop :=∀ (i j:Nat) (x y:Int×Int),i<j->C[i]?=some x->C[j]?=some y->x.1<=y.1
theorem agv.of_pairwise {C:List (Int×Int)}(h:C.Pairwise λx y=>x.1<=y.1):agv C:=by
 intro i j x y hij hx hy;obtain⟨hi,rfl⟩:=aqp.1 hx;obtain⟨hj,rfl⟩:=aqp.1 hy;exact List.pairwise_iff_getElem.1 h i j hi hj hij
theorem jN {α:Type}{C:List α}{k:Nat}{s:α}:s∈C.drop k ↔ ∃ q,k<=q/\C[q]?=some s:=by
 constructor
 ·intro h
  obtain⟨i,hi,e⟩:=List.mem_iff_getElem.1 h;exact⟨k+i,m0,by rw[<- arb,aqz hi,e]⟩
 ·rintro⟨q,hq,e⟩
  have:(C.drop k)[q-k]?=some s:=by rw[arb,<- e];congr 1;omega
  exact aqw this
theorem fF {α:Type}{C:List α}{k:Nat}{s:α}:s∈C.take k ↔ ∃ q,q<k/\C[q]?=some s:=by
 constructor
 ·intro h
  obtain⟨i,hi,e⟩:=List.mem_iff_getElem.1 h;simp at hi;exact⟨i,m0,by rw[<- e,List.getElem_take,aqz m0]⟩
 ·rintro⟨q,hq,e⟩
  have:(C.take k)[q]?=some s:=by rw[List.getElem?_take_of_lt hq,e]
  exact aqw this
def Met (C:List (Int×Int))(k:Nat)(Pr:List Int):Prop:=dd Pr/\(∀ x,x∈Pr↔x=0 \/ ∃ y,(x,y)∈C.take k)/\(∀ x∈Pr,∀ s∈C.drop k,x<s.1)
theorem Met.start {C:List (Int×Int)}{k:Nat}(h1:∀ s∈C.take k,s.1=0)(h2:∀ s∈C.drop k,0<s.1):Met C k [0]:=by
 refine⟨dd.nil.snoc m5,λx=>?_,λx hx s hs=>?_⟩
 ·simp
  intro y hy;exact h1 _ hy
 ·simp at hx
  subst hx;exact h2 s hs
theorem Met.next {C:List (Int×Int)}{k j:Nat}{Pr:List Int}{x:Int}(h:Met C k Pr)(hkj:k<j)(hx:∀ q s,k<=q->q<j->C[q]?=some s->s.1=x)(hj:j<=C.length)(h2:∀ s∈C.drop j,x<s.1):Met C j (Pr++[x]):=by
 obtain⟨g1,g2,g3⟩:=h;have hk:C[k]?=some C[k]:=aqz m0;have hxk:=hx k _ (aqG _) hkj hk;have hlt:∀ y∈Pr,y<x:=λy hy=>by
  have:=g3 y hy C[k] (jN.2 ⟨k,aqG _,hk⟩);omega
 refine⟨g1.snoc hlt,λy=>?_,λy hy s hs=>?_⟩
 ·rw[aqS,g2,aq6]
  constructor
  ·rintro((e|⟨z,hz⟩)|e)
   ·exact .inl e
   ·obtain⟨q,hq,e⟩:=fF.1 hz
    exact .inr ⟨z,fF.2 ⟨q,m0,e⟩⟩
   ·subst e
    exact .inr ⟨C[k].2,fF.2 ⟨k,hkj,by rw[hk,<- hxk]⟩⟩
  ·rintro(e|⟨z,hz⟩)
   ·exact .inl (.inl e)
   ·obtain⟨q,hq,e⟩:=fF.1 hz
    by_cases hqk:q<k
    ·exact .inl (.inr ⟨z,fF.2 ⟨q,hqk,e⟩⟩)
    ·exact .inr (hx q _ m0 hq e)
 ·obtain e|e:=aqS.1 hy
  ·have h3:=h2 s hs
   have:=hlt y e;omega
  ·simp at e
   subst e;exact h2 s hs
theorem nV (f:Int->Int)(P:List Int)(x:Int):dc f (P++[x])=dy (dc f P) (x,f x):=by unfold dc;rw[List.foldl_append];rfl
def G2 (l:List ((Int×Int)×Int)):List Int:=l.foldl (λp c=>if aK c.1 then ins c.1.2 (ins c.1.1 p)else p) [0]
def eU (l:List ((Int×Int)×Int)):List Int:=(G2 l).takeWhile λp=>decide (p<1099511627776)
theorem sr:∀ (l:List ((Int×Int)×Int)) (p:List Int),dd p->dd (l.foldl (λp c=>if aK c.1 then ins c.1.2 (ins c.1.1 p)else p) p) /\
  ∀ x,x∈l.foldl (λp c=>if aK c.1 then ins c.1.2 (ins c.1.1 p)else p) p↔x∈p \/ ∃ y,(x,y)∈zA l
 |[],p,h=>⟨h,λx=>by simp[zA]⟩
 |c::l,p,h=>by
  rw[arh];have hc:zA (c::l)=lQ c++zA l:=by simp[zA]
  by_cases hv:aK c.1=true
  ·rw[if_pos hv]
   obtain⟨g1,g2⟩:=sr l _ ((h.ins c.1.1).ins c.1.2);refine⟨g1,λx=>?_⟩;rw[g2,xC,xC,hc];have h1:lQ c=[(c.1.1,c.2),(c.1.2,wrap64 (-c.2))]:=by unfold lQ;rw[if_pos hv]
   rw[h1];constructor
   ·rintro((e|e|e)|⟨y,hy⟩)
    ·exact .inr ⟨wrap64 (-c.2),by simp[e]⟩
    ·exact .inr ⟨c.2,by simp[e]⟩
    ·exact .inl e
    ·exact .inr ⟨y,by simp[hy]⟩
   ·rintro(e|⟨y,hy⟩)
    ·exact .inl (.inr (.inr e))
    ·simp only[aqS,aqH,List.not_mem_nil,or_false,Prod.mk.injEq]at hy
     obtain(⟨e,_⟩|⟨e,_⟩)|e:=hy
     ·exact .inl (.inr (.inl e))
     ·exact .inl (.inl e)
     ·exact .inr ⟨y,e⟩
  ·rw[if_neg hv]
   obtain⟨g1,g2⟩:=sr l _ h;refine⟨g1,λx=>?_⟩;rw[g2,hc];have h1:lQ c=[]:=by unfold lQ;rw[if_neg hv]
   rw[h1,aqv]
theorem dd.takeWhile {b:Int}:∀ {l:List Int},dd l->dd (l.takeWhile λp=>decide (p<b)) /\ ∀ x,x∈l.takeWhile (λp=>decide (p<b))↔x∈l/\x<b
 |[],h=>⟨h,λx=>by simp⟩
 |a::l,h=>by
  obtain⟨g1,g2⟩:=dd.takeWhile (b:=b) h.tail;by_cases hab:a<b
  ·rw[List.takeWhile_cons_of_pos (by simpa using hab)]
   refine⟨g1.cons λy hy=>h.head y ((g2 y).1 hy).1,λx=>?_⟩;rw[aqH,g2,aqH];constructor
   ·rintro(rfl|⟨e1,e2⟩)
    ·exact⟨.inl rfl,hab⟩
    ·exact⟨.inr e1,e2⟩
   ·rintro⟨rfl|e1,e2⟩
    ·exact .inl rfl
    ·exact .inr ⟨e1,e2⟩
  ·rw[List.takeWhile_cons_of_neg (by simpa using hab)]
   refine⟨.nil,λx=>⟨λhx=>by simp at hx,λ⟨hx,hlt⟩=>?_⟩⟩;obtain e|e:=aqH.1 hx
   ·omega
   ·have:=h.head x e;omega
theorem fr (l:List ((Int×Int)×Int)):dd (eU l) /\ ∀ x,x∈eU l↔(x=0 \/ ∃ y,(x,y)∈zA l)/\x<1099511627776:=by
 obtain⟨g1,g2⟩:=sr l [0] (dd.nil.snoc m5);obtain⟨g3,g4⟩:=dd.takeWhile (b:=1099511627776) (l:=G2 l) g1;refine⟨g3,λx=>?_⟩;have:=g2 x;rw[aq6]at this;exact(g4 x).trans (by rw[<- this];exact Iff.rfl)
theorem Met.done {l:List ((Int×Int)×Int)}{C:List (Int×Int)}{k:Nat}{Pr:List Int}(hp:C.Perm (zA l))(h:Met C k Pr)(h1:∀ s∈C.take k,s.1<1099511627776)(h2:∀ s∈C.drop k,1099511627776<=s.1):Pr=eU l:=by
 obtain⟨g1,g2,_⟩:=h;obtain⟨g3,g4⟩:=fr l;refine g1.ext g3 λx=>?_
 rw[g2,g4];constructor
 ·rintro(e|⟨y,hy⟩)
  ·exact⟨.inl e,m0⟩
  ·exact⟨.inr ⟨y,hp.mem_iff.1 (arp hy)⟩,h1 _ hy⟩
 ·rintro⟨e|⟨y,hy⟩,hlt⟩
  ·exact .inl e
  ·have hy':=hp.mem_iff.2 hy
   rw[<- ara k C,aqS]at hy';obtain e|e:=hy'
   ·exact .inr ⟨y,e⟩
   ·have:=h2 _ e;simp at this;omega
def mc:List (Int×Int)->List ((Int×Int)×Int)
 |[]=>[]
 |[x]=>[((x.1,1099511627776),x.2)]
 |x::y::r=>((x.1,y.1),x.2)::mc (y::r)
theorem JI:∀ l:List (Int×Int),(mc l).length=l.length
 |[]=>rfl
 |[x]=>rfl
 |x::y::r=>by simp[mc,JI (y::r)]
theorem IZ:∀ (l:List (Int×Int)) (i:Nat) (x:Int×Int),l[i]?=some x->(mc l)[i]?=some ((x.1,((l[i+1]?).map (·.1)).getD 1099511627776),x.2)
 |[],i,x,h=>by simp at h
 |[a],0,x,h=>by simp at h;subst h;simp[mc]
 |[a],i+1,x,h=>by simp at h
 |a::b::r,0,x,h=>by simp at h;subst h;simp[mc]
 |a::b::r,i+1,x,h=>by
  have:=IZ (b::r) i x (by simpa using h);simpa[mc]using this
def fh (l:List (Int×Int))(p:Int×Int):List (Int×Int) :=
 match l.getLast? with
 |some q=>if p.1<=q.2 then l.dropLast++[(q.1,max q.2 p.2)]else l++[p]
 |none=>l++[p]
def cF (n:Int)(out:List (Int×Int))(g:(Int×Int)×Int):List (Int×Int):=if n<=g.2 then fh out g.1 else out
def Is (l:List (Int×Int))(n:Int):List (Int×Int):=(mc l).foldl (cF n) []
theorem aaf (l:List (Int×Int))(p:Int×Int):(fh l p).length<=l.length+1:=by
 unfold fh;split
 ·split
  ·simp
   try omega
  ·simp
 ·simp
theorem JX (n:Int)(l:List (Int×Int))(g:(Int×Int)×Int):(cF n l g).length<=l.length+1:=by
 unfold cF;split
 ·exact aaf _ _
 ·omega
theorem An (n:Int):∀ (s:List ((Int×Int)×Int)) (out:List (Int×Int)),(s.foldl (cF n) out).length<=out.length+s.length
 |[],out=>by simp
 |g::s,out=>by
  have h1:=An n s (cF n out g);have h2:=JX n out g;simp only[arh,aqM];omega
