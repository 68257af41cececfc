/- Parts. No condition. -/
import Derived.Test.YtlcceppoloaecaaGreatDoorKAV
set_option linter.unusedSimpArgs false
set_option linter.unusedVariables false
namespace Go.Proofs.YtlcceppoloaecaaGreatDoor.St
open Go.RowKit
theorem ib {α β:Type}{l:List α}{g:β->α->β}{b:β}{k:Nat}{x:α}(hx:l[k]?=some x):(l.take (k+1)).foldl g b=g ((l.take k).foldl g b) x:=by
 rw[List.take_add_one,hx];simp
def Ds (a b:Int):Int:=if a<b then -1 else if b<a then 1 else 0
def Parts (l:List (Int×Int))(t:Int)(i j:Nat):Prop:=(∀ q x,q<i->l[q]?=some x->x.1<t)/\(∀ q x,j<=q->l[q]?=some x->t<=x.1)
def Asc (l:List (Int×Int)):Prop :=∀ (i j:Nat) (x y:Int×Int),i<j->l[i]?=some x->l[j]?=some y->x.1<y.1
def Found (l:List (Int×Int))(t:Int)(i:Nat)(f:Bool):Prop:=i<=l.length/\Parts l t i i/\(f=true ↔ ∃ x,l[i]?=some x/\x.1=t)
theorem Parts.up {l:List (Int×Int)}{t:Int}{i j h:Nat}{x:Int×Int}(ha:Asc l)(hp:Parts l t i j)(hx:l[h]?=some x)(hlt:x.1<t):Parts l t (h+1) j :=
 ⟨fun q y hq hy=>by
  by_cases e:q=h
  ·subst e;rw[hx]at hy;cases hy;exact hlt
  ·have:=ha q h y x m0 hy hx;omega,hp.2⟩
theorem Parts.down {l:List (Int×Int)}{t:Int}{i j h:Nat}{x:Int×Int}(ha:Asc l)(hp:Parts l t i j)(hx:l[h]?=some x)(hge:t<=x.1):Parts l t i h :=
 ⟨hp.1,fun q y hq hy=>by
  by_cases e:q=h
  ·subst e;rw[hx]at hy;cases hy;exact hge
  ·have:=ha h q x y m0 hx hy;omega⟩
theorem sV (t:Int):∀ (l:List (Int×Int)) (z:Int),(∀ x∈l,t<x.1)->l.foldl (fun n s=>if s.1<=t then s.2 else n) z=z
 |[],z,h=>rfl
 |x::l,z,h=>by
  rw[aqZ,if_neg (by have:=h x m5;omega)];exact sV t l z fun y hy=>h y (by simp[hy])
def agl (l:List (Int×Int))(t:Int)(i:Int):Prop := -1<=i/\i<l.length/\(∀ (q:Nat) x,(q:Int)=i->l[q]?=some x->x.1<=t)/\(∀ (q:Nat) x,i<q->l[q]?=some x->t<x.1)
theorem Found.no {l:List (Int×Int)}{t:Int}{i:Nat}(ha:Asc l)(h:Found l t i false):agl l t (i-1):=by
 obtain⟨h1,h2,h3⟩:=h;refine⟨m0,m0,fun q y hq hy=>?_,fun q y hq hy=>?_⟩
 ·have:=h2.1 q y m0 hy;omega
 ·have h4:=h2.2 q y m0 hy
  by_cases e:q=i
  ·subst e
   have:¬ y.1=t:=fun e=>by have:=h3.2 ⟨y,hy,e⟩;simp at this
   omega
  ·by_cases e2:y.1=t
   ·exfalso
    have hlt:i<l.length:=by have:=(ap_.1 hy).1;omega
    have hxi:l[i]?=some l[i]:=aqh hlt;have h5:=h2.2 i _ (aqo _) hxi;have h6:=ha i q _ y m0 hxi hy;omega
   ·omega
def cN (l:List Int):Prop :=∀ (i j:Nat) (x y:Int),i<j->l[i]?=some x->l[j]?=some y->x<y
def Merged (a b P:List (Int))(i k:Nat):Prop:=cN P/\(∀ x,x∈P↔x∈a.take i\/x∈b.take k)/\(∀ x∈P,∀ (q:Nat) y,i<=q->a[q]?=some y->x<=y)/\(∀ x∈P,∀ (q:Nat) y,k<=q->b[q]?=some y->x<=y)
def aiJ (l:List Int)(x:Int):List Int:=if l.getLast?=some x then l else l++[x]
theorem cN.snoc {l:List Int}{x:Int}(h:cN l)(hx:∀ y∈l,y<x):cN (l++[x]):=by
 intro i j u v hij hu hv;have hj:=(ap_.1 hv).1;simp at hj;rw[aqm m0]at hu;by_cases e:j=l.length
 ·subst e
  rw[aqf m0]at hv;simp at hv;subst hv;exact hx u (aqe hu)
 ·rw[aqm m0]at hv
  exact h i j u v hij hu hv
theorem cN.le_last {l:List Int}{z:Int}(h:cN l)(hz:l.getLast?=some z):∀ y∈l,y<=z:=by
 intro y hy;obtain⟨i,hi,e⟩:=List.mem_iff_getElem.1 hy;rw[List.getLast?_eq_getElem?]at hz;have hyi:l[i]?=some y:=by rw[aqh hi,e]
 by_cases e2:i=l.length-1
 ·subst e2;rw[hyi]at hz;cases hz;omega
 ·have:=h i (l.length-1) y z m0 hyi hz;omega
theorem aiB {l:List Int}{x:Int}(h:cN l)(hx:∀ y∈l,y<=x):cN (aiJ l x)/\(∀ y,y∈aiJ l x↔y∈l\/y=x):=by
 unfold aiJ;by_cases e:l.getLast?=some x
 ·rw[if_pos e]
  refine⟨h,fun y=>⟨.inl,fun hy=>?_⟩⟩;rcases hy with hy|rfl
  ·exact hy
  ·exact List.mem_of_getLast? e
 ·rw[if_neg e]
  refine⟨h.snoc fun y hy=>?_,fun y=>by simp⟩;have h1:=hx y hy;by_cases e2:y=x
  ·exfalso
   subst e2
   cases hl:l.getLast? with
   |none=>rw[List.getLast?_eq_none_iff]at hl;subst hl;simp at hy
   |some z =>
    have h2:=h.le_last hl y hy;have h3:=hx z (List.mem_of_getLast? hl);have:z=y:=m0
    subst this;exact e hl
  ·omega
theorem Fe {l:List Int}{i:Nat}{x y:Int}(hx:l[i]?=some x):y∈l.take (i+1)↔y∈l.take i\/y=x:=by
 rw[List.take_add_one,hx];simp
theorem Merged.left {a b P:List Int}{i k:Nat}{x:Int}(h:Merged a b P i k)(ha:cN a)(hx:a[i]?=some x)(hb:∀ (q:Nat) y,k<=q->b[q]?=some y->x<=y):Merged a b (aiJ P x) (i+1) k:=by
 obtain⟨h1,h2,h3,h4⟩:=h;obtain⟨g1,g2⟩:=aiB h1 fun y hy=>h3 y hy i x (aqo _) hx
 refine⟨g1,fun y=>?_,fun y hy q z hq hz=>?_,fun y hy q z hq hz=>?_⟩
 ·rw[g2,h2,Fe hx]
  grind
 ·rcases(g2 y).1 hy with u|u
  ·exact h3 y u q z m0 hz
  ·subst u;have:=ha i q y z m0 hx hz;omega
 ·rcases(g2 y).1 hy with u|u
  ·exact h4 y u q z hq hz
  ·subst u;exact hb q z hq hz
theorem Merged.right {a b P:List Int}{i k:Nat}{x:Int}(h:Merged a b P i k)(hb:cN b)(hx:b[k]?=some x)(ha:∀ (q:Nat) y,i<=q->a[q]?=some y->x<=y):Merged a b (aiJ P x) i (k+1):=by
 obtain⟨h1,h2,h3,h4⟩:=h;obtain⟨g1,g2,g3,g4⟩:=Merged.left (a:=b) (b:=a) ⟨h1,fun y=>(h2 y).trans Or.comm,h4,h3⟩ hb hx ha;exact⟨g1,fun y=>(g2 y).trans Or.comm,g4,g3⟩
theorem cN.from {l:List Int}(h:cN l){i:Nat}{x z:Int}(hx:l[i]?=some x)(hz:z<=x):∀ (q:Nat) y,i<=q->l[q]?=some y->z<=y:=by
 intro q y hq hy;by_cases e:q=i
 ·subst e;rw[hx]at hy;cases hy;exact hz
 ·have:=h i q x y m0 hx hy;omega
theorem Asc.map {l:List (Int×Int)}(h:Asc l):cN (l.map (·.1)):=by
 intro i j x y hij hx hy;simp at hx hy;obtain⟨u,hu⟩:=hx;obtain⟨v,hv⟩:=hy;exact h i j _ _ hij hu hv
theorem xn (n:Int):∀ (l:List Int) (y:Int),y∈ins n l↔y=n\/y∈l
 |[],y=>by simp[ins]
 |x::r,y=>by
  have:=xn n r y;unfold ins;split
  ·simp only[aqp,this];grind
  ·split
   ·simp
   ·obtain rfl:x=n:=m0
    simp
theorem cN.tail {x:Int}{l:List Int}(h:cN (x::l)):cN l:=fun i j u v hij hu hv=>h (i+1) (j+1) u v m0 (by simpa using hu) (by simpa using hv)
theorem cN.head {x:Int}{l:List Int}(h:cN (x::l)):∀ y∈l,x<y:=by
 intro y hy;obtain⟨i,hi,e⟩:=List.mem_iff_getElem.1 hy;exact h 0 (i+1) x y m0 rfl (by simp[aqh hi,e])
theorem cN.cons {x:Int}{l:List Int}(h:cN l)(hx:∀ y∈l,x<y):cN (x::l):=by
 intro i j u v hij hu hv
 match i,j,hij with
 |0,j+1,_ =>
  simp at hu hv;subst hu;exact hx v (aqe hv)
 |i+1,j+1,hij=>exact h i j u v m0 (by simpa using hu) (by simpa using hv)
theorem cN.ins (n:Int):∀ {l:List Int},cN l->cN (ins n l)
 |[],_=>by
  intro i j u v hij hu hv;have h1:=(ap_.1 hu).1;have h2:=(ap_.1 hv).1;simp[Go.Proofs.YtlcceppoloaecaaGreatDoor.St.ins]at h1 h2;omega
 |x::r,h=>by
  unfold Go.Proofs.YtlcceppoloaecaaGreatDoor.St.ins;split
  ·refine(cN.ins n h.tail).cons fun y hy=>?_
   rcases(xn n r y).1 hy with e|e
   ·omega
   ·exact h.head y e
  ·split
   ·refine h.cons fun y hy=>?_
    rcases aqp.1 hy with e|e
    ·omega
    ·have:=h.head y e;omega
   ·exact h
theorem cN.ext:∀ {a b:List Int},cN a->cN b->(∀ x,x∈a↔x∈b)->a=b
 |[],[],_,_,_=>rfl
 |[],y::b,_,_,h=>by have:=(h y).2 m5;simp at this
 |x::a,[],_,_,h=>by have:=(h x).1 m5;simp at this
 |x::a,y::b,ha,hb,h=>by
  have hxy:x=y:=by
   have h1:=(h x).1 m5;have h2:=(h y).2 m5;rcases aqp.1 h1 with e|e
   ·exact e
   ·rcases aqp.1 h2 with e2|e2
    ·exact e2.symm
    ·have:=hb.head x e;have:=ha.head y e2;omega
  subst hxy;rw[cN.ext ha.tail hb.tail fun z=>⟨fun hz=>?_,fun hz=>?_⟩]
  ·rcases aqp.1 ((h z).1 (by simp[hz]))with e|e
   ·have:=ha.head z hz;omega
   ·exact e
  ·rcases aqp.1 ((h z).2 (by simp[hz]))with e|e
   ·have:=hb.head z hz;omega
   ·exact e
theorem cN.nil:cN []:=fun i j x y _ h=>by simp at h
def cQ (f:Int->Int)(P:List Int):List (Int×Int):=P.foldl (fun acc p=>dB acc (p,f p)) []
theorem mY (f:Int->Int):∀ (P:List Int) (acc:List (Int×Int)),acc.length<=(P.foldl (fun acc p=>dB acc (p,f p)) acc).length/\(P.foldl (fun acc p=>dB acc (p,f p)) acc).length<=acc.length+P.length
 |[],acc=>by simp
 |x::P,acc=>by
  have h1:=mY f P (dB acc (x,f x));have h2:=ahc acc (x,f x);simp only[aqZ,aqv];omega
theorem nu (f:Int->Int)(P:List Int):(cQ f P).length<=P.length:=by have:=(mY f P []).2;unfold cQ;simpa using this
theorem zg {α:Type}{enc:α->List Value}{k:Nat}(hk:∀ x,(enc x).length=k){x':α}{u:Value}{j:Nat}(hj:j<k):∀ {l:List α} {i:Nat} {x:α},l[i]?=some x->enc x'=(enc x).set j u->(l.flatMap enc).set (i*k+j) u=(l.set i x').flatMap enc
 |[],i,x,h,_=>by simp at h
 |y::l,0,x,h,he=>by
  simp at h;subst h;rw[List.set_cons_zero,aqM,aqM,he,Nat.zero_mul,aqR,List.set_append_left _ _ (by rw[hk];exact hj)]
 |y::l,i+1,x,h,he=>by
  have:=zg hk hj (l:=l) (i:=i) (x:=x) (by simpa using h) he;rw[List.set_cons_succ,aqM,aqM,<- this];have e:(i+1)*k+j=(enc y).length+(i*k+j):=by rw[hk,Nat.succ_mul];omega
  rw[e,List.set_append_right _ _ m0];congr 2;omega
theorem Own.at {α:Type}{enc:α->List Value}{k:Nat}{w:World}{E:TypeId}{base n c:Nat}{A:Option Addr}{l:List α}(h:Own enc k E w base (.slice A n c) l)(h0:0<n):∃ g,A=some ⟨g,0,none⟩/\base<=g/\g<w.heap.size/\(∀ o,w.frozen? ⟨g,o,none⟩=false):=by
 rcases h.2 with⟨hv,hx⟩|⟨g,cap,cur,hv,hb,hh,_⟩
 ·injection hv with h1 h2 h3;omega
 ·injection hv with h1 h2 h3
  exact⟨g,h1,hb,(aqT.1 hh).1,fun o=>by simp[World.frozen?,hh]⟩
theorem Own.stored {α:Type}{enc:α->List Value}{k:Nat}{w:World}{E:TypeId}{base n c g i j:Nat}{l:List α}{x x':α}{u:Value}(hk:∀ x,(enc x).length=k)(h:Own enc k E w base (.slice (some ⟨g,0,none⟩) n c) l)(hj:j<k)(hx:l[i]?=some x)(he:enc x'=(enc x).set j u) :
  Own enc k E (w.setCell ⟨g,i*k+j,none⟩ u) base (.slice (some ⟨g,0,none⟩) n c) (l.set i x'):=by
 have hl:=h.len;subst hl;have:=(World.ownsRow.stored h (i*k+j) u).1;unfold Own;rw[List.length_set,<- zg hk hj hx he];exact this
theorem tX {α:Type}(q:α->Bool):∀ l:List α,(l.takeWhile q).length<=l.length
 |[]=>by simp
 |a::l=>by
  have:=tX q l;rw[List.takeWhile_cons];split<;>simp<;>omega
theorem AU (a b:Int):wrap64 (wrap64 a+b)=wrap64 (a+b):=by unfold wrap64;omega
theorem adc (a b:Int):wrap64 (a+wrap64 b)=wrap64 (a+b):=by unfold wrap64;omega
theorem aiu:wrap64 0=0:=by unfold wrap64;omega
def mc (l:List ((Int×Int)×Int))(p:Int):Int:=l.foldl (fun n c=>if aW c.1 p then wrap64 (n+c.2)else n) 0
def mX (l:List ((Int×Int)×Int))(p:Int):Int:=(l.map fun c=>if aW c.1 p then c.2 else 0).sum
theorem yC (p:Int):∀ (l:List ((Int×Int)×Int)) (z:Int),l.foldl (fun n c=>if aW c.1 p then wrap64 (n+c.2)else n) (wrap64 z)=wrap64 (z+mX l p)
 |[],z=>by simp[mX]
 |c::l,z=>by
  have hi:mX (c::l) p=(if aW c.1 p then c.2 else 0)+mX l p:=by simp[mX]
  rw[aqZ,hi];by_cases h:aW c.1 p=true
  ·rw[if_pos h,if_pos h,AU,yC p l]
   congr 1;omega
  ·rw[if_neg h,if_neg h,yC p l]
   congr 1;omega
theorem pm (l:List ((Int×Int)×Int))(p:Int):mc l p=wrap64 (mX l p):=by
 have:=yC p l 0;rw[aiu,Int.zero_add]at this;exact this
def kj (c:(Int×Int)×Int):List (Int×Int):=if aQ c.1 then [(c.1.1,c.2),(c.1.2,wrap64 (-c.2))]else []
def vk (l:List ((Int×Int)×Int)):List (Int×Int):=l.flatMap kj
def qC (X:List (Int×Int))(p:Int):Int:=(X.map fun s=>if s.1<=p then s.2 else 0).sum
theorem zx (X Y:List (Int×Int))(p:Int):qC (X++Y) p=qC X p+qC Y p:=by simp[qC]
theorem af4 (c:(Int×Int)×Int)(p:Int):wrap64 (qC (kj c) p)=wrap64 (if aW c.1 p then c.2 else 0):=by
 unfold kj;by_cases h:aQ c.1=true
 ·rw[if_pos h]
  have hv:c.1.1<c.1.2:=by simp[aQ]at h;omega
  by_cases h1:c.1.1<=p
  ·by_cases h2:c.1.2<=p
   ·have hc:¬ aW c.1 p=true:=by simp[aW];omega
    rw[if_neg hc];simp only[qC,aqj,aqn,List.sum_cons,List.sum_nil,if_pos h1,if_pos h2];unfold wrap64;omega
   ·have hc:aW c.1 p=true:=by simp[aW,h];omega
    rw[if_pos hc];simp only[qC,aqj,aqn,List.sum_cons,List.sum_nil,if_pos h1,if_neg h2];congr 1;omega
  ·have hc:¬ aW c.1 p=true:=by simp[aW];omega
   rw[if_neg hc];simp only[qC,aqj,aqn,List.sum_cons,List.sum_nil,if_neg h1,if_neg (show ¬ c.1.2<=p by omega)];rfl
 ·rw[if_neg h]
  have hc:¬ aW c.1 p=true:=by simp[aW];intro e;exact absurd e h
  rw[if_neg hc];rfl
theorem wW:∀ (l:List ((Int×Int)×Int)) (p:Int),wrap64 (qC (vk l) p)=wrap64 (mX l p)
 |[],p=>rfl
 |c::l,p=>by
  have hi:mX (c::l) p=(if aW c.1 p then c.2 else 0)+mX l p:=by simp[mX]
  have hc:vk (c::l)=kj c++vk l:=by simp[vk]
  rw[hi,hc,zx,<- AU,af4,AU,<- adc,wW l p,adc]
theorem HQ {X Y:List (Int×Int)}(h:X.Perm Y)(p:Int):qC X p=qC Y p:=by
 unfold qC
 induction h with
 |nil=>rfl
 |cons x _ ih=>simp only[aqj,List.sum_cons,ih]
 |swap x y l=>simp only[aqj,List.sum_cons];omega
 |trans _ _ ih1 ih2=>exact ih1.trans ih2
def JJ (X:List (Int×Int)):Int:=X.foldl (fun s c=>wrap64 (s+c.2)) 0
theorem Gk:∀ (X:List (Int×Int)) (z:Int),X.foldl (fun s c=>wrap64 (s+c.2)) (wrap64 z)=wrap64 (z+(X.map (·.2)).sum)
 |[],z=>by simp
 |c::X,z=>by
  rw[aqZ,AU,Gk X];simp only[aqj,List.sum_cons];congr 1;omega
theorem aja (X:List (Int×Int)):JJ X=wrap64 (X.map (·.2)).sum:=by
 have:=Gk X 0;rw[aiu,Int.zero_add]at this;exact this
theorem yN {X:List (Int×Int)}{k:Nat}{x y:Int}(hx:X[k]?=some (x,y)):JJ (X.take (k+1))=wrap64 (JJ (X.take k)+y):=ib hx
theorem agV {X:List (Int×Int)}{p:Int}(h:∀ s∈X,s.1<=p):qC X p=(X.map (·.2)).sum:=by
 unfold qC;congr 1;exact List.map_congr_left fun s hs=>if_pos (h s hs)
theorem G5:∀ {X:List (Int×Int)} {p:Int},(∀ s∈X,p<s.1)->qC X p=0
 |[],p,_=>rfl
 |s::X,p,h=>by
  have h1:qC (s::X) p=(if s.1<=p then s.2 else 0)+qC X p:=by simp[qC]
  rw[h1,if_neg (by have:=h s m5;omega),G5 fun t ht=>h t (by simp[ht])];rfl
theorem nF {l:List ((Int×Int)×Int)}{C:List (Int×Int)}{k:Nat}{p:Int}(hp:C.Perm (vk l))(h1:∀ s∈C.take k,s.1<=p)(h2:∀ s∈C.drop k,p<s.1):JJ (C.take k)=mc l p:=by
 rw[pm,<- wW,<- HQ hp,aja,<- aqU k C,zx,agV h1,G5 h2];simp
def ae9 (C:List (Int×Int)):Prop :=∀ (i j:Nat) (x y:Int×Int),i<j->C[i]?=some x->C[j]?=some y->x.1<=y.1
theorem ae9.of_pairwise {C:List (Int×Int)}(h:C.Pairwise fun x y=>x.1<=y.1):ae9 C:=by
 intro i j x y hij hx hy;obtain⟨hi,rfl⟩:=ap_.1 hx;obtain⟨hj,rfl⟩:=ap_.1 hy;exact List.pairwise_iff_getElem.1 h i j hi hj hij
theorem ky {α:Type}{C:List α}{k:Nat}{s:α}:s∈C.drop k ↔ ∃ q,k<=q/\C[q]?=some s:=by
 constructor
 ·intro h
  obtain⟨i,hi,e⟩:=List.mem_iff_getElem.1 h;exact⟨k+i,m0,by rw[<- aqV,aqh hi,e]⟩
 ·rintro⟨q,hq,e⟩
  have:(C.drop k)[q-k]?=some s:=by rw[aqV,<- e];congr 1;omega
  exact aqe this
theorem f8 {α:Type}{C:List α}{k:Nat}{s:α}:s∈C.take k ↔ ∃ q,q<k/\C[q]?=some s:=by
 constructor
 ·intro h
  obtain⟨i,hi,e⟩:=List.mem_iff_getElem.1 h;simp at hi;exact⟨i,m0,by rw[<- e,List.getElem_take,aqh m0]⟩
 ·rintro⟨q,hq,e⟩
  have:(C.take k)[q]?=some s:=by rw[List.getElem?_take_of_lt hq,e]
  exact aqe this
def Met (C:List (Int×Int))(k:Nat)(Pr:List Int):Prop:=cN Pr/\(∀ x,x∈Pr↔x=0 \/ ∃ y,(x,y)∈C.take k)/\(∀ x∈Pr,∀ s∈C.drop k,x<s.1)
theorem Met.start {C:List (Int×Int)}{k:Nat}(h1:∀ s∈C.take k,s.1=0)(h2:∀ s∈C.drop k,0<s.1):Met C k [0]:=by
 refine⟨cN.nil.snoc m5,fun x=>?_,fun x hx s hs=>?_⟩
 ·simp
  intro y hy;exact h1 _ hy
 ·simp at hx
  subst hx;exact h2 s hs
theorem Met.next {C:List (Int×Int)}{k j:Nat}{Pr:List Int}{x:Int}(h:Met C k Pr)(hkj:k<j)(hx:∀ q s,k<=q->q<j->C[q]?=some s->s.1=x)(hj:j<=C.length)(h2:∀ s∈C.drop j,x<s.1):Met C j (Pr++[x]):=by
 obtain⟨g1,g2,g3⟩:=h;have hk:C[k]?=some C[k]:=aqh m0;have hxk:=hx k _ (aqo _) hkj hk;have hlt:∀ y∈Pr,y<x:=fun y hy=>by
  have:=g3 y hy C[k] (ky.2 ⟨k,aqo _,hk⟩);omega
 refine⟨g1.snoc hlt,fun y=>?_,fun y hy s hs=>?_⟩
 ·rw[aqB,g2,aqP]
  constructor
  ·rintro((e|⟨z,hz⟩)|e)
   ·exact .inl e
   ·obtain⟨q,hq,e⟩:=f8.1 hz
    exact .inr ⟨z,f8.2 ⟨q,m0,e⟩⟩
   ·subst e
    exact .inr ⟨C[k].2,f8.2 ⟨k,hkj,by rw[hk,<- hxk]⟩⟩
  ·rintro(e|⟨z,hz⟩)
   ·exact .inl (.inl e)
   ·obtain⟨q,hq,e⟩:=f8.1 hz
    by_cases hqk:q<k
    ·exact .inl (.inr ⟨z,f8.2 ⟨q,hqk,e⟩⟩)
    ·exact .inr (hx q _ m0 hq e)
 ·rcases aqB.1 hy with e|e
  ·have h3:=h2 s hs
   have:=hlt y e;omega
  ·simp at e
   subst e;exact h2 s hs
theorem o9 (f:Int->Int)(P:List Int)(x:Int):cQ f (P++[x])=dB (cQ f P) (x,f x):=by unfold cQ;rw[List.foldl_append];rfl
def Gy (l:List ((Int×Int)×Int)):List Int:=l.foldl (fun p c=>if aQ c.1 then ins c.1.2 (ins c.1.1 p)else p) [0]
def ft (l:List ((Int×Int)×Int)):List Int:=(Gy l).takeWhile fun p=>decide (p<1099511627776)
theorem uD:∀ (l:List ((Int×Int)×Int)) (p:List Int),cN p->cN (l.foldl (fun p c=>if aQ c.1 then ins c.1.2 (ins c.1.1 p)else p) p) /\
  ∀ x,x∈l.foldl (fun p c=>if aQ c.1 then ins c.1.2 (ins c.1.1 p)else p) p↔x∈p \/ ∃ y,(x,y)∈vk l
 |[],p,h=>⟨h,fun x=>by simp[vk]⟩
 |c::l,p,h=>by
  rw[aqZ];have hc:vk (c::l)=kj c++vk l:=by simp[vk]
  by_cases hv:aQ c.1=true
  ·rw[if_pos hv]
   obtain⟨g1,g2⟩:=uD l _ ((h.ins c.1.1).ins c.1.2);refine⟨g1,fun x=>?_⟩;rw[g2,xn,xn,hc];have h1:kj c=[(c.1.1,c.2),(c.1.2,wrap64 (-c.2))]:=by unfold kj;rw[if_pos hv]
   rw[h1];constructor
   ·rintro((e|e|e)|⟨y,hy⟩)
    ·exact .inr ⟨wrap64 (-c.2),by simp[e]⟩
    ·exact .inr ⟨c.2,by simp[e]⟩
    ·exact .inl e
    ·exact .inr ⟨y,by simp[hy]⟩
   ·rintro(e|⟨y,hy⟩)
    ·exact .inl (.inr (.inr e))
    ·simp only[aqB,aqp,List.not_mem_nil,or_false,Prod.mk.injEq]at hy
     rcases hy with(⟨e,_⟩|⟨e,_⟩)|e
     ·exact .inl (.inr (.inl e))
     ·exact .inl (.inl e)
     ·exact .inr ⟨y,e⟩
  ·rw[if_neg hv]
   obtain⟨g1,g2⟩:=uD l _ h;refine⟨g1,fun x=>?_⟩;rw[g2,hc];have h1:kj c=[]:=by unfold kj;rw[if_neg hv]
   rw[h1,aqd]
theorem cN.takeWhile {b:Int}:∀ {l:List Int},cN l->cN (l.takeWhile fun p=>decide (p<b)) /\ ∀ x,x∈l.takeWhile (fun p=>decide (p<b))↔x∈l/\x<b
 |[],h=>⟨h,fun x=>by simp⟩
 |a::l,h=>by
  obtain⟨g1,g2⟩:=cN.takeWhile (b:=b) h.tail;by_cases hab:a<b
  ·rw[List.takeWhile_cons_of_pos (by simpa using hab)]
   refine⟨g1.cons fun y hy=>h.head y ((g2 y).1 hy).1,fun x=>?_⟩;rw[aqp,g2,aqp];constructor
   ·rintro(rfl|⟨e1,e2⟩)
    ·exact⟨.inl rfl,hab⟩
    ·exact⟨.inr e1,e2⟩
   ·rintro⟨rfl|e1,e2⟩
    ·exact .inl rfl
    ·exact .inr ⟨e1,e2⟩
  ·rw[List.takeWhile_cons_of_neg (by simpa using hab)]
   refine⟨.nil,fun x=>⟨fun hx=>by simp at hx,fun⟨hx,hlt⟩=>?_⟩⟩;rcases aqp.1 hx with e|e
   ·omega
   ·have:=h.head x e;omega
theorem fG (l:List ((Int×Int)×Int)):cN (ft l) /\ ∀ x,x∈ft l↔(x=0 \/ ∃ y,(x,y)∈vk l)/\x<1099511627776:=by
 obtain⟨g1,g2⟩:=uD l [0] (cN.nil.snoc m5);obtain⟨g3,g4⟩:=cN.takeWhile (b:=1099511627776) (l:=Gy l) g1;refine⟨g3,fun x=>?_⟩;have:=g2 x;rw[aqP]at this;exact(g4 x).trans (by rw[<- this];exact Iff.rfl)
theorem Met.done {l:List ((Int×Int)×Int)}{C:List (Int×Int)}{k:Nat}{Pr:List Int}(hp:C.Perm (vk l))(h:Met C k Pr)(h1:∀ s∈C.take k,s.1<1099511627776)(h2:∀ s∈C.drop k,1099511627776<=s.1):Pr=ft l:=by
 obtain⟨g1,g2,_⟩:=h;obtain⟨g3,g4⟩:=fG l;refine g1.ext g3 fun x=>?_
 rw[g2,g4];constructor
 ·rintro(e|⟨y,hy⟩)
  ·exact⟨.inl e,m0⟩
  ·exact⟨.inr ⟨y,hp.mem_iff.1 (aq6 hy)⟩,h1 _ hy⟩
 ·rintro⟨e|⟨y,hy⟩,hlt⟩
  ·exact .inl e
  ·have hy':=hp.mem_iff.2 hy
   rw[<- aqU k C,aqB]at hy';rcases hy' with e|e
   ·exact .inr ⟨y,e⟩
   ·have:=h2 _ e;simp at this;omega
def kC:List (Int×Int)->List ((Int×Int)×Int)
 |[]=>[]
 |[x]=>[((x.1,1099511627776),x.2)]
 |x::y::r=>((x.1,y.1),x.2)::kC (y::r)
theorem Nu:∀ l:List (Int×Int),(kC l).length=l.length
 |[]=>rfl
 |[x]=>rfl
 |x::y::r=>by simp[kC,Nu (y::r)]
theorem NA:∀ (l:List (Int×Int)) (i:Nat) (x:Int×Int),l[i]?=some x->(kC l)[i]?=some ((x.1,((l[i+1]?).map (·.1)).getD 1099511627776),x.2)
 |[],i,x,h=>by simp at h
 |[a],0,x,h=>by simp at h;subst h;simp[kC]
 |[a],i+1,x,h=>by simp at h
 |a::b::r,0,x,h=>by simp at h;subst h;simp[kC]
 |a::b::r,i+1,x,h=>by
  have:=NA (b::r) i x (by simpa using h);simpa[kC]using this
def eY (l:List (Int×Int))(p:Int×Int):List (Int×Int) :=
 match l.getLast? with
 |some q=>if p.1<=q.2 then l.dropLast++[(q.1,max q.2 p.2)]else l++[p]
 |none=>l++[p]
def cE (n:Int)(out:List (Int×Int))(g:(Int×Int)×Int):List (Int×Int):=if n<=g.2 then eY out g.1 else out
def DI (l:List (Int×Int))(n:Int):List (Int×Int):=(kC l).foldl (cE n) []
theorem ad_ (l:List (Int×Int))(p:Int×Int):(eY l p).length<=l.length+1:=by
 unfold eY;split
 ·split
  ·simp
   try omega
  ·simp
 ·simp
theorem aa9 (n:Int)(l:List (Int×Int))(g:(Int×Int)×Int):(cE n l g).length<=l.length+1:=by
 unfold cE;split
 ·exact ad_ _ _
 ·omega
theorem EH (n:Int):∀ (s:List ((Int×Int)×Int)) (out:List (Int×Int)),(s.foldl (cE n) out).length<=out.length+s.length
 |[],out=>by simp
 |g::s,out=>by
  have h1:=EH n s (cE n out g);have h2:=aa9 n out g;simp only[aqZ,aqv];omega
