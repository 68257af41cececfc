/- Parts. No condition. -/
import Derived.Test.YtdkmoemdipgikaaGreatDoorKAQ
set_option linter.unusedSimpArgs false
set_option linter.unusedVariables false
namespace Go.Proofs.YtdkmoemdipgikaaGreatDoor.St
open Go.RowKit
theorem fW {α β:Type}{l:List α}{g:β->α->β}{b:β}{k:Nat}{x:α}(hx:l[k]?=some x):(l.take (k+1)).foldl g b=g ((l.take k).foldl g b) x:=by
 rw[List.take_add_one,hx];simp
def BI (a b:Int):Int:=if a<b then -1 else if b<a then 1 else 0
def Parts (l:List (Int×Int))(t:Int)(i j:Nat):Prop:=(∀ q x,q<i->l[q]?=some x->x.1<t)/\(∀ q x,j<=q->l[q]?=some x->t<=x.1)
def Asc (l:List (Int×Int)):Prop :=∀ (i j:Nat) (x y:Int×Int),i<j->l[i]?=some x->l[j]?=some y->x.1<y.1
def Found (l:List (Int×Int))(t:Int)(i:Nat)(f:Bool):Prop:=i<=l.length/\Parts l t i i/\(f=true ↔ ∃ x,l[i]?=some x/\x.1=t)
theorem Parts.up {l:List (Int×Int)}{t:Int}{i j h:Nat}{x:Int×Int}(ha:Asc l)(hp:Parts l t i j)(hx:l[h]?=some x)(hlt:x.1<t):Parts l t (h+1) j :=
 ⟨fun q y hq hy=>by
  by_cases e:q=h
  ·subst e;rw[hx]at hy;cases hy;exact hlt
  ·have:=ha q h y x m0 hy hx;omega,hp.2⟩
theorem Parts.down {l:List (Int×Int)}{t:Int}{i j h:Nat}{x:Int×Int}(ha:Asc l)(hp:Parts l t i j)(hx:l[h]?=some x)(hge:t<=x.1):Parts l t i h :=
 ⟨hp.1,fun q y hq hy=>by
  by_cases e:q=h
  ·subst e;rw[hx]at hy;cases hy;exact hge
  ·have:=ha h q x y m0 hx hy;omega⟩
def afT (l:List (Int×Int))(t:Int)(i:Int):Prop := -1<=i/\i<l.length/\(∀ (q:Nat) x,(q:Int)=i->l[q]?=some x->x.1<=t)/\(∀ (q:Nat) x,i<q->l[q]?=some x->t<x.1)
theorem Found.no {l:List (Int×Int)}{t:Int}{i:Nat}(ha:Asc l)(h:Found l t i false):afT l t (i-1):=by
 obtain⟨h1,h2,h3⟩:=h;refine⟨m0,m0,fun q y hq hy=>?_,fun q y hq hy=>?_⟩
 ·have:=h2.1 q y m0 hy;omega
 ·have h4:=h2.2 q y m0 hy
  by_cases e:q=i
  ·subst e
   have:¬ y.1=t:=fun e=>by have:=h3.2 ⟨y,hy,e⟩;simp at this
   omega
  ·by_cases e2:y.1=t
   ·exfalso
    have hlt:i<l.length:=by have:=(amw.1 hy).1;omega
    have hxi:l[i]?=some l[i]:=amF hlt;have h5:=h2.2 i _ (amM _) hxi;have h6:=ha i q _ y m0 hxi hy;omega
   ·omega
def dl (l:List Int):Prop :=∀ (i j:Nat) (x y:Int),i<j->l[i]?=some x->l[j]?=some y->x<y
def Merged (a b P:List (Int))(i k:Nat):Prop:=dl P/\(∀ x,x∈P↔x∈a.take i\/x∈b.take k)/\(∀ x∈P,∀ (q:Nat) y,i<=q->a[q]?=some y->x<=y)/\(∀ x∈P,∀ (q:Nat) y,k<=q->b[q]?=some y->x<=y)
def aez (l:List Int)(x:Int):List Int:=if l.getLast?=some x then l else l++[x]
theorem dl.snoc {l:List Int}{x:Int}(h:dl l)(hx:∀ y∈l,y<x):dl (l++[x]):=by
 intro i j u v hij hu hv;have hj:=(amw.1 hv).1;simp at hj;rw[amK m0]at hu;by_cases e:j=l.length
 ·subst e
  rw[amD m0]at hv;simp at hv;subst hv;exact hx u (amC hu)
 ·rw[amK m0]at hv
  exact h i j u v hij hu hv
theorem dl.le_last {l:List Int}{z:Int}(h:dl l)(hz:l.getLast?=some z):∀ y∈l,y<=z:=by
 intro y hy;obtain⟨i,hi,e⟩:=List.mem_iff_getElem.1 hy;rw[List.getLast?_eq_getElem?]at hz;have hyi:l[i]?=some y:=by rw[amF hi,e]
 by_cases e2:i=l.length-1
 ·subst e2;rw[hyi]at hz;cases hz;omega
 ·have:=h i (l.length-1) y z m0 hyi hz;omega
theorem ae3 {l:List Int}{x:Int}(h:dl l)(hx:∀ y∈l,y<=x):dl (aez l x)/\(∀ y,y∈aez l x↔y∈l\/y=x):=by
 unfold aez;by_cases e:l.getLast?=some x
 ·rw[if_pos e]
  refine⟨h,fun y=>⟨.inl,fun hy=>?_⟩⟩;rcases hy with hy|rfl
  ·exact hy
  ·exact List.mem_of_getLast? e
 ·rw[if_neg e]
  refine⟨h.snoc fun y hy=>?_,fun y=>by simp⟩;have h1:=hx y hy;by_cases e2:y=x
  ·exfalso
   subst e2
   cases hl:l.getLast? with
   |none=>rw[List.getLast?_eq_none_iff]at hl;subst hl;simp at hy
   |some z =>
    have h2:=h.le_last hl y hy;have h3:=hx z (List.mem_of_getLast? hl);have:z=y:=m0
    subst this;exact e hl
  ·omega
theorem CM {l:List Int}{i:Nat}{x y:Int}(hx:l[i]?=some x):y∈l.take (i+1)↔y∈l.take i\/y=x:=by
 rw[List.take_add_one,hx];simp
theorem Merged.left {a b P:List Int}{i k:Nat}{x:Int}(h:Merged a b P i k)(ha:dl a)(hx:a[i]?=some x)(hb:∀ (q:Nat) y,k<=q->b[q]?=some y->x<=y):Merged a b (aez P x) (i+1) k:=by
 obtain⟨h1,h2,h3,h4⟩:=h;obtain⟨g1,g2⟩:=ae3 h1 fun y hy=>h3 y hy i x (amM _) hx
 refine⟨g1,fun y=>?_,fun y hy q z hq hz=>?_,fun y hy q z hq hz=>?_⟩
 ·rw[g2,h2,CM hx]
  grind
 ·rcases(g2 y).1 hy with u|u
  ·exact h3 y u q z m0 hz
  ·subst u;have:=ha i q y z m0 hx hz;omega
 ·rcases(g2 y).1 hy with u|u
  ·exact h4 y u q z hq hz
  ·subst u;exact hb q z hq hz
theorem Merged.right {a b P:List Int}{i k:Nat}{x:Int}(h:Merged a b P i k)(hb:dl b)(hx:b[k]?=some x)(ha:∀ (q:Nat) y,i<=q->a[q]?=some y->x<=y):Merged a b (aez P x) i (k+1):=by
 obtain⟨h1,h2,h3,h4⟩:=h;obtain⟨g1,g2,g3,g4⟩:=Merged.left (a:=b) (b:=a) ⟨h1,fun y=>(h2 y).trans Or.comm,h4,h3⟩ hb hx ha;exact⟨g1,fun y=>(g2 y).trans Or.comm,g4,g3⟩
theorem dl.from {l:List Int}(h:dl l){i:Nat}{x z:Int}(hx:l[i]?=some x)(hz:z<=x):∀ (q:Nat) y,i<=q->l[q]?=some y->z<=y:=by
 intro q y hq hy;by_cases e:q=i
 ·subst e;rw[hx]at hy;cases hy;exact hz
 ·have:=h i q x y m0 hx hy;omega
theorem Asc.map {l:List (Int×Int)}(h:Asc l):dl (l.map (·.1)):=by
 intro i j x y hij hx hy;simp at hx hy;obtain⟨u,hu⟩:=hx;obtain⟨v,hv⟩:=hy;exact h i j _ _ hij hu hv
theorem uD (n:Int):∀ (l:List Int) (y:Int),y∈ins n l↔y=n\/y∈l
 |[],y=>by simp[ins]
 |x::r,y=>by
  have:=uD n r y;unfold ins;split
  ·simp only[amN,this];grind
  ·split
   ·simp
   ·obtain rfl:x=n:=m0
    simp
theorem dl.tail {x:Int}{l:List Int}(h:dl (x::l)):dl l:=fun i j u v hij hu hv=>h (i+1) (j+1) u v m0 (by simpa using hu) (by simpa using hv)
theorem dl.head {x:Int}{l:List Int}(h:dl (x::l)):∀ y∈l,x<y:=by
 intro y hy;obtain⟨i,hi,e⟩:=List.mem_iff_getElem.1 hy;exact h 0 (i+1) x y m0 rfl (by simp[amF hi,e])
theorem dl.cons {x:Int}{l:List Int}(h:dl l)(hx:∀ y∈l,x<y):dl (x::l):=by
 intro i j u v hij hu hv
 match i,j,hij with
 |0,j+1,_ =>
  simp at hu hv;subst hu;exact hx v (amC hv)
 |i+1,j+1,hij=>exact h i j u v m0 (by simpa using hu) (by simpa using hv)
theorem dl.ins (n:Int):∀ {l:List Int},dl l->dl (ins n l)
 |[],_=>by
  intro i j u v hij hu hv;have h1:=(amw.1 hu).1;have h2:=(amw.1 hv).1;simp[Go.Proofs.YtdkmoemdipgikaaGreatDoor.St.ins]at h1 h2;omega
 |x::r,h=>by
  unfold Go.Proofs.YtdkmoemdipgikaaGreatDoor.St.ins;split
  ·refine(dl.ins n h.tail).cons fun y hy=>?_
   rcases(uD n r y).1 hy with e|e
   ·omega
   ·exact h.head y e
  ·split
   ·refine h.cons fun y hy=>?_
    rcases amN.1 hy with e|e
    ·omega
    ·have:=h.head y e;omega
   ·exact h
theorem dl.ext:∀ {a b:List Int},dl a->dl b->(∀ x,x∈a↔x∈b)->a=b
 |[],[],_,_,_=>rfl
 |[],y::b,_,_,h=>by have:=(h y).2 m5;simp at this
 |x::a,[],_,_,h=>by have:=(h x).1 m5;simp at this
 |x::a,y::b,ha,hb,h=>by
  have hxy:x=y:=by
   have h1:=(h x).1 m5;have h2:=(h y).2 m5;rcases amN.1 h1 with e|e
   ·exact e
   ·rcases amN.1 h2 with e2|e2
    ·exact e2.symm
    ·have:=hb.head x e;have:=ha.head y e2;omega
  subst hxy;rw[dl.ext ha.tail hb.tail fun z=>⟨fun hz=>?_,fun hz=>?_⟩]
  ·rcases amN.1 ((h z).1 (by simp[hz]))with e|e
   ·have:=ha.head z hz;omega
   ·exact e
  ·rcases amN.1 ((h z).2 (by simp[hz]))with e|e
   ·have:=hb.head z hz;omega
   ·exact e
theorem dl.nil:dl []:=fun i j x y _ h=>by simp at h
def dI (f:Int->Int)(P:List Int):List (Int×Int):=P.foldl (fun acc p=>bO acc (p,f p)) []
theorem lT (f:Int->Int):∀ (P:List Int) (acc:List (Int×Int)),acc.length<=(P.foldl (fun acc p=>bO acc (p,f p)) acc).length/\(P.foldl (fun acc p=>bO acc (p,f p)) acc).length<=acc.length+P.length
 |[],acc=>by simp
 |x::P,acc=>by
  have h1:=lT f P (bO acc (x,f x));have h2:=uI acc (x,f x);simp only[anl,amS];omega
theorem mW (f:Int->Int)(P:List Int):(dI f P).length<=P.length:=by have:=(lT f P []).2;unfold dI;simpa using this
theorem Own.at {α:Type}{enc:α->List Value}{k:Nat}{w:World}{E:TypeId}{base n c:Nat}{A:Option Addr}{l:List α}(h:Own enc k E w base (.slice A n c) l)(h0:0<n):∃ g,A=some ⟨g,0,none⟩/\base<=g/\g<w.heap.size/\(∀ o,w.frozen? ⟨g,o,none⟩=false):=by
 rcases h.2 with⟨hv,hx⟩|⟨g,cap,cur,hv,hb,hh,_⟩
 ·injection hv with h1 h2 h3;omega
 ·injection hv with h1 h2 h3
  exact⟨g,h1,hb,(anf.1 hh).1,fun o=>by simp[World.frozen?,hh]⟩
theorem r7 {α:Type}(q:α->Bool):∀ l:List α,(l.takeWhile q).length<=l.length
 |[]=>by simp
 |a::l=>by
  have:=r7 q l;rw[List.takeWhile_cons];split<;>simp<;>omega
theorem xC (a b:Int):wrap64 (wrap64 a+b)=wrap64 (a+b):=by unfold wrap64;omega
theorem aaf (a b:Int):wrap64 (a+wrap64 b)=wrap64 (a+b):=by unfold wrap64;omega
theorem aem:wrap64 0=0:=by unfold wrap64;omega
def ga (l:List ((Int×Int)×Int))(p:Int):Int:=l.foldl (fun n c=>if aI c.1 p then wrap64 (n+c.2)else n) 0
def jg (l:List ((Int×Int)×Int))(p:Int):Int:=(l.map fun c=>if aI c.1 p then c.2 else 0).sum
theorem we (p:Int):∀ (l:List ((Int×Int)×Int)) (z:Int),l.foldl (fun n c=>if aI c.1 p then wrap64 (n+c.2)else n) (wrap64 z)=wrap64 (z+jg l p)
 |[],z=>by simp[jg]
 |c::l,z=>by
  have hi:jg (c::l) p=(if aI c.1 p then c.2 else 0)+jg l p:=by simp[jg]
  rw[anl,hi];by_cases h:aI c.1 p=true
  ·rw[if_pos h,if_pos h,xC,we p l]
   congr 1;omega
  ·rw[if_neg h,if_neg h,we p l]
   congr 1;omega
theorem rl (l:List ((Int×Int)×Int))(p:Int):ga l p=wrap64 (jg l p):=by
 have:=we p l 0;rw[aem,Int.zero_add]at this;exact this
def iU (c:(Int×Int)×Int):List (Int×Int):=if be c.1 then [(c.1.1,c.2),(c.1.2,wrap64 (-c.2))]else []
def sb (l:List ((Int×Int)×Int)):List (Int×Int):=l.flatMap iU
def pb (X:List (Int×Int))(p:Int):Int:=(X.map fun s=>if s.1<=p then s.2 else 0).sum
theorem wT (X Y:List (Int×Int))(p:Int):pb (X++Y) p=pb X p+pb Y p:=by simp[pb]
theorem acT (c:(Int×Int)×Int)(p:Int):wrap64 (pb (iU c) p)=wrap64 (if aI c.1 p then c.2 else 0):=by
 unfold iU;by_cases h:be c.1=true
 ·rw[if_pos h]
  have hv:c.1.1<c.1.2:=by simp[be]at h;omega
  by_cases h1:c.1.1<=p
  ·by_cases h2:c.1.2<=p
   ·have hc:¬ aI c.1 p=true:=by simp[aI];omega
    rw[if_neg hc];simp only[pb,amH,amL,List.sum_cons,List.sum_nil,if_pos h1,if_pos h2];unfold wrap64;omega
   ·have hc:aI c.1 p=true:=by simp[aI,h];omega
    rw[if_pos hc];simp only[pb,amH,amL,List.sum_cons,List.sum_nil,if_pos h1,if_neg h2];congr 1;omega
  ·have hc:¬ aI c.1 p=true:=by simp[aI];omega
   rw[if_neg hc];simp only[pb,amH,amL,List.sum_cons,List.sum_nil,if_neg h1,if_neg (show ¬ c.1.2<=p by omega)];rfl
 ·rw[if_neg h]
  have hc:¬ aI c.1 p=true:=by simp[aI];intro e;exact absurd e h
  rw[if_neg hc];rfl
theorem tQ:∀ (l:List ((Int×Int)×Int)) (p:Int),wrap64 (pb (sb l) p)=wrap64 (jg l p)
 |[],p=>rfl
 |c::l,p=>by
  have hi:jg (c::l) p=(if aI c.1 p then c.2 else 0)+jg l p:=by simp[jg]
  have hc:sb (c::l)=iU c++sb l:=by simp[sb]
  rw[hi,hc,wT,<- xC,acT,xC,<- aaf,tQ l p,aaf]
theorem Da {X Y:List (Int×Int)}(h:X.Perm Y)(p:Int):pb X p=pb Y p:=by
 unfold pb
 induction h with
 |nil=>rfl
 |cons x _ ih=>simp only[amH,List.sum_cons,ih]
 |swap x y l=>simp only[amH,List.sum_cons];omega
 |trans _ _ ih1 ih2=>exact ih1.trans ih2
def GL (X:List (Int×Int)):Int:=X.foldl (fun s c=>wrap64 (s+c.2)) 0
theorem EA:∀ (X:List (Int×Int)) (z:Int),X.foldl (fun s c=>wrap64 (s+c.2)) (wrap64 z)=wrap64 (z+(X.map (·.2)).sum)
 |[],z=>by simp
 |c::X,z=>by
  rw[anl,xC,EA X];simp only[amH,List.sum_cons];congr 1;omega
theorem af4 (X:List (Int×Int)):GL X=wrap64 (X.map (·.2)).sum:=by
 have:=EA X 0;rw[aem,Int.zero_add]at this;exact this
theorem vL {X:List (Int×Int)}{k:Nat}{x y:Int}(hx:X[k]?=some (x,y)):GL (X.take (k+1))=wrap64 (GL (X.take k)+y):=fW hx
theorem adL {X:List (Int×Int)}{p:Int}(h:∀ s∈X,s.1<=p):pb X p=(X.map (·.2)).sum:=by
 unfold pb;congr 1;exact List.map_congr_left fun s hs=>if_pos (h s hs)
theorem Dq:∀ {X:List (Int×Int)} {p:Int},(∀ s∈X,p<s.1)->pb X p=0
 |[],p,_=>rfl
 |s::X,p,h=>by
  have h1:pb (s::X) p=(if s.1<=p then s.2 else 0)+pb X p:=by simp[pb]
  rw[h1,if_neg (by have:=h s m5;omega),Dq fun t ht=>h t (by simp[ht])];rfl
theorem mm {l:List ((Int×Int)×Int)}{C:List (Int×Int)}{k:Nat}{p:Int}(hp:C.Perm (sb l))(h1:∀ s∈C.take k,s.1<=p)(h2:∀ s∈C.drop k,p<s.1):GL (C.take k)=ga l p:=by
 rw[rl,<- tQ,<- Da hp,af4,<- ang k C,wT,adL h1,Dq h2];simp
def abY (C:List (Int×Int)):Prop :=∀ (i j:Nat) (x y:Int×Int),i<j->C[i]?=some x->C[j]?=some y->x.1<=y.1
theorem abY.of_pairwise {C:List (Int×Int)}(h:C.Pairwise fun x y=>x.1<=y.1):abY C:=by
 intro i j x y hij hx hy;obtain⟨hi,rfl⟩:=amw.1 hx;obtain⟨hj,rfl⟩:=amw.1 hy;exact List.pairwise_iff_getElem.1 h i j hi hj hij
theorem jo {α:Type}{C:List α}{k:Nat}{s:α}:s∈C.drop k ↔ ∃ q,k<=q/\C[q]?=some s:=by
 constructor
 ·intro h
  obtain⟨i,hi,e⟩:=List.mem_iff_getElem.1 h;exact⟨k+i,m0,by rw[<- anh,amF hi,e]⟩
 ·rintro⟨q,hq,e⟩
  have:(C.drop k)[q-k]?=some s:=by rw[anh,<- e];congr 1;omega
  exact amC this
theorem fm {α:Type}{C:List α}{k:Nat}{s:α}:s∈C.take k ↔ ∃ q,q<k/\C[q]?=some s:=by
 constructor
 ·intro h
  obtain⟨i,hi,e⟩:=List.mem_iff_getElem.1 h;simp at hi;exact⟨i,m0,by rw[<- e,List.getElem_take,amF m0]⟩
 ·rintro⟨q,hq,e⟩
  have:(C.take k)[q]?=some s:=by rw[List.getElem?_take_of_lt hq,e]
  exact amC this
def Met (C:List (Int×Int))(k:Nat)(Pr:List Int):Prop:=dl Pr/\(∀ x,x∈Pr↔x=0 \/ ∃ y,(x,y)∈C.take k)/\(∀ x∈Pr,∀ s∈C.drop k,x<s.1)
theorem Met.start {C:List (Int×Int)}{k:Nat}(h1:∀ s∈C.take k,s.1=0)(h2:∀ s∈C.drop k,0<s.1):Met C k [0]:=by
 refine⟨dl.nil.snoc m5,fun x=>?_,fun x hx s hs=>?_⟩
 ·simp
  intro y hy;exact h1 _ hy
 ·simp at hx
  subst hx;exact h2 s hs
theorem Met.next {C:List (Int×Int)}{k j:Nat}{Pr:List Int}{x:Int}(h:Met C k Pr)(hkj:k<j)(hx:∀ q s,k<=q->q<j->C[q]?=some s->s.1=x)(hj:j<=C.length)(h2:∀ s∈C.drop j,x<s.1):Met C j (Pr++[x]):=by
 obtain⟨g1,g2,g3⟩:=h;have hk:C[k]?=some C[k]:=amF m0;have hxk:=hx k _ (amM _) hkj hk;have hlt:∀ y∈Pr,y<x:=fun y hy=>by
  have:=g3 y hy C[k] (jo.2 ⟨k,amM _,hk⟩);omega
 refine⟨g1.snoc hlt,fun y=>?_,fun y hy s hs=>?_⟩
 ·rw[amY,g2,am']
  constructor
  ·rintro((e|⟨z,hz⟩)|e)
   ·exact .inl e
   ·obtain⟨q,hq,e⟩:=fm.1 hz
    exact .inr ⟨z,fm.2 ⟨q,m0,e⟩⟩
   ·subst e
    exact .inr ⟨C[k].2,fm.2 ⟨k,hkj,by rw[hk,<- hxk]⟩⟩
  ·rintro(e|⟨z,hz⟩)
   ·exact .inl (.inl e)
   ·obtain⟨q,hq,e⟩:=fm.1 hz
    by_cases hqk:q<k
    ·exact .inl (.inr ⟨z,fm.2 ⟨q,hqk,e⟩⟩)
    ·exact .inr (hx q _ m0 hq e)
 ·rcases amY.1 hy with e|e
  ·have h3:=h2 s hs
   have:=hlt y e;omega
  ·simp at e
   subst e;exact h2 s hs
theorem jS (f:Int->Int)(P:List Int)(x:Int):dI f (P++[x])=bO (dI f P) (x,f x):=by unfold dI;rw[List.foldl_append];rfl
def Bj (l:List ((Int×Int)×Int)):List Int:=l.foldl (fun p c=>if be c.1 then ins c.1.2 (ins c.1.1 p)else p) [0]
def ed (l:List ((Int×Int)×Int)):List Int:=(Bj l).takeWhile fun p=>decide (p<1099511627776)
theorem sY:∀ (l:List ((Int×Int)×Int)) (p:List Int),dl p->dl (l.foldl (fun p c=>if be c.1 then ins c.1.2 (ins c.1.1 p)else p) p) /\
  ∀ x,x∈l.foldl (fun p c=>if be c.1 then ins c.1.2 (ins c.1.1 p)else p) p↔x∈p \/ ∃ y,(x,y)∈sb l
 |[],p,h=>⟨h,fun x=>by simp[sb]⟩
 |c::l,p,h=>by
  rw[anl];have hc:sb (c::l)=iU c++sb l:=by simp[sb]
  by_cases hv:be c.1=true
  ·rw[if_pos hv]
   obtain⟨g1,g2⟩:=sY l _ ((h.ins c.1.1).ins c.1.2);refine⟨g1,fun x=>?_⟩;rw[g2,uD,uD,hc];have h1:iU c=[(c.1.1,c.2),(c.1.2,wrap64 (-c.2))]:=by unfold iU;rw[if_pos hv]
   rw[h1];constructor
   ·rintro((e|e|e)|⟨y,hy⟩)
    ·exact .inr ⟨wrap64 (-c.2),by simp[e]⟩
    ·exact .inr ⟨c.2,by simp[e]⟩
    ·exact .inl e
    ·exact .inr ⟨y,by simp[hy]⟩
   ·rintro(e|⟨y,hy⟩)
    ·exact .inl (.inr (.inr e))
    ·simp only[amY,amN,List.not_mem_nil,or_false,Prod.mk.injEq]at hy
     rcases hy with(⟨e,_⟩|⟨e,_⟩)|e
     ·exact .inl (.inr (.inl e))
     ·exact .inl (.inl e)
     ·exact .inr ⟨y,e⟩
  ·rw[if_neg hv]
   obtain⟨g1,g2⟩:=sY l _ h;refine⟨g1,fun x=>?_⟩;rw[g2,hc];have h1:iU c=[]:=by unfold iU;rw[if_neg hv]
   rw[h1,amB]
theorem dl.takeWhile {b:Int}:∀ {l:List Int},dl l->dl (l.takeWhile fun p=>decide (p<b)) /\ ∀ x,x∈l.takeWhile (fun p=>decide (p<b))↔x∈l/\x<b
 |[],h=>⟨h,fun x=>by simp⟩
 |a::l,h=>by
  obtain⟨g1,g2⟩:=dl.takeWhile (b:=b) h.tail;by_cases hab:a<b
  ·rw[List.takeWhile_cons_of_pos (by simpa using hab)]
   refine⟨g1.cons fun y hy=>h.head y ((g2 y).1 hy).1,fun x=>?_⟩;rw[amN,g2,amN];constructor
   ·rintro(rfl|⟨e1,e2⟩)
    ·exact⟨.inl rfl,hab⟩
    ·exact⟨.inr e1,e2⟩
   ·rintro⟨rfl|e1,e2⟩
    ·exact .inl rfl
    ·exact .inr ⟨e1,e2⟩
  ·rw[List.takeWhile_cons_of_neg (by simpa using hab)]
   refine⟨.nil,fun x=>⟨fun hx=>by simp at hx,fun⟨hx,hlt⟩=>?_⟩⟩;rcases amN.1 hx with e|e
   ·omega
   ·have:=h.head x e;omega
theorem cM (l:List ((Int×Int)×Int)):dl (ed l) /\ ∀ x,x∈ed l↔(x=0 \/ ∃ y,(x,y)∈sb l)/\x<1099511627776:=by
 obtain⟨g1,g2⟩:=sY l [0] (dl.nil.snoc m5);obtain⟨g3,g4⟩:=dl.takeWhile (b:=1099511627776) (l:=Bj l) g1;refine⟨g3,fun x=>?_⟩;have:=g2 x;rw[am']at this;exact(g4 x).trans (by rw[<- this];exact Iff.rfl)
theorem Met.done {l:List ((Int×Int)×Int)}{C:List (Int×Int)}{k:Nat}{Pr:List Int}(hp:C.Perm (sb l))(h:Met C k Pr)(h1:∀ s∈C.take k,s.1<1099511627776)(h2:∀ s∈C.drop k,1099511627776<=s.1):Pr=ed l:=by
 obtain⟨g1,g2,_⟩:=h;obtain⟨g3,g4⟩:=cM l;refine g1.ext g3 fun x=>?_
 rw[g2,g4];constructor
 ·rintro(e|⟨y,hy⟩)
  ·exact⟨.inl e,m0⟩
  ·exact⟨.inr ⟨y,hp.mem_iff.1 (ant hy)⟩,h1 _ hy⟩
 ·rintro⟨e|⟨y,hy⟩,hlt⟩
  ·exact .inl e
  ·have hy':=hp.mem_iff.2 hy
   rw[<- ang k C,amY]at hy';rcases hy' with e|e
   ·exact .inr ⟨y,e⟩
   ·have:=h2 _ e;simp at this;omega
def mi:List (Int×Int)->List ((Int×Int)×Int)
 |[]=>[]
 |[x]=>[((x.1,1099511627776),x.2)]
 |x::y::r=>((x.1,y.1),x.2)::mi (y::r)
theorem IW:∀ l:List (Int×Int),(mi l).length=l.length
 |[]=>rfl
 |[x]=>rfl
 |x::y::r=>by simp[mi,IW (y::r)]
theorem Jy:∀ (l:List (Int×Int)) (i:Nat) (x:Int×Int),l[i]?=some x->(mi l)[i]?=some ((x.1,((l[i+1]?).map (·.1)).getD 1099511627776),x.2)
 |[],i,x,h=>by simp at h
 |[a],0,x,h=>by simp at h;subst h;simp[mi]
 |[a],i+1,x,h=>by simp at h
 |a::b::r,0,x,h=>by simp at h;subst h;simp[mi]
 |a::b::r,i+1,x,h=>by
  have:=Jy (b::r) i x (by simpa using h);simpa[mi]using this
def eL (l:List (Int×Int))(p:Int×Int):List (Int×Int) :=
 match l.getLast? with
 |some q=>if p.1<=q.2 then l.dropLast++[(q.1,max q.2 p.2)]else l++[p]
 |none=>l++[p]
def cW (n:Int)(out:List (Int×Int))(g:(Int×Int)×Int):List (Int×Int):=if n<=g.2 then eL out g.1 else out
def B_ (l:List (Int×Int))(n:Int):List (Int×Int):=(mi l).foldl (cW n) []
theorem abC (l:List (Int×Int))(p:Int×Int):(eL l p).length<=l.length+1:=by
 unfold eL;split
 ·split
  ·simp
   try omega
  ·simp
 ·simp
theorem M8 (n:Int)(l:List (Int×Int))(g:(Int×Int)×Int):(cW n l g).length<=l.length+1:=by
 unfold cW;split
 ·exact abC _ _
 ·omega
theorem Af (n:Int):∀ (s:List ((Int×Int)×Int)) (out:List (Int×Int)),(s.foldl (cW n) out).length<=out.length+s.length
 |[],out=>by simp
 |g::s,out=>by
  have h1:=Af n s (cW n out g);have h2:=M8 n out g;simp only[anl,amS];omega
