/- Parts. No condition. -/
import Derived.Test.YtlcceppoloaecaaGreatDoorKBM
set_option maxHeartbeats 8000000
set_option maxRecDepth 100000
set_option linter.unusedSimpArgs false
set_option linter.unusedVariables false
namespace Go.Proofs.YtlcceppoloaecaaGreatDoor
open IntKind (i64)
open Go.RowKit Go.MapKept
def F7 (p:ax)(t:Int):Bool:=decide (p.lo<=t)&&decide (t<p.hi)
def eI (l:List ax)(t:Int):Bool:=l.any λp=>aw p&&F7 p t
def b8:List ax->Prop
 |[]=>True
 |p::l=>aw p=true/\(∀ q∈l,p.hi<q.lo)/\b8 l
theorem b8.val:∀ {l:List ax},b8 l ->∀ p∈l,aw p=true
 |[],_,p,hp=>by cases hp
 |q::l,h,p,hp=>by
  obtain rfl|hp:=aqH.1 hp
  ·exact h.1
  ·exact h.2.2.val p hp
theorem js (t:Int):eI [] t=false:=rfl
theorem lU (p:ax)(l:List ax)(t:Int):eI (p::l) t=((aw p&&F7 p t)||eI l t):=by unfold eI;rw[List.any_cons]
theorem nN (l m:List ax)(t:Int):eI (l++m) t=(eI l t||eI m t):=by unfold eI;rw[List.any_append]
theorem fK (p:ax)(t:Int):F7 p t=true↔p.lo<=t/\t<p.hi:=by unfold F7;rw[aqI,decide_eq_true_eq,decide_eq_true_eq]
theorem cX (l:List ax)(t:Int):eI l t=true ↔ ∃ p∈l,aw p=true/\p.lo<=t/\t<p.hi:=by
 unfold eI;rw[List.any_eq_true];constructor
 ·rintro⟨p,hp,h⟩
  rw[aqI,fK]at h;exact⟨p,hp,h⟩
 ·rintro⟨p,hp,h⟩
  exact⟨p,hp,by rw[aqI,fK];exact h⟩
theorem gE {p:ax}(h:aw p=true):0<=p.lo/\p.lo<p.hi/\p.hi<=1099511627776:=by
 simp only[aw,aqI,decide_eq_true_eq]at h;exact⟨h.1.1,h.1.2,h.2⟩
theorem As {p:ax}{l:List ax}(h:b8 (p::l))(t:Int)(ht:eI (p::l) t=true):p.lo<=t:=by
 obtain⟨q,hq,hv,h1,h2⟩:=(cX _ _).1 ht;obtain rfl|hq:=aqH.1 hq
 ·exact h1
 ·have:=h.2.1 q hq
  have:=gE h.1;omega
theorem sR {p:ax}{l:List ax}(h:b8 (p::l))(t:Int)(h1:p.lo<=t)(h2:t<p.hi):eI (p::l) t=true :=
 (cX _ _).2 ⟨p,arc .., h.1,h1,h2⟩
theorem MD {p:ax}{l:List ax}(h:b8 (p::l)):eI (p::l) p.hi=false:=by
 rw[Bool.eq_false_iff];intro ht;obtain⟨q,hq,hv,h1,h2⟩:=(cX _ _).1 ht;obtain rfl|hq:=aqH.1 hq
 ·omega
 ·have:=h.2.1 q hq
  omega
theorem xr {p:ax}{l:List ax}(h:b8 (p::l))(t:Int):eI l t=(decide (p.hi<=t)&&eI (p::l) t):=by
 rw[Bool.eq_iff_iff,aqI,decide_eq_true_eq];constructor
 ·intro ht
  obtain⟨q,hq,hv,h1,h2⟩:=(cX _ _).1 ht;have:=h.2.1 q hq;exact⟨m0,(cX _ _).2 ⟨q,aqO _ hq,hv,h1,h2⟩⟩
 ·rintro⟨h0,ht⟩
  obtain⟨q,hq,hv,h1,h2⟩:=(cX _ _).1 ht;obtain rfl|hq:=aqH.1 hq
  ·omega
  ·exact(cX _ _).2 ⟨q,hq,hv,h1,h2⟩
theorem lA:∀ {l m:List ax},b8 l->b8 m->(∀ t,eI l t=eI m t)->l=m
 |[],[],_,_,_=>rfl
 |[],q::m,_,hm,h=>by
  have:=h q.lo;rw[js,sR hm q.lo (Int.le_refl _) (gE hm.1).2.1]at this
  cases this
 |p::l,[],hl,_,h=>by
  have:=h p.lo;rw[js,sR hl p.lo (Int.le_refl _) (gE hl.1).2.1]at this
  cases this
 |p::l,q::m,hl,hm,h=>by
  have a1:=(gE hl.1).2.1;have a2:=(gE hm.1).2.1;have e1:p.lo=q.lo:=by
   have h1:=As hm p.lo (by rw[<- h];exact sR hl _ (Int.le_refl _) a1);have h2:=As hl q.lo (by rw[h];exact sR hm _ (Int.le_refl _) a2);omega
  have e2:p.hi=q.hi:=by
   obtain h1|h1|h1:=Int.lt_trichotomy p.hi q.hi
   ·have h3:=h p.hi
    rw[MD hl,sR hm p.hi m0 h1]at h3
    cases h3
   ·exact h1
   ·have h3:=h q.hi
    rw[MD hm,sR hl q.hi m0 h1]at h3
    cases h3
  obtain⟨a,b⟩:=p;obtain⟨c,d⟩:=q;simp only at e1 e2;subst e1 e2;rw[lA hl.2.2 hm.2.2 λt=>by rw[xr hl,xr hm,h]]
theorem qL:∀ {l:List ax} {p:ax},b8 l->aw p=true->(∀ q∈l,q.hi<p.lo)->b8 (l++[p])
 |[],p,_,hp,_=>⟨hp,λq hq=>(by cases hq),t7⟩
 |q::l,p,h,hp,hq=>by
  refine⟨h.1,λr hr=>?_,qL h.2.2 hp λr hr=>hq r (aqO _ hr)⟩;obtain hr|hr:=aqS.1 hr
  ·exact h.2.1 r hr
  ·rw[aq6]at hr;subst hr;exact hq q (arc ..)
theorem wX:∀ {l:List ax} {p:ax},b8 (l++[p])->b8 l/\aw p=true /\ ∀ q∈l,q.hi<p.lo
 |[],p,h=>⟨t7,h.1,λq hq=>by cases hq⟩
 |q::l,p,h=>by
  obtain⟨h1,h2,h3⟩:=wX (l:=l) h.2.2;refine⟨⟨h.1,λr hr=>h.2.1 r (List.mem_append_left _ hr),h1⟩,h2,λr hr=>?_⟩;obtain rfl|hr:=aqH.1 hr
  ·exact h.2.1 p m5
  ·exact h3 r hr
theorem aaD {l:List ax}{a b c:Int}(h:b8 (l++[⟨a,b⟩]))(hbc:b<=c)(hc:c<=1099511627776):b8 (l++[⟨a,c⟩]):=by
 obtain⟨h1,h2,h3⟩:=wX h;have:=gE h2;simp only at this;exact qL h1 (by simp only[aw,aqI,decide_eq_true_eq];omega) h3
def rr (l:List ax)(a b:Int):List ax:=match l.getLast? with
 |some p=>if p.hi=a then l.dropLast++[⟨p.lo,b⟩]else l++[⟨a,b⟩]
 |none=>l++[⟨a,b⟩]
theorem jJ {l:List ax}{a b:Int}(h:b8 l)(ha:∀ p∈l,p.hi<=a)(h0:0<=a)(hab:a<b)(hb:b<=1099511627776) :
  b8 (rr l a b)/\(∀ p∈rr l a b,p.hi<=b) /\ ∀ t,eI (rr l a b) t=(eI l t||(decide (a<=t)&&decide (t<b))):=by
 have hp:aw ⟨a,b⟩=true:=by simp only[aw,aqI,decide_eq_true_eq];omega
 have Vb:∀ t,eI (l++[⟨a,b⟩]) t=(eI l t||(decide (a<=t)&&decide (t<b))):=λt=>by
  rw[nN,lU,js,Bool.or_false,hp,aqY];rfl
 have hle:∀ p∈l++[(⟨a,b⟩:ax)],p.hi<=b:=λp hq=>by
  obtain hq|hq:=aqS.1 hq
  ·have:=ha p hq;omega
  ·rw[aq6]at hq;subst hq;exact Int.le_refl _
 unfold rr
 cases hg:l.getLast? with
 |none =>
  rw[List.getLast?_eq_none_iff]at hg;subst hg;exact⟨qL trivial hp (λq hq=>by cases hq),hle,Vb⟩
 |some p =>
  have hl:l=l.dropLast++[p]:=by
   have h1:l≠[]:=λe=>by rw[e]at hg;cases hg
   have h2:=List.dropLast_concat_getLast h1;rw[List.getLast?_eq_some_getLast h1]at hg;injection hg with hg
   rw[<- h2,hg];simp
  have XL:∀ q∈l.dropLast,q.hi<p.lo:=by
   rw[hl]at h;exact(wX h).2.2
  have hpm:p∈l:=by rw[hl];simp
  have QQ:=h.val p hpm;by_cases he:p.hi=a
  ·simp only[if_pos he]
   have hs:b8 (l.dropLast++[⟨p.lo,b⟩]):=by
    rw[hl]at h;exact aaD (b:=p.hi) h m0 hb
   refine⟨hs,λq hq=>?_,λt=>?_⟩
   ·obtain hq|hq:=aqS.1 hq
    ·have:=XL q hq;have:=gE QQ;omega
    ·rw[aq6]at hq;subst hq;exact Int.le_refl _
   ·have e:eI l t=(eI l.dropLast t||(F7 p t)):=by
     conv=>lhs;rw[hl]
     rw[nN,lU,js,Bool.or_false,QQ,aqY]
    have Uj:aw ⟨p.lo,b⟩=true:=hs.val _ m5;rw[e,nN,lU,js,Bool.or_false,Uj,aqY,Bool.or_assoc];congr 1;have:=gE QQ;rw[Bool.eq_iff_iff,Bool.or_eq_true,fK,fK,aqI,decide_eq_true_eq,decide_eq_true_eq];simp only;omega
  ·simp only[if_neg he]
   refine⟨qL h hp λq hq=>?_,hle,Vb⟩;rw[hl]at hq;have hp2:=ha p hpm;obtain hq|hq:=aqS.1 hq
   ·have:=XL q hq;have:=gE QQ;simp only;omega
   ·rw[aq6]at hq;subst hq;simp only;omega
abbrev E3:=Int×Int×Int
def uq:List ax->Bool->List E3
 |[],_=>[]
 |p::l,f=>(bif aw p then(bif f then [(p.lo,1,0),(p.hi,-1,0)]else [(p.lo,0,1),(p.hi,0,-1)])else [])++uq l f
def uA (a b:List ax):List E3:=uq a true++uq b false
def eD (f:E3->Int):List E3->Int->Int
 |[],_=>0
 |e::l,t=>(if e.1<=t then f e else 0)+eD f l t
theorem ff (f:E3->Int)(t:Int):∀ l m:List E3,eD f (l++m) t=eD f l t+eD f m t
 |[],m=>by simp[eD]
 |e::l,m=>by rw[List.cons_append,eD,eD,ff f t l m];omega
theorem FW (f:E3->Int)(t:Int){l m:List E3}(h:l.Perm m):eD f l t=eD f m t:=by
 induction h with
 |nil=>rfl
 |cons e _ ih=>rw[eD,eD,ih]
 |swap e e' l=>simp only[eD];omega
 |trans _ _ h1 h2=>exact h1.trans h2
def BH (l:List ax)(t:Int):Int:=((l.countP λp=>aw p&&F7 p t:Nat):Int)
theorem FL (l:List ax)(t:Int):decide (0<BH l t)=eI l t:=by
 unfold BH eI;rw[Bool.eq_iff_iff,decide_eq_true_eq,List.any_eq_true];rw[show(0:Int)<((l.countP λp=>aw p&&F7 p t:Nat):Int)↔0<l.countP (λp=>aw p&&F7 p t)by omega,List.countP_pos_iff]
theorem DI (t:Int):∀ l:List ax,eD (λe=>e.2.1) (uq l true) t=BH l t/\eD (λe=>e.2.2) (uq l true) t=0
 |[]=>⟨rfl,rfl⟩
 |p::l=>by
  obtain⟨h1,h2⟩:=DI t l;rw[uq,ff,ff,h1,h2];unfold BH;rw[List.countP_cons]
  cases hp:aw p with
  |false=>simp[eD]
  |true =>
   have:=gE hp;simp only[aqs,eD,aqY];have e:F7 p t=true↔p.lo<=t/\t<p.hi:=fK p t;by_cases h3:p.lo<=t<;>by_cases h4:p.hi<=t
   ·rw[if_pos h3,if_pos h4,if_neg (by rw[e];omega)];constructor<;>simp
   ·rw[if_pos h3,if_neg h4,if_pos (by rw[e];omega)];constructor<;>simp;omega
   ·omega
   ·rw[if_neg h3,if_neg h4,if_neg (by rw[e];omega)];constructor<;>simp
theorem Dp (t:Int):∀ l:List ax,eD (λe=>e.2.2) (uq l false) t=BH l t/\eD (λe=>e.2.1) (uq l false) t=0
 |[]=>⟨rfl,rfl⟩
 |p::l=>by
  obtain⟨h1,h2⟩:=Dp t l;rw[uq,ff,ff,h1,h2];unfold BH;rw[List.countP_cons]
  cases hp:aw p with
  |false=>simp[eD]
  |true =>
   have:=gE hp;simp only[aqs,aqr,eD,aqY];have e:F7 p t=true↔p.lo<=t/\t<p.hi:=fK p t;by_cases h3:p.lo<=t<;>by_cases h4:p.hi<=t
   ·rw[if_pos h3,if_pos h4,if_neg (by rw[e];omega)];constructor<;>simp
   ·rw[if_pos h3,if_neg h4,if_pos (by rw[e];omega)];constructor<;>simp;omega
   ·omega
   ·rw[if_neg h3,if_neg h4,if_neg (by rw[e];omega)];constructor<;>simp
theorem Nb (a b:List ax)(t:Int):eD (λe=>e.2.1) (uA a b) t=BH a t/\eD (λe=>e.2.2) (uA a b) t=BH b t:=by
 unfold uA;rw[ff,ff,(DI t a).1,(DI t a).2,(Dp t b).1,(Dp t b).2];omega
theorem wL:∀ (l:List ax) (f:Bool),∀ e∈uq l f,0<=e.1/\e.1<=1099511627776 /\ -1<=e.2.1/\e.2.1<=1 /\ -1<=e.2.2/\e.2.2<=1
 |[],_,e,h=>by cases h
 |p::l,f,e,h=>by
  rw[uq,aqS]at h;obtain h|h:=h
  ·cases hp:aw p with
   |false=>rw[hp]at h;cases h
   |true =>
    have:=gE hp;rw[hp,aqs]at h
    cases f<;>simp at h<;>rcases h with rfl|rfl<;>simp<;>omega
  ·exact wL l f e h
theorem Ii:∀ (l:List ax) (f:Bool),(uq l f).length<=2*l.length
 |[],_=>aqG _
 |p::l,f=>by
  have:=Ii l f;rw[uq,aqy,aqM]
  cases aw p<;>cases f<;>simp<;>omega
theorem oH (a b:List ax):∀ e∈uA a b,0<=e.1/\e.1<=1099511627776 /\ -1<=e.2.1/\e.2.1<=1 /\ -1<=e.2.2/\e.2.2<=1:=λe h=>by
 obtain h|h:=aqS.1 h
 ·exact wL a true e h
 ·exact wL b false e h
theorem MR (a b:List ax):(uA a b).length<=2*a.length+2*b.length:=by
 have h1:=Ii a true;have h2:=Ii b false;unfold uA;rw[aqy];omega
def l9 (at_:Int):List E3->Int->Int->List E3×Int×Int
 |[],na,nb=>([],na,nb)
 |e::l,na,nb=>if e.1=at_ then l9 at_ l (na+e.2.1) (nb+e.2.2)else(e::l,na,nb)
def lG:List E3->Int
 |[]=>1099511627776
 |e::_=>e.1
def mh (l:List E3):Prop:=l.Pairwise λx y=>x.1<=y.1
theorem AH (at_:Int):∀ (l:List E3) (na nb:Int),mh l->(∀ e∈l,at_<=e.1) ->∃ l' Wt Wu,l9 at_ l na nb=(l',Wt,Wu)/\mh l'/\(∀ e∈l',at_<e.1/\e∈l)/\l'.length<=l.length /\
  (∀ t,at_<=t->na+eD (λe=>e.2.1) l t=Wt+eD (λe=>e.2.1) l' t/\nb+eD (λe=>e.2.2) l t=Wu+eD (λe=>e.2.2) l' t)
 |[],na,nb,_,_=>⟨[],na,nb,rfl,List.Pairwise.nil,λe h=>(by cases h),aqG _,λt _=>⟨rfl,rfl⟩⟩
 |e::l,na,nb,hs,hm=>by
  have Y8:=aro.1 hs;rw[l9];by_cases he:e.1=at_
  ·rw[if_pos he]
   obtain⟨l',Wt,Wu,h1,h2,h3,h4,h5⟩:=AH at_ l (na+e.2.1) (nb+e.2.2) Y8.2 λx hx=>hm x (aqO _ hx)
   refine⟨l',Wt,Wu,h1,h2,λx hx=>⟨(h3 x hx).1,aqO _ (h3 x hx).2⟩,by simp;omega,λt ht=>?_⟩;obtain⟨q1,q2⟩:=h5 t ht;simp only[eD];rw[if_pos m0,if_pos m0];omega
  ·rw[if_neg he]
   have h0:=hm e (arc ..);refine⟨e::l,na,nb,rfl,hs,λx hx=>⟨?_,hx⟩,aqG _,λt _=>⟨rfl,rfl⟩⟩;obtain rfl|hx:=aqH.1 hx
   ·omega
   ·have:=Y8.1 x hx;omega
theorem xK (f:E3->Int)(t:Int):∀ l:List E3,(∀ e∈l,t<e.1)->eD f l t=0
 |[],_=>rfl
 |e::l,h=>by
  rw[eD,if_neg (by have:=h e (arc ..);omega),xK f t l λx hx=>h x (aqO _ hx)];rfl
def iq (PL:Bool->Bool->Bool):Nat->List E3->Int->Int->Int->List ax->List ax
 |0,_,_,_,_,out=>out
 |n+1,l,at_,na,nb,out=>if at_<1099511627776 then
   let r:=l9 at_ l na nb
   iq PL n r.1 (lG r.1) r.2.1 r.2.2 (if PL (decide (0<r.2.1)) (decide (0<r.2.2))then rr out at_ (lG r.1)else out)
  else out
structure IH (PL:Bool->Bool->Bool)(E l:List E3)(at_ na nb:Int)(out:List ax):Prop where
 srt:mh l
 low:∀ e∈l,at_<=e.1/\e.1<=1099511627776
 zero:0<=at_/\at_<=1099511627776
 cnt:∀ t,at_<=t->eD (λe=>e.2.1) E t=na+eD (λe=>e.2.1) l t/\eD (λe=>e.2.2) E t=nb+eD (λe=>e.2.2) l t
 span:b8 out
 last:∀ p∈out,p.hi<=at_
 ins:∀ t,eI out t=((decide (0<=t)&&decide (t<at_))&&PL (decide (0<eD (λe=>e.2.1) E t)) (decide (0<eD (λe=>e.2.2) E t)))
theorem IH.step {PL:Bool->Bool->Bool}{E l:List E3}{at_ na nb:Int}{out:List ax}(h:IH PL E l at_ na nb out)(ha:at_<1099511627776) :
  IH PL E (l9 at_ l na nb).1 (lG (l9 at_ l na nb).1) (l9 at_ l na nb).2.1 (l9 at_ l na nb).2.2 (if PL (decide (0<(l9 at_ l na nb).2.1)) (decide (0<(l9 at_ l na nb).2.2))then rr out at_ (lG (l9 at_ l na nb).1)else out) /\
  at_<lG (l9 at_ l na nb).1:=by
 obtain⟨l',Wt,Wu,h1,h2,h3,h4,h5⟩:=AH at_ l na nb h.srt λe he=>(h.low e he).1
 rw[h1];simp only;have hn:at_<lG l'/\lG l'<=1099511627776 /\ ∀ e∈l',lG l'<=e.1:=by
  cases l' with
  |nil=>exact⟨ha,Int.le_refl _,λe he=>by cases he⟩
  |cons e l' =>
   have h6:=h3 e (arc ..);refine⟨h6.1,(h.low e h6.2).2,λx hx=>?_⟩;obtain rfl|hx:=aqH.1 hx
   ·exact Int.le_refl _
   ·exact(aro.1 h2).1 x hx
 obtain⟨n1,n2,n3⟩:=hn;generalize lG l'=nx at n1 n2 n3 ⊢;have hz:=h.zero;have hc:∀ t,at_<=t->eD (λe=>e.2.1) E t=Wt+eD (λe=>e.2.1) l' t/\eD (λe=>e.2.2) E t=Wu+eD (λe=>e.2.2) l' t:=λt ht=>by
  have q1:=h.cnt t ht;have q2:=h5 t ht;omega
 have hk:∀ t,at_<=t->t<nx->PL (decide (0<eD (λe=>e.2.1) E t)) (decide (0<eD (λe=>e.2.2) E t))=PL (decide (0<Wt)) (decide (0<Wu)):=λt h1 h2=>by
  have q:=hc t h1;rw[xK _ t l' λe he=>by have:=n3 e he;omega,xK _ t l' λe he=>by have:=n3 e he;omega,Int.add_zero,Int.add_zero]at q;rw[q.1,q.2]
 refine⟨⟨h2,λe he=>⟨n3 e he,(h.low e (h3 e he).2).2⟩,m0,λt ht=>hc t m0,?_,?_,?_⟩,n1⟩
 ·split
  ·exact(jJ h.span h.last hz.1 n1 n2).1
  ·exact h.span
 ·split
  ·exact(jJ h.span h.last hz.1 n1 n2).2.1
  ·exact λp hp=>by have:=h.last p hp;omega
 ·intro t
  by_cases O0:t<at_
  ·have e1:(decide (at_<=t)&&decide (t<nx))=false:=by simp;omega
   have e2:eI (if PL (decide (0<Wt)) (decide (0<Wu))then rr out at_ nx else out) t=eI out t:=by
    split
    ·rw[(jJ h.span h.last hz.1 n1 n2).2.2,e1,Bool.or_false]
    ·rfl
   rw[e2,h.ins t,aqu O0,aqu (show t<nx by omega)]
  ·have e0:eI out t=false:=by rw[h.ins t,aqt O0,Bool.and_false,Bool.false_and]
   by_cases QH:t<nx
   ·rw[hk t m0 QH,aqu (show 0<=t by omega),aqu QH,aqY,aqY]
    cases Sz:PL (decide (0<Wt)) (decide (0<Wu))with
    |true=>rw[if_pos rfl,(jJ h.span h.last hz.1 n1 n2).2.2,e0,aqu (show at_<=t by omega),aqu QH];rfl
    |false=>rw[if_neg m5,e0]
   ·rw[aqt QH,Bool.and_false,Bool.false_and]
    split
    ·rw[(jJ h.span h.last hz.1 n1 n2).2.2,e0,aqt QH,Bool.and_false];rfl
    ·exact e0
def yX (n:Nat)(l:List E3)(at_:Int):Prop:=at_<1099511627776->l.length+(if at_=lG l then 1 else 2)<=n
theorem OQ (at_:Int){l:List E3}{na nb:Int}(hs:mh l)(hm:∀ e∈l,at_<=e.1):(l9 at_ l na nb).1.length<=l.length/\(at_=lG l->at_<1099511627776->(l9 at_ l na nb).1.length<l.length):=by
 obtain⟨l',Wt,Wu,h1,h2,h3,h4,h5⟩:=AH at_ l na nb hs hm;refine⟨by rw[h1];exact h4,λhe hf=>?_⟩
 cases l with
 |nil=>exact absurd (show at_=1099511627776 from he) m0
 |cons e l =>
  have QP:e.1=at_:=he.symm;rw[l9,if_pos QP];obtain⟨l2,a2,b2,q1,_,_,q4,_⟩:=AH at_ l (na+e.2.1) (nb+e.2.2) (aro.1 hs).2 λx hx=>hm x (aqO _ hx)
  rw[q1];simp;omega
theorem yX.step {n:Nat}{l:List E3}{at_ na nb:Int}(h:yX (n+1) l at_)(hs:mh l)(hm:∀ e∈l,at_<=e.1)(ha:at_<1099511627776):yX n (l9 at_ l na nb).1 (lG (l9 at_ l na nb).1):=by
 intro _;rw[if_pos rfl];have h1:=OQ at_ (na:=na) (nb:=nb) hs hm;have h2:=h ha;by_cases he:at_=lG l
 ·rw[if_pos he]at h2
  have:=h1.2 he ha;omega
 ·rw[if_neg he]at h2
  have:=h1.1;omega
theorem NN (PL:Bool->Bool->Bool)(E:List E3):∀ (n:Nat) (l:List E3) (at_ na nb:Int) (out:List ax),IH PL E l at_ na nb out->yX n l at_ ->
  b8 (iq PL n l at_ na nb out) /\ ∀ t,eI (iq PL n l at_ na nb out) t=((decide (0<=t)&&decide (t<1099511627776))&&PL (decide (0<eD (λe=>e.2.1) E t)) (decide (0<eD (λe=>e.2.2) E t))):=by
 intro n
 induction n with
 |zero =>
  intro l at_ na nb out h hn;have:at_=1099511627776:=by
   have:=h.zero;have h2:=hn;unfold yX at h2;by_cases ha:at_<1099511627776
   ·have:=h2 ha
    split at this<;>omega
   ·omega
  subst this;exact⟨h.span,h.ins⟩
 |succ n ih =>
  intro l at_ na nb out h hn;rw[iq];by_cases ha:at_<1099511627776
  ·rw[if_pos ha]
   exact ih _ _ _ _ _ (h.step ha).1 (hn.step h.srt (λe he=>(h.low e he).1) ha)
  ·rw[if_neg ha]
   have:at_=1099511627776:=by have:=h.zero;omega
   subst this;exact⟨h.span,h.ins⟩
theorem Jn (PL:Bool->Bool->Bool){E:List E3}(hs:mh E)(hr:∀ e∈E,0<=e.1/\e.1<=1099511627776):IH PL E E 0 0 0 [] :=
 ⟨hs,hr,m0,λt _=>⟨(Int.zero_add _).symm,(Int.zero_add _).symm⟩,t7,λp hp=>(by cases hp),λt=>by
  have:(decide (0<=t)&&decide (t<0))=false:=by
   by_cases h:t<0
   ·rw[aqt (show ¬ 0<=t by omega),Bool.false_and]
   ·rw[aqt h,Bool.and_false]
  rw[this,Bool.false_and,js]⟩
theorem y6 (PL:Bool->Bool->Bool){a b:List ax}{E:List E3}(hp:E.Perm (uA a b))(hs:mh E){n:Nat}(hn:E.length+2<=n) :
  b8 (iq PL n E 0 0 0 []) /\ ∀ t,eI (iq PL n E 0 0 0 []) t=((decide (0<=t)&&decide (t<1099511627776))&&PL (eI a t) (eI b t)):=by
 have hr:∀ e∈E,0<=e.1/\e.1<=1099511627776:=λe he=>by
  have:=oH a b e (hp.mem_iff.1 he);exact⟨this.1,this.2.1⟩
 obtain⟨h1,h2⟩:=NN PL E n E 0 0 0 [] (Jn PL hs hr) (λ_=>by split<;>omega);refine⟨h1,λt=>?_⟩;rw[h2 t,FW _ t hp,FW _ t hp,(Nb a b t).1,(Nb a b t).2,FL,FL]
open Go.RowKit Go.Shelf Go.Lib Go.Sort
def af9:Type :={ e:E3 // 0<=e.1/\e.1<=1099511627776 }
instance : Inhabited af9 := ⟨⟨(0, 0, 0), by decide⟩⟩
def ajH:Flat af9:=⟨3,λe=>[e.1.1,e.1.2.1,e.1.2.2],λ_=>rfl,m0⟩
theorem alI:SWO (ltOf λx y:af9=>x.1.1-y.1.1) where
 irrefl x:=by simp[ltOf]
 trans x y z h1 h2:=by simp[ltOf]at *;omega
 ntrans x y z h1 h2:=by simp[ltOf]at *;omega
theorem adP:abq Tryz.prog ajH 213 [] (λx => .agg (ajH.enc x).toArray) (λx y=>x.1.1-y.1.1):=by
 intro R W cb _ hs _ x y;obtain rfl:=ag5 hs;obtain⟨⟨x,a,b⟩,O2,Rx⟩:=x;obtain⟨⟨y,c,d⟩,hy1,YP⟩:=y;simp only at O2 Rx hy1 YP;show Calls Tryz.prog 213 #[.agg #[.int .i64 x,.int .i64 a,.int .i64 b],.agg #[.int .i64 y,.int .i64 c,.int .i64 d]] W _
 go_enter Tryz.func213,Tryz.ntmps213
 go_wp2
 go_ret
 exact⟨rfl,0,_,by rw[alloc_eq_grow,alloc_eq_grow,grow_grow];rfl⟩
instance : Inhabited cD := ⟨⟨0, 0⟩⟩
def gI (k:Int):List SV:=[.c (.int .i64 k)]
def gPr (p:cD):List SV:=[.c (.int .i64 p.a),.c (.int .i64 p.b)]
theorem EB {n:Nat}:∀ {o:List Int},(∀ k∈o,0<=k/\k<(n:Int)) ->∃ d:List (agP n),d.map (·.1)=o
 |[],_=>⟨[],rfl⟩
 |k::o,h=>by
  obtain⟨d,e⟩:=EB (o:=o) λt ht=>h t (aqO _ ht)
  have hk:=h k (arc ..);exact⟨⟨k,hk.1,.inl hk.2⟩::d,congrArg (k :: ·) e⟩
theorem E1 {n:Nat}(d:List (agP n)):d.map (akI n).tr=(d.map (·.1)).map gI:=by
 rw[List.map_map];rfl
theorem Gg {b:List ap}(hb:b.length<=1000){o:List Int}(hr:∀ k∈o,0<=k/\k<(b.length:Int))(v m:Nat)(hm:o.length=m)(hm2:m<=1000000) :
  ∃ o':List Int,o'.Perm o/\o'.Pairwise (λx y =>¬ qo b y<qo b x)/\RTz 39 [.row v (o.map gI) 1] [.one (.sl 0 v 0 m),.one (.c (.fn 40 [.ref [.lst (b.map aH)]]))] [.row v (o'.map gI) 1] (.tup []):=by
 obtain⟨d,rfl⟩:=EB hr;have hO:=am' (α:=agP b.length) λx=>qo b x.1
 have hd:d≠[]->0<b.length:=λh=>by
  cases d with
  |nil=>exact absurd rfl h
  |cons x d=>have:=hr x.1 m5;omega
 have Pl:=Ou (P:=Tryz.prog) (F:=akI b.length) rfl Tryz.sortInt (λx y=>Lib.compareInt (qo b x.1) (qo b y.1)) hO 40 [.ref [.lst (b.map aH)]] (pre:=[]) (d:=d) (post:=[])
  (enters_of Tryz.func40 k7 rfl) (λh=>NH (hd h) hb) ⟨_,Tryz.func39,k7,k7⟩ v 0 m rfl (by rw[<- hm];simp) m0
 refine⟨(bF (λx y=>Lib.compareInt (qo b x.1) (qo b y.1)) d).map (·.1),(jw hO d).map _,?_,?_⟩
 ·rw[List.pairwise_map]
  refine(pI hO d).imp λ{x y} h O0=>h ?_
  have:=ltC (λz:agP b.length=>qo b z.1) y x;unfold ltOf at this;rw[decide_eq_decide]at this;exact this.2 O0
 ·simp only[aqv,aqZ]at Pl
  rw[E1,E1]at Pl;exact Pl
theorem Ji (pre d:List cD)(v lo n:Nat)(PG:pre.length=lo)(hn:d.length=n)(P2:n<=1000000) :
  ∃ d':List cD,d'.Perm d/\d'.Pairwise (λx y =>¬ y.b<x.b)/\RTz 42 [.row v ((pre++d).map gPr) 2] [.one (.sl 0 v lo n),.one (.c (.fn 43 []))] [.row v ((pre++d').map gPr) 2] (.tup []):=by
 have hO:=am' (α:=cD) λx=>x.b
 have Pl:=Ew (P:=Tryz.prog) (F:=alY) Tryz.sortPair Tryz.isAgg63 Tryz.sizeOf63 (λx y=>Lib.compareInt x.b y.b) hO 43 [] (pre:=pre) (d:=d) (post:=[])
  (enters_of Tryz.func43 k7 rfl) (λ_=>ae0) ⟨_,Tryz.func42,k7,k7⟩ v lo n PG hn m0
 refine⟨bF (λx y=>Lib.compareInt x.b y.b) d,jw hO d,?_,?_⟩
 ·refine(pI hO d).imp λ{x y} h O0=>h ?_
  have:=ltC (λz:cD=>z.b) y x;unfold ltOf at this;rw[decide_eq_decide]at this;exact this.2 O0
 ·rw[aqZ,aqZ]at Pl
  exact Pl
open Go.RowKit Go.MapKept Go.Shelf Go.Lib Go.Sort
def tPs (l:List ax):AC := .lst (l.map aP)
def Nj (e:E3):List SV:=[.c (.int .i64 e.1),.c (.int .i64 e.2.1),.c (.int .i64 e.2.2)]
def cEd (e:E3):List AC:=[.int .i64 e.1,.int .i64 e.2.1,.int .i64 e.2.2]
theorem LS:∀ {o:List E3},(∀ e∈o,0<=e.1/\e.1<=1099511627776) ->∃ d:List af9,d.map (·.1)=o
 |[],_=>⟨[],rfl⟩
 |k::o,h=>by
  obtain⟨d,e⟩:=LS (o:=o) λt ht=>h t (aqO _ ht)
  have hk:=h k (arc ..);exact⟨⟨k,hk.1,hk.2⟩::d,congrArg (k :: ·) e⟩
theorem I7 (d:List af9):d.map ajH.tr=(d.map (·.1)).map Nj:=by
 rw[List.map_map];rfl
theorem LR {o:List E3}(hr:∀ e∈o,0<=e.1/\e.1<=1099511627776)(v m:Nat)(hm:o.length=m)(hm2:m<=1000000) :
  ∃ o':List E3,o'.Perm o/\mh o'/\RTz 212 [.row v (o.map Nj) 3] [.one (.sl 0 v 0 m),.one (.c (.fn 213 []))] [.row v (o'.map Nj) 3] (.tup []):=by
 obtain⟨d,rfl⟩:=LS hr;have Pl:=Ew (P:=Tryz.prog) (F:=ajH) Tryz.sortEdge Tryz.isAgg162 Tryz.sizeOf162 (λx y=>x.1.1-y.1.1) alI 213 [] (pre:=[]) (d:=d) (post:=[])
  (enters_of Tryz.func213 k7 rfl) (λ_=>adP) ⟨_,Tryz.func212,k7,k7⟩ v 0 m rfl (by rw[<- hm];simp) m0
 refine⟨(bF (λx y:af9=>x.1.1-y.1.1) d).map (·.1),(jw alI d).map _,?_,?_⟩
 ·unfold mh
  rw[List.pairwise_map];refine(pI alI d).imp λ{x y} h=>?_
  omega
 ·simp only[aqv,aqZ]at Pl
  rw[I7,I7]at Pl;exact Pl
def vE (n:Nat):Nat:=162+65536+65536*n
theorem adN (l:List E3):d_ (l.map Nj)=some (l.map cEd):=by
 have:=iK (l.map cEd);rw[List.map_map]at this;exact this
theorem gl (n v k:Nat)(l:List E3):(Ob.row v (l.map Nj) k).below n:=by
 intro e he x hx;obtain⟨y,_,rfl⟩:=aq0.1 he;simp[Nj]at hx;rcases hx with rfl|rfl|rfl<;>trivial
theorem Jx (σ:List Nat)(v:Nat)(l:List E3):(Ob.row v (l.map Nj) 3).ren σ=Ob.row v (l.map Nj) 3:=by
 simp only[Ob.ren,List.map_map];rfl
theorem rfE {L:List Ob}{v:Nat}{l:List E3}{id:Nat}{x:AV}{xs:List AV}(h0:L[id]?=some (Ob.row v (l.map Nj) 3))(hx:∀ y∈x::xs,y.below 1):ge [id] [Ob.row v (l.map Nj) 3] (x::xs) L:=by
 refine⟨rfl,m5,λi y hy=>?_,a8 ⟨gl _ _ _ _,t7⟩,hx⟩
 match i,hy with
 |0,hy=>simp at hy;subst hy;rw[Jx];exact h0
 |i+1,hy=>simp at hy
theorem jE {L L':List Ob}{v:Nat}{l:List E3}{id:Nat}(h:L.set id (Ob.row v (l.map Nj) 3)=L'):joinL [id] L [Ob.row v (l.map Nj) 3]=L':=by
 subst h;simp[joinL,join,cZ,bY,eY,Jx]
theorem Cj (p:ax)(f:Bool):∀ l:List ax,uq (l++[p]) f=uq l f++(bif aw p then(bif f then [(p.lo,1,0),(p.hi,-1,0)]else [(p.lo,0,1),(p.hi,0,-1)])else [])
 |[]=>by simp[uq]
 |q::l=>by
  rw[List.cons_append,uq,Cj p f l,uq,aqR]
def nE (l:List ax):Nat:=l.countP aw
theorem ab' (l:List ax)(p:ax):nE (l++[p])=nE l+(bif aw p then 1 else 0):=by
 unfold nE;rw[List.countP_append,List.countP_cons,List.countP_nil]
 cases aw p<;>simp
theorem zp (f:Bool):∀ l:List ax,(uq l f).length=2*nE l
 |[]=>rfl
 |p::l=>by
  have:=zp f l;unfold nE at this ⊢;rw[uq,aqy,this,List.countP_cons]
  cases aw p<;>cases f<;>simp<;>omega
theorem adp (l:List ax):nE l<=l.length:=List.countP_le_length
def ET1 (a b:List ax)(m i:Nat):Tm:=[(1,.one (.c (tPs b))),(5,.one (.sl 0 (vE m) 0 (2*m))),(10,.one (.c (tPs a))),(11,.one (.c (.int .i64 a.length))),(12,.one (.c (.int .i64 i)))]
theorem xy (a b:List ax)(m i:Nat):gQ 1 (ET1 a b m i):=⟨t7,(by show 0<1;omega),t7,t7,t7,t7⟩
def ET2 (b:List ax)(m i:Nat):Tm:=[(5,.one (.sl 0 (vE m) 0 (2*m))),(28,.one (.c (tPs b))),(29,.one (.c (.int .i64 b.length))),(30,.one (.c (.int .i64 i)))]
theorem xU (b:List ax)(m i:Nat):gQ 1 (ET2 b m i):=⟨(by show 0<1;omega),t7,t7,t7,t7⟩
theorem zJ (a b:List ax)(ha:a.length<=1000)(hb:b.length<=1000):∃ E,E.Perm (uA a b)/\mh E/\PTz 156 [.one (tPs a),.one (tPs b)] (.val (.one (.lst (E.map cEd)))):=by
 have hlen:(uA a b).length=2*(nE a+nE b):=by unfold uA;rw[aqy,zp,zp];omega
 have hna:=adp a;have Tv:=adp b;obtain⟨E,hEp,hEs,U5⟩:=LR (o:=uA a b) (λe he=>⟨(oH a b e he).1,(oH a b e he).2.1⟩) (vE (nE a+nE b)) (2*(nE a+nE b)) hlen m0;refine⟨E,hEp,hEs,?_⟩;refine pa_ am Tryz.func156 rfl rfl Tryz.ntmps156 m5 ?_;simp only[argT,PV.av,aqB,aqF]
 repeat' (first|refine gw_ am tabS_ok ?_|refine gi_ (λhb=>?_) (λhb=>?_)|fail)
 refine qT 5 (vE 0) 3 rfl (by unfold vE;omega) ?_;refine cu (λi:Nat=>ET1 a b (nE (a.take i)) i) (λi=>[.row (vE (nE (a.take i))) ((uq (a.take i) true).map Nj) 3]) (λi=>i<=a.length) (λi=>a.length-i) 0 m0 (λ_ _=>aqL _)
  (fm_ ⟨rfl,rfl,rfl,aU m5,rfl,t7⟩ [] rfl (xy _ _ _ _) ⟨gl _ _ _ _,t7⟩) ?_
 intro i hi;by_cases O0:i<a.length
 ·obtain⟨x,hx⟩:=gol_ O0
  have QQ:=gPV_ok (iN x);have SI:nE (a.take (i+1))=nE (a.take i)+(bif aw x then 1 else 0):=by rw[bN hx,ab']
  have UM:uq (a.take (i+1)) true=uq (a.take i) true++(bif aw x then [(x.lo,1,0),(x.hi,-1,0)]else []):=by rw[bN hx,Cj];rfl
  have Wl:=zp true (a.take i);have hle:nE (a.take i)<=1000:=by have:=adp (a.take i);rw[ari]at this;omega
  unfold ET1;generalize nE (a.take i)=m at SI Wl hle ⊢;generalize uq (a.take i) true=E0 at UM Wl ⊢
  cases hv:aw x with
  |true =>
   rw[hv]at QQ SI UM;rw[aqs]at SI UM;have Rr:vE (m+1)=vE m+65536:=by unfold vE;omega
   have hm:(E0.map Nj).length=2*m:=by rw[aqC,Wl]
   repeat' (first|(refine b9 rfl rfl rfl rfl rfl (ee am (k:=3) (by_:=24) (xs:=[Nj (x.lo,1,0),Nj (x.hi,-1,0)]) rfl rfl rfl rfl ⟨rfl,_,rfl,by intro e he;simp at he;rcases he with rfl|rfl<;>rfl⟩ rfl (by unfold vE;omega) rfl rfl rfl m9 hm (by simp only[aqM,aqV];omega) (by simp only[aqM,aqV];omega)) ?_)|(refine bw rfl rfl rfl rfl rfl rfl rfl rfl (bu hx) ?_ ?_;· exact⟨m0,rfl⟩)|refine aN rfl rfl rfl rfl QQ rfl ?_|refine gw_ am tabS_ok ?_|refine gi_ (λhb=>?_) (λhb=>?_)|fail)
   exact⟨i+1,m0,m0,fm_ ⟨rfl,(by rw[SI,Rr];rfl),rfl,rfl,aU (aZ m0 m0),t7⟩ [_] (by rw[SI,Rr,UM,aqD];rfl) (xy _ _ _ _) ⟨gl _ _ _ _,t7⟩⟩
  |false =>
   rw[hv]at QQ SI UM;rw[aqr,Nat.add_zero]at SI;rw[aqr,aqZ]at UM
   repeat' (first|(refine bw rfl rfl rfl rfl rfl rfl rfl rfl (bu hx) ?_ ?_;· exact⟨m0,rfl⟩)|refine aN rfl rfl rfl rfl QQ rfl ?_|refine gw_ am tabS_ok ?_|refine gi_ (λhb=>?_) (λhb=>?_)|fail)
   exact⟨i+1,m0,m0,fm_ ⟨rfl,(by rw[SI];rfl),rfl,rfl,aU (aZ m0 m0),t7⟩ [_] (by rw[SI,UM];rfl) (xy _ _ _ _) ⟨gl _ _ _ _,t7⟩⟩
 ·have Rb:i=a.length:=m0
  subst Rb;rw[List.take_length];unfold ET1
  repeat' (first|refine gw_ am tabS_ok ?_|refine gi_ (λhb=>?_) (λhb=>?_)|fail)
  refine cu (λi:Nat=>ET2 b (nE a+nE (b.take i)) i) (λi=>[.row (vE (nE a+nE (b.take i))) ((uq a true++uq (b.take i) false).map Nj) 3]) (λi=>i<=b.length) (λi=>b.length-i) 0 m0 (λ_ _=>aqL _)
   (fm_ ⟨rfl,rfl,aU m5,rfl,t7⟩ [] (by simp[uq,nE]) (xU _ _ _) ⟨gl _ _ _ _,t7⟩) ?_
  intro i hi;by_cases O0:i<b.length
  ·obtain⟨x,hx⟩:=gol_ O0
   have QQ:=gPV_ok (iN x);have SI:nE a+nE (b.take (i+1))=nE a+nE (b.take i)+(bif aw x then 1 else 0):=by rw[bN hx,ab',Nat.add_assoc]
   have UM:uq a true++uq (b.take (i+1)) false=uq a true++uq (b.take i) false++(bif aw x then [(x.lo,0,1),(x.hi,0,-1)]else []):=by rw[bN hx,Cj,aqR];rfl
   have Wl:(uq a true++uq (b.take i) false).length=2*(nE a+nE (b.take i)):=by rw[aqy,zp,zp];omega
   have hle:nE a+nE (b.take i)<=2000:=by have:=adp (b.take i);rw[ari]at this;omega
   unfold ET2;generalize nE a+nE (b.take i)=m at SI Wl hle ⊢;generalize uq a true++uq (b.take i) false=E0 at UM Wl ⊢
   cases hv:aw x with
   |true =>
    rw[hv]at QQ SI UM;rw[aqs]at SI UM;have Rr:vE (m+1)=vE m+65536:=by unfold vE;omega
    have hm:(E0.map Nj).length=2*m:=by rw[aqC,Wl]
    repeat' (first|(refine b9 rfl rfl rfl rfl rfl (ee am (k:=3) (by_:=24) (xs:=[Nj (x.lo,0,1),Nj (x.hi,0,-1)]) rfl rfl rfl rfl ⟨rfl,_,rfl,by intro e he;simp at he;rcases he with rfl|rfl<;>rfl⟩ rfl (by unfold vE;omega) rfl rfl rfl m9 hm (by simp only[aqM,aqV];omega) (by simp only[aqM,aqV];omega)) ?_)|(refine bw rfl rfl rfl rfl rfl rfl rfl rfl (bu hx) ?_ ?_;· exact⟨m0,rfl⟩)|refine aN rfl rfl rfl rfl QQ rfl ?_|refine gw_ am tabS_ok ?_|refine gi_ (λhb=>?_) (λhb=>?_)|fail)
    exact⟨i+1,m0,m0,fm_ ⟨(by rw[SI,Rr];rfl),rfl,rfl,aU (aZ m0 m0),t7⟩ [_] (by rw[SI,Rr,UM,aqD];rfl) (xU _ _ _) ⟨gl _ _ _ _,t7⟩⟩
   |false =>
    rw[hv]at QQ SI UM;rw[aqr,Nat.add_zero]at SI;rw[aqr,aqZ]at UM
    repeat' (first|(refine bw rfl rfl rfl rfl rfl rfl rfl rfl (bu hx) ?_ ?_;· exact⟨m0,rfl⟩)|refine aN rfl rfl rfl rfl QQ rfl ?_|refine gw_ am tabS_ok ?_|refine gi_ (λhb=>?_) (λhb=>?_)|fail)
    exact⟨i+1,m0,m0,fm_ ⟨(by rw[SI];rfl),rfl,rfl,aU (aZ m0 m0),t7⟩ [_] (by rw[SI,UM];rfl) (xU _ _ _) ⟨gl _ _ _ _,t7⟩⟩
  ·have Rb:i=b.length:=m0
   subst Rb;rw[List.take_length];unfold ET2;have Vk:uq a true++uq b false=uA a b:=rfl;rw[Vk]
   repeat' (first|(refine cJ [0] rfl rfl rfl rfl U5 rfl (rfE rfl (bV ⟨(by show 0<1;omega),t7,t7⟩)) rfl (jE rfl) ?_)|(refine iL 0 5 (cs:=E.map cEd) rfl (adN _) rfl (by rw[aqC,hEp.length_eq,hlen]) ?_)|refine gw_ am tabS_ok ?_|refine gi_ (λhb=>?_) (λhb=>?_)|fail)
   refine⟨.inr rfl,?_⟩
   first|exact⟨t7,rfl⟩|exact⟨⟨t7,t7⟩,rfl⟩|(refine⟨?_,rfl⟩;repeat' (first|exact t7|rfl|apply And.intro))
theorem Cc (a b:Int):EE a b=max a b:=by unfold EE;split<;>omega
theorem abF (a b:Int):mnI a b=min a b:=by unfold mnI;split<;>omega
def HT (p:ax):List SV:=[.c (.int .i64 p.lo),.c (.int .i64 p.hi)]
def vQ (n:Nat):Nat:=53+65536+65536*n
theorem afA (l:List ax):d_ (l.map HT)=some (l.map aP):=by
 have:=iK (l.map aP);rw[List.map_map]at this;exact this
theorem dp (n v k:Nat)(l:List ax):(Ob.row v (l.map HT) k).below n:=by
 intro e he x hx;obtain⟨y,_,rfl⟩:=aq0.1 he;simp[HT]at hx;rcases hx with rfl|rfl<;>trivial
theorem aba {at_:Int}{e:E3}{l:List E3}{na nb:Int}(h:e.1≠at_):l9 at_ (e::l) na nb=(e::l,na,nb):=by rw[l9,if_neg h]
theorem drop_at {E:List E3}{i:Nat}{e:E3}(h:E[i]?=some e):E.drop i=e::E.drop (i+1):=by
 obtain⟨O0,h2⟩:=aqp.1 h;rw[aqW O0,h2]
theorem xa (l:List ax)(p:ax)(a b:Int):rr (l++[p]) a b=if p.hi=a then l++[⟨p.lo,b⟩]else(l++[p])++[⟨a,b⟩]:=by
 unfold rr;rw[List.getLast?_concat];simp only[List.dropLast_concat]
theorem JB (a b:Int):rr [] a b=[⟨a,b⟩]:=rfl
theorem Jf (l:List ax)(p:ax)(b:Int)(i:Nat)(hi:i=l.length):((l++[p]).map HT).set i (splice (HT p) 1 [.c (.int .i64 b)])=(l++[(⟨p.lo,b⟩:ax)]).map HT:=by
 subst hi;rw[aqD,List.set_append_right _ _ m5,aqC,Nat.sub_self,aqD];rfl
structure SwS where
 n:Nat
 i:Nat
 at_:Int
 na:Int
 nb:Int
 out:List ax
 c:Nat
structure akY (PL:Bool->Bool->Bool)(E:List E3)(F:List ax)(s:SwS):Prop where
 fin:iq PL s.n (E.drop s.i) s.at_ s.na s.nb s.out=F
 inv:IH PL E (E.drop s.i) s.at_ s.na s.nb s.out
 fuel:yX s.n (E.drop s.i) s.at_
 ile:s.i<=E.length
 na : -(s.i:Int)<=s.na/\s.na<=s.i
 nb : -(s.i:Int)<=s.nb/\s.nb<=s.i
 out:s.out.length+s.n<=E.length+2
theorem akY.next {PL:Bool->Bool->Bool}{E:List E3}{F:List ax}{s:SwS}(h:akY PL E F s)(ha:s.at_<1099511627776){j:Nat}{na nb:Int}(hj:j<=E.length)(hr:l9 s.at_ (E.drop s.i) s.na s.nb=(E.drop j,na,nb))(h1 : -(j:Int)<=na/\na<=j)(h2 : -(j:Int)<=nb/\nb<=j){nx:Int}(hx:lG (E.drop j)=nx){out:List ax}(c:Nat)(ho:(if PL (decide (0<na)) (decide (0<nb))=true then rr s.out s.at_ nx else s.out)=out)(hl:out.length<=s.out.length+1) :
  akY PL E F ⟨s.n-1,j,nx,na,nb,out,c⟩/\s.n-1<s.n:=by
 obtain⟨n,i,at_,na0,nb0,out0,c0⟩:=s;obtain⟨f1,f2,f3,f4,f5,f6,f7⟩:=h;dsimp only at *;have hn:0<n:=by have:=f3 ha;split at this<;>omega
 obtain⟨n,rfl⟩:∃ m,n=m+1:=⟨n-1,m0⟩;have g1:=(f2.step ha).1;have g2:=f3.step (na:=na0) (nb:=nb0) f2.srt (λe he=>(f2.low e he).1) ha;rw[iq,if_pos ha]at f1;dsimp only at f1;rw[hr]at f1 g1 g2;dsimp only at f1 g1 g2;rw[hx]at f1 g1 g2;rw[ho]at f1 g1;exact⟨⟨f1,g1,g2,hj,h1,h2,by show out.length+(n+1-1)<=_;omega⟩,m0⟩
def WT (E:List E3)(K:SV)(s:SwS):Tm:=[(2,.one K),(7,.one (.c (.lst (E.map cEd)))),(8,.one (.sl 0 (vQ s.c) 0 s.out.length)),(9,.one (.c (.int .i64 s.na))),(10,.one (.c (.int .i64 s.nb))),(11,.one (.c (.int .i64 s.i))),(12,.one (.c (.int .i64 s.at_)))]
theorem iH (E:List E3){K:SV}(hK:K.below 1)(s:SwS):gQ 1 (WT E K s):=⟨hK,t7,(by show 0<1;omega),t7,t7,t7,t7,t7⟩
def WT2 (E:List E3)(K:SV)(s:SwS)(j:Nat)(na nb:Int):Tm:=[(2,.one K),(7,.one (.c (.lst (E.map cEd)))),(8,.one (.sl 0 (vQ s.c) 0 s.out.length)),(9,.one (.c (.int .i64 na))),(10,.one (.c (.int .i64 nb))),(11,.one (.c (.int .i64 j))),(12,.one (.c (.int .i64 s.at_)))]
theorem Fv (E:List E3){K:SV}(hK:K.below 1)(s:SwS)(j:Nat)(na nb:Int):gQ 1 (WT2 E K s j na nb):=⟨hK,t7,(by show 0<1;omega),t7,t7,t7,t7,t7⟩
theorem z_ (PL:Bool->Bool->Bool)(F:FuncId)(Pj:List AC)(hk:∀ x y:Bool,PTz F ([.one (.bool x),.one (.bool y)]++Pj.map .one) (.val (.one (.bool (PL x y)))))(a b:List ax)(E:List E3)(hp:E.Perm (uA a b))(hs:mh E)(hE:E.length<=4000)
  (hed:PTz 156 [.one (tPs a),.one (tPs b)] (.val (.one (.lst (E.map cEd))))):PTz 100 [.one (tPs a),.one (tPs b),.one (.fn F Pj)] (.val (.one (.lst ((iq PL (E.length+2) E 0 0 0 []).map aP)))):=by
 have YA:∀ e∈E,0<=e.1/\e.1<=1099511627776 /\ -1<=e.2.1/\e.2.1<=1 /\ -1<=e.2.2/\e.2.2<=1:=λe he=>oH a b e (hp.mem_iff.1 he)
 have V7:(SV.c (AC.fn F Pj)).below 1:=trivial;generalize hF:iq PL (E.length+2) E 0 0 0 []=R;refine pa_ am Tryz.func100 rfl rfl Tryz.ntmps100 m5 ?_;simp only[argT,PV.av,aqB,aqF]
 repeat' (first|refine aN rfl rfl rfl rfl hed rfl ?_|refine gw_ am tabS_ok ?_|refine gi_ (λhb=>?_) (λhb=>?_)|fail)
 refine qT 8 (vQ 0) 2 rfl (by unfold vQ;omega) ?_;refine cu (WT E (.c (.fn F Pj))) (λs=>[.row (vQ s.c) (s.out.map HT) 2]) (akY PL E R) (λs=>s.n) ⟨E.length+2,0,0,0,0,[],0⟩ ⟨hF,Jn PL hs λe he=>⟨(YA e he).1,(YA e he).2.1⟩,λ_=>by rw[List.drop_zero];show E.length+_<=E.length+2;split<;>omega,aqL _,by show -((0:Nat):Int)<=0/\(0:Int)<=((0:Nat):Int);omega,by show -((0:Nat):Int)<=0/\(0:Int)<=((0:Nat):Int);omega,m5⟩ (λ_ _=>aqL _)
  (fm_ ⟨rfl,rfl,rfl,rfl,rfl,rfl,rfl,t7⟩ [] rfl (iH E V7 _) ⟨dp _ _ _ _,t7⟩) ?_
 intro s Qy;have hz:=Qy.inv.zero;have hout:=Qy.out;have Rr:vQ (s.c+1)=vQ s.c+65536:=by unfold vQ;omega
 have Y9:(s.out.map HT).length=s.out.length:=aqC ..;by_cases PR:s.at_<1099511627776
 ·have hA:decide (s.at_<1099511627776)=true:=aqu PR
  unfold WT
  repeat' (first|rw[hA]|refine gw_ am tabS_ok ?_|refine gi_ (λhb=>?_) (λhb=>?_)|fail)
  refine cu (λr:Nat×Int×Int=>WT2 E (.c (.fn F Pj)) s r.1 r.2.1 r.2.2) (λ_=>[.row (vQ s.c) (s.out.map HT) 2]) (λr=>r.1<=E.length/\l9 s.at_ (E.drop s.i) s.na s.nb=l9 s.at_ (E.drop r.1) r.2.1 r.2.2/\(-(r.1:Int)<=r.2.1/\r.2.1<=r.1)/\(-(r.1:Int)<=r.2.2/\r.2.2<=r.1)) (λr=>E.length-r.1) (s.i,s.na,s.nb) ⟨Qy.ile,rfl,Qy.na,Qy.nb⟩ (λ_ _=>aqL _)
   (fm_ ⟨rfl,rfl,rfl,rfl,rfl,rfl,rfl,t7⟩ [] rfl (Fv E V7 _ _ _ _) ⟨dp _ _ _ _,t7⟩) ?_
  rintro⟨j,na,nb⟩ ⟨hj,Pl,hna,Tv⟩;dsimp only at hj Pl hna Tv;unfold WT2;dsimp only;by_cases O0:j<E.length
  ·obtain⟨e,he⟩:=gol_ O0
   have hG:decide ((j:Int)<(E.length:Int))=true:=aqu m0;have her:=YA e (aqw he);rw[drop_at he]at Pl;by_cases hq:e.1=s.at_
   ·have Tz:decide (e.1=s.at_)=true:=aqu hq
    rw[l9,if_pos hq]at Pl
    repeat' (first|rw[aqC]|rw[hG]|rw[Tz]|(refine bw rfl rfl rfl rfl rfl rfl rfl rfl (bu he) ?_ ?_;· exact⟨m0,rfl⟩)|refine gw_ am tabS_ok ?_|refine gi_ (λhb=>?_) (λhb=>?_)|fail)
    exact⟨(j+1,na+e.2.1,nb+e.2.2),⟨by show j+1<=_;omega,Pl,by show -((j+1:Nat):Int)<=na+e.2.1/\na+e.2.1<=((j+1:Nat):Int);omega,by show -((j+1:Nat):Int)<=nb+e.2.2/\nb+e.2.2<=((j+1:Nat):Int);omega⟩,by show E.length-(j+1)<E.length-j;omega,fm_ ⟨rfl,rfl,rfl,aU (show i64.wrap (na+e.2.1)=na+e.2.1 from aZ m0 m0),aU (show i64.wrap (nb+e.2.2)=nb+e.2.2 from aZ m0 m0),aU (show i64.wrap ((j:Int)+1)=((j+1:Nat):Int)from aZ m0 m0),rfl,t7⟩ [] rfl (Fv E V7 _ _ _ _) ⟨dp _ _ _ _,t7⟩⟩
   ·have Tz:decide (e.1=s.at_)=false:=aqt hq
    rw[aba hq,<- drop_at he]at Pl;have QH:lG (E.drop j)=e.1:=by rw[drop_at he];rfl
    have hnr:0<=e.1/\e.1<=1099511627776:=⟨her.1,her.2.1⟩;have Sz:=hk (decide (0<na)) (decide (0<nb));have QD:=λ{out:List ax} (c:Nat)=>Qy.next (out:=out) PR hj Pl hna Tv QH c
    cases Y_:PL (decide (0<na)) (decide (0<nb))with
    |false =>
     rw[Y_]at Sz QD
     repeat' (first|rw[aqC]|rw[hG]|rw[Tz]|(refine bw rfl rfl rfl rfl rfl rfl rfl rfl (bu he) ?_ ?_;· exact⟨m0,rfl⟩)|refine aN rfl rfl rfl rfl Sz rfl ?_|refine gw_ am tabS_ok ?_|refine gi_ (λhb=>?_) (λhb=>?_)|fail)
     have P8:=QD (out:=s.out) s.c (if_neg m5) m0;exact⟨_,P8.1,P8.2,fm_ ⟨rfl,rfl,rfl,rfl,rfl,rfl,rfl,t7⟩ [] rfl (iH E V7 _) ⟨dp _ _ _ _,t7⟩⟩
    |true =>
     rw[Y_]at Sz QD;obtain ho|⟨o0,p,ho⟩:=li s.out
     ·rw[ho]at Y9 QD ⊢
      repeat' (first|(refine b9 rfl rfl rfl rfl rfl (ee am (k:=2) (by_:=16) (xs:=[HT ⟨s.at_,e.1⟩]) rfl rfl rfl rfl ⟨rfl,_,rfl,by intro e he;simp at he;subst he;rfl⟩ rfl (by unfold vQ;omega) rfl rfl rfl m9 rfl (by simp only[List.length_singleton,aqV];omega) (by simp only[List.length_singleton,aqV];omega)) ?_)|rw[aqC]|rw[hG]|rw[Tz]|(refine bw rfl rfl rfl rfl rfl rfl rfl rfl (bu he) ?_ ?_;· exact⟨m0,rfl⟩)|refine aN rfl rfl rfl rfl Sz rfl ?_|refine gw_ am tabS_ok ?_|refine gi_ (λhb=>?_) (λhb=>?_)|fail)
      have P8:=QD (out:=[⟨s.at_,e.1⟩]) (s.c+1) (JB s.at_ e.1) m5;exact⟨_,P8.1,P8.2,fm_ ⟨rfl,rfl,(by show _=some (AV.one (.sl 0 (vQ (s.c+1)) 0 1));rw[Rr];rfl),rfl,rfl,rfl,rfl,t7⟩ [] (by show _=[Ob.row (vQ (s.c+1)) _ 2];rw[Rr];rfl) (iH E V7 _) ⟨dp _ _ _ _,t7⟩⟩
     ·have hlen:s.out.length=o0.length+1:=by rw[ho];simp
      have Rf:=xa o0 p s.at_ e.1;have Tu:((o0++[p]).map HT)[0+(o0.length:Int).toNat]?=some (HT p):=by rw[aq8,Int.toNat_natCast,aqD,aqx m5];simp
      have SQ:i64.wrap (((o0.length+1:Nat):Int)-1)=(o0.length:Int):=aZ m0 m0;have UV:decide ((0:Int)<((o0.length+1:Nat):Int))=true:=aqu m0;rw[hlen,ho]at Y9 ⊢;rw[ho]at QD;by_cases Xc:p.hi=s.at_
      ·have Um:decide (p.hi=s.at_)=true:=aqu Xc
       rw[if_pos Xc]at Rf
       repeat' (first|(refine mf rfl rfl rfl rfl rfl rfl rfl (e:=HT p) (by exact Tu) rfl ?_)|(refine oK rfl rfl rfl rfl rfl rfl (e:=HT p) (by exact Tu) ⟨aqA rfl,rfl⟩ rfl ?_)|rw[SQ]|rw[UV]|rw[Um]|rw[aqC]|rw[hG]|rw[Tz]|(refine bw rfl rfl rfl rfl rfl rfl rfl rfl (bu he) ?_ ?_;· exact⟨m0,rfl⟩)|refine aN rfl rfl rfl rfl Sz rfl ?_|refine gw_ am tabS_ok ?_|refine gi_ (λhb=>?_) (λhb=>?_)|fail)
       have P8:=QD s.c Rf m5;exact⟨_,P8.1,P8.2,fm_ ⟨rfl,rfl,(by show _=some (AV.one (.sl 0 (vQ s.c) 0 (o0++[_]).length));rw[aqy];rfl),rfl,rfl,rfl,rfl,t7⟩ [] (by rw[Jf o0 p e.1 _ m5];rfl) (iH E V7 _) ⟨dp _ _ _ _,t7⟩⟩
      ·have Um:decide (p.hi=s.at_)=false:=aqt Xc
       rw[if_neg Xc]at Rf
       repeat' (first|(refine mf rfl rfl rfl rfl rfl rfl rfl (e:=HT p) (by exact Tu) rfl ?_)|(refine b9 rfl rfl rfl rfl rfl (ee am (k:=2) (by_:=16) (xs:=[HT ⟨s.at_,e.1⟩]) rfl rfl rfl rfl ⟨rfl,_,rfl,by intro e he;simp at he;subst he;rfl⟩ rfl (by unfold vQ;omega) rfl rfl rfl m9 Y9 (by simp only[List.length_singleton,aqV];omega) (by simp only[List.length_singleton,aqV];omega)) ?_)|rw[SQ]|rw[UV]|rw[Um]|rw[aqC]|rw[hG]|rw[Tz]|(refine bw rfl rfl rfl rfl rfl rfl rfl rfl (bu he) ?_ ?_;· exact⟨m0,rfl⟩)|refine aN rfl rfl rfl rfl Sz rfl ?_|refine gw_ am tabS_ok ?_|refine gi_ (λhb=>?_) (λhb=>?_)|fail)
       have P8:=QD (s.c+1) Rf m5;exact⟨_,P8.1,P8.2,fm_ ⟨rfl,rfl,(by show _=some (AV.one (.sl 0 (vQ (s.c+1)) 0 (o0++[p]++[_]).length));rw[Rr,aqy,aqy];rfl),rfl,rfl,rfl,rfl,t7⟩ [] (by show _=[Ob.row (vQ (s.c+1)) _ 2];rw[Rr,aqD (l₁:=o0++[p])];rfl) (iH E V7 _) ⟨dp _ _ _ _,t7⟩⟩
  ·have WH:j=E.length:=m0
   have hG:decide ((j:Int)<(E.length:Int))=false:=aqt m0;have Qz:E.drop j=[]:=by rw[WH,arn]
   have Pl:l9 s.at_ (E.drop s.i) s.na s.nb=(E.drop j,na,nb):=by rw[Pl,Qz];rfl
   have QH:lG (E.drop j)=1099511627776:=by rw[Qz];rfl
   have Sz:=hk (decide (0<na)) (decide (0<nb));have QD:=λ{out:List ax} (c:Nat)=>Qy.next (out:=out) PR hj Pl hna Tv QH c
   cases Y_:PL (decide (0<na)) (decide (0<nb))with
   |false =>
    rw[Y_]at Sz QD
    repeat' (first|rw[aqC]|rw[hG]|refine aN rfl rfl rfl rfl Sz rfl ?_|refine gw_ am tabS_ok ?_|refine gi_ (λhb=>?_) (λhb=>?_)|fail)
    have P8:=QD (out:=s.out) s.c (if_neg m5) m0;exact⟨_,P8.1,P8.2,fm_ ⟨rfl,rfl,rfl,rfl,rfl,rfl,rfl,t7⟩ [] rfl (iH E V7 _) ⟨dp _ _ _ _,t7⟩⟩
   |true =>
    rw[Y_]at Sz QD;obtain ho|⟨o0,p,ho⟩:=li s.out
    ·rw[ho]at Y9 QD ⊢
     repeat' (first|(refine b9 rfl rfl rfl rfl rfl (ee am (k:=2) (by_:=16) (xs:=[HT ⟨s.at_,1099511627776⟩]) rfl rfl rfl rfl ⟨rfl,_,rfl,by intro e he;simp at he;subst he;rfl⟩ rfl (by unfold vQ;omega) rfl rfl rfl m9 rfl (by simp only[List.length_singleton,aqV];omega) (by simp only[List.length_singleton,aqV];omega)) ?_)|rw[aqC]|rw[hG]|refine aN rfl rfl rfl rfl Sz rfl ?_|refine gw_ am tabS_ok ?_|refine gi_ (λhb=>?_) (λhb=>?_)|fail)
     have P8:=QD (out:=[⟨s.at_,1099511627776⟩]) (s.c+1) (JB s.at_ 1099511627776) m5;exact⟨_,P8.1,P8.2,fm_ ⟨rfl,rfl,(by show _=some (AV.one (.sl 0 (vQ (s.c+1)) 0 1));rw[Rr];rfl),rfl,rfl,rfl,rfl,t7⟩ [] (by show _=[Ob.row (vQ (s.c+1)) _ 2];rw[Rr];rfl) (iH E V7 _) ⟨dp _ _ _ _,t7⟩⟩
    ·have hlen:s.out.length=o0.length+1:=by rw[ho];simp
     have Rf:=xa o0 p s.at_ 1099511627776;have Tu:((o0++[p]).map HT)[0+(o0.length:Int).toNat]?=some (HT p):=by rw[aq8,Int.toNat_natCast,aqD,aqx m5];simp
     have SQ:i64.wrap (((o0.length+1:Nat):Int)-1)=(o0.length:Int):=aZ m0 m0;have UV:decide ((0:Int)<((o0.length+1:Nat):Int))=true:=aqu m0;rw[hlen,ho]at Y9 ⊢;rw[ho]at QD;by_cases Xc:p.hi=s.at_
     ·have Um:decide (p.hi=s.at_)=true:=aqu Xc
      rw[if_pos Xc]at Rf
      repeat' (first|(refine mf rfl rfl rfl rfl rfl rfl rfl (e:=HT p) (by exact Tu) rfl ?_)|(refine oK rfl rfl rfl rfl rfl rfl (e:=HT p) (by exact Tu) ⟨aqA rfl,rfl⟩ rfl ?_)|rw[SQ]|rw[UV]|rw[Um]|rw[aqC]|rw[hG]|refine aN rfl rfl rfl rfl Sz rfl ?_|refine gw_ am tabS_ok ?_|refine gi_ (λhb=>?_) (λhb=>?_)|fail)
      have P8:=QD s.c Rf m5;exact⟨_,P8.1,P8.2,fm_ ⟨rfl,rfl,(by show _=some (AV.one (.sl 0 (vQ s.c) 0 (o0++[_]).length));rw[aqy];rfl),rfl,rfl,rfl,rfl,t7⟩ [] (by rw[Jf o0 p 1099511627776 _ m5];rfl) (iH E V7 _) ⟨dp _ _ _ _,t7⟩⟩
     ·have Um:decide (p.hi=s.at_)=false:=aqt Xc
      rw[if_neg Xc]at Rf
      repeat' (first|(refine mf rfl rfl rfl rfl rfl rfl rfl (e:=HT p) (by exact Tu) rfl ?_)|(refine b9 rfl rfl rfl rfl rfl (ee am (k:=2) (by_:=16) (xs:=[HT ⟨s.at_,1099511627776⟩]) rfl rfl rfl rfl ⟨rfl,_,rfl,by intro e he;simp at he;subst he;rfl⟩ rfl (by unfold vQ;omega) rfl rfl rfl m9 Y9 (by simp only[List.length_singleton,aqV];omega) (by simp only[List.length_singleton,aqV];omega)) ?_)|rw[SQ]|rw[UV]|rw[Um]|rw[aqC]|rw[hG]|refine aN rfl rfl rfl rfl Sz rfl ?_|refine gw_ am tabS_ok ?_|refine gi_ (λhb=>?_) (λhb=>?_)|fail)
      have P8:=QD (s.c+1) Rf m5;exact⟨_,P8.1,P8.2,fm_ ⟨rfl,rfl,(by show _=some (AV.one (.sl 0 (vQ (s.c+1)) 0 (o0++[p]++[_]).length));rw[Rr,aqy,aqy];rfl),rfl,rfl,rfl,rfl,t7⟩ [] (by show _=[Ob.row (vQ (s.c+1)) _ 2];rw[Rr,aqD (l₁:=o0++[p])];rfl) (iH E V7 _) ⟨dp _ _ _ _,t7⟩⟩
 ·have hA:decide (s.at_<1099511627776)=false:=aqt PR
  have Vk:s.out=R:=by
   have:=Qy.fin
   cases hn:s.n with
   |zero=>rw[hn]at this;exact this
   |succ n=>rw[hn,iq,if_neg PR]at this;exact this
  unfold WT;refine iL 0 8 (cs:=s.out.map aP) rfl (afA _) rfl m5 ?_
  repeat' (first|rw[hA]|refine gw_ am tabS_ok ?_|refine gi_ (λhb=>?_) (λhb=>?_)|fail)
  rw[Vk];refine⟨.inr rfl,?_⟩
  first|exact⟨t7,rfl⟩|exact⟨⟨t7,t7⟩,rfl⟩|(refine⟨?_,rfl⟩;repeat' (first|exact t7|rfl|apply And.intro))
def qM (n:Int):List Int->List Int
 |[]=>[n]
 |x::l=>if x<n then x::qM n l else if n<x then n::x::l else x::l
def Be:List ax->List Int->List Int
 |[],out=>out
 |p::l,out=>Be l (bif aw p then qM p.hi (qM p.lo out)else out)
theorem vB (n:Int):∀ (l:List Int) (x:Int),x∈qM n l↔x=n\/x∈l
 |[],x=>by simp[qM]
 |y::l,x=>by
  rw[qM];by_cases h1:y<n
  ·rw[if_pos h1,aqH,vB n l x,aqH]
   constructor
   ·rintro(h|h|h)
    ·exact .inr (.inl h)
    ·exact .inl h
    ·exact .inr (.inr h)
   ·rintro(h|h|h)
    ·exact .inr (.inl h)
    ·exact .inl h
    ·exact .inr (.inr h)
  ·rw[if_neg h1]
   by_cases h2:n<y
   ·rw[if_pos h2,aqH]
   ·rw[if_neg h2]
    have:n=y:=m0
    subst this;constructor
    ·exact .inr
    ·rintro(h|h)
     ·subst h;exact arc ..
     ·exact h
theorem DG (n:Int):∀ {l:List Int},l.Pairwise (· < ·)->(qM n l).Pairwise (· < ·)
 |[],_=>aro.2 ⟨λx hx=>(by cases hx),List.Pairwise.nil⟩
 |y::l,h=>by
  have h':=aro.1 h;rw[qM];by_cases h1:y<n
  ·rw[if_pos h1,aro]
   refine⟨λx hx=>?_,DG n h'.2⟩;rcases(vB n l x).1 hx with rfl|hx
   ·exact h1
   ·exact h'.1 x hx
  ·rw[if_neg h1]
   by_cases h2:n<y
   ·rw[if_pos h2,aro]
    refine⟨λx hx=>?_,h⟩;obtain rfl|hx:=aqH.1 hx
    ·exact h2
    ·have:=h'.1 x hx;omega
   ·rw[if_neg h2];exact h
theorem Ds:∀ (l:List ax) {out:List Int},out.Pairwise (· < ·)->(Be l out).Pairwise (· < ·)
 |[],_,h=>h
 |p::l,out,h=>by
  rw[Be];refine Ds l ?_
  cases aw p with
  |false=>exact h
  |true=>exact DG _ (DG _ h)
theorem AL:∀ (l:List ax) (out:List Int) (x:Int),x∈Be l out↔x∈out \/ ∃ p∈l,aw p=true/\(x=p.lo\/x=p.hi)
 |[],out,x=>by simp[Be]
 |p::l,out,x=>by
  rw[Be,AL l]
  cases hp:aw p with
  |false =>
   rw[aqr];constructor
   ·rintro(h|⟨q,hq,h⟩)
    ·exact .inl h
    ·exact .inr ⟨q,aqO _ hq,h⟩
   ·rintro(h|⟨q,hq,h⟩)
    ·exact .inl h
    ·obtain rfl|hq:=aqH.1 hq
     ·rw[hp]at h;exact absurd h.1 m5
     ·exact .inr ⟨q,hq,h⟩
  |true =>
   rw[aqs,vB,vB];constructor
   ·rintro((h|h|h)|⟨q,hq,h⟩)
    ·exact .inr ⟨p,arc .., hp,.inr h⟩
    ·exact .inr ⟨p,arc .., hp,.inl h⟩
    ·exact .inl h
    ·exact .inr ⟨q,aqO _ hq,h⟩
   ·rintro(h|⟨q,hq,h0,h⟩)
    ·exact .inl (.inr (.inr h))
    ·obtain rfl|hq:=aqH.1 hq
     ·obtain h|h:=h
      ·exact .inl (.inr (.inl h))
      ·exact .inl (.inl h)
     ·exact .inr ⟨q,hq,h0,h⟩
def ii (w:Bool->Bool->Bool)(a b:List ax):List Int->List ax->List ax
 |[],out=>out
 |[_],out=>out
 |x::y::ps,out=>ii w a b (y::ps) (if w (eI a x) (eI b x)then rr out x y else out)
def Calm (l:List ax)(x y:Int):Prop :=∀ p∈l,aw p=true->(p.lo<=x\/y<=p.lo)/\(p.hi<=x\/y<=p.hi)
theorem Calm.eq {l:List ax}{x y t:Int}(h:Calm l x y)(h1:x<=t)(h2:t<y):eI l t=eI l x:=by
 rw[Bool.eq_iff_iff,cX,cX];constructor
 ·rintro⟨p,hp,hv,a,b⟩
  have:=h p hp hv;exact⟨p,hp,hv,m0,m0⟩
 ·rintro⟨p,hp,hv,a,b⟩
  have:=h p hp hv;exact⟨p,hp,hv,m0,m0⟩
theorem KZ (w:Bool->Bool->Bool)(a b:List ax):∀ (ps:List Int) (x:Int) (out:List ax),(x::ps).Pairwise (· < ·)->(∀ y∈x::ps,0<=y/\y<=1099511627776)->1099511627776∈x::ps ->
  (∀ p∈a,aw p=true->(p.lo<=x\/p.lo∈ps)/\(p.hi<=x\/p.hi∈ps))->(∀ p∈b,aw p=true->(p.lo<=x\/p.lo∈ps)/\(p.hi<=x\/p.hi∈ps)) ->
  b8 out->(∀ p∈out,p.hi<=x)->(∀ t,eI out t=((decide (0<=t)&&decide (t<x))&&w (eI a t) (eI b t))) ->
  b8 (ii w a b (x::ps) out) /\ ∀ t,eI (ii w a b (x::ps) out) t=((decide (0<=t)&&decide (t<1099511627776))&&w (eI a t) (eI b t))
 |[],x,out,_,_,hf,_,_,h1,_,h3=>by
  have:x=1099511627776:=(aq6.1 hf).symm;subst this;exact⟨h1,h3⟩
 |y::ps,x,out,hs,hr,hf,ha,hb,h1,h2,h3=>by
  have Y8:=aro.1 hs;have Ye:=aro.1 Y8.2;have SC:=Y8.1 y (arc ..);have hx:=hr x (arc ..);have hy:=hr y (aqO _ (arc ..));have XM:∀ l:List ax,(∀ p∈l,aw p=true->(p.lo<=x\/p.lo∈y::ps)/\(p.hi<=x\/p.hi∈y::ps))->Calm l x y /\ ∀ p∈l,aw p=true->(p.lo<=y\/p.lo∈ps)/\(p.hi<=y\/p.hi∈ps):=λl hl=>by
   have key:∀ z:Int,(z<=x\/z∈y::ps)->(z<=x\/y<=z)/\(z<=y\/z∈ps):=λz hz=>by
    obtain hz|hz:=hz
    ·exact⟨.inl hz,.inl m0⟩
    ·obtain rfl|hz:=aqH.1 hz
     ·exact⟨.inr (Int.le_refl _),.inl (Int.le_refl _)⟩
     ·exact⟨.inr (by have:=Ye.1 z hz;omega),.inr hz⟩
   exact⟨λp hp hv=>⟨(key _ (hl p hp hv).1).1,(key _ (hl p hp hv).2).1⟩,λp hp hv=>⟨(key _ (hl p hp hv).1).2,(key _ (hl p hp hv).2).2⟩⟩
  obtain⟨ca,ca'⟩:=XM a ha;obtain⟨cb,cb'⟩:=XM b hb;have hf':1099511627776∈y::ps:=by
   obtain h|h:=aqH.1 hf
   ·omega
   ·exact h
  rw[ii];have hw:∀ t,x<=t->t<y->w (eI a t) (eI b t)=w (eI a x) (eI b x):=λt e1 e2=>by rw[ca.eq e1 e2,cb.eq e1 e2]
  refine KZ w a b ps y _ Y8.2 (λz hz=>hr z (aqO _ hz)) hf' ca' cb' ?_ ?_ ?_
  ·split
   ·exact(jJ h1 h2 hx.1 SC hy.2).1
   ·exact h1
  ·split
   ·exact(jJ h1 h2 hx.1 SC hy.2).2.1
   ·exact λp hp=>by have:=h2 p hp;omega
  ·intro t
   by_cases O0:t<x
   ·have e2:eI (if w (eI a x) (eI b x)then rr out x y else out) t=eI out t:=by
     split
     ·rw[(jJ h1 h2 hx.1 SC hy.2).2.2,aqt (show ¬ x<=t by omega),Bool.false_and,Bool.or_false]
     ·rfl
    rw[e2,h3 t,aqu O0,aqu (show t<y by omega)]
   ·have e0:eI out t=false:=by rw[h3 t,aqt O0,Bool.and_false,Bool.false_and]
    by_cases hty:t<y
    ·rw[hw t m0 hty,aqu (show 0<=t by omega),aqu hty,aqY,aqY]
     cases hk:w (eI a x) (eI b x)with
     |true=>rw[if_pos rfl,(jJ h1 h2 hx.1 SC hy.2).2.2,e0,aqu (show x<=t by omega),aqu hty];rfl
     |false=>rw[if_neg m5,e0]
    ·rw[aqt hty,Bool.and_false,Bool.false_and]
     split
     ·rw[(jJ h1 h2 hx.1 SC hy.2).2.2,e0,aqt hty,Bool.and_false];rfl
     ·exact e0
def kN (a b:List ax):List Int:=Be (⟨0,1099511627776⟩::(a++b)) []
theorem rc (w:Bool->Bool->Bool)(a b:List ax):b8 (ii w a b (kN a b) []) /\ ∀ t,eI (ii w a b (kN a b) []) t=((decide (0<=t)&&decide (t<1099511627776))&&w (eI a t) (eI b t)):=by
 have h0:aw ⟨0,1099511627776⟩=true:=by decide
 have hm:∀ x,x∈kN a b ↔ ∃ p∈(⟨0,1099511627776⟩::(a++b):List ax),aw p=true/\(x=p.lo\/x=p.hi):=λx=>by
  unfold kN;rw[AL];simp
 have TV:(kN a b).Pairwise (· < ·):=Ds _ List.Pairwise.nil;have hr:∀ y∈kN a b,0<=y/\y<=1099511627776:=λy hy=>by
  obtain⟨p,_,hv,h⟩:=(hm y).1 hy;have:=gE hv;omega
 have hz:(0:Int)∈kN a b:=(hm 0).2 ⟨_,arc .., h0,.inl rfl⟩;have hF:(1099511627776:Int)∈kN a b:=(hm _).2 ⟨_,arc .., h0,.inr rfl⟩;have P4:∀ p∈a++b,aw p=true->p.lo∈kN a b/\p.hi∈kN a b:=λp hp hv=>⟨(hm _).2 ⟨p,aqO _ hp,hv,.inl rfl⟩,(hm _).2 ⟨p,aqO _ hp,hv,.inr rfl⟩⟩
 generalize kN a b=P at TV hr hz hF P4
 cases P with
 |nil=>cases hz
 |cons x ps =>
  have Zj:x=0:=by
   obtain h|h:=aqH.1 hz
   ·exact h.symm
   ·have:=(aro.1 TV).1 0 h
    have:=hr x (arc ..);omega
  subst Zj;have S7:∀ z∈(0:Int)::ps,z<=0\/z∈ps:=λz hz=>by
   obtain rfl|h:=aqH.1 hz
   ·exact .inl (Int.le_refl _)
   ·exact .inr h
  refine KZ w a b ps 0 [] TV hr hF (λp hp hv=>?_) (λp hp hv=>?_) trivial (λp hp=>by cases hp) λt=>?_
  ·have:=P4 p (List.mem_append_left _ hp) hv
   exact⟨S7 _ this.1,S7 _ this.2⟩
  ·have:=P4 p (List.mem_append_right _ hp) hv
   exact⟨S7 _ this.1,S7 _ this.2⟩
  ·have:(decide (0<=t)&&decide (t<0))=false:=by
    by_cases h:t<0
    ·rw[aqt (show ¬ 0<=t by omega),Bool.false_and]
    ·rw[aqt h,Bool.and_false]
   rw[this,Bool.false_and,js]
theorem yE (PL:Bool->Bool->Bool){a b c d:List ax}{w:Bool->Bool->Bool}{E:List E3}(hp:E.Perm (uA a b))(hs:mh E){n:Nat}(hn:E.length+2<=n)
  (h:∀ t,0<=t->t<1099511627776->PL (eI a t) (eI b t)=w (eI c t) (eI d t)):iq PL n E 0 0 0 []=ii w c d (kN c d) []:=by
 obtain⟨h1,h2⟩:=y6 PL hp hs hn;obtain⟨h3,h4⟩:=rc w c d;refine lA h1 h3 λt=>?_
 rw[h2,h4];by_cases q1:0<=t
 ·by_cases q2:t<1099511627776
  ·rw[h t q1 q2]
  ·rw[aqt q2,Bool.and_false,Bool.false_and,Bool.false_and]
 ·rw[aqt q1,Bool.false_and,Bool.false_and,Bool.false_and]
def iU {α:Type}(q:α->Bool):List α->Nat->List Int
 |[],_=>[]
 |y::b,k=>(bif q y then [(k:Int)]else [])++iU q b (k+1)
def mA {α:Type}(q:α->Bool)(i:Int)(b:List α)(k:Nat):List cD:=(iU q b k).map λj=>⟨i,j⟩
def eP {α:Type}(q:α->α->Bool)(b:List α):List α->Nat->List cD
 |[],_=>[]
 |x::a,i=>mA (q x) (i:Int) b 0++eP q b a (i+1)
theorem DJ {α:Type}(q:α->Bool):∀ (b:List α) (k:Nat) (j:Int),j∈iU q b k->(k:Int)<=j/\j<((k+b.length:Nat):Int)
 |[],_,_,h=>by cases h
 |y::b,k,j,h=>by
  rw[iU,aqS]at h;obtain h|h:=h
  ·cases hq:q y with
   |false=>rw[hq]at h;cases h
   |true=>rw[hq,aqs,aq6]at h;subst h;simp;omega
  ·have:=DJ q b (k+1) j h
   simp only[aqM];omega
theorem C9 {α:Type}(q:α->Bool):∀ (b:List α) (k:Nat),(iU q b k).Pairwise (· < ·)
 |[],_=>List.Pairwise.nil
 |y::b,k=>by
  rw[iU]
  cases q y with
  |false=>exact C9 q b (k+1)
  |true =>
   rw[aqs,List.singleton_append,aro];exact⟨λj hj=>by have:=(DJ q b (k+1) j hj).1;omega,C9 q b (k+1)⟩
theorem A_ {α:Type}(q:α->Bool):∀ (b:List α) (k:Nat),(iU q b k).length=b.countP q
 |[],_=>rfl
 |y::b,k=>by
  rw[iU,aqy,A_ q b (k+1),List.countP_cons]
  cases q y<;>simp<;>omega
theorem wZ {α:Type}(q:α->Bool)(b:List α)(k:Nat):(iU q b k).length<=b.length:=by rw[A_];exact List.countP_le_length
theorem acl {α:Type}(q:α->Bool)(b0:List α):∀ (b pre:List α),b0=pre++b ->∀ j∈iU q b pre.length,∃ y,b0[j.toNat]?=some y/\q y=true/\0<=j
 |[],_,_,j,h=>by cases h
 |y::b,pre,e,j,h=>by
  rw[iU,aqS]at h;obtain h|h:=h
  ·cases hq:q y with
   |false=>rw[hq]at h;cases h
   |true =>
    rw[hq,aqs,aq6]at h;subst h;refine⟨y,?_,hq,m0⟩;rw[e,Int.toNat_natCast,aqx (aqG _),Nat.sub_self];rfl
  ·have:=acl q b0 b (pre++[y]) (by rw[e];simp) j (by rw[aqy];exact h)
   exact this
theorem wt {α:Type}(q r:α->Bool)(p:Int->Bool)(b0:List α):∀ (b pre:List α),b0=pre++b->(∀ (j:Nat) y,b0[j]?=some y->p (j:Int)=r y)->(iU q b pre.length).filter p=iU (λy=>q y&&r y) b pre.length
 |[],_,_,_=>rfl
 |y::b,pre,e,hp=>by
  rw[iU,iU,List.filter_append];have h1:=wt q r p b0 b (pre++[y]) (by rw[e];simp) hp;rw[aqy,List.length_singleton]at h1;rw[h1];congr 1;have hy:b0[pre.length]?=some y:=by rw[e,aqx (aqG _),Nat.sub_self];rfl
  cases hq:q y with
  |false=>simp
  |true=>rw[aqs,List.filter_cons,List.filter_nil,hp _ y hy,aqY];cases r y<;>rfl
theorem IJ:∀ {l m:List Int},l.Pairwise (λx y =>¬ y<x)->m.Pairwise (· < ·)->l.Perm m->l=m
 |[],m,_,_,h=>(List.nil_perm.1 h).symm▸rfl
 |x::l,[],_,_,h=>absurd h.length_eq m5
 |x::l,y::m,hl,hm,h=>by
  rw[aro]at hl hm;have SC:x=y:=by
   rcases aqH.1 (h.mem_iff.1 (arc ..))with e|e
   ·exact e
   ·rcases aqH.1 (h.mem_iff.2 (arc ..))with e'|e'
    ·exact e'.symm
    ·exact absurd (hm.1 x e) (hl.1 y e')
  subst SC;rw[IJ hl.2 hm.2 (List.Perm.cons_inv h)]
theorem tH (lo:Int->Int)(t:Int):∀ {l:List Int},l.Pairwise (λx y =>¬ lo y<lo x)->l.takeWhile (λk=>decide (lo k<t))=l.filter λk=>decide (lo k<t)
 |[],_=>rfl
 |x::l,h=>by
  rw[aro]at h;rw[List.takeWhile_cons,List.filter_cons];by_cases hx:lo x<t
  ·rw[if_pos (aqu hx),if_pos (aqu hx),tH lo t h.2]
  ·rw[if_neg (by simp[hx]),if_neg (by simp[hx])]
   symm;rw[List.filter_eq_nil_iff];intro y hy;have:=h.1 y hy;simp;omega
def jY (p q:ax):Bool:=(aw p&&aw q)&&(decide (p.lo<q.hi)&&decide (q.lo<p.hi))
def ga (b:List ap)(k:Int):ax:=match b[k.toNat]? with
 |some y=>y.valid
 |none=>⟨0,0⟩
def aeG (b:List ap)(ord:List Int)(f:ax):List Int:=(ord.takeWhile λk=>decide ((ga b k).lo<f.hi)).filter λk=>decide (f.lo<(ga b k).hi)
theorem N9 {b:List ap}{ord:List Int}(hp:ord.Perm (iU (λy=>aw y.valid) b 0))(hs:ord.Pairwise λx y =>¬ (ga b y).lo<(ga b x).lo){f:ax}(hf:aw f=true) :
  (aeG b ord f).Perm (iU (λy=>jY f y.valid) b 0):=by
 unfold aeG;rw[tH (λk=>(ga b k).lo) f.hi hs,List.filter_filter];have h1:=wt (λy:ap=>aw y.valid) (λy=>decide (f.lo<y.valid.hi)&&decide (y.valid.lo<f.hi)) (λk=>decide (f.lo<(ga b k).hi)&&decide ((ga b k).lo<f.hi)) b b [] rfl
  (λj y hy=>by unfold ga;rw[Int.toNat_natCast,hy])
 refine(hp.filter _).trans ?_;rw[aqV]at h1;rw[h1];have:(λy:ap=>aw y.valid&&(decide (f.lo<y.valid.hi)&&decide (y.valid.lo<f.hi)))=λy=>jY f y.valid:=by
  funext y;unfold jY;rw[hf,aqY]
 rw[this]
theorem Ot {i:Int}{ks m:List Int}{r:List cD}(h1:r.Perm (ks.map λj=>(⟨i,j⟩:cD)))(h2:r.Pairwise λx y =>¬ y.b<x.b)(h3:ks.Perm m)(h4:m.Pairwise (· < ·)):r=m.map λj=>⟨i,j⟩:=by
 have e1:r=(r.map cD.b).map λj=>(⟨i,j⟩:cD):=by
  rw[List.map_map];conv=>lhs;rw[<- List.map_id r]
  refine List.map_congr_left λx hx=>?_
  obtain⟨j,_,rfl⟩:=aq0.1 (h1.mem_iff.1 hx);rfl
 have e2:r.map cD.b=m:=by
  refine IJ ?_ h4 ?_
  ·rw[List.pairwise_map];exact h2
  ·have:=h1.map cD.b
   rw[List.map_map]at this;exact(this.trans (by rw[show(cD.b∘λj:Int=>(⟨i,j⟩:cD))=id from rfl,List.map_id])).trans h3
 rw[e1,e2]
theorem sum_nil {α:Type}:∀ b:List α,(b.map λ_=>0).sum=0
 |[]=>rfl
 |y::b=>by rw[aqB,List.sum_cons,sum_nil b]
def o8 (p q:ax):ax:=⟨max p.lo q.lo,min p.hi q.hi⟩
def dm (c:ap->ap->Bool)(b:List ap)(x:ap):List ax:=b.flatMap λy=>bif jY x.valid y.valid&&c x y then [o8 x.valid y.valid]else []
def ES (c:ap->ap->Bool)(b:List ap)(x:ap):List ax:=b.flatMap λy=>bif c x y then [y.valid]else []
theorem th (p q:ax):jY p q=true↔aw p=true/\aw q=true/\p.lo<q.hi/\q.lo<p.hi:=by
 unfold jY;generalize aw p=u;generalize aw q=v;rw[aqI,aqI,aqI,decide_eq_true_eq,decide_eq_true_eq];constructor
 ·rintro⟨⟨a,b⟩,c,d⟩;exact⟨a,b,c,d⟩
 ·rintro⟨a,b,c,d⟩;exact⟨⟨a,b⟩,c,d⟩
theorem H8 {p q:ax}(h:jY p q=true):aw (o8 p q)=true:=by
 obtain⟨h1,h2,h3,h4⟩:=(th p q).1 h;have:=gE h1;have:=gE h2;have a1:0<=max p.lo q.lo:=m0
 have a2:max p.lo q.lo<min p.hi q.hi:=m0
 have a3:min p.hi q.hi<=1099511627776:=m0
 show(decide (0<=max p.lo q.lo)&&decide (max p.lo q.lo<min p.hi q.hi)&&decide (min p.hi q.hi<=1099511627776))=true;rw[aqu a1,aqu a2,aqu a3];rfl
theorem ab2 {c:ap->ap->Bool}{b:List ap}{x:ap}{p:ax}:p∈dm c b x ↔ ∃ y∈b,jY x.valid y.valid=true/\c x y=true/\p=o8 x.valid y.valid:=by
 unfold dm;rw[List.mem_flatMap];constructor
 ·rintro⟨y,hy,h⟩
  cases h1:jY x.valid y.valid&&c x y with
  |false=>rw[h1]at h;cases h
  |true =>
   rw[h1,aqs,aq6]at h;rw[aqI]at h1;exact⟨y,hy,h1.1,h1.2,h⟩
 ·rintro⟨y,hy,h1,h2,rfl⟩
  exact⟨y,hy,by rw[h1,h2];exact aq6.2 rfl⟩
theorem abV {c:ap->ap->Bool}{b:List ap}{x:ap}{p:ax}:p∈ES c b x ↔ ∃ y∈b,c x y=true/\p=y.valid:=by
 unfold ES;rw[List.mem_flatMap];constructor
 ·rintro⟨y,hy,h⟩
  cases h1:c x y with
  |false=>rw[h1]at h;cases h
  |true =>
   rw[h1,aqs,aq6]at h;exact⟨y,hy,h1,h⟩
 ·rintro⟨y,hy,h2,rfl⟩
  exact⟨y,hy,by rw[h2];exact aq6.2 rfl⟩
theorem wC {α β:Type}(g:α->List β)(h:∀ x,(g x).length<=1):∀ l:List α,(l.flatMap g).length<=l.length
 |[]=>aqG _
 |x::l=>by
  have h1:=h x;have h2:=wC g h l;rw[aq3,aqy,aqM];omega
theorem Dh (c:ap->ap->Bool)(b:List ap)(x:ap):(dm c b x).length<=b.length:=wC _ (λy=>by cases jY x.valid y.valid&&c x y<;>simp) b
theorem C_ {c:ap->ap->Bool}{b:List ap}{x:ap}(hx:aw x.valid=true)(t:Int):eI (dm c b x) t=(F7 x.valid t&&eI (ES c b x) t):=by
 rw[Bool.eq_iff_iff,aqI,cX,cX,fK];constructor
 ·rintro⟨p,hp,hv,h1,h2⟩
  obtain⟨y,hy,ho,hc,rfl⟩:=ab2.1 hp;obtain⟨q1,q2,q3,q4⟩:=(th _ _).1 ho;simp only[o8]at h1 h2;exact⟨m0,y.valid,abV.2 ⟨y,hy,hc,rfl⟩,q2,m0,m0⟩
 ·rintro⟨⟨h1,h2⟩,p,hp,hv,h3,h4⟩
  obtain⟨y,hy,hc,rfl⟩:=abV.1 hp;have ho:jY x.valid y.valid=true:=(th _ _).2 ⟨hx,hv,m0,m0⟩;refine⟨_,ab2.2 ⟨y,hy,ho,hc,rfl⟩,H8 ho,?_,?_⟩<;>simp only[o8]<;>omega
theorem wK {p:ax}(h:aw p=true)(t:Int):eI [p] t=F7 p t:=by rw[lU,js,h,aqY,Bool.or_false]
def hU (c:ap->ap->Bool)(b:List ap)(x:ap):List ax:=ii (λp q=>p && !q) [x.valid] (ES c b x) (kN [x.valid] (ES c b x)) []
def Hv (c:ap->ap->Bool)(b:List ap)(x:ap):List ax:=ii (λp q=>p&&q) [x.valid] (ES c b x) (kN [x.valid] (ES c b x)) []
theorem abr {c:ap->ap->Bool}{b:List ap}{x:ap}(hx:aw x.valid=true){E:List E3}(hp:E.Perm (uA [x.valid] (dm c b x)))(hs:mh E){n:Nat}(hn:E.length+2<=n) :
  iq (λp q=>p && !q) n E 0 0 0 []=hU c b x:=by
 refine yE (λp q=>p && !q) hp hs hn λt _ _=>?_
 rw[wK hx,C_ hx]
 cases F7 x.valid t<;>simp
theorem Lm {c:ap->ap->Bool}{b:List ap}{x:ap}(hx:aw x.valid=true):b8 (hU c b x) /\ ∀ t,eI (hU c b x) t=(F7 x.valid t && !eI (dm c b x) t):=by
 obtain⟨h1,h2⟩:=rc (λp q=>p && !q) [x.valid] (ES c b x);refine⟨h1,λt=>?_⟩;unfold hU;rw[h2,wK hx,C_ hx];have:=gE hx
 cases h:F7 x.valid t with
 |false=>simp
 |true =>
  rw[fK]at h;rw[aqu (show 0<=t by omega),aqu (show t<1099511627776 by omega)];simp
theorem vD {c:ap->ap->Bool}{b:List ap}{x:ap}(hx:aw x.valid=true):b8 (Hv c b x) /\ ∀ t,eI (Hv c b x) t=eI (dm c b x) t:=by
 obtain⟨h1,h2⟩:=rc (λp q=>p&&q) [x.valid] (ES c b x);refine⟨h1,λt=>?_⟩;unfold Hv;rw[h2,wK hx,C_ hx];have:=gE hx
 cases h:F7 x.valid t with
 |false=>simp
 |true =>
  rw[fK]at h;rw[aqu (show 0<=t by omega),aqu (show t<1099511627776 by omega)];simp
theorem acD:∀ {l m:List Int},l.Pairwise (· < ·)->(∀ x∈l,x∈m)->l.length<=m.length
 |[],m,_,_=>aqL _
 |x::l,m,h,hm=>by
  rw[aro]at h;have hx:=hm x (arc ..);have h1:=acD (l:=l) (m:=m.erase x) h.2 λy hy=>by
   have:=h.1 y hy;rw[List.mem_erase_of_ne m0];exact hm y (aqO _ hy)
  rw[List.length_erase_of_mem hx]at h1;have:0<m.length:=List.length_pos_of_mem hx;rw[aqM];omega
theorem AN:∀ {l:List ax},b8 l->(l.map ax.lo).Pairwise (· < ·)
 |[],_=>List.Pairwise.nil
 |p::l,h=>by
  rw[aqB,aro];refine⟨λy hy=>?_,AN h.2.2⟩;obtain⟨q,hq,rfl⟩:=aq0.1 hy;have:=h.2.1 q hq;have:=gE h.1;omega
theorem pq:∀ {l:List ax},b8 l ->∀ p∈l,eI l p.lo=true/\eI l (p.lo-1)=false
 |[],_,p,hp=>by cases hp
 |q::l,h,p,hp=>by
  have hv:=h.val p hp;have hl:=gE hv;refine⟨(cX _ _).2 ⟨p,hp,hv,m0,m0⟩,?_⟩;rw[Bool.eq_false_iff];intro ht;obtain⟨r,hr,hrv,h1,h2⟩:=(cX _ _).1 ht;obtain e|hp2:=aqH.1 hp
  ·subst e
   obtain e|Un:=aqH.1 hr
   ·subst e;omega
   ·have:=h.2.1 r Un;omega
  ·obtain e|Un:=aqH.1 hr
   ·subst e;have:=h.2.1 p hp2;omega
   ·have:=(pq h.2.2 p hp2).2
    rw[(cX _ _).2 ⟨r,Un,hrv,h1,h2⟩]at this
    cases this
theorem Br {c:ap->ap->Bool}{b:List ap}{x:ap}(hx:aw x.valid=true):(hU c b x).length<=b.length+1:=by
 obtain⟨h1,h2⟩:=Lm (c:=c) (b:=b) hx;have h3:=acD (m:=x.valid.lo::(dm c b x).map ax.hi) (AN h1) λy hy=>by
  obtain⟨p,hp,rfl⟩:=aq0.1 hy;obtain⟨q1,q2⟩:=pq h1 p hp;rw[h2,aqI,fK]at q1;by_cases he:p.lo=x.valid.lo
  ·rw[he];exact arc ..
  ·refine aqO _ ?_
   have S7:F7 x.valid (p.lo-1)=true:=(fK _ _).2 m0;rw[h2,S7,aqY,Bool.not_eq_false']at q2;obtain⟨r,hr,hrv,h5,h6⟩:=(cX _ _).1 q2;refine aq0.2 ⟨r,hr,?_⟩;rcases(show p.lo<r.hi\/r.hi<=p.lo by omega)with h7|h7
   ·have:eI (dm c b x) p.lo=true:=(cX _ _).2 ⟨r,hr,hrv,m0,h7⟩
    rw[this]at q1;exact absurd q1.2 m5
   ·omega
 rw[aqC,aqM,aqC]at h3;have:=Dh c b x;omega
theorem H5 {c:ap->ap->Bool}{b:List ap}{x:ap}(hx:aw x.valid=true):(Hv c b x).length<=b.length:=by
 obtain⟨h1,h2⟩:=vD (c:=c) (b:=b) hx;have h3:=acD (m:=(dm c b x).map ax.lo) (AN h1) λy hy=>by
  obtain⟨p,hp,rfl⟩:=aq0.1 hy;obtain⟨q1,q2⟩:=pq h1 p hp;rw[h2]at q1 q2;obtain⟨r,hr,hrv,h5,h6⟩:=(cX _ _).1 q1;refine aq0.2 ⟨r,hr,?_⟩;rcases(show r.lo<p.lo\/p.lo<=r.lo by omega)with h7|h7
  ·rw[(cX _ _).2 ⟨r,hr,hrv,m0,m0⟩]at q2
   cases q2
  ·omega
 rw[aqC,aqC]at h3;have:=Dh c b x;omega
def tF (l:List ap):AC := .lst (l.map aH)
theorem Ed {α:Type}(q:α->Bool)(y:α):∀ (b:List α) (k:Nat),iU q (b++[y]) k=iU q b k++(bif q y then [((k+b.length:Nat):Int)]else [])
 |[],k=>by simp[iU]
 |x::b,k=>by
  rw[List.cons_append,iU,iU,Ed q y b (k+1),aqR,aqM,show k+1+b.length=k+(b.length+1)by omega]
theorem kC (n v k:Nat)(l:List Int):(Ob.row v (l.map gI) k).below n:=by
 intro e he x hx;obtain⟨y,_,rfl⟩:=aq0.1 he;simp[gI]at hx;subst hx;trivial
theorem ul (n v k:Nat)(l:List cD):(Ob.row v (l.map gPr) k).below n:=by
 intro e he x hx;obtain⟨y,_,rfl⟩:=aq0.1 he;simp[gPr]at hx;rcases hx with rfl|rfl<;>trivial
theorem KJ (σ:List Nat)(v:Nat)(l:List Int):(Ob.row v (l.map gI) 1).ren σ=Ob.row v (l.map gI) 1:=by
 simp only[Ob.ren,List.map_map];rfl
theorem rfI {L:List Ob}{v:Nat}{l:List Int}{id:Nat}{x:AV}{xs:List AV}(h0:L[id]?=some (Ob.row v (l.map gI) 1))(hx:∀ y∈x::xs,y.below 1):ge [id] [Ob.row v (l.map gI) 1] (x::xs) L:=by
 refine⟨rfl,m5,λi y hy=>?_,a8 ⟨kC _ _ _ _,t7⟩,hx⟩
 match i,hy with
 |0,hy=>simp at hy;subst hy;rw[KJ];exact h0
 |i+1,hy=>simp at hy
theorem jI {L L':List Ob}{v:Nat}{l:List Int}{id:Nat}(h:L.set id (Ob.row v (l.map gI) 1)=L'):joinL [id] L [Ob.row v (l.map gI) 1]=L':=by
 subst h;simp[joinL,join,cZ,bY,eY,KJ]
def vI (n:Nat):Nat:=3+65536+65536*n
def vP (n:Nat):Nat:=63+65536+65536*n
theorem OR (l:List cD):d_ (l.map gPr)=some (l.map iF):=by
 have:=iK (l.map iF);rw[List.map_map]at this;exact this
def j_ (b:List ap)(f:ax)(o:List Int)(j:Nat):List Int:=(o.take j).filter λk=>decide (f.lo<(ga b k).hi)
theorem KO {b:List ap}{f:ax}{o:List Int}{j:Nat}{k:Int}(h:o[j]?=some k):j_ b f o (j+1)=j_ b f o j++(bif decide (f.lo<(ga b k).hi)then [k]else []):=by
 unfold j_;rw[bN h,List.filter_append]
 cases hd:decide (f.lo<(ga b k).hi)<;>simp[List.filter,hd]
theorem aaN (b:List ap)(f:ax)(o:List Int)(j:Nat):(j_ b f o j).length<=o.length:=by
 unfold j_;refine Nat.le_trans (List.length_filter_le _ _) ?_;rw[ari];exact Nat.min_le_right _ _
theorem akU (p:Int->Bool):∀ (o:List Int) (j:Nat),(∀ k∈o.take j,p k=true)->(∀ k,o[j]?=some k->p k=false)->o.takeWhile p=o.take j
 |[],j,_,_=>by simp
 |x::o,0,_,h=>by simp[List.takeWhile,h x rfl]
 |x::o,j+1,h1,h2=>by
  rw[List.take_succ_cons,List.takeWhile,h1 x m5];show x::_=_;rw[akU p o j (λk hk=>h1 k (by simp[hk])) (λk hk=>h2 k (by simpa using hk))]
theorem ad6 {b:List ap}{o:List Int}{x:ap}{i j:Nat}{d:List cD}(RA:o.Perm (iU (λy:ap=>aw y.valid) b 0))(Yb:o.Pairwise λx y =>¬ qo b y<qo b x)(hv:aw x.valid=true)
  (h1:∀ k∈o.take j,(ga b k).lo<x.valid.hi) (h2:∀ k,o[j]?=some k ->¬ (ga b k).lo<x.valid.hi) (hp:d.Perm ((j_ b x.valid o j).map λk=>(⟨i,k⟩:cD))) (hs:d.Pairwise λx y =>¬ y.b<x.b):d=mA (λy:ap=>jY x.valid y.valid) i b 0:=by
 have e:aeG b o x.valid=j_ b x.valid o j:=by
  unfold aeG j_;rw[akU (λk=>decide ((ga b k).lo<x.valid.hi)) o j (λk hk=>by simpa using h1 k hk) (λk hk=>by simpa using h2 k hk)]
 have PG:∀ k,qo b k=(ga b k).lo:=λk=>by unfold qo ga;cases b[k.toNat]?<;>rfl
 refine Ot hp hs (e▸N9 RA ?_ hv) (C9 _ _ _);refine Yb.imp ?_;intro x y h;rw[<- PG,<- PG];exact h
theorem JR (σ:List Nat)(v:Nat)(l:List cD):(Ob.row v (l.map gPr) 2).ren σ=Ob.row v (l.map gPr) 2:=by
 simp only[Ob.ren,List.map_map];rfl
theorem rfP {L:List Ob}{v:Nat}{l:List cD}{id:Nat}{x:AV}{xs:List AV}(h0:L[id]?=some (Ob.row v (l.map gPr) 2))(hx:∀ y∈x::xs,y.below 1):ge [id] [Ob.row v (l.map gPr) 2] (x::xs) L:=by
 refine⟨rfl,m5,λi y hy=>?_,a8 ⟨ul 1 _ _ _,t7⟩,hx⟩
 match i,hy with
 |0,hy=>simp at hy;subst hy;rw[JR];exact h0
 |i+1,hy=>simp at hy
theorem jP {L L':List Ob}{v:Nat}{l:List cD}{id:Nat}(h:L.set id (Ob.row v (l.map gPr) 2)=L'):joinL [id] L [Ob.row v (l.map gPr) 2]=L':=by
 subst h;simp[joinL,join,cZ,bY,eY,JR]
def IT (a b:List ap)(n p m i j:Nat):Tm:=[(3,.one (.c (.ref [tF b]))),(5,.one (.sl 1 (vI n) 0 n)),(8,.one (.sl 2 (vP m) 0 m)),(9,.one (.c (.int .i64 i))),(10,.one (.ptr 3 0)),(11,.one (.c (.int .i64 p))),(32,.one (.c (tF a))),(33,.one (.c (.int .i64 a.length))),(34,.one (.c (.int .i64 i))),(45,.one (.sl 1 (vI n) 0 n)),(46,.one (.c (.int .i64 n))),(47,.one (.c (.int .i64 j)))]
theorem CS (a b:List ap)(n p m i j:Nat):gQ 4 (IT a b n p m i j):=⟨t7,(by show 1<4;omega),(by show 2<4;omega),t7,(by show 3<4;omega),t7,t7,t7,t7,(by show 1<4;omega),t7,t7,t7⟩
theorem Bl (v w:Nat)(o:List Int)(p:List cD)(x:ap):n_ 4 [.dead,.row v (o.map gI) 1,.row w (p.map gPr) 2,.box ((aH x).map SV.c)]:=⟨t7,kC _ _ _ _,ul _ _ _ _,(by intro y hy;obtain⟨z,_,rfl⟩:=aq0.1 hy;trivial),t7⟩
def prK (a b:List ap)(i:Nat):List cD:=eP (λx y:ap=>jY x.valid y.valid) b (a.take i) 0
theorem Ez {α:Type}{q:α->Bool}(h:∀ y,q y=false):∀ (b:List α) (k:Nat),iU q b k=[]
 |[],_=>rfl
 |x::b,k=>by rw[iU,h,Ez h b];rfl
theorem FO {α:Type}(q:α->α->Bool)(b:List α)(x:α):∀ (a:List α) (k:Nat),eP q b (a++[x]) k=eP q b a k++mA (q x) ((k+a.length:Nat):Int) b 0
 |[],k=>by simp[eP]
 |y::a,k=>by
  rw[List.cons_append,eP,eP,FO q b x a (k+1),aqR,aqM,show k+1+a.length=k+(a.length+1)by omega]
theorem afF {a b:List ap}{i:Nat}{x:ap}(hx:a[i]?=some x):prK a b (i+1)=prK a b i++mA (λy:ap=>jY x.valid y.valid) i b 0:=by
 unfold prK;have hi:i<a.length:=by
  obtain h|h:=Nat.lt_or_ge i a.length
  ·exact h
  ·rw[ard h]at hx;cases hx
 rw[bN hx,FO,ari,aq8,Nat.min_eq_left m0]
theorem Cm {α:Type}(q:α->α->Bool)(b:List α):∀ (a:List α) (k:Nat),(eP q b a k).length<=a.length*b.length
 |[],_=>aqL _
 |x::a,k=>by
  rw[eP,aqy,aqM,Nat.succ_mul];have h1:=Cm q b a (k+1);have h2:(mA (q x) (k:Int) b 0).length<=b.length:=by unfold mA;rw[aqC];exact wZ _ _ _
  omega
theorem ain {a b:List ap}{i:Nat}(hi:i<a.length)(hb:b.length<=1000):(prK a b i).length<=i*1000:=by
 have:=Cm (λx y:ap=>jY x.valid y.valid) b (a.take i) 0;rw[ari,Nat.min_eq_left m0]at this;exact Nat.le_trans this (Nat.mul_le_mul_left _ hb)
def OT (a b:List ap)(n m i:Nat):Tm:=[(3,.one (.c (.ref [tF b]))),(5,.one (.sl 1 (vI n) 0 n)),(8,.one (.sl 2 (vP m) 0 m)),(32,.one (.c (tF a))),(33,.one (.c (.int .i64 a.length))),(34,.one (.c (.int .i64 i)))]
theorem ws (a b:List ap)(n m i k:Nat):gQ (k+3) (OT a b n m i):=⟨t7,(by show 1<k+3;omega),(by show 2<k+3;omega),t7,t7,t7,t7⟩
theorem vU (v w:Nat)(o:List Int)(p:List cD):n_ 3 [.dead,.row v (o.map gI) 1,.row w (p.map gPr) 2]:=⟨t7,kC _ _ _ _,ul _ _ _ _,t7⟩
def mC (b:List ap)(i:Nat):List Int:=iU (λy:ap=>aw y.valid) (b.take i) 0
theorem yR (a b:List ap)(ha:a.length<=1000)(hb:b.length<=1000):PTz 12 [.one (tF a),.one (tF b)] (.val (.one (.lst ((eP (λx y:ap=>jY x.valid y.valid) b a 0).map iF)))):=by
 have hB:=hb;refine pa_ am Tryz.func12 rfl rfl Tryz.ntmps12 m5 ?_;simp only[argT,PV.av,aqB,aqF]
 repeat' (first|refine gw_ am tabS_ok ?_|refine gi_ (λhb=>?_) (λhb=>?_)|fail)
 refine qT 5 (vI 0) 1 rfl (by unfold vI;omega) ?_;refine cu (λi:Nat=>[(0,.one (.c (tF a))),(3,.one (.ptr 0 0)),(5,.one (.sl 1 (vI (mC b i).length) 0 (mC b i).length)),(14,.one (.c (tF b))),(15,.one (.c (.int .i64 b.length))),(16,.one (.c (.int .i64 i)))])
  (λi=>[.box [.c (tF b)],.row (vI (mC b i).length) ((mC b i).map gI) 1]) (λi=>i<=b.length) (λi=>b.length-i) 0 m0 (λ_ _=>aqL _)
  (fm_ ⟨rfl,rfl,rfl,rfl,aU m5,rfl,t7⟩ [] rfl ⟨t7,(by show 0<2;omega),(by show 1<2;omega),t7,t7,t7,t7⟩ ⟨(by intro x hx;simp at hx;subst hx;trivial),kC _ _ _ _,t7⟩) ?_
 ·intro i hi
  have BELT:∀ j,gQ 2 [(0,AV.one (.c (tF a))),(3,.one (.ptr 0 0)),(5,.one (.sl 1 (vI (mC b j).length) 0 (mC b j).length)),(14,.one (.c (tF b))),(15,.one (.c (.int .i64 b.length))),(16,.one (.c (.int .i64 j)))]:=λj=>⟨t7,(by show 0<2;omega),(by show 1<2;omega),t7,t7,t7,t7⟩
  have BELL:∀ j,n_ 2 [Ob.box [.c (tF b)],.row (vI (mC b j).length) ((mC b j).map gI) 1]:=λj=>⟨(by intro x hx;simp at hx;subst hx;trivial),kC _ _ _ _,t7⟩
  by_cases O0:i<b.length
  ·obtain⟨x,hx⟩:=gol_ O0
   have QQ:=gPV_ok (iN x.valid);have QH:mC b (i+1)=mC b i++(bif aw x.valid then [(i:Int)]else []):=by
    unfold mC;rw[bN hx,Ed,ari,aq8,Nat.min_eq_left m0]
   have hle:(mC b i).length<=1000:=by have:=wZ (λy:ap=>aw y.valid) (b.take i) 0;rw[ari]at this;unfold mC;omega
   generalize mC b i=o at QH hle
   cases hv:aw x.valid with
   |true =>
    rw[hv]at QQ QH;rw[aqs]at QH;have hl:(mC b (i+1)).length=o.length+1:=by rw[QH];simp
    have Rr:vI (o.length+1)=vI o.length+65536:=by unfold vI;omega
    have hm:(o.map gI).length=o.length:=by simp
    repeat' (first|(refine b9 rfl rfl rfl rfl rfl (ee am (k:=1) (by_:=8) (xs:=[gI i]) rfl rfl rfl rfl ⟨rfl,_,rfl,by intro e he;simp at he;subst he;rfl⟩ rfl (by unfold vI;omega) rfl rfl rfl m9 hm (by simp only[List.length_singleton];omega) (by simp only[List.length_singleton];omega)) ?_)|(refine bw rfl rfl rfl rfl rfl rfl rfl rfl (bu hx) ?_ ?_;· exact⟨m0,rfl⟩)|refine aN rfl rfl rfl rfl QQ rfl ?_|refine gw_ am tabS_ok ?_|refine gi_ (λhb=>?_) (λhb=>?_)|fail)
    exact⟨i+1,m0,m0,fm_ ⟨rfl,rfl,(by rw[hl,Rr];rfl),rfl,rfl,aU (aZ m0 m0),t7⟩ [_] (by rw[hl,Rr,QH,aqD];rfl) (BELT _) (BELL _)⟩
   |false =>
    rw[hv]at QQ QH;rw[aqr,aqZ]at QH
    repeat' (first|(refine bw rfl rfl rfl rfl rfl rfl rfl rfl (bu hx) ?_ ?_;· exact⟨m0,rfl⟩)|refine aN rfl rfl rfl rfl QQ rfl ?_|refine gw_ am tabS_ok ?_|refine gi_ (λhb=>?_) (λhb=>?_)|fail)
    exact⟨i+1,m0,m0,fm_ ⟨rfl,rfl,(by rw[QH];rfl),rfl,rfl,aU (aZ m0 m0),t7⟩ [_] (by rw[QH];rfl) (BELT _) (BELL _)⟩
  ·have Rb:i=b.length:=m0
   subst Rb;have ho:mC b b.length=iU (λy:ap=>aw y.valid) b 0:=by unfold mC;rw[List.take_length]
   have hor:∀ k∈mC b b.length,0<=k/\k<(b.length:Int):=λk hk=>by
    rw[ho]at hk;have:=DJ _ b 0 k hk;omega
   have hle:(mC b b.length).length<=1000:=by rw[ho];have:=wZ (λy:ap=>aw y.valid) b 0;omega
   obtain⟨o,RA,Yb,U5⟩:=Gg hb hor (vI (mC b b.length).length) (mC b b.length).length rfl m0;rw[ho]at RA;have hon:o.length=(mC b b.length).length:=by rw[ho];exact RA.length_eq
   generalize mC b b.length=o0 at U5 hle hon ⊢
   repeat' (first|(refine aT 0 (cs:=[.c (tF b)]) (ts:=[tF b]) rfl rfl ?_)|(refine cJ [1] rfl rfl rfl rfl U5 rfl (rfI rfl (bV ⟨(by show 0<1;omega),t7,t7⟩)) rfl (jI rfl) ?_)|refine gw_ am tabS_ok ?_|refine gi_ (λhb=>?_) (λhb=>?_)|fail)
   refine qT 8 (vP 0) 2 rfl (by unfold vP;omega) ?_;refine cu (λi:Nat=>OT a b o0.length (prK a b i).length i) (λi=>[.dead,.row (vI o0.length) (o.map gI) 1,.row (vP (prK a b i).length) ((prK a b i).map gPr) 2]) (λi=>i<=a.length) (λi=>a.length-i) 0 m0 (λ_ _=>aqL _)
    (fm_ ⟨rfl,rfl,rfl,rfl,aU m5,rfl,t7⟩ [] rfl (ws a b _ _ _ 0) (vU _ _ _ _)) ?_
   intro i hi;by_cases O0:i<a.length
   ·obtain⟨x,hx⟩:=gol_ O0
    have QQ:=gPV_ok (iN x.valid);have QH:=afF (b:=b) hx;have Uo:=ain O0 hB;unfold OT;generalize prK a b i=pr at QH Uo ⊢
    cases hv:aw x.valid with
    |false =>
     rw[hv]at QQ
     repeat' (first|(refine bw rfl rfl rfl rfl rfl rfl rfl rfl (bu hx) ?_ ?_;· exact⟨m0,rfl⟩)|refine aN rfl rfl rfl rfl QQ rfl ?_|refine gw_ am tabS_ok ?_|refine gi_ (λhb=>?_) (λhb=>?_)|refine qP ?_|refine rA ?_|fail)
     have hz:prK a b (i+1)=pr:=by
      rw[QH,mA,Ez (q:=λy:ap=>jY x.valid y.valid) (λy=>by unfold jY;rw[hv];rfl)];simp
     exact⟨i+1,m0,m0,fm_ ⟨rfl,rfl,(by rw[hz];rfl),rfl,rfl,aU (aZ m0 m0),t7⟩ [_] (by rw[hz];rfl) (ws a b _ _ _ 0) (vU _ _ _ _)⟩
    |true =>
     rw[hv]at QQ
     repeat' (first|(refine bw rfl rfl rfl rfl rfl rfl rfl rfl (bu hx) ?_ ?_;· exact⟨m0,rfl⟩)|refine aN rfl rfl rfl rfl QQ rfl ?_|refine gw_ am tabS_ok ?_|refine gi_ (λhb=>?_) (λhb=>?_)|refine qP ?_|refine rA ?_|fail)
     refine cu (λj:Nat=>IT a b o0.length pr.length (pr.length+(j_ b x.valid o j).length) i j) (λj=>[.dead,.row (vI o0.length) (o.map gI) 1,.row (vP (pr.length+(j_ b x.valid o j).length)) ((pr++(j_ b x.valid o j).map λk=>(⟨i,k⟩:cD)).map gPr) 2,.box ((aH x).map SV.c)])
      (λj=>j<=o0.length /\ ∀ k∈o.take j,(ga b k).lo<x.valid.hi) (λj=>o0.length-j) 0 ⟨m0,by intro k hk;simp at hk⟩ (λ_ _=>aqL _)
      (fm_ ⟨rfl,rfl,rfl,rfl,rfl,rfl,rfl,rfl,rfl,rfl,rfl,aU m5,t7⟩ [] (by simp[j_];rfl) (CS _ _ _ _ _ _ _) (Bl _ _ _ _ _)) ?_
     rintro j ⟨hj,YB⟩;have VP:=aaN b x.valid o j;have hsu:=λk=>KO (b:=b) (f:=x.valid) (o:=o) (j:=j) (k:=k)
     obtain⟨d,hdp,SO,Pl⟩:=Ji pr ((j_ b x.valid o j).map λk=>(⟨i,k⟩:cD)) (vP (pr.length+(j_ b x.valid o j).length)) (0+pr.length) (pr.length+(j_ b x.valid o j).length-pr.length) m5 m5 m0;have Vk:=λh2=>ad6 RA Yb hv YB h2 hdp SO
     have Wp:=hdp.length_eq;rw[aqC]at Wp;unfold IT;generalize j_ b x.valid o j=ss at VP hsu Pl Wp ⊢;by_cases WR:j<o0.length
     ·obtain⟨k,hk⟩:=gol_ (l:=o) (i:=j) m0
      have hkr:0<=k/\k<(b.length:Int):=by
       have h1:=RA.mem_iff.1 (aqw hk);have:=DJ _ b 0 k h1;omega
      obtain⟨VB,Y_⟩:=hkr;obtain⟨y,hy⟩:=gol_ (l:=b) (i:=k.toNat) m0;have hpa:ga b k=y.valid:=by unfold ga;rw[hy]
      have hgk:(o.map gI)[0+j]?=some (gI k):=by rw[aq8,aqN,hk];rfl
      have Rr:vP (pr.length+ss.length+1)=vP (pr.length+ss.length)+65536:=by unfold vP;omega
      have hm:((pr++ss.map λk=>(⟨i,k⟩:cD)).map gPr).length=pr.length+ss.length:=by simp
      repeat' (first
       |refine st_nil ?_
       |(refine b9 rfl rfl rfl rfl rfl (ee am (k:=2) (by_:=16) (xs:=[gPr ⟨i,k⟩]) rfl rfl rfl rfl ⟨rfl,_,rfl,by intro e he;simp at he;subst he;rfl⟩ rfl (by unfold vP;omega) rfl rfl rfl m9 hm (by simp only[List.length_singleton];omega) (by simp only[List.length_singleton];omega)) ?_)
       |(refine mf rfl rfl rfl rfl rfl rfl rfl (e:=gI k) (by exact hgk) rfl ?_)
       |(refine st_pop rfl rfl rfl rfl ?_ ?_;· (repeat' (first|exact t7|rfl|exact aqA rfl|omega|exact wideI (by intro _;rfl) _|(intro e he;simp at he;subst he;rfl)|apply And.intro)))
       |(refine bw rfl rfl rfl rfl rfl rfl rfl rfl (bu hy) ?_ ?_;· exact⟨m0,rfl⟩)
       |(refine st_lop rfl rfl rfl rfl ?_ ?_;· (repeat' (first|exact t7|rfl|exact aqA rfl|omega|exact wideI (by intro _;rfl) _|(intro e he;simp at he;subst he;rfl)|apply And.intro)))
       |(refine sS_ rfl rfl rfl ?_ ?_;· (repeat' (first|exact t7|rfl|exact aqA rfl|omega|exact wideI (by intro _;rfl) _|(intro e he;simp at he;subst he;rfl)|apply And.intro)))
       |(refine st_lit rfl rfl rfl rfl ?_ ?_;· (repeat' (first|exact t7|rfl|exact aqA rfl|omega|exact wideI (by intro _;rfl) _|(intro e he;simp at he;subst he;rfl)|apply And.intro)))
       |refine st_skip rfl rfl rfl ?_
       |refine sk0_ rfl rfl ?_
       |(refine cJ [2] rfl rfl rfl rfl Pl rfl (rfP rfl (bV ⟨(by show 0<1;omega),t7,t7⟩)) rfl (jP rfl) ?_)
       |(refine st_if rfl (λhb=>?_) (λhb=>?_)<;>(first|exact(fx_ hb).elim|rw[hb]))
       |refine aw_seq ?_
       |refine aw_region am _ rfl ?_
       |refine aw_drawn2 tabS_ok _ rfl mixed (by decide +kernel) ?_
       |(refine aw_cond rfl (λhb=>?_) (λhb=>?_)<;>(try exact(fx_ hb).elim))
       |refine aw_block ?_
       |refine aw_exit ?_
       |refine aw_ret ?_
       |refine aw_skip ?_
       |refine qP ?_
       |refine rA ?_)
      ·have VA:=Vk λk' VN=>by
        have:k'=k:=aqX (VN.symm.trans hk);subst this;rw[hpa];have:=aqT hb;omega
       rw[<- VA]at QH;have V8:(prK a b (i+1)).length=pr.length+ss.length:=by rw[QH,aqy,Wp]
       exact⟨i+1,m0,m0,fm_ ⟨rfl,rfl,(by rw[V8];rfl),rfl,rfl,aU (aZ m0 m0),t7⟩ [_] (by rw[V8,QH];rfl) (ws a b _ _ _ 0) (vU _ _ _ _)⟩
      ·rename_i h1 h2
       have hc:decide (x.valid.lo<(ga b k).hi)=true:=by rw[hpa];exact hb
       have hs:=hsu k hk;rw[hc,aqs]at hs;have Vp:∀ k'∈o.take (j+1),(ga b k').lo<x.valid.hi:=by
        intro k' VN;rw[bN hk,aqS]at VN;obtain h|h:=VN
        ·exact YB k' h
        ·simp at h;subst h;rw[hpa];have:=of_decide_eq_false h2;omega
       have hl:(j_ b x.valid o (j+1)).length=ss.length+1:=by rw[hs];simp
       exact⟨j+1,⟨m0,Vp⟩,m0,fm_ ⟨rfl,rfl,(by rw[hl,<- Nat.add_assoc,Rr];rfl),rfl,rfl,rfl,rfl,rfl,rfl,rfl,rfl,aU (aZ m0 m0),t7⟩ [] (by rw[hl,<- Nat.add_assoc,Rr,hs];simp) (CS _ _ _ _ _ _ _) (Bl _ _ _ _ _)⟩
      ·rename_i h1 h2
       have hc:decide (x.valid.lo<(ga b k).hi)=false:=by rw[hpa];exact hb
       have hs:=hsu k hk;rw[hc,aqr,aqZ]at hs;have Vp:∀ k'∈o.take (j+1),(ga b k').lo<x.valid.hi:=by
        intro k' VN;rw[bN hk,aqS]at VN;obtain h|h:=VN
        ·exact YB k' h
        ·simp at h;subst h;rw[hpa];have:=of_decide_eq_false h2;omega
       exact⟨j+1,⟨m0,Vp⟩,m0,fm_ ⟨rfl,rfl,(by rw[hs];rfl),rfl,rfl,rfl,rfl,rfl,rfl,rfl,rfl,aU (aZ m0 m0),t7⟩ [] (by rw[hs];simp) (CS _ _ _ _ _ _ _) (Bl _ _ _ _ _)⟩
     ·have WH:j=o0.length:=m0
      subst WH
      repeat' (first|(refine cJ [2] rfl rfl rfl rfl Pl rfl (rfP rfl (bV ⟨(by show 0<1;omega),t7,t7⟩)) rfl (jP rfl) ?_)|refine gw_ am tabS_ok ?_|refine gi_ (λhb=>?_) (λhb=>?_)|refine qP ?_|refine rA ?_|fail)
      have VA:=Vk λk hk=>by rw[ard m0]at hk;cases hk
      rw[<- VA]at QH;have V8:(prK a b (i+1)).length=pr.length+ss.length:=by rw[QH,aqy,Wp]
      exact⟨i+1,m0,m0,fm_ ⟨rfl,rfl,(by rw[V8];rfl),rfl,rfl,aU (aZ m0 m0),t7⟩ [_] (by rw[V8,QH];rfl) (ws a b _ _ _ 0) (vU _ _ _ _)⟩
   ·have Rb:i=a.length:=m0
    subst Rb;unfold OT;refine iL 2 8 (cs:=(prK a b a.length).map iF) rfl (OR _) rfl m5 ?_
    repeat' (first|refine gw_ am tabS_ok ?_|refine gi_ (λhb=>?_) (λhb=>?_)|fail)
    have hz:prK a b a.length=eP (λx y:ap=>jY x.valid y.valid) b a 0:=by unfold prK;rw[List.take_length]
    rw[hz];refine⟨.inr rfl,?_⟩
    first|exact⟨t7,rfl⟩|exact⟨⟨t7,t7⟩,rfl⟩|(refine⟨?_,rfl⟩;repeat' (first|exact t7|rfl|apply And.intro))
