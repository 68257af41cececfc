/- Parts. No condition. -/
import Derived.Test.YtlcceppoloaecaaGreatDoorKAD
import Derived.IntWalk
import Derived.MapFrom
set_option linter.unusedSimpArgs false
set_option linter.unusedVariables false
namespace Go.Proofs.YtlcceppoloaecaaGreatDoor
open Go.RowKit
section
variable {P:Program} {ti:TI} {B:Nat->Prop} {N n0:Nat}
theorem aa8 {ds:List (Option Tmp)}{K:Tm->List Ob->Prop}:∀ (l:List Oper) (T:Tm) (L:List Ob),aI P ti N ds K l T L ->
  ∃ (vs:List AV) (Ls:Nat->List Ob),vs.length=l.length/\Ls 0=L/\(∀ (i:Nat) o,l[i]?=some o->dOK N o.dst /\ ∃ v,vs[i]?=some v /\
   ((fR ds (fm l vs T i) o.guard=some true/\gp P ti (look (fm l vs T i)) (Ls i) (fun v' L'=>v'=v/\L'=Ls (i+1)) o.op)\/(fR ds (fm l vs T i) o.guard=some false/\v = .undef/\Ls (i+1)=Ls i))) /\
   K (fm l vs T l.length) (Ls l.length)
 |[],T,L,h=>⟨[],fun _=>L,rfl,rfl,fun i o ho=>by simp at ho,by have h:K T L:=h;simpa[fm]using h⟩
 |o::l,T,L,h=>by
  obtain⟨hd,hg⟩:=h;have go:∀ v L1,((fR ds T o.guard=some true/\gp P ti (look T) L (fun v' L'=>v'=v/\L'=L1) o.op)\/(fR ds T o.guard=some false/\v = .undef/\L1=L))->aI P ti N ds K l (tK T o.dst v) L1 ->∃ (vs:List AV) (Ls:Nat->List Ob),vs.length=(o::l).length/\Ls 0=L/\(∀ (i:Nat) o',(o::l)[i]?=some o'->dOK N o'.dst /\ ∃ v,vs[i]?=some v /\
   ((fR ds (fm (o::l) vs T i) o'.guard=some true/\gp P ti (look (fm (o::l) vs T i)) (Ls i) (fun v' L'=>v'=v/\L'=Ls (i+1)) o'.op)\/(fR ds (fm (o::l) vs T i) o'.guard=some false/\v = .undef/\Ls (i+1)=Ls i))) /\
   K (fm (o::l) vs T (o::l).length) (Ls (o::l).length):=by
   intro v L1 hv hr;obtain⟨vs,Ls,h1,h0,h2,h3⟩:=aa8 l (tK T o.dst v) L1 hr;refine⟨v::vs,fun i=>match i with|0=>L|i+1=>Ls i,by simp[h1],rfl,fun i o' ho=>?_,by simpa[fm]using h3⟩
   cases i with
   |zero =>
    simp at ho;subst ho;exact⟨hd,v,rfl,by simpa[fm,h0]using hv⟩
   |succ i =>
    obtain⟨g1,v',g2,g3⟩:=h2 i o' (by simpa using ho);exact⟨g1,v',by simpa using g2,by simpa[fm]using g3⟩
  rcases aio hg with⟨h1,h2⟩|⟨h1,h2⟩
  ·obtain⟨v,L1,g1,g2⟩:=afZ h2
   exact go v L1 (.inl ⟨h1,g1⟩) g2
  ·exact go .undef L (.inr ⟨h1,rfl,rfl⟩) h2
theorem B4:∀ (l:List Oper) (vs:List AV) (T:Tm) (i:Nat) (o:Oper) (v:AV),l[i]?=some o->vs[i]?=some v->fm l vs T (i+1)=tK (fm l vs T i) o.dst v
 |[],_,_,_,_,_,h,_=>by simp at h
 |_::_,[],_,_,_,_,_,h=>by simp at h
 |o0::l,v0::vs,T,0,o,v,ho,hv=>by
  simp at ho hv;subst ho hv;simp[fm]
 |o0::l,v0::vs,T,i+1,o,v,ho,hv=>by
  rw[fm,fm];exact B4 l vs _ i o v (by simpa using ho) (by simpa using hv)
theorem CY {ρ:Operand->Option AV}{L L1:List Ob}{s:TypeId}{x:Operand}{i:Nat}{y:AC}{v:AV}(hx:ρ x=some (.one (.c y)))(h:gp P ti ρ L (fun v' L'=>v'=v/\L'=L1) (.fieldAddr s x i)):∃ z,v = .one (.c z):=by
 rcases h with⟨v',φ,hp,_,rfl,_⟩|⟨_,_,hp,_⟩|⟨_,_,_,hp,_⟩|⟨_,_,_,hp,_⟩|⟨_,_,_,_,_,_,hp,_⟩|⟨_,_,_,_,hp,_⟩|⟨_,_,_,_,_,_,hp,_⟩|⟨_,_,hp,_⟩
 ·simp only[pop,hx]at hp
  unfold fU at hp;split at hp
  ·split at hp
   ·split at hp
    ·cases hp;exact⟨_,rfl⟩
    ·cases hp
   ·cases hp
  ·rename_i e;cases e
  ·cases hp
 ·cases hp
 ·cases hp
 ·cases hp
 ·cases hp
 ·cases hp
 ·cases hp
 ·cases hp.1
theorem C_ {ρ:Operand->Option AV}{L L1:List Ob}{s:TypeId}{x ix:Operand}{y:AC}{v:AV}(hx:ρ x=some (.one (.c y)))(h:gp P ti ρ L (fun v' L'=>v'=v/\L'=L1) (.indexAddr s x ix)):∃ z,v = .one (.c z):=by
 rcases h with⟨v',φ,hp,_,rfl,_⟩|⟨_,_,hp,_⟩|⟨_,_,_,hp,_⟩|⟨_,_,_,hp,_⟩|⟨_,_,_,_,_,_,hp,_⟩|⟨_,_,_,_,hp,_⟩|⟨_,_,_,_,_,_,hp,_⟩|⟨_,_,hp,_⟩
 ·simp only[pop,hx]at hp
  split at hp
  ·rename_i e _;cases e
  ·unfold eJ at hp
   split at hp
   ·split at hp
    ·cases hp;exact⟨_,rfl⟩
    ·cases hp
   ·cases hp
  ·cases hp
 ·cases hp
 ·cases hp
 ·cases hp
 ·cases hp
 ·cases hp
 ·cases hp
 ·cases hp.1
theorem aeU {ρ:Operand->Option AV}{L L1:List Ob}{ty:TypeId}{x:Operand}{y:AC}{v:AV}(hag:ti.agg ty=some false)(hx:ρ x=some (.one (.c y)))(h:gp P ti ρ L (fun v' L'=>v'=v/\L'=L1) (.load ty x)):∃ z,v = .one (.c z):=by
 rcases h with⟨v',φ,hp,_,rfl,_⟩|⟨_,_,hp,_⟩|⟨_,_,_,hp,_⟩|⟨_,_,_,hp,_⟩|⟨_,_,_,_,_,_,hp,_⟩|⟨_,_,_,_,hp,_⟩|⟨_,_,_,_,_,_,hp,_⟩|⟨_,_,hp,_⟩
 ·simp only[pop,hx,ap9]at hp
  unfold fx at hp;split at hp
  ·rename_i cs _
   rw[hag]at hp
   cases cs with
   |nil=>simp at hp
   |cons z cs =>
    simp only[Option.some.injEq,Prod.mk.injEq]at hp;exact⟨z,hp.1.symm⟩
  ·rename_i e;cases e
  ·rename_i e;cases e
  ·cases hp
 ·cases hp
 ·cases hp
 ·cases hp
 ·cases hp
 ·cases hp
 ·cases hp
 ·cases hp.1
structure ajo (ti:TI)(l:List Oper)(N:Nat)(B:Nat->Prop)(Ls:Nat->List Ob)(T:Tm)(vs:List AV)(R0:PH)(γ0:List Gh)(w0:World)(listed:Array Bool)(e:Nat)(R:PH)(γ:List Gh)(a:Act)(w:World):Prop where
 inv:Inv B R γ (Ls e) w
 size:a.tmps.size=N
 defers:a.defers=[]
 done:Done l listed
 le:e<=l.length
 lo:∀ (c:Nat) o,c<e->l[c]?=some o->bS ti o.op=true->listed[c]?=some true
 hi:∀ (c:Nat) o,e<=c->l[c]?=some o->bS ti o.op=true->listed[c]?=some false
 fresh:∀ (i:Nat) o d v,listed[i]?=some true->l[i]?=some o->o.dst=some d->vs[i]?=some v ->∃ u,a.tmps[d]?=some u/\v.rep R γ (Ls e) u
 old:∀ t x,T.lookup t=some x->(∀ (i:Nat) o,listed[i]?=some true->l[i]?=some o->o.dst≠some t) ->∃ u,a.tmps[t]?=some u/\x.rep R γ (Ls e) u
 ext:Ext B R0 R w0 w
 mv:Mv R0 R γ0 γ (Ls 0) (Ls e)
theorem uZ {l:List Oper}{listed:Array Bool}(Uu:∀ (i:Nat) o,l[i]?=some o ->∀ e∈o.after.toList,Region.binds .any e=true->e.on<i)(h:Done l listed)(i:Nat):i∈Region.ready .any l.toArray listed↔i<l.length/\listed[i]?=some false /\ ∀ o,l[i]?=some o ->∀ e∈o.after.toList,Region.binds .any e=true->listed[e.on]?=some true:=by
 unfold Region.ready;rw[List.mem_filter,List.mem_range];simp only[List.size_toArray,aqr];constructor
 ·rintro⟨hi,h1,h2⟩
  have O0:i<listed.size:=by rw[h.size];exact hi
  have e1:listed[i]?=some listed[i]:=aqy O0;refine⟨hi,?_,fun o ho e he hb=>?_⟩
  ·rw[Array.getD_eq_getD_getElem?,e1]at h1
   simp at h1;rw[e1,h1]
  ·simp only[List.getElem?_toArray,ho,Option.map_some,Option.getD_some]at h2
   have:=Array.all_eq_true'.1 h2 e (by simpa using he);rw[hb]at this;have QG:e.on<listed.size:=by rw[h.size];have:=Uu i o ho e he hb;omega
   have e2:listed[e.on]?=some listed[e.on]:=aqy QG;rw[Array.getD_eq_getD_getElem?,e2]at this;simp at this;rw[e2,this]
 ·rintro⟨hi,h1,h2⟩
  refine⟨hi,by simp[Array.getD_eq_getD_getElem?,h1],?_⟩;have ho:l[i]?=some l[i]:=aqh hi;simp only[List.getElem?_toArray,ho,Option.map_some,Option.getD_some];rw[Array.all_eq_true'];intro e he;by_cases hb:Region.binds .any e=true
  ·simp[hb,Array.getD_eq_getD_getElem?,h2 _ ho e (by simpa using he) hb]
  ·simp[hb]
open Classical in
theorem aok (O6:TIok P ti){l:List Oper}{ds:List (Option Tmp)}(R5:l.map (·.dst)=ds){F:List Nat}(hD:alv F ti l){K:Tm->List Ob->Prop}{Q:Exit->Act->World->Prop}{T:Tm}{vs:List AV}{Ls:Nat->List Ob}{R0:PH}{γ0:List Gh}{w0:World}(hvl:vs.length=l.length)(hF:∀ t∈F,∃ x,T.lookup t=some (.one (.c x)))
  (We:∀ (i:Nat) o,l[i]?=some o->dOK N o.dst /\ ∃ v,vs[i]?=some v /\
   ((fR ds (fm l vs T i) o.guard=some true/\gp P ti (look (fm l vs T i)) (Ls i) (fun v' L'=>v'=v/\L'=Ls (i+1)) o.op)\/(fR ds (fm l vs T i) o.guard=some false/\v = .undef/\Ls (i+1)=Ls i)))
  (hK:K (fm l vs T l.length) (Ls l.length))
  (hQ:∀ T' L' R' γ' w' a',K T' L'->Inv B R' γ' L' w'->eZ N R' γ' L' T' a'->Ext B R0 R' w0 w'->Mv R0 R' γ0 γ' (Ls 0) L'->Q .normal a' w') :
  ∀ (fuel:Nat) (listed:Array Bool) (e:Nat) (R:PH) (γ:List Gh) (a:Act) (w:World),qH l.length listed<=fuel->ajo ti l N B Ls T vs R0 γ0 w0 listed e R γ a w->wpAny P .any l.toArray Q fuel listed a w:=by
 have uniq:∀ (i j:Nat) o o' d,l[i]?=some o->l[j]?=some o'->o.dst=some d->o'.dst=some d->i=j:=by
  intro i j o o' d ho SB hd TR;by_cases Pn:i=j
  ·exact Pn
  ·exfalso
   exact(hD.apart i j o o' d Pn ho SB hd (by unfold gO;simp[TR])).1 TR

 have der:∀ (m i:Nat) (G:List Nat),i+m<=l.length->(∀ t∈G,(∃ x,(fm l vs T i).lookup t=some (.one (.c x))) /\ ∀ (k:Nat) o,i<=k->l[k]?=some o->o.dst≠some t) ->
   ∀ t∈IP ti (l.drop i) m G,∃ x,(fm l vs T (i+m)).lookup t=some (.one (.c x)):=by
  intro m
  induction m with
  |zero =>
   intro i G _ hG t ht;have:t∈G:=by
    cases G with
    |nil=>cases hd:l.drop i<;>rw[hd]at ht<;>exact ht
    |cons g G=>cases hd:l.drop i<;>rw[hd]at ht<;>exact ht
   exact(hG t this).1
  |succ m ih =>
   intro i G hle hG t ht;have O0:i<l.length:=m0
   have ho:l[i]?=some l[i]:=aqh O0;rw[aqF O0]at ht;have hG':∀ t∈ajJ ti l[i] G,(∃ x,(fm l vs T (i+1)).lookup t=some (.one (.c x))) /\ ∀ (k:Nat) o,i+1<=k->l[k]?=some o->o.dst≠some t:=by
    obtain⟨_,v,hv,Vq⟩:=We i _ ho;have hold:∀ t∈G,(∃ x,(fm l vs T (i+1)).lookup t=some (.one (.c x))) /\ ∀ (k:Nat) o,i+1<=k->l[k]?=some o->o.dst≠some t:=fun t ht=>by
     obtain⟨⟨x,hx⟩,hk⟩:=hG t ht;refine⟨⟨x,?_⟩,fun k o h1 h2=>hk k o m0 h2⟩;rw[B4 l vs T i _ v ho hv,rx (hk i _ (aqo _) ho)];exact hx
    have UI:∀ d x,l[i].dst=some d->v = .one (.c x)->(∃ x,(fm l vs T (i+1)).lookup d=some (.one (.c x))) /\ ∀ (k:Nat) o,i+1<=k->l[k]?=some o->o.dst≠some d:=fun d x hd hvx=>by
     refine⟨⟨x,?_⟩,fun k o h1 h2 h3=>?_⟩
     ·rw[B4 l vs T i _ v ho hv,hd,hvx]
      simp[tK,List.lookup_cons]
     ·have:=uniq i k _ o d ho h2 hd h3
      omega
    have S7:∀ t∈G,∃ x,look (fm l vs T i) (.tmp t)=some (.one (.c x)):=fun t ht=>(hG t ht).1
    have UH:l[i].guard=none->gp P ti (look (fm l vs T i)) (Ls i) (fun v' L'=>v'=v/\L'=Ls (i+1)) l[i].op:=fun hg=>by
     rcases Vq with⟨_,h⟩|⟨h,_,_⟩
     ·exact h
     ·rw[hg]at h;cases h
    intro t ht;unfold ajJ at ht;split at ht
    ·cases ht
    ·rename_i d s t0 ix _ hg hd Q4 _
     split at ht
     ·rename_i hc
      rcases aqp.1 ht with rfl|ht
      ·obtain⟨x,hx⟩:=S7 t0 (by simpa using hc)
       have h:=UH hg;rw[Q4]at h;obtain⟨y,hy⟩:=CY hx h;exact UI _ y hd hy
      ·exact hold t ht
     ·exact hold t ht
    ·rename_i d s t0 ix _ hg hd Q4 _
     split at ht
     ·rename_i hc
      rcases aqp.1 ht with rfl|ht
      ·obtain⟨x,hx⟩:=S7 t0 (by simpa using hc)
       have h:=UH hg;rw[Q4]at h;obtain⟨y,hy⟩:=C_ hx h;exact UI _ y hd hy
      ·exact hold t ht
     ·exact hold t ht
    ·rename_i d ty t0 _ hg hd Q4 _
     split at ht
     ·rename_i hc
      rcases aqp.1 ht with rfl|ht
      ·obtain⟨x,hx⟩:=S7 t0 (by simpa using hc.1)
       have h:=UH hg;rw[Q4]at h;obtain⟨y,hy⟩:=aeU hc.2 hx h;exact UI _ y hd hy
      ·exact hold t ht
     ·exact hold t ht
    ·exact hold t ht
   have e1:i+1+m=i+(m+1):=m0
   have key:=ih (i+1) (ajJ ti l[i] G) m0 hG' t;rw[e1]at key;refine key ?_
   cases hG0:G with
   |nil=>rw[hG0]at ht;cases ht
   |cons g G0=>rw[hG0]at ht;exact ht
 have derI:∀ i,i<=l.length ->∀ t∈IP ti l i F,∃ x,(fm l vs T i).lookup t=some (.one (.c x)):=by
  intro i hi t ht;have:=der i 0 F m0 (fun t ht=>⟨by
   obtain⟨x,hx⟩:=hF t ht;exact⟨x,(mG l vs T 0 fun j o' h=>by omega).trans hx⟩,fun k o _ hk=>hD.fz t ht o (aqe hk)⟩) t (by rw[List.drop_zero];exact ht)
  rw[aqR]at this;exact this

 have flat:∀ n e,(∀ (c:Nat) o,e<=c->c<e+n->l[c]?=some o->bS ti o.op=false)->e+n<=l.length->Ls (e+n)=Ls e:=by
  intro n
  induction n with
  |zero=>intro e _ _;rfl
  |succ n ih =>
   intro e h hle;have h1:=ih e (fun c o h1 h2=>h c o h1 m0) m0;have O0:e+n<l.length:=m0
   have ho:l[e+n]?=some l[e+n]:=aqh O0;obtain⟨_,v,_,hs⟩:=We _ _ ho;rw[<- h1];show Ls (e+n+1)=Ls (e+n);rcases hs with⟨_,Q4⟩|⟨_,_,Q4⟩
   ·exact uV (h _ _ m0 m0 ho) Q4
   ·exact Q4

 have pass:∀ (i:Nat) o v,l[i]?=some o->bS ti o.op=false->gp P ti (look (fm l vs T i)) (Ls i) (fun v' L'=>v'=v/\L'=Ls (i+1)) o.op ->∀ e,e<=l.length ->
   (∀ (c:Nat) oc,l[c]?=some oc->bS ti oc.op=true->(i<c/\c<e)\/(e<=c/\c<i)->okX (IP ti l i F) ti i c o.op oc.op=true)->gp P ti (look (fm l vs T i)) (Ls e) (fun v' L'=>v'=v/\L'=Ls e) o.op:=by
  intro i o v ho hk Q4 e VR hx;have Ve:=(ap_.1 ho).1;refine quiet_move hk Q4 ?_;by_cases Wc:DL o.op=true
  ·intro r hr;rw[<- ado Wc (L:=Ls i)];exact hr
  have YT:DL o.op=false:=by simpa using Wc
  by_cases V7:Nr (IP ti l i F) o.op=true
  ·intro r hr
   rw[<- al_ (L:=Ls i) V7 (fun t ht=>derI i m0 t ht)];exact hr
  have hfz':Nr (IP ti l i F) o.op=false:=by simpa using V7
  have step:∀ c,c<l.length->(∀ oc,l[c]?=some oc->bS ti oc.op=true->okX (IP ti l i F) ti i c o.op oc.op=true)->(i<c ->∀ r,pop ti (look (fm l vs T i)) (Ls c) o.op=some r->pop ti (look (fm l vs T i)) (Ls (c+1)) o.op=some r)/\(c<i ->∀ r,pop ti (look (fm l vs T i)) (Ls (c+1)) o.op=some r->pop ti (look (fm l vs T i)) (Ls c) o.op=some r):=by
   intro c hc Qu;have QQ:l[c]?=some l[c]:=aqh hc;obtain⟨_,vc,_,hs⟩:=We c _ QQ;rcases hs with⟨_,Wg⟩|⟨_,_,Wg⟩
   ·cases Rx:bS ti l[c].op with
    |false=>rw[uV Rx Wg];exact⟨fun _ r h=>h,fun _ r h=>h⟩
    |true =>
     have h1:=Qu _ QQ Rx;unfold okX at h1;rw[YT,hfz']at h1;simp only[Bool.false_or,aqr]at h1;obtain⟨YU,h1⟩:=h1;have h0:sk l[c].op≠0:=by intro e0;rw[e0]at h1;cases h1
     obtain⟨r1,r2,r3,r4⟩:=ahS YU h0 Wg;split at h1
     ·rename_i VS
      have O0:i<c:=aqC h1;exact⟨fun _ r h=>Oe (r1 VS) h,fun hci=>by omega⟩
     ·rename_i VS
      exact⟨fun _ r h=>Oe (r2 VS).1 h,fun _ r h=>Oe (r2 VS).2 h⟩
     ·rename_i VS
      have hl:isLoad o.op=false:=by simpa using h1
      exact⟨fun _ r h=>aga (r3 VS).1 hl h,fun _ r h=>aga (r3 VS).2 hl h⟩
     ·rename_i VS
      exact⟨fun _ r h=>Oe (r4 VS).1 h,fun _ r h=>Oe (r4 VS).2 h⟩
     ·cases h1
   ·rw[Wg];exact⟨fun _ r h=>h,fun _ r h=>h⟩

  have YV:Ls (i+1)=Ls i:=uV hk Q4;by_cases hei:e<=i
  ·
   have:∀ n,n<=i-e ->∀ r,pop ti (look (fm l vs T i)) (Ls i) o.op=some r->pop ti (look (fm l vs T i)) (Ls (i-n)) o.op=some r:=by
    intro n
    induction n with
    |zero=>intro _ r h;exact h
    |succ n ih =>
     intro hn r h;have h2:=ih m0 r h;have h3:=(step (i-(n+1)) m0 (fun oc QQ Rx=>hx _ oc QQ Rx (.inr ⟨m0,m0⟩))).2 m0 r;have e1:i-(n+1)+1=i-n:=m0
     rw[e1]at h3;exact h3 h2
   intro r h;have h2:=this (i-e) (aqo _) r h;have e1:i-(i-e)=e:=m0
   rw[e1]at h2;exact h2
  ·have:∀ n,i+1+n<=e ->∀ r,pop ti (look (fm l vs T i)) (Ls i) o.op=some r->pop ti (look (fm l vs T i)) (Ls (i+1+n)) o.op=some r:=by
    intro n
    induction n with
    |zero=>intro _ r h;show pop ti (look (fm l vs T i)) (Ls (i+1)) o.op=some r;rw[YV];exact h
    |succ n ih =>
     intro hn r h;have h2:=ih m0 r h;exact(step (i+1+n) m0 (fun oc QQ Rx=>hx _ oc QQ Rx (.inl ⟨m0,m0⟩))).1 m0 r h2
   intro r h;have h2:=this (e-(i+1)) m0 r h;have e1:i+1+(e-(i+1))=e:=m0
   rw[e1]at h2;exact h2

 have slots:∀ (listed:Array Bool) (e:Nat) (R:PH) (γ:List Gh) (a:Act) (w:World),ajo ti l N B Ls T vs R0 γ0 w0 listed e R γ a w ->∀ (i:Nat) o,l[i]?=some o->listed[i]?=some false ->
   (∀ o',l[i]?=some o' ->∀ e∈o'.after.toList,Region.binds .any e=true->listed[e.on]?=some true) ->∀ t x,t∈gO l.toArray o->(fm l vs T i).lookup t=some x ->∃ u,a.tmps[t]?=some u/\x.rep R γ (Ls e) u:=by
  intro listed e R γ a w M i o ho YW Xz t x Ry hx;have Ve:=(ap_.1 ho).1;by_cases hex:∃ (j:Nat) (o':Oper),j<i/\l[j]?=some o'/\o'.dst=some t
  ·obtain⟨j,o',hj,SB,TR⟩:=hex
   have Vr:=(hD.apart j i o' o t m0 SB ho TR Ry).2;rw[if_pos hj]at Vr;have hlj:=M.done.anc Vr Xz;have UX:vs[j]?=some vs[j]:=aqh m0;have:=sF l vs T i j o' vs[j] hj SB TR UX (fun k o2 h1 h2 h3 Vb=>by
    have:=uniq j k o' o2 t SB h3 TR Vb;omega) (fun k _ _=>by omega)
   rw[hx]at this;injection this with this
   subst this;exact M.fresh j o' t _ hlj SB TR UX
  ·have WZ:∀ j o',j<i->l[j]?=some o'->o'.dst≠some t:=fun j o' h1 h2 h3=>hex ⟨j,o',h1,h2,h3⟩
   rw[mG l vs T i WZ]at hx;refine M.old t x hx fun k o' R4 Qu hdk=>?_
   by_cases YX:k<i
   ·exact WZ k o' YX Qu hdk
   ·by_cases W0:k=i
    ·subst W0;rw[YW]at R4;cases R4
    ·have Vr:=(hD.apart k i o' o t W0 Qu ho hdk Ry).2
     rw[if_neg YX]at Vr;have:=M.done.anc Vr (fun o2 h2=>M.done.down k o2 h2 R4);rw[YW]at this;cases this
 have W2:∀ (listed:Array Bool),Done l listed ->∀ i,i<l.length->listed[i]?=some true\/listed[i]?=some false:=by
  intro listed hd i hi;have O0:i<listed.size:=by rw[hd.size];exact hi
  rw[aqy O0]
  cases listed[i]<;>simp

 have fin:∀ (listed:Array Bool) (e:Nat) (R:PH) (γ:List Gh) (a:Act) (w:World),ajo ti l N B Ls T vs R0 γ0 w0 listed e R γ a w->(∀ i,i<l.length->listed[i]?=some true)->Q .normal a w:=by
  intro listed e R γ a w M PE;have hle:Ls l.length=Ls e:=by
   have:=flat (l.length-e) e (fun c o h1 h2 ho=>by
    cases hk:bS ti o.op with
    |false=>rfl
    |true=>have:=M.hi c o h1 ho hk;rw[PE c (ap_.1 ho).1]at this;cases this) (by have:=M.le;omega)
   have e1:e+(l.length-e)=l.length:=by have:=M.le;omega
   rw[e1]at this;exact this
  rw[hle]at hK;refine hQ _ _ R γ w a hK M.inv ⟨M.size,M.defers,fun t x hx=>?_⟩ M.ext M.mv;by_cases hex:∃ (j:Nat) (o':Oper),j<l.length/\l[j]?=some o'/\o'.dst=some t
  ·obtain⟨j,o',hj,SB,TR⟩:=hex
   have UX:vs[j]?=some vs[j]:=aqh m0;have:=sF l vs T l.length j o' vs[j] hj SB TR UX (fun k o2 h1 h2 h3 Vb=>by
    have:=uniq j k o' o2 t SB h3 TR Vb;omega) (fun k _ _=>by omega)
   rw[hx]at this;injection this with this
   subst this;exact M.fresh j o' t _ (PE j hj) SB TR UX
  ·have WZ:∀ j o',j<l.length->l[j]?=some o'->o'.dst≠some t:=fun j o' h1 h2 h3=>hex ⟨j,o',h1,h2,h3⟩
   rw[mG l vs T l.length WZ]at hx;exact M.old t x hx fun k o' _ Qu hdk=>WZ k o' (ap_.1 Qu).1 Qu hdk
 have Wh:∀ (listed:Array Bool),Done l listed->Region.ready .any l.toArray listed=[] ->∀ i,i<l.length->listed[i]?=some true:=by
  intro listed hd Qe i
  induction i using Nat.strongRecOn with
  |ind i ihi =>
   intro hi;rcases W2 listed hd i hi with h|h
   ·exact h
   ·exfalso
    have:i∈Region.ready .any l.toArray listed:=(uZ hD.back hd i).2 ⟨hi,h,fun o ho e he hb=>ihi e.on (hD.back i o ho e he hb) (by have:=hD.back i o ho e he hb;omega)⟩;rw[Qe]at this;cases this
 intro fuel
 induction fuel with
 |zero =>
  intro listed e R γ a w hc M;have PE:∀ i,i<l.length->listed[i]?=some true:=by
   intro i hi;rcases W2 listed M.done i hi with h|h
   ·exact h
   ·exfalso
    have:0<qH l.length listed:=List.countP_pos_iff.2 ⟨i,by simpa using hi,by rw[h];rfl⟩;omega
  refine⟨?_,fin listed e R γ a w M PE⟩;apply List.eq_nil_iff_forall_not_mem.2;intro i Ry;obtain⟨h1,h2,_⟩:=(uZ hD.back M.done i).1 Ry;rw[PE i h1]at h2;cases h2
 |succ fuel ih =>
  intro listed e R γ a w hc M;refine⟨fun Qe=>fin listed e R γ a w M (Wh listed M.done Qe),fun i Ry=>?_⟩;obtain⟨h1,h2,h3⟩:=(uZ hD.back M.done i).1 Ry;have ho:l[i]?=some l[i]:=aqh h1;obtain⟨hd,v,hv,Vq⟩:=We i _ ho;have VT:=slots listed e R γ a w M i _ ho h2 h3;have T0:qH l.length (listed.setIfInBounds i true)<=fuel:=by
   have:qH l.length (listed.setIfInBounds i true)<qH l.length listed:=by
    unfold qH;refine yP _ (fun x hx hq=>?_) ⟨i,by simpa using h1,by rw[h2];rfl,by rw[aq2 (by rw[M.done.size];exact h1)];rfl⟩;by_cases hxi:x=i
    ·subst hxi;rw[h2];rfl
    ·rw[aqS (Ne.symm hxi)]at hq;exact hq
   omega
  have Wi:∀ (e':Nat) (R':PH) (γ':List Gh) (w':World) (u:Value),e'<=l.length->(∀ (c:Nat) o,c<e'->l[c]?=some o->bS ti o.op=true->(listed.setIfInBounds i true)[c]?=some true)->(∀ (c:Nat) o,e'<=c->l[c]?=some o->bS ti o.op=true->(listed.setIfInBounds i true)[c]?=some false) ->
    Inv B R' γ' (Ls e') w'->Ext B R R' w w'->Mv R R' γ γ' (Ls e) (Ls e')->v.rep R' γ' (Ls e') u->ajo ti l N B Ls T vs R0 γ0 w0 (listed.setIfInBounds i true) e' R' γ' (a.put l[i].dst u) w':=by
   intro e' R' γ' w' u hle' Po PG Rw QO Tz hu;have PN:(a.put l[i].dst u).tmps.size=N:=by cases hdd:l[i].dst<;>simp[Act.put,M.size]
   have Pq:∀ t,l[i].dst≠some t->(a.put l[i].dst u).tmps[t]?=a.tmps[t]?:=by
    intro t ht
    cases hdd:l[i].dst with
    |none=>rfl
    |some d=>simp only[Act.put];rw[aqS (by intro e;exact ht (by rw[hdd,e]))]
   refine⟨Rw,PN,by cases hdd:l[i].dst<;>exact M.defers,M.done.put h3,hle',Po,PG,fun j o d v' hlj Ym hdj YY=>?_,fun t x hx WZ=>?_,M.ext.trans QO,M.mv.trans Tz⟩
   ·by_cases XA:j=i
    ·subst XA
     rw[ho]at Ym;injection Ym with Ym;subst Ym
     rw[hv]at YY;injection YY with YY;subst YY
     have hdN:d<N:=by have:=hd;rw[hdj]at this;exact this
     refine⟨u,?_,hu⟩;rw[hdj];simp only[Act.put];exact aq2 (by rw[M.size];exact hdN)
    ·rw[aqS (Ne.symm XA)]at hlj
     obtain⟨u',g1,g2⟩:=M.fresh j o d v' hlj Ym hdj YY;refine⟨u',?_,AV.mv Tz g2⟩;rw[Pq d (fun e=>XA (uniq j i o _ d Ym ho hdj e))];exact g1
   ·have hni:l[i].dst≠some t:=WZ i _ (aq2 (by rw[M.done.size];exact h1)) ho
    obtain⟨u',g1,g2⟩:=M.old t x hx fun k o R4 Qu=>WZ k o (by
     by_cases YX:k=i
     ·subst YX;rw[h2]at R4;cases R4
     ·rw[aqS (Ne.symm YX)];exact R4) Qu
    exact⟨u',by rw[Pq t hni];exact g1,AV.mv Tz g2⟩
  have Vs:∀ d x,d∈l[i].looksAt l.toArray->(fm l vs T i).lookup d=some x ->∃ u,a.tmps[d]?=some u/\x.rep R γ (Ls e) u:=fun d x hd hx=>VT d x (by unfold gO;exact List.mem_append_left _ hd) hx

  have Uw:bS ti l[i].op=false->(∀ (c:Nat) o,c<e->l[c]?=some o->bS ti o.op=true->(listed.setIfInBounds i true)[c]?=some true)/\(∀ (c:Nat) o,e<=c->l[c]?=some o->bS ti o.op=true->(listed.setIfInBounds i true)[c]?=some false):=by
   intro hk;have Pn:∀ (c:Nat) o,l[c]?=some o->bS ti o.op=true->c≠i:=by
    rintro c o QQ Rx rfl;rw[ho]at QQ;injection QQ with QQ;subst QQ;rw[hk]at Rx;cases Rx
   exact⟨fun c o hc QQ Rx=>by rw[aqS (Ne.symm (Pn c o QQ Rx))];exact M.lo c o hc QQ Rx,fun c o hc QQ Rx=>by rw[aqS (Ne.symm (Pn c o QQ Rx))];exact M.hi c o hc QQ Rx⟩
  have Ux:bS ti l[i].op=true->e<=i/\Ls i=Ls e/\(∀ (c:Nat) o,c<i+1->l[c]?=some o->bS ti o.op=true->(listed.setIfInBounds i true)[c]?=some true)/\(∀ (c:Nat) o,i+1<=c->l[c]?=some o->bS ti o.op=true->(listed.setIfInBounds i true)[c]?=some false):=by
   intro hk;have hei:e<=i:=by
    rcases Nat.lt_or_ge i e with h|h
    ·have:=M.lo i _ h ho hk;rw[h2]at this;cases this
    ·exact h
   have Vt:∀ (c:Nat) o,c<i->l[c]?=some o->bS ti o.op=true->listed[c]?=some true:=fun c o hc QQ Rx=>M.done.anc (hD.chain i c _ o ho QQ hk Rx hc) h3
   refine⟨hei,?_,fun c o hc QQ Rx=>?_,fun c o hc QQ Rx=>?_⟩
   ·have:=flat (i-e) e (fun c o c1 c2 QQ=>by
     cases Rx:bS ti o.op with
     |false=>rfl
     |true=>have q:=M.hi c o c1 QQ Rx;rw[Vt c o m0 QQ Rx]at q;cases q) m0
    have e1:e+(i-e)=i:=m0
    rw[e1]at this;exact this
   ·by_cases hci:c=i
    ·subst hci;exact aq2 (by rw[M.done.size];exact h1)
    ·rw[aqS (Ne.symm hci)];exact Vt c o m0 QQ Rx
   ·rw[aqS m0];exact M.hi c o m0 QQ Rx
  unfold wpOp;simp only[List.getElem?_toArray,ho];rcases Vq with⟨hw,Q4⟩|⟨hw,rfl,hLs⟩
  ·rw[if_pos (sp (afU R5) Vs hw)]
   refine .inl ?_;have operand:∀ x v',(fun x=>if x∈l[i].op.operands then look (fm l vs T i) x else none) x=some v'->v'.rep R γ (Ls e) (a.eval x):=by
    intro x v' hx;by_cases hxo:x∈l[i].op.operands
    ·simp only[hxo,if_true]at hx
     cases x with
     |tmp t =>
      obtain⟨u,g1,g2⟩:=Vs t v' (by unfold Oper.looksAt;exact List.mem_append_left _ (List.mem_filterMap.2 ⟨.tmp t,by simpa using hxo,rfl⟩)) hx;have:a.eval (.tmp t)=u:=by simp[Act.eval,Array.getD_eq_getD_getElem?,g1]
      rw[this];exact g2
     |const c=>exact AV.ofVal_rep hx
     |global g=>cases hx
     |func f =>
      injection hx with hx;subst hx
      exact .fn f #[] [] rfl (fun j v x hv=>by simp at hv)
    ·simp only[hxo,if_false]at hx;cases hx
   cases hk:bS ti l[i].op with
   |false =>
    have hop2:=pass i _ v ho hk Q4 e M.le (fun c oc QQ Rx Yg=>by
     refine hD.cross i c _ oc ho QQ hk Rx (fun ha=>?_) (fun ha=>?_)
     ·have q:=M.done.anc ha h3
      rcases Yg with⟨c1,c2⟩|⟨c1,c2⟩
      ·
       have back:∀ i j,Ov l i j->j<i:=by
        intro i j h
        induction h with
        |edge ho he hb=>exact hD.back _ _ ho _ he hb
        |step ho he hb _ ih=>have:=hD.back _ _ ho _ he hb;omega
       have:=back i c ha;omega
      ·rw[M.hi c oc c1 QQ Rx]at q;cases q
     ·rcases Yg with⟨c1,c2⟩|⟨c1,c2⟩
      ·have q:=M.done.anc ha (fun o2 WY=>M.done.down c o2 WY (M.lo c oc c2 QQ Rx))
       rw[h2]at q;cases q
      ·have back:∀ i j,Ov l i j->j<i:=by
        intro i j h
        induction h with
        |edge ho he hb=>exact hD.back _ _ ho _ he hb
        |step ho he hb _ ih=>have:=hD.back _ _ ho _ he hb;omega
       have:=back c i ha;omega)
    have XB:=yV (ρ':=fun x=>if x∈l[i].op.operands then look (fm l vs T i) x else none) (fun x hx=>by simp only[hx,if_true]) hop2;refine lQ O6 M.inv operand XB ?_;rintro v' L' R' γ' w' u ⟨rfl,rfl⟩ k1 k2 k3 k4;obtain⟨q1,q2⟩:=Uw hk;exact ih _ e R' γ' _ w' T0 (Wi e R' γ' w' u M.le q1 q2 k1 k2 k3 k4)
   |true =>
    obtain⟨hei,hLe,q1,q2⟩:=Ux hk;rw[hLe]at Q4;have XB:=yV (ρ':=fun x=>if x∈l[i].op.operands then look (fm l vs T i) x else none) (fun x hx=>by simp only[hx,if_true]) Q4;refine lQ O6 M.inv operand XB ?_;rintro v' L' R' γ' w' u ⟨rfl,rfl⟩ k1 k2 k3 k4;exact ih _ (i+1) R' γ' _ w' T0 (Wi (i+1) R' γ' w' u m0 q1 q2 k1 k2 k3 k4)
  ·rw[if_neg (by rw[sp (afU R5) Vs hw];decide)]
   cases hk:bS ti l[i].op with
   |false =>
    obtain⟨q1,q2⟩:=Uw hk;exact ih _ e R γ _ w T0 (Wi e R γ w Go.undef M.le q1 q2 M.inv (Ext.refl _ _ _) Mv.refl rfl)
   |true =>
    obtain⟨hei,hLe,q1,q2⟩:=Ux hk;have YR:Ls (i+1)=Ls e:=hLs.trans hLe;refine ih _ (i+1) R γ _ w T0 (Wi (i+1) R γ w Go.undef m0 q1 q2 ?_ (Ext.refl _ _ _) ?_ rfl)
    ·rw[YR];exact M.inv
    ·rw[YR];exact Mv.refl
def fzB (F:List Nat)(T:Tm):Bool:=F.all fun t=>match T.lookup t with
 |some (.one (.c _))=>true
 |_=>false
theorem ahr {F:List Nat}{T:Tm}(h:fzB F T=true):∀ t∈F,∃ x,T.lookup t=some (.one (.c x)):=by
 intro t ht;have:=aqY.1 h t ht;split at this
 ·rename_i x hx;exact⟨x,hx⟩
 ·cases this
theorem G8 (F:List Nat)(O6:TIok P ti){Q:AX->Tm->List Ob->Prop}{T:Tm}{L:List Ob}{id:Nat}{l:List Oper}(ds:List (Option Tmp))(R5:l.map (·.dst)=ds)(T8:P.follows .mixedOrders=true)(hc:fu F ti l=true)(hF:fzB F T=true)(h:aI P ti N ds (Q .normal) l T L):Aw P N n0 (.region id l.toArray true) Q T L:=by
 intro hn B R γ w a hi hT;have hD:=KF hc;obtain⟨vs,Ls,h1,h0,h2,h3⟩:=aa8 l T L h;subst h0;have hiD:Inv B R γ (Ls 0) { w with drawn:=w.drawn+1 } :=⟨hi.len,hi.val,fun id x g hx hg=>(hi.obj id x g hx hg).mv Mv.refl (fun _ _=>rfl) (fun _ _ _ h=>h),hi.inj,hi.new,hi.bsz⟩;have heD:Ext B R R w { w with drawn:=w.drawn+1 } :=⟨⟨rfl,rfl,rfl,aqo _,fun _ _=>rfl⟩,PH.sub_refl _,fun _ _ _=>rfl⟩;refine wp_region_any T8 ?_;have PN:l.toArray.size=l.length:=by simp
 rw[PN];refine aok O6 R5 (B:=B) hD h1 (ahr hF) h2 h3 (R0:=R) (γ0:=γ) (w0:=w) ?_ l.length (Array.replicate l.length false) 0 R γ a { w with drawn:=w.drawn+1 } ?_ ?_
 ·intro T' L' R' γ' w' a' q1 q2 q3 q4 q5
  exact⟨.normal,T',L',R',γ',rfl,q1,q2,q3,q4,nl.of hn q5⟩
 ·unfold qH
  exact Nat.le_trans List.countP_le_length m5
 ·have hf:∀ i:Nat,i<l.length->(Array.replicate l.length false)[i]?=some false:=fun i hi=>by simp[hi]
  have ht:∀ i:Nat,(Array.replicate l.length false)[i]?≠some true:=by
   intro i e;by_cases hi:i<l.length
   ·rw[hf i hi]at e;cases e
   ·rw[Array.getElem?_eq_none m8]at e;cases e
  exact⟨hiD,hT.size,hT.defers,⟨m5,fun i o _ e=>absurd e (ht i)⟩,m0,fun c _ hc=>by omega,fun c o _ QQ _=>hf c (ap_.1 QQ).1,fun i o d v e=>absurd e (ht i),fun t x hx _=>hT.slot t x hx,heD,Mv.refl⟩
theorem aw_drawn2 (O6:TIok P ti){Q:AX->Tm->List Ob->Prop}{T:Tm}{L:List Ob}{id:Nat}{l:List Oper}(ds:List (Option Tmp))(R5:l.map (·.dst)=ds)(T8:P.follows .mixedOrders=true)(hc:ai8 ti l=true)(h:aI P ti N ds (Q .normal) l T L):Aw P N n0 (.region id l.toArray true) Q T L :=
 G8 [] O6 ds R5 T8 hc rfl h
end
def gdb (ds:List (Option Tmp))(T:Tm):Option (Nat×Bool)->Option Bool
 |none=>none
 |some (j,_)=>match ds[j]? with
  |some (some d)=>match T.lookup d with
   |some (.one (.c (.bool b)))=>some b
   |_=>none
  |_=>none
section
variable {P:Program} {ti:TI} {N:Nat} {ds:List (Option Tmp)} {K:Tm->List Ob->Prop} {o:Oper} {rest:List Oper} {T:Tm} {L:List Ob}
theorem eI {A B:Prop}{g:Option (Nat×Bool)}(h:fR ds T g=some true)(ha:A):gd ds T A B g:=by
 cases g with
 |none=>exact ha
 |some p =>
  obtain⟨j,want⟩:=p;simp only[fR]at h;simp only[gd];split at h
  ·rename_i d hd
   try simp only[hd]
   split at h
   ·rename_i b hb
    try simp only[hb]
    refine⟨fun _=>ha,fun e=>?_⟩;subst e
    cases want<;>simp at h
   ·cases h
   ·cases h
  ·cases h
theorem DF {A B:Prop}{g:Option (Nat×Bool)}(h:fR ds T g=some false)(hb:B):gd ds T A B g:=by
 cases g with
 |none=>cases h
 |some p =>
  obtain⟨j,want⟩:=p;simp only[fR]at h;simp only[gd];split at h
  ·rename_i d hd
   try simp only[hd]
   split at h
   ·rename_i b Us
    try simp only[Us]
    refine⟨fun e=>?_,fun _=>hb⟩;subst e
    cases b<;>simp at h
   ·rename_i Us
    try simp only[Us]
    exact hb
   ·cases h
  ·cases h
theorem fE {d:Nat}(hd:o.dst=some d)(hN:Nat.blt d N=true):dOK N o.dst:=by
 rw[hd];show d<N;exact Nat.blt_eq▸hN
theorem st_nil (h:K T L):aI P ti N ds K [] T L:=h
theorem st_pop {v:AV}{φ:Prop}{d:Nat}(hd:o.dst=some d)(hN:Nat.blt d N=true)(hg:fR ds T o.guard=some true)(hp:pop ti (look T) L o.op=some (v,φ))(hφ:φ)(h:aI P ti N ds K rest ((d,v)::T) L):aI P ti N ds K (o::rest) T L :=
 ⟨fE hd hN,eI hg (.inl ⟨v,φ,hp,hφ,by rw[hd];exact h⟩)⟩
theorem st_lit {v:AV}{φ:Prop}{d:Nat}(hd:o.dst=some d)(hN:Nat.blt d N=true)(hg:fR ds T o.guard=some true)(hp:tV ti (look T) o.op=some (v,φ))(hφ:φ)(h:aI P ti N ds K rest ((d,v)::T) L):aI P ti N ds K (o::rest) T L :=
 ⟨fE hd hN,eI hg (.inr (.inl ⟨v,φ,hp,hφ,by rw[hd];exact h⟩))⟩
theorem st_lop {v:AV}{L':List Ob}{φ:Prop}{d:Nat}(hd:o.dst=some d)(hN:Nat.blt d N=true)(hg:fR ds T o.guard=some true)(hp:zM ti (look T) L o.op=some (v,L',φ))(hφ:φ)(h:aI P ti N ds K rest ((d,v)::T) L'):aI P ti N ds K (o::rest) T L :=
 ⟨fE hd hN,eI hg (.inr (.inr (.inl ⟨v,L',φ,hp,hφ,by rw[hd];exact h⟩)))⟩
theorem sS_ {v:AV}{L':List Ob}{φ:Prop}(hd:o.dst=none)(hg:fR ds T o.guard=some true)(hp:zM ti (look T) L o.op=some (v,L',φ))(hφ:φ)(h:aI P ti N ds K rest T L'):aI P ti N ds K (o::rest) T L :=
 ⟨by rw[hd];trivial,eI hg (.inr (.inr (.inl ⟨v,L',φ,hp,hφ,by rw[hd];exact h⟩)))⟩
theorem aM {g:FuncId}{ps:List PV}{r:CV}{d:Nat}{v:AV}(hd:o.dst=some d)(hN:Nat.blt d N=true)(hg:fR ds T o.guard=some true)(hp:pM (look T) o.op=some (g,ps))(hc:Pure P g ps r)(hv:r.av=v)(h:aI P ti N ds K rest ((d,v)::T) L):aI P ti N ds K (o::rest) T L :=
 ⟨fE hd hN,eI hg (.inr (.inr (.inr (.inl ⟨g,ps,r,hp,hc,by rw[hd,hv];exact h⟩))))⟩
theorem Jw {g:FuncId}{es Pv:List (List AC)}{t k d:Nat}{ps:List PV}(hd:o.dst=some d)(hN:Nat.blt d N=true)(hg:fR ds T o.guard=some true)(hp:eL ti (look T) o.op=some (g,es,some t,ps))(hL:L[t]?=some (.spare es.length k))(hc:GM P g es k ps Pv)
  (h:aI P ti N ds K rest ((d,.one (.own Pv L.length))::T) (L.set t .dead++[.spare Pv.length k])):aI P ti N ds K (o::rest) T L :=
 ⟨fE hd hN,eI hg (.inr (.inr (.inr (.inr (.inl ⟨g,es,t,k,ps,Pv,hp,hL,hc,by rw[hd];exact h⟩)))))⟩
theorem cI (σ:List Nat){g:FuncId}{L0 L1 L':List Ob}{args TZ:List AV}{r r':AV}{d:Nat}(hd:o.dst=some d)(hN:Nat.blt d N=true)(hg:fR ds T o.guard=some true)(hp:dd ti (look T) o.op=some (g,TZ))(hc:Run P g L0 args L1 r)(ha:TZ=args.map (AV.ren σ))(hF:fS σ L0 args L)
  (hr:r.ren (b6 σ L.length L1.length)=r') (hL:joinL σ L L1=L') (h:aI P ti N ds K rest ((d,r')::T) L'):aI P ti N ds K (o::rest) T L :=
 ⟨fE hd hN,eI hg (.inr (.inr (.inr (.inr (.inr (.inr (.inl ⟨σ,g,L0,args,L1,r,by rw[hp,ha],hF,hc,by rw[hd,hr,hL];exact h⟩)))))))⟩
theorem b7 {v:AV}{L':List Ob}{d:Nat}(hd:o.dst=some d)(hN:Nat.blt d N=true)(hg:fR ds T o.guard=some true)(hl:bS ti o.op=true)(YU:ti.soft=false)(hs:pZ P (look T) L o.op v L')(h:aI P ti N ds K rest ((d,v)::T) L'):aI P ti N ds K (o::rest) T L :=
 ⟨fE hd hN,eI hg (.inr (.inr (.inr (.inr (.inr (.inr (.inr ⟨v,L',⟨hl,fun e=>by rw[YU]at e;cases e⟩,hs,by rw[hd];exact h⟩)))))))⟩
theorem JA {v:AV}{L':List Ob}(hd:o.dst=none)(hg:fR ds T o.guard=some true)(hl:bS ti o.op=true)(YU:ti.soft=false)(hs:pZ P (look T) L o.op v L')(h:aI P ti N ds K rest T L'):aI P ti N ds K (o::rest) T L :=
 ⟨by rw[hd];trivial,eI hg (.inr (.inr (.inr (.inr (.inr (.inr (.inr ⟨v,L',⟨hl,fun e=>by rw[YU]at e;cases e⟩,hs,by rw[hd];exact h⟩)))))))⟩
theorem dI {v:AV}{d:Nat}(hd:o.dst=some d)(hN:Nat.blt d N=true)(hg:fR ds T o.guard=some true)(hl:bS ti o.op=true)(hk:sk o.op=4)(hs:pZ P (look T) L o.op v L)(h:aI P ti N ds K rest ((d,v)::T) L):aI P ti N ds K (o::rest) T L :=
 ⟨fE hd hN,eI hg (.inr (.inr (.inr (.inr (.inr (.inr (.inr ⟨v,L,⟨hl,fun _ => .inr ⟨hk,rfl⟩⟩,hs,by rw[hd];exact h⟩)))))))⟩
theorem acl {v:AV}{L':List Ob}{d:Nat}(hd:o.dst=some d)(hN:Nat.blt d N=true)(hg:fR ds T o.guard=some true)(hl:bS ti o.op=true)(hk:sk o.op=0)(hs:pZ P (look T) L o.op v L')(h:aI P ti N ds K rest ((d,v)::T) L'):aI P ti N ds K (o::rest) T L :=
 ⟨fE hd hN,eI hg (.inr (.inr (.inr (.inr (.inr (.inr (.inr ⟨v,L',⟨hl,fun _ => .inl hk⟩,hs,by rw[hd];exact h⟩)))))))⟩
theorem st_skip {d:Nat}(hd:o.dst=some d)(hN:Nat.blt d N=true)(hg:fR ds T o.guard=some false)(h:aI P ti N ds K rest ((d,.undef)::T) L):aI P ti N ds K (o::rest) T L :=
 ⟨fE hd hN,DF hg (by rw[hd];exact h)⟩
theorem sk0_ (hd:o.dst=none)(hg:fR ds T o.guard=some false)(h:aI P ti N ds K rest T L):aI P ti N ds K (o::rest) T L :=
 ⟨by rw[hd];trivial,DF hg (by rw[hd];exact h)⟩
theorem st_if {b:Bool}(_:gdb ds T o.guard=some b)(h1:b=true->aI P ti N ds K (o::rest) T L)(h2:b=false->aI P ti N ds K (o::rest) T L):aI P ti N ds K (o::rest) T L:=by
 cases hb:b
 ·exact h2 hb
 ·exact h1 hb
end
theorem fF {β:Type}{l:List (Nat×β)}{Pr:Nat->β->Prop}(h:∀ p∈l,Pr p.1 p.2):∀ t v,l.lookup t=some v->Pr t v:=by
 intro t v hv
 induction l with
 |nil=>cases hv
 |cons p l ih =>
  obtain⟨k,x⟩:=p;rw[List.lookup_cons]at hv;by_cases e:t=k
  ·subst e;simp at hv;subst hv;exact h (t,x) m5
  ·have:(t==k)=false:=by simpa using e
   rw[this]at hv;exact ih (fun p hp=>h p (aqx _ hp)) hv
theorem Bi {α:Type}{l:List α}{f:α->Bool}{Pr:α->Prop}(h:l.all f=true)(hf:∀ x,f x=true->Pr x):∀ x∈l,Pr x:=fun x hx=>hf x (aqY.1 h x hx)
def TI.of (sz:List (Nat×Nat))(ag:List (Nat×Bool))(el:List (Nat×Nat))(fl:List (Nat×List (Nat×Nat)))(ze:List (Nat×AV))(bt:List (Nat×Nat))(ki:List (Nat×TypeDesc))(st zo:List Nat)(eq:List (Nat×List Sc))(ow:List Nat):TI where
 size:=fun t=>sz.lookup t
 agg:=fun t=>ag.lookup t
 elem:=fun t=>el.lookup t
 field:=fun s i=>match fl.lookup s with
  |some fs=>fs[i]?
  |none=>none
 zero:=fun t=>ze.lookup t
 bytes:=fun t=>bt.lookup t
 kind:=fun t=>ki.lookup t
 struct:=fun t=>st.contains t
 zok:=fun t=>zo.contains t
 eqs:=fun t=>eq.lookup t
 owns:=fun f=>ow.contains f
def amg (P:Program)(t:TypeId):Bool :=
 match P.info? t with
 |some i=>match i.zero with
  |some z=>z.cells.size==i.size
  |none=>false
 |none=>false
theorem alW {P:Program}{t:TypeId}(h:amg P t=true):∀ k,eR P t=some k->acL P t k:=by
 intro k hk;unfold amg at h;unfold eR at hk;split at h
 ·rename_i i hi
  split at h
  ·rename_i z hz
   rw[hi]at hk;simp at hk;simp at h;exact⟨i,z,hi,hz,hk,by rw[h,hk]⟩
  ·cases h
 ·cases h
theorem TI.of_ok {P:Program}{sz:List (Nat×Nat)}{ag:List (Nat×Bool)}{el:List (Nat×Nat)}{fl:List (Nat×List (Nat×Nat))}{ze:List (Nat×AV)}{bt:List (Nat×Nat)}{ki:List (Nat×TypeDesc)}{st zo:List Nat}{eq:List (Nat×List Sc)}{ow:List Nat}
  (h1:(sz.all fun p=>eR P p.1==some p.2)=true) (h2:(ag.all fun p=>Ni P p.1==some p.2)=true) (h3:(el.all fun p=>nO P p.1==some p.2)=true)
  (h4:(fl.all fun p=>(List.range p.2.length).all fun i=>xA P p.1 i==p.2[i]?)=true) (h5:∀ p∈ze,zeroOf P p.1=some p.2) (h6:(bt.all fun p=>kf P p.1==some p.2)=true) (h7:∀ p∈ki,P.underlying p.1=some p.2)
  (h8:(st.all fun t=>Ac P t)=true) (h9:(zo.all fun t=>amg P t)=true)
  (YZ:∀ p∈eq,P.eqGuardType P.depth p.1=false /\ ∀ xs ys,eF p.2 xs=true->eF p.2 ys=true->OQ P p.1 xs ys):TIok P (TI.of sz ag el fl ze bt ki st zo eq ow):=by
 refine⟨fF (Bi h1 fun p hp=>by simpa using hp),fF (Bi h2 fun p hp=>by simpa using hp),fF (Bi h3 fun p hp=>by simpa using hp),fun s i r h=>?_,fF h5,fF (Bi h6 fun p hp=>by simpa using hp),fF h7,fun t h=>?_,fun t h=>?_,fF YZ⟩
 ·simp only[TI.of]at h
  split at h
  ·rename_i fs hf
   have:=fF (Pr:=fun s fs=>((List.range fs.length).all fun i=>xA P s i==fs[i]?)=true) (Bi h4 fun p hp=>hp) s fs hf;have hi:i<fs.length:=(ap_.1 h).1;have h2:=aqY.1 this i (by simpa using hi);rw[<- h];simpa using h2
  ·cases h
 ·exact aqY.1 h8 t (by simpa[TI.of]using h)
 ·exact alW (aqY.1 h9 t (by simpa[TI.of]using h))
section
variable {P:Program} {ti:TI} {N n0:Nat} {Q:AX->Tm->List Ob->Prop} {T:Tm} {L:List Ob}
theorem bg {rs:List ResultVar}{ps:List PV}{φ:Prop}{r:CV}(h:q8 ti T L rs=some (ps,φ))(hφ:φ)(e:aiV ps=r):Res ti rs T L r:=by
 unfold Res;rw[h];exact⟨hφ,e⟩
theorem aZ {rs:List ResultVar}{r:CV}(h:Res ti rs T L r):(AX.ret=AX.normal\/AX.ret=AX.ret)/\Res ti rs T L r:=⟨.inr rfl,h⟩
end
def zZ (T':Tm):Tm->Prop
 |[]=>True
 |(t,x)::T=>T'.lookup t=some x/\zZ T' T
def gk (n:Nat):Tm->Prop
 |[]=>True
 |(_,x)::T=>x.below n/\gk n T
def mT (n:Nat):List Ob->Prop
 |[]=>True
 |x::L=>x.below n/\mT n L
theorem fm_ {T' T:Tm}{L' L:List Ob}(h1:zZ T' T)(G:List Ob)(h2:L'=L++G)(h3:gk L.length T)(h4:mT L.length L):Fits T' L' T L:=by
 refine⟨fun p hp=>?_,⟨G,h2⟩,fun p hp=>?_,fun x hx=>?_⟩
 ·clear h3 h2
  induction T with
  |nil=>cases hp
  |cons q T ih =>
   rcases aqp.1 hp with rfl|hp
   ·exact h1.1
   ·exact ih h1.2 hp
 ·clear h1 h2
  induction T with
  |nil=>cases hp
  |cons q T ih =>
   rcases aqp.1 hp with rfl|hp
   ·exact h3.1
   ·exact ih h3.2 hp
 ·clear h1 h2 h3
  generalize hn:L.length=n at h4;clear hn
  induction L with
  |nil=>cases hx
  |cons q L ih =>
   rcases aqp.1 hx with rfl|hx
   ·exact h4.1
   ·exact ih hx h4.2
theorem aT {k:IntKind}{a b:Int}(h:a=b):some (AV.one (.c (.int k a)))=some (AV.one (.c (.int k b))):=by rw[h]
theorem lU {a b:List (List AC)}{t:Nat}(h:a=b):some (AV.one (.own a t))=some (AV.one (.own b t)):=by rw[h]
theorem dj {x:Int}(h : -9223372036854775808<=x/\x<=9223372036854775807):IntKind.i64.wrap x=x:=IntWalk.i64_in x m0
theorem a7 {x y:Int}(h:x=y)(hb : -9223372036854775808<=y/\y<=9223372036854775807):IntKind.i64.wrap x=y:=by rw[h];exact dj hb
theorem bq {α:Type}{l:List α}{f:α->List AC}{i:Nat}{x:α}(h:l[i]?=some x):(l.map f)[((i:Nat):Int).toNat]?=some (f x):=by
 rw[Int.toNat_natCast,aqw,h];rfl
theorem gol_ {α:Type}{l:List α}{i:Nat}(h:i<l.length):∃ x,l[i]?=some x:=⟨l[i],aqh h⟩
theorem bO {α:Type}{l:List α}{i:Nat}{x:α}(h:l[i]?=some x):l.take (i+1)=l.take i++[x]:=by
 obtain⟨hi,rfl⟩:=ap_.1 h;rw[List.take_succ_eq_append_getElem hi]
section
variable {P:Program} {ti:TI} {N n0:Nat} {ds:List (Option Tmp)} {K:Tm->List Ob->Prop} {o:Oper} {rest:List Oper} {T:Tm} {L:List Ob}
theorem ajr {ρ:Operand->Option AV}{t:TypeId}{x ix:Operand}{vx:AV}{es:List (List AC)}{k0:IntKind}{i:Int}{k:Nat}{e:List AC}(hx:ρ x=some vx)(hl:dx vx=some es)(hi:ρ ix=some (.one (.c (.int k0 i))))(hk:(ti.elem t).bind ti.size=some k)(he:es[i.toNat]?=some e) :
  pop ti ρ L (.indexAddr t x ix)=some (.one (.c (.ref e)),0<=i/\e.length=k):=by
 simp only[pop,hx,hi];split
 ·rename_i h1 h2
  injection h1 with h1;subst h1;simp[dx]at hl
 ·rename_i h1 h2
  injection h1 with h1;injection h2 with h2;subst h1 h2
  simp only[eJ,hl,hk,he]
 ·rename_i h;exact(h _ _ rfl rfl).elim
theorem bB {t:TypeId}{x ix:Operand}{vx:AV}{es:List (List AC)}{k0:IntKind}{i:Int}{k d:Nat}{e:List AC}(hd:o.dst=some d)(hN:Nat.blt d N=true)(hg:fR ds T o.guard=some true)(ho:o.op = .indexAddr t x ix)(hx:look T x=some vx)(hl:dx vx=some es)(hi:look T ix=some (.one (.c (.int k0 i))))
  (hk:(ti.elem t).bind ti.size=some k) (he:es[i.toNat]?=some e) (hφ:0<=i/\e.length=k) (h:aI P ti N ds K rest ((d,.one (.c (.ref e)))::T) L):aI P ti N ds K (o::rest) T L :=
 st_pop hd hN hg (by rw[ho];exact ajr hx hl hi hk he) hφ h
theorem ajN {ρ:Operand->Option AV}{t:TypeId}{p:Operand}{id OY i off k:Nat}{es:List (List SV)}{e:List SV}{x:SV}(hp:ρ p=some (.one (.ep id OY i off)))(hL:L[id]?=some (.row OY es k))(ha:ti.agg t=some false)(he:es[i]?=some e)(hx:e[off]?=some x) :
  pop ti ρ L (.load t p)=some (.one x,OY=OY):=by
 simp only[pop,hp,ap9,fx,hL,he,ha,hx]
theorem kR {t:TypeId}{p:Operand}{id OY i off k d:Nat}{es:List (List SV)}{e:List SV}{x:SV}(hd:o.dst=some d)(hN:Nat.blt d N=true)(hg:fR ds T o.guard=some true)(ho:o.op = .load t p)(hp:look T p=some (.one (.ep id OY i off)))(hL:L[id]?=some (.row OY es k))(ha:ti.agg t=some false)(he:es[i]?=some e)(hx:e[off]?=some x)
  (h:aI P ti N ds K rest ((d,.one x)::T) L):aI P ti N ds K (o::rest) T L :=
 st_pop hd hN hg (by rw[ho];exact ajN hp hL ha he hx) rfl h
theorem agQ {ρ:Operand->Option AV}{t:TypeId}{p:Operand}{id OY i off k n:Nat}{es:List (List SV)}{e:List SV}(hp:ρ p=some (.one (.ep id OY i off)))(hL:L[id]?=some (.row OY es k))(ha:ti.agg t=some true)(hn:ti.size t=some n)(he:es[i]?=some e) :
  pop ti ρ L (.load t p)=some (.agg ((e.drop off).take n),OY=OY/\off+n<=e.length):=by
 simp only[pop,hp,ap9,fx,hL,he,ha,hn]
theorem I1 {t:TypeId}{p:Operand}{id OY i off k d n:Nat}{es:List (List SV)}{e xs:List SV}(hd:o.dst=some d)(hN:Nat.blt d N=true)(hg:fR ds T o.guard=some true)(ho:o.op = .load t p)(hp:look T p=some (.one (.ep id OY i off)))(hL:L[id]?=some (.row OY es k))(ha:ti.agg t=some true)(hn:ti.size t=some n)(he:es[i]?=some e)(hx:(e.drop off).take n=xs)(hle:off+n<=e.length)
  (h:aI P ti N ds K rest ((d,.agg xs)::T) L):aI P ti N ds K (o::rest) T L :=
 st_pop hd hN hg (φ:=OY=OY/\off+n<=e.length) (by rw[ho];exact agQ hp hL ha hn he) ⟨rfl,hle⟩ (by rw[hx];exact h)
theorem ajK {ρ:Operand->Option AV}{t:TypeId}{p q:Operand}{id OY i off k:Nat}{es:List (List SV)}{e xs:List SV}(hp:ρ p=some (.one (.ep id OY i off)))(hq:(ρ q).bind AV.cells=some xs)(hL:L[id]?=some (.row OY es k))(he:es[i]?=some e) :
  zM ti ρ L (.store t p q)=some (.undef,L.set id (.row OY (es.set i (splice e off xs)) k),OY=OY/\off+xs.length<=e.length/\ti.size t=some xs.length):=by
 simp only[zM,hp,hq,hL,he]
theorem m_ {t:TypeId}{p q:Operand}{id OY i off k:Nat}{es:List (List SV)}{e xs:List SV}{L':List Ob}(hd:o.dst=none)(hg:fR ds T o.guard=some true)(ho:o.op = .store t p q)(hp:look T p=some (.one (.ep id OY i off)))(hq:(look T q).bind AV.cells=some xs)(hL:L[id]?=some (.row OY es k))(he:es[i]?=some e)
  (hφ:off+xs.length<=e.length/\ti.size t=some xs.length) (Wa:L.set id (.row OY (es.set i (splice e off xs)) k)=L') (h:aI P ti N ds K rest T L'):aI P ti N ds K (o::rest) T L :=
 sS_ hd hg (φ:=OY=OY/\off+xs.length<=e.length/\ti.size t=some xs.length) (by rw[ho];exact ajK hp hq hL he) ⟨rfl,hφ⟩ (by rw[Wa];exact h)
theorem adf {Q:AX->Tm->List Ob->Prop}{c:Code}(t:Nat){x:SV}{y:AC}(ht:T.lookup t=some (.one x))(hy:x.norm=some y)(h:Aw P N n0 c Q ((t,.one (.c y))::T) L):Aw P N n0 c Q T L:=by
 intro hn B R γ w a hi hT;refine h hn B R γ w a hi ⟨hT.size,hT.defers,fun t' z hz=>?_⟩;rw[List.lookup_cons]at hz;by_cases e:t'=t
 ·subst e
  simp at hz;subst hz;obtain⟨u,h1,h2⟩:=hT.slot t' _ ht;exact⟨u,h1,SV.norm_rep h2 hy⟩
 ·have:(t'==t)=false:=by simpa using e
  rw[this]at hz;exact hT.slot t' z hz
end
open Go.RowKit Go.MapKept
def tO (s:ByteArray):List (AC×AV)->Option Nat
 |[]=>none
 |p::r=>match p.1 with
  |.str t=>if s=t then some 0 else(tO s r).map (· +1)
  |_=>(tO s r).map (· +1)
def strKeys (P5:List (AC×AV)):Prop :=∀ p∈P5,∃ t,p.1 = .str t
def nM (P5:List (AC×AV))(s:ByteArray)(z:AV):AV :=
 match tO s P5 with
 |some i=>match P5[i]? with
  |some p=>p.2
  |none=>z
 |none=>z
def FX (P5:List (AC×AV))(s:ByteArray)(v:AV):List (AC×AV) :=
 match tO s P5 with
 |some i=>P5.set i (.str s,v)
 |none=>P5++[(.str s,v)]
section
variable {P:Program} {ti:TI} {B:Nat->Prop} {N:Nat} {R:PH} {γ:List Gh} {L:List Ob} {w:World} {ρ:Operand->Option AV}
theorem tA {s:ByteArray}:∀ {P5:List (AC×AV)} {i:Nat},tO s P5=some i ->∃ p,P5[i]?=some p/\p.1 = .str s
 |p::r,i,h=>by
  unfold tO at h;split at h
  ·rename_i t ht
   split at h
   ·rename_i e;injection h with h;subst h e;exact⟨p,rfl,ht⟩
   ·cases hr:tO s r with
    |none=>simp[hr]at h
    |some j=>simp[hr]at h;subst h;obtain⟨q,h1,h2⟩:=tA hr;exact⟨q,by simpa using h1,h2⟩
  ·cases hr:tO s r with
   |none=>simp[hr]at h
   |some j=>simp[hr]at h;subst h;obtain⟨q,h1,h2⟩:=tA hr;exact⟨q,by simpa using h1,h2⟩
theorem nq {s:ByteArray}:∀ (l:List MapEntry) (P5:List (AC×AV)) (i0:Nat),l.length=P5.length->strKeys P5->(∀ (j:Nat) e p,l[j]?=some e->P5[j]?=some p->bD R e.key p.1) ->
  (tO s P5=none/\Instr.findNow .string (.string s) l i0=some none)\/(∃ i e,tO s P5=some i/\l[i]?=some e/\e.key = .string s/\Instr.findNow .string (.string s) l i0=some (some (i0+i,e.val)))
 |[],[],i0,_,_,_ => .inl ⟨rfl,rfl⟩
 |e::l,p::P5,i0,hl,hs,hr=>by
  obtain⟨t,ht⟩:=hs p m5;have hk:=hr 0 e p rfl rfl;rw[ht]at hk;generalize Uo:e.key=ek at hk
  cases hk;unfold tO Instr.findNow;simp only[ht,Uo,Instr.sameNow];by_cases e1:s=t
  ·subst e1
   refine .inr ⟨0,e,m5,rfl,Uo,?_⟩;have:(s==s)=true:=(bytes_beq s s).2 rfl;simp[this]
  ·have:(s==t)=false:=by
    cases hb:(s==t)with
    |false=>rfl
    |true=>exact absurd ((bytes_beq s t).1 hb) e1
   simp only[this,e1,if_false];rcases nq l P5 (i0+1) (by simpa using hl) (fun q hq=>hs q (aqx _ hq)) (fun j e' q h1 h2=>hr (j+1) e' q (by simpa using h1) (by simpa using h2))with⟨h1,h2⟩|⟨i,e',h1,h2,h3,h4⟩
   ·exact .inl ⟨by simp[h1],h2⟩
   ·exact .inr ⟨i+1,e',by simp[h1],by simpa using h2,h3,by rw[h4];simp;omega⟩
theorem zC {t:TypeId}:pZ P ρ L (.makeMap t none) (.one (.mp L.length)) (L++[.map []]):=by
 intro B R γ w ev o ho hi hρ Q1;obtain⟨dst,op,type,pos,after,guard⟩:=o;simp only at ho;subst ho;refine⟨w.alloc (.map #[] 0),R,γ++[.box w.heap.size],.inl ⟨.map (some w.heap.size),?_,w.heap.size,rfl,?_⟩,?_,⟨Kept.alloc hi.bsz _,PH.sub_refl _,fun _ _ _=>rfl⟩,Mv.push _ _ hi.len⟩
 ·simp[execOp,Instr.makeMap]
 ·rw[aqf (by rw[hi.len];omega),hi.len];simp
 ·exact hi.push _ _ _ rfl ⟨⟨#[],dt w _,rfl,fun j e p he _=>by simp at he⟩,fun o=>hi.none_at o⟩
theorem Mv.turnMap {id:Nat}{P5 kvs':List (AC×AV)}(hL:L[id]?=some (.map P5)):Mv R R γ γ L (L.set id (.map kvs')):=by
 have O0:id<L.length:=(ap_.1 hL).1;refine⟨PH.sub_refl _,m5,fun t n k _ h=>⟨n,?_,aqo _,fun _=>rfl⟩,fun t OY es k _ h=>⟨OY,es,?_,aqo _,fun _=>⟨rfl,rfl⟩⟩,fun _ _ h=>h⟩
 ·by_cases e:t=id
  ·subst e;rw[aqs O0]at h;cases h
  ·rw[aqt (Ne.symm e)]at h;exact h
 ·by_cases e:t=id
  ·subst e;rw[aqs O0]at h;cases h
  ·rw[aqt (Ne.symm e)]at h;exact h
theorem CG (hi:Inv B R γ L w){id b:Nat}{P5:List (AC×AV)}(hL:L[id]?=some (.map P5))(hg:γ[id]?=some (.box b)) :
  (∃ es,w.heap[b]?=some (.map es es.size)/\es.size=P5.length /\ ∀ (j:Nat) e p,es[j]?=some e->P5[j]?=some p->e.born=j/\bD R e.key p.1/\p.2.rep R γ L e.val):=(hi.obj id _ _ hL hg).1
theorem rE (hi:Inv B R γ L w){id b:Nat}{P5 kvs':List (AC×AV)}{es:Array MapEntry}(hL:L[id]?=some (.map P5))(hg:γ[id]?=some (.box b))(hb:w.heap[b]?=some (.map es es.size))(Pv:Array MapEntry)(hs:Pv.size=kvs'.length)
  (h:∀ (j:Nat) e p,Pv[j]?=some e->kvs'[j]?=some p->e.born=j/\bD R e.key p.1/\p.2.rep R γ L e.val) :
  Inv B R γ (L.set id (.map kvs')) { w with heap:=w.heap.setIfInBounds b (.map Pv Pv.size) } /\ Ext B R R w { w with heap:=w.heap.setIfInBounds b (.map Pv Pv.size) } :=by
 have hh:=Go.MapKept.heap_set (o' := .map Pv Pv.size) hb;have hm:=Mv.turnMap (R:=R) (γ:=γ) (kvs':=kvs') hL;have SC:=(hi.new id _ b hg rfl).1;have hR:∀ o,R b o=none:=(hi.obj id _ _ hL hg).2;refine⟨hi.turn hL hg rfl hm (fun b' Pn=>hh.2 b' Pn) m5 (fun _ _ _=>rfl) (fun o u e=>by rw[hR o]at e;cases e) ⟨⟨Pv,hh.1,hs,fun j e p he hp=>?_⟩,hR⟩,⟨⟨rfl,rfl,rfl,m5,fun b' Qa=>hh.2 b' (fun e=>SC (by rw[<- e];exact Qa))⟩,PH.sub_refl _,fun _ _ _=>rfl⟩⟩;obtain⟨a1,a2,a3⟩:=h j e p he hp;exact⟨a1,a2,AV.mv hm a3⟩
theorem qN {et:TypeId}{z:AV}(hz:zeroOf P et=some z):∃ u,(zeroValue et).run P w = .ok u w/\z.rep R γ L u:=by
 unfold zeroOf at hz
 cases PS:P.info? et with
 |none=>simp[PS]at hz
 |some inf =>
  simp only[PS,ap9]at hz
  cases Rz:inf.zero with
  |none=>simp[Rz]at hz
  |some u =>
   simp only[Rz,ap9]at hz;exact⟨u,by simp[zeroValue,typeInfo,program,Sem.run,PS,Rz],AV.ofVal_rep hz⟩
theorem oN {v:AV}{p:PV}{u:Value}(h:v.norm=some p)(hu:v.rep R γ L u):p.rep R u:=AV.norm_rep hu h
theorem ajS {p q:PV}{u v:Value}(hp:p.rep R u)(hq:q.rep R v):(AV.tup [p,q]).rep R γ L (.tuple #[u,v]):=by
 refine⟨#[u,v],rfl,rfl,fun j x y hx hy=>?_⟩
 match j,hx,hy with
 |0,hx,hy=>simp at hx hy;subst hx hy;exact hp
 |1,hx,hy=>simp at hx hy;subst hx hy;exact hq
 |j+2,hx,hy=>simp at hx
theorem mQ {t kt et:TypeId}{x k:Operand}{s:ByteArray}{id:Nat}{P5:List (AC×AV)}{z:AV}{p:PV}(hx:ρ x=some (.one (.mp id)))(hk:ρ k=some (.one (.c (.str s))))(hL:L[id]?=some (.map P5))(Vu:strKeys P5)
  (ht:P.underlying t=some (.map kt et)) (UJ:P.underlying kt=some .string) (hz:zeroOf P et=some z) (hp:(nM P5 s z).norm=some p):pZ P ρ L (.lookup t x k true) (.tup [p,.one (.bool (tO s P5).isSome)]) L:=by
 intro B R γ w ev o ho hi hρ Q1;obtain⟨dst,op,type,pos,after,guard⟩:=o;simp only at ho;subst ho;obtain⟨b,VP,hg⟩:=(hρ _ (by simp[Op.operands,Call.operands]) _ hx);have Y0:=(hρ _ (by simp[Op.operands,Call.operands]) _ hk);generalize W0:ev k=kv at Y0
 cases Y0;obtain⟨es,hb,PN,S8⟩:=CG hi hL hg;have Vv:=fun e=>Go.MapKept.run_checkKey (P:=P) (w:=w) (k := .string s) UJ trivial e 9999
 obtain⟨zu,hzr,Y1⟩:=qN (P:=P) (w:=w) (R:=R) (γ:=γ) (L:=L) hz;rcases nq (R:=R) (s:=s) es.toList P5 0 (by simpa using PN) Vu (fun j e p he hp=>(S8 j e p (by simpa using he) hp).2.1)with⟨h1,h2⟩|⟨i,e,h1,h2,h3,h4⟩
 ·refine⟨w,R,γ,.inl ⟨.tuple #[zu,.bool false],?_,?_⟩,hi,Ext.refl _ _ _,Mv.refl⟩
  ·simp[execOp,Instr.lookup,VP,W0,run_underlying ht,Go.MapKept.run_getObj_map hb,Vv,Go.MapKept.run_findKey UJ h2,hzr,Result.andThen]
  ·unfold nM at hp;rw[h1]at hp ⊢;exact ajS (oN hp Y1) (.bool false)
 ·obtain⟨q,hq,SX⟩:=tA h1
  refine⟨w,R,γ,.inl ⟨.tuple #[e.val,.bool true],?_,?_⟩,hi,Ext.refl _ _ _,Mv.refl⟩
  ·simp[execOp,Instr.lookup,VP,W0,run_underlying ht,Go.MapKept.run_getObj_map hb,Vv,Go.MapKept.run_findKey UJ h4,Result.andThen]
  ·unfold nM at hp;rw[h1]at hp ⊢;simp only[hq]at hp;exact ajS (oN hp (S8 i e q (by simpa using h2) hq).2.2) (.bool true)
theorem uF {es:Array MapEntry}{i j:Nat}{f:MapEntry->MapEntry}{e:MapEntry}(h:(es.modify i f)[j]?=some e):∃ e0,es[j]?=some e0/\e=if j=i then f e0 else e0:=by
 rw[Array.getElem?_modify]at h;split at h
 ·rename_i e1;subst e1
  cases h0:es[i]? with
  |none=>simp[h0]at h
  |some e0=>simp[h0]at h;exact⟨e0,rfl,by simp[h]⟩
 ·rename_i Pn;exact⟨e,h,by rw[if_neg (Ne.symm Pn)]⟩
theorem KO {es:Array MapEntry}{P5:List (AC×AV)}(PN:es.size=P5.length)(S8:∀ (j:Nat) e p,es[j]?=some e->P5[j]?=some p->e.born=j/\bD R e.key p.1/\p.2.rep R γ L e.val){key val:Value}{kx:AC}{v:AV}(hk:bD R key kx)(hv:v.rep R γ L val) :
  ∀ (j:Nat) e p,(es.push { key,val,born:=es.size })[j]?=some e->(P5++[(kx,v)])[j]?=some p->e.born=j/\bD R e.key p.1/\p.2.rep R γ L e.val:=by
 intro j e p he hp;by_cases hj:j<es.size
 ·rw[Array.getElem?_push_lt hj]at he
  rw[aqm m0]at hp;exact S8 j e p (by rw[aqy hj];exact he) hp
 ·have V_:j=es.size:=by
   have:=(aqT.1 he).1;simp at this;omega
  subst V_;rw[Array.getElem?_push_size]at he;rw[aqf m0,PN]at hp;simp at he hp;subst he hp;exact⟨rfl,hk,hv⟩
theorem tR {t kt et:TypeId}{x k y:Operand}{s:ByteArray}{id:Nat}{P5:List (AC×AV)}{v:AV}(hx:ρ x=some (.one (.mp id)))(hk:ρ k=some (.one (.c (.str s))))(hy:ρ y=some v)(hL:L[id]?=some (.map P5))(Vu:strKeys P5)
  (ht:P.underlying t=some (.map kt et)) (UJ:P.underlying kt=some .string):pZ P ρ L (.mapUpdate t x k y) .undef (L.set id (.map (FX P5 s v))):=by
 intro B R γ w ev o ho hi hρ Q1;obtain⟨dst,op,type,pos,after,guard⟩:=o;simp only at ho;subst ho;obtain⟨b,VP,hg⟩:=(hρ _ (by simp[Op.operands,Call.operands]) _ hx);have Y0:=(hρ _ (by simp[Op.operands,Call.operands]) _ hk);have hyv:=(hρ _ (by simp[Op.operands,Call.operands]) _ hy);generalize W0:ev k=kv at Y0;generalize hye:ev y=yv at hyv
 cases Y0;obtain⟨es,hb,PN,S8⟩:=CG hi hL hg;have Vv:=fun e=>Go.MapKept.run_checkKey (P:=P) (w:=w) (k := .string s) UJ trivial e 9999
 rcases nq (R:=R) (s:=s) es.toList P5 0 (by simpa using PN) Vu (fun j e p he hp=>(S8 j e p (by simpa using he) hp).2.1)with⟨h1,h2⟩|⟨i,e,h1,h2,h3,h4⟩
 ·obtain⟨i1,i2⟩:=rE hi (kvs':=P5++[(.str s,v)]) hL hg hb (es.push { key := .string s,val:=yv,born:=es.size }) (by simp[PN]) (KO PN S8 (.str s) hyv)
  refine⟨_,R,γ,.inr ⟨?_,rfl⟩,?_,i2,Mv.turnMap hL⟩
  ·simp[execOp,Instr.mapUpdate,VP,W0,hye,run_underlying ht,Go.MapKept.run_getObj_map hb,Vv,Go.MapKept.run_findKey UJ h2,Go.MapKept.run_setObj_map _ hb,Result.andThen]
  ·unfold FX;rw[h1];exact i1
 ·have hj:es[i]?=some e:=by simpa using h2
  obtain⟨p,hp,UY⟩:=tA h1;obtain⟨i1,i2⟩:=rE hi (kvs':=P5.set i (.str s,v)) hL hg hb (es.modify i fun e =>{ e with key := .string s,val:=yv }) (by simp[PN]) (fun j e' p' QO Yn=>by
   obtain⟨e0,h5,h6⟩:=uF QO;by_cases XA:j=i
   ·subst XA
    rw[aqs (ap_.1 hp).1]at Yn;injection Yn with Yn;subst Yn
    rw[if_pos rfl]at h6;subst h6;exact⟨(S8 j e0 p h5 hp).1,.str s,hyv⟩
   ·rw[aqt (Ne.symm XA)]at Yn
    rw[if_neg XA]at h6;subst h6;exact S8 j _ p' h5 Yn)
  rw[Array.size_modify]at i1 i2;refine⟨_,R,γ,.inr ⟨?_,rfl⟩,?_,i2,Mv.turnMap hL⟩
  ·simp[execOp,Instr.mapUpdate,VP,W0,hye,run_underlying ht,Go.MapKept.run_getObj_map hb,Vv,Go.MapKept.run_findKey UJ h4,hj,h3,run_keyThatStays (d := .string) (k := .string s) trivial,Go.MapKept.run_setObj_map _ hb,Result.andThen]
  ·unfold FX;rw[h1];exact i1
def capOf:AV->Option Cap
 |.one (.c x)=>some (.c x)
 |.one (.ptr id off)=>some (.ptr id off)
 |v=>match v.norm with
  |some (.one x)=>some (.c x)
  |_=>none
def v6 (ρ:Operand->Option AV):List Operand->Option (List Cap)
 |[]=>some []
 |x::xs=>match (ρ x).bind capOf,v6 ρ xs with
  |some c,some cs=>some (c::cs)
  |_,_=>none
theorem afJ {v:AV}{c:Cap}{u:Value}(h:capOf v=some c)(hu:v.rep R γ L u):c.rep R γ u:=by
 unfold capOf at h;split at h
 ·injection h with h;subst h;exact hu
 ·injection h with h;subst h;exact hu
 ·split at h
  ·rename_i x hx;injection h with h;subst h;exact oN hx hu
  ·cases h
theorem yT {ev:Operand->Value}:∀ {xs:List Operand} {cs:List Cap},(∀ x,x∈xs ->∀ v,ρ x=some v->v.rep R γ L (ev x))->v6 ρ xs=some cs->xs.length=cs.length /\ ∀ (j:Nat) x c,xs[j]?=some x->cs[j]?=some c->c.rep R γ (ev x)
 |[],cs,_,h=>by injection h with h;subst h;exact⟨rfl,fun j x c h=>by simp at h⟩
 |x::xs,cs,hρ,h=>by
  unfold v6 at h;split at h
  ·rename_i c Ur hc S4
   injection h with h;subst h
   obtain⟨h1,h2⟩:=yT (fun y hy=>hρ y (aqx _ hy)) S4;refine⟨by simp[h1],fun j y d hy hd=>?_⟩
   cases j with
   |zero =>
    simp at hy hd;subst hy hd
    cases hx:ρ x with
    |none=>simp[hx]at hc
    |some v=>simp[hx]at hc;exact afJ hc (hρ x m5 _ hx)
   |succ j=>exact h2 j y d (by simpa using hy) (by simpa using hd)
  ·cases h
theorem pc {f:FuncId}{captured:Array Operand}{caps:List Cap}(hc:v6 ρ captured.toList=some caps):pZ P ρ L (.makeFunc (.func f) #[] captured) (.one (.clo f caps)) L:=by
 intro B R γ w ev o ho hi hρ Q1;obtain⟨dst,op,type,pos,after,guard⟩:=o;simp only at ho;subst ho;obtain⟨h1,h2⟩:=yT (fun y hy=>hρ y (by simp[Op.operands];simpa using hy)) hc;refine⟨w,R,γ,.inl ⟨.func (.func f) #[] (captured.map ev),by simp[execOp,Instr.makeFunc],captured.map ev,rfl,by simpa using h1,fun j u x hu hx=>?_⟩,hi,Ext.refl _ _ _,Mv.refl⟩;rw[Array.getElem?_map]at hu
 cases hq:captured[j]? with
 |none=>simp[hq]at hu
 |some y=>simp[hq]at hu;subst hu;exact h2 j y x (by simpa using hq) hx
end
