/- Parts. No condition. -/
import Derived.Test.YtlcceppoloaecaaGreatDoorXAD
import Derived.IntWalk
import Derived.MapFrom
set_option linter.unusedSimpArgs false
set_option linter.unusedVariables false
namespace Go.Proofs.YtlcceppoloaecaaGreatDoor
open Go.RowKit
section
variable {P:Program} {ti:TI} {B:Nat->Prop} {N n0:Nat}
theorem abu {ds:List (Option Tmp)}{K:Tm->List Ob->Prop}:∀ (l:List Oper) (T:Tm) (L:List Ob),aI P ti N ds K l T L ->
  ∃ (vs:List AV) (Ls:Nat->List Ob),vs.length=l.length/\Ls 0=L/\(∀ (i:Nat) o,l[i]?=some o->dOK N o.dst /\ ∃ v,vs[i]?=some v /\
   ((ge ds (fr l vs T i) o.guard=some true/\gO P ti (look (fr l vs T i)) (Ls i) (fun v' L'=>v'=v/\L'=Ls (i+1)) o.op)\/(ge ds (fr l vs T i) o.guard=some false/\v = .undef/\Ls (i+1)=Ls i))) /\
   K (fr l vs T l.length) (Ls l.length)
 |[],T,L,h=>⟨[],fun _=>L,rfl,rfl,fun i o ho=>by simp at ho,by have h:K T L:=h;simpa[fr]using h⟩
 |o::l,T,L,h=>by
  obtain⟨hd,hg⟩:=h;have go:∀ v L1,((ge ds T o.guard=some true/\gO P ti (look T) L (fun v' L'=>v'=v/\L'=L1) o.op)\/(ge ds T o.guard=some false/\v = .undef/\L1=L))->aI P ti N ds K l (uu T o.dst v) L1 ->∃ (vs:List AV) (Ls:Nat->List Ob),vs.length=(o::l).length/\Ls 0=L/\(∀ (i:Nat) o',(o::l)[i]?=some o'->dOK N o'.dst /\ ∃ v,vs[i]?=some v /\
   ((ge ds (fr (o::l) vs T i) o'.guard=some true/\gO P ti (look (fr (o::l) vs T i)) (Ls i) (fun v' L'=>v'=v/\L'=Ls (i+1)) o'.op)\/(ge ds (fr (o::l) vs T i) o'.guard=some false/\v = .undef/\Ls (i+1)=Ls i))) /\
   K (fr (o::l) vs T (o::l).length) (Ls (o::l).length):=by
   intro v L1 hv hr;obtain⟨vs,Ls,h1,h0,h2,h3⟩:=abu l (uu T o.dst v) L1 hr;refine⟨v::vs,fun i=>match i with|0=>L|i+1=>Ls i,by simp[h1],rfl,fun i o' ho=>?_,by simpa[fr]using h3⟩
   cases i with
   |zero =>
    simp at ho;subst ho;exact⟨hd,v,rfl,by simpa[fr,h0]using hv⟩
   |succ i =>
    obtain⟨g1,v',g2,g3⟩:=h2 i o' (by simpa using ho);exact⟨g1,v',by simpa using g2,by simpa[fr]using g3⟩
  rcases ajI hg with⟨h1,h2⟩|⟨h1,h2⟩
  ·obtain⟨v,L1,g1,g2⟩:=aeU h2
   exact go v L1 (.inl ⟨h1,g1⟩) g2
  ·exact go .undef L (.inr ⟨h1,rfl,rfl⟩) h2
theorem EF:∀ (l:List Oper) (vs:List AV) (T:Tm) (i:Nat) (o:Oper) (v:AV),l[i]?=some o->vs[i]?=some v->fr l vs T (i+1)=uu (fr l vs T i) o.dst v
 |[],_,_,_,_,_,h,_=>by simp at h
 |_::_,[],_,_,_,_,_,h=>by simp at h
 |o0::l,v0::vs,T,0,o,v,ho,hv=>by
  simp at ho hv;subst ho hv;simp[fr]
 |o0::l,v0::vs,T,i+1,o,v,ho,hv=>by
  rw[fr,fr];exact EF l vs _ i o v (by simpa using ho) (by simpa using hv)
theorem Cm {ρ:Operand->Option AV}{L L1:List Ob}{s:TypeId}{x:Operand}{i:Nat}{y:AC}{v:AV}(hx:ρ x=some (.one (.c y)))(h:gO P ti ρ L (fun v' L'=>v'=v/\L'=L1) (.fieldAddr s x i)):∃ z,v = .one (.c z):=by
 rcases h with⟨v',φ,hp,_,rfl,_⟩|⟨_,_,hp,_⟩|⟨_,_,_,hp,_⟩|⟨_,_,_,hp,_⟩|⟨_,_,_,_,_,_,hp,_⟩|⟨_,_,_,_,hp,_⟩|⟨_,_,_,_,_,_,hp,_⟩|⟨_,_,hp,_⟩
 ·simp only[pop,hx]at hp
  unfold gD at hp;split at hp
  ·split at hp
   ·split at hp
    ·cases hp;exact⟨_,rfl⟩
    ·cases hp
   ·cases hp
  ·rename_i e;cases e
  ·cases hp
 ·cases hp
 ·cases hp
 ·cases hp
 ·cases hp
 ·cases hp
 ·cases hp
 ·cases hp.1
theorem D3 {ρ:Operand->Option AV}{L L1:List Ob}{s:TypeId}{x ix:Operand}{y:AC}{v:AV}(hx:ρ x=some (.one (.c y)))(h:gO P ti ρ L (fun v' L'=>v'=v/\L'=L1) (.indexAddr s x ix)):∃ z,v = .one (.c z):=by
 rcases h with⟨v',φ,hp,_,rfl,_⟩|⟨_,_,hp,_⟩|⟨_,_,_,hp,_⟩|⟨_,_,_,hp,_⟩|⟨_,_,_,_,_,_,hp,_⟩|⟨_,_,_,_,hp,_⟩|⟨_,_,_,_,_,_,hp,_⟩|⟨_,_,hp,_⟩
 ·simp only[pop,hx]at hp
  split at hp
  ·rename_i e _;cases e
  ·unfold eU at hp
   split at hp
   ·split at hp
    ·cases hp;exact⟨_,rfl⟩
    ·cases hp
   ·cases hp
  ·cases hp
 ·cases hp
 ·cases hp
 ·cases hp
 ·cases hp
 ·cases hp
 ·cases hp
 ·cases hp.1
theorem afS {ρ:Operand->Option AV}{L L1:List Ob}{ty:TypeId}{x:Operand}{y:AC}{v:AV}(hag:ti.agg ty=some false)(hx:ρ x=some (.one (.c y)))(h:gO P ti ρ L (fun v' L'=>v'=v/\L'=L1) (.load ty x)):∃ z,v = .one (.c z):=by
 rcases h with⟨v',φ,hp,_,rfl,_⟩|⟨_,_,hp,_⟩|⟨_,_,_,hp,_⟩|⟨_,_,_,hp,_⟩|⟨_,_,_,_,_,_,hp,_⟩|⟨_,_,_,_,hp,_⟩|⟨_,_,_,_,_,_,hp,_⟩|⟨_,_,hp,_⟩
 ·simp only[pop,hx,aq5]at hp
  unfold fC at hp;split at hp
  ·rename_i cs _
   rw[hag]at hp
   cases cs with
   |nil=>simp at hp
   |cons z cs =>
    simp only[Option.some.injEq,Prod.mk.injEq]at hp;exact⟨z,hp.1.symm⟩
  ·rename_i e;cases e
  ·rename_i e;cases e
  ·cases hp
 ·cases hp
 ·cases hp
 ·cases hp
 ·cases hp
 ·cases hp
 ·cases hp
 ·cases hp.1
structure al0 (ti:TI)(l:List Oper)(N:Nat)(B:Nat->Prop)(Ls:Nat->List Ob)(T:Tm)(vs:List AV)(R0:PH)(γ0:List Gh)(w0:World)(listed:Array Bool)(e:Nat)(R:PH)(γ:List Gh)(a:Act)(w:World):Prop where
 inv:Inv B R γ (Ls e) w
 size:a.tmps.size=N
 defers:a.defers=[]
 done:Done l listed
 le:e<=l.length
 lo:∀ (c:Nat) o,c<e->l[c]?=some o->bW ti o.op=true->listed[c]?=some true
 hi:∀ (c:Nat) o,e<=c->l[c]?=some o->bW ti o.op=true->listed[c]?=some false
 fresh:∀ (i:Nat) o d v,listed[i]?=some true->l[i]?=some o->o.dst=some d->vs[i]?=some v ->∃ u,a.tmps[d]?=some u/\v.rep R γ (Ls e) u
 old:∀ t x,T.lookup t=some x->(∀ (i:Nat) o,listed[i]?=some true->l[i]?=some o->o.dst≠some t) ->∃ u,a.tmps[t]?=some u/\x.rep R γ (Ls e) u
 ext:Ext B R0 R w0 w
 mv:Mv R0 R γ0 γ (Ls 0) (Ls e)
theorem vo {l:List Oper}{listed:Array Bool}(T_:∀ (i:Nat) o,l[i]?=some o ->∀ e∈o.after.toList,Region.binds .any e=true->e.on<i)(h:Done l listed)(i:Nat):i∈Region.ready .any l.toArray listed↔i<l.length/\listed[i]?=some false /\ ∀ o,l[i]?=some o ->∀ e∈o.after.toList,Region.binds .any e=true->listed[e.on]?=some true:=by
 unfold Region.ready;rw[List.mem_filter,List.mem_range];simp only[List.size_toArray,arq];constructor
 ·rintro⟨hi,h1,h2⟩
  have OZ:i<listed.size:=by rw[h.size];exact hi
  have e1:listed[i]?=some listed[i]:=ary OZ;refine⟨hi,?_,fun o ho e he hb=>?_⟩
  ·rw[Array.getD_eq_getD_getElem?,e1]at h1
   simp at h1;rw[e1,h1]
  ·simp only[List.getElem?_toArray,ho,Option.map_some,Option.getD_some]at h2
   have:=Array.all_eq_true'.1 h2 e (by simpa using he);rw[hb]at this;have QD:e.on<listed.size:=by rw[h.size];have:=T_ i o ho e he hb;omega
   have e2:listed[e.on]?=some listed[e.on]:=ary QD;rw[Array.getD_eq_getD_getElem?,e2]at this;simp at this;rw[e2,this]
 ·rintro⟨hi,h1,h2⟩
  refine⟨hi,by simp[Array.getD_eq_getD_getElem?,h1],?_⟩;have ho:l[i]?=some l[i]:=arf hi;simp only[List.getElem?_toArray,ho,Option.map_some,Option.getD_some];rw[Array.all_eq_true'];intro e he;by_cases hb:Region.binds .any e=true
  ·simp[hb,Array.getD_eq_getD_getElem?,h2 _ ho e (by simpa using he) hb]
  ·simp[hb]
open Classical in
theorem aoS (O2:TIok P ti){l:List Oper}{ds:List (Option Tmp)}(RJ:l.map (·.dst)=ds){F:List Nat}(hD:amk F ti l){K:Tm->List Ob->Prop}{Q:Exit->Act->World->Prop}{T:Tm}{vs:List AV}{Ls:Nat->List Ob}{R0:PH}{γ0:List Gh}{w0:World}(hvl:vs.length=l.length)(hF:∀ t∈F,∃ x,T.lookup t=some (.one (.c x)))
  (VR:∀ (i:Nat) o,l[i]?=some o->dOK N o.dst /\ ∃ v,vs[i]?=some v /\
   ((ge ds (fr l vs T i) o.guard=some true/\gO P ti (look (fr l vs T i)) (Ls i) (fun v' L'=>v'=v/\L'=Ls (i+1)) o.op)\/(ge ds (fr l vs T i) o.guard=some false/\v = .undef/\Ls (i+1)=Ls i)))
  (hK:K (fr l vs T l.length) (Ls l.length))
  (hQ:∀ T' L' R' γ' w' a',K T' L'->Inv B R' γ' L' w'->fg N R' γ' L' T' a'->Ext B R0 R' w0 w'->Mv R0 R' γ0 γ' (Ls 0) L'->Q .normal a' w') :
  ∀ (fuel:Nat) (listed:Array Bool) (e:Nat) (R:PH) (γ:List Gh) (a:Act) (w:World),ry l.length listed<=fuel->al0 ti l N B Ls T vs R0 γ0 w0 listed e R γ a w->wpAny P .any l.toArray Q fuel listed a w:=by
 have uniq:∀ (i j:Nat) o o' d,l[i]?=some o->l[j]?=some o'->o.dst=some d->o'.dst=some d->i=j:=by
  intro i j o o' d ho R8 hd Tq;by_cases Ph:i=j
  ·exact Ph
  ·exfalso
   exact(hD.apart i j o o' d Ph ho R8 hd (by unfold h_;simp[Tq])).1 Tq

 have der:∀ (m i:Nat) (G:List Nat),i+m<=l.length->(∀ t∈G,(∃ x,(fr l vs T i).lookup t=some (.one (.c x))) /\ ∀ (k:Nat) o,i<=k->l[k]?=some o->o.dst≠some t) ->
   ∀ t∈Jo ti (l.drop i) m G,∃ x,(fr l vs T (i+m)).lookup t=some (.one (.c x)):=by
  intro m
  induction m with
  |zero =>
   intro i G _ hG t ht;have:t∈G:=by
    cases G with
    |nil=>cases hd:l.drop i<;>rw[hd]at ht<;>exact ht
    |cons g G=>cases hd:l.drop i<;>rw[hd]at ht<;>exact ht
   exact(hG t this).1
  |succ m ih =>
   intro i G hle hG t ht;have OZ:i<l.length:=m0
   have ho:l[i]?=some l[i]:=arf OZ;rw[arG OZ]at ht;have hG':∀ t∈akW ti l[i] G,(∃ x,(fr l vs T (i+1)).lookup t=some (.one (.c x))) /\ ∀ (k:Nat) o,i+1<=k->l[k]?=some o->o.dst≠some t:=by
    obtain⟨_,v,hv,UZ⟩:=VR i _ ho;have hold:∀ t∈G,(∃ x,(fr l vs T (i+1)).lookup t=some (.one (.c x))) /\ ∀ (k:Nat) o,i+1<=k->l[k]?=some o->o.dst≠some t:=fun t ht=>by
     obtain⟨⟨x,hx⟩,hk⟩:=hG t ht;refine⟨⟨x,?_⟩,fun k o h1 h2=>hk k o m0 h2⟩;rw[EF l vs T i _ v ho hv,rS (hk i _ (aro _) ho)];exact hx
    have Um:∀ d x,l[i].dst=some d->v = .one (.c x)->(∃ x,(fr l vs T (i+1)).lookup d=some (.one (.c x))) /\ ∀ (k:Nat) o,i+1<=k->l[k]?=some o->o.dst≠some d:=fun d x hd hvx=>by
     refine⟨⟨x,?_⟩,fun k o h1 h2 h3=>?_⟩
     ·rw[EF l vs T i _ v ho hv,hd,hvx]
      simp[uu,List.lookup_cons]
     ·have:=uniq i k _ o d ho h2 hd h3
      omega
    have SJ:∀ t∈G,∃ x,look (fr l vs T i) (.tmp t)=some (.one (.c x)):=fun t ht=>(hG t ht).1
    have Xf:l[i].guard=none->gO P ti (look (fr l vs T i)) (Ls i) (fun v' L'=>v'=v/\L'=Ls (i+1)) l[i].op:=fun hg=>by
     rcases UZ with⟨_,h⟩|⟨h,_,_⟩
     ·exact h
     ·rw[hg]at h;cases h
    intro t ht;unfold akW at ht;split at ht
    ·cases ht
    ·rename_i d s t0 ix _ hg hd QT _
     split at ht
     ·rename_i hc
      rcases arp.1 ht with rfl|ht
      ·obtain⟨x,hx⟩:=SJ t0 (by simpa using hc)
       have h:=Xf hg;rw[QT]at h;obtain⟨y,hy⟩:=Cm hx h;exact Um _ y hd hy
      ·exact hold t ht
     ·exact hold t ht
    ·rename_i d s t0 ix _ hg hd QT _
     split at ht
     ·rename_i hc
      rcases arp.1 ht with rfl|ht
      ·obtain⟨x,hx⟩:=SJ t0 (by simpa using hc)
       have h:=Xf hg;rw[QT]at h;obtain⟨y,hy⟩:=D3 hx h;exact Um _ y hd hy
      ·exact hold t ht
     ·exact hold t ht
    ·rename_i d ty t0 _ hg hd QT _
     split at ht
     ·rename_i hc
      rcases arp.1 ht with rfl|ht
      ·obtain⟨x,hx⟩:=SJ t0 (by simpa using hc.1)
       have h:=Xf hg;rw[QT]at h;obtain⟨y,hy⟩:=afS hc.2 hx h;exact Um _ y hd hy
      ·exact hold t ht
     ·exact hold t ht
    ·exact hold t ht
   have e1:i+1+m=i+(m+1):=m0
   have key:=ih (i+1) (akW ti l[i] G) m0 hG' t;rw[e1]at key;refine key ?_
   cases hG0:G with
   |nil=>rw[hG0]at ht;cases ht
   |cons g G0=>rw[hG0]at ht;exact ht
 have derI:∀ i,i<=l.length ->∀ t∈Jo ti l i F,∃ x,(fr l vs T i).lookup t=some (.one (.c x)):=by
  intro i hi t ht;have:=der i 0 F m0 (fun t ht=>⟨by
   obtain⟨x,hx⟩:=hF t ht;exact⟨x,(mV l vs T 0 fun j o' h=>by omega).trans hx⟩,fun k o _ hk=>hD.fz t ht o (arb hk)⟩) t (by rw[List.drop_zero];exact ht)
  rw[arS]at this;exact this

 have flat:∀ n e,(∀ (c:Nat) o,e<=c->c<e+n->l[c]?=some o->bW ti o.op=false)->e+n<=l.length->Ls (e+n)=Ls e:=by
  intro n
  induction n with
  |zero=>intro e _ _;rfl
  |succ n ih =>
   intro e h hle;have h1:=ih e (fun c o h1 h2=>h c o h1 m0) m0;have OZ:e+n<l.length:=m0
   have ho:l[e+n]?=some l[e+n]:=arf OZ;obtain⟨_,v,_,hs⟩:=VR _ _ ho;rw[<- h1];show Ls (e+n+1)=Ls (e+n);rcases hs with⟨_,QT⟩|⟨_,_,QT⟩
   ·exact u9 (h _ _ m0 m0 ho) QT
   ·exact QT

 have pass:∀ (i:Nat) o v,l[i]?=some o->bW ti o.op=false->gO P ti (look (fr l vs T i)) (Ls i) (fun v' L'=>v'=v/\L'=Ls (i+1)) o.op ->∀ e,e<=l.length ->
   (∀ (c:Nat) oc,l[c]?=some oc->bW ti oc.op=true->(i<c/\c<e)\/(e<=c/\c<i)->okX (Jo ti l i F) ti i c o.op oc.op=true)->gO P ti (look (fr l vs T i)) (Ls e) (fun v' L'=>v'=v/\L'=Ls e) o.op:=by
  intro i o v ho hk QT e Vv hx;have Tz:=(aq6.1 ho).1;refine quiet_move hk QT ?_;by_cases VQ:DW o.op=true
  ·intro r hr;rw[<- adz VQ (L:=Ls i)];exact hr
  have YB:DW o.op=false:=by simpa using VQ
  by_cases VK:MN (Jo ti l i F) o.op=true
  ·intro r hr
   rw[<- anx (L:=Ls i) VK (fun t ht=>derI i m0 t ht)];exact hr
  have hfz':MN (Jo ti l i F) o.op=false:=by simpa using VK
  have step:∀ c,c<l.length->(∀ oc,l[c]?=some oc->bW ti oc.op=true->okX (Jo ti l i F) ti i c o.op oc.op=true)->(i<c ->∀ r,pop ti (look (fr l vs T i)) (Ls c) o.op=some r->pop ti (look (fr l vs T i)) (Ls (c+1)) o.op=some r)/\(c<i ->∀ r,pop ti (look (fr l vs T i)) (Ls (c+1)) o.op=some r->pop ti (look (fr l vs T i)) (Ls c) o.op=some r):=by
   intro c hc Qg;have QC:l[c]?=some l[c]:=arf hc;obtain⟨_,vc,_,hs⟩:=VR c _ QC;rcases hs with⟨_,VS⟩|⟨_,_,VS⟩
   ·cases Rj:bW ti l[c].op with
    |false=>rw[u9 Rj VS];exact⟨fun _ r h=>h,fun _ r h=>h⟩
    |true =>
     have h1:=Qg _ QC Rj;unfold okX at h1;rw[YB,hfz']at h1;simp only[Bool.false_or,arq]at h1;obtain⟨YC,h1⟩:=h1;have h0:sk l[c].op≠0:=by intro e0;rw[e0]at h1;cases h1
     obtain⟨r1,r2,r3,r4⟩:=aij YC h0 VS;split at h1
     ·rename_i TE
      have OZ:i<c:=arC h1;exact⟨fun _ r h=>Ou (r1 TE) h,fun hci=>by omega⟩
     ·rename_i TE
      exact⟨fun _ r h=>Ou (r2 TE).1 h,fun _ r h=>Ou (r2 TE).2 h⟩
     ·rename_i TE
      have hl:isLoad o.op=false:=by simpa using h1
      exact⟨fun _ r h=>aiW (r3 TE).1 hl h,fun _ r h=>aiW (r3 TE).2 hl h⟩
     ·rename_i TE
      exact⟨fun _ r h=>Ou (r4 TE).1 h,fun _ r h=>Ou (r4 TE).2 h⟩
     ·cases h1
   ·rw[VS];exact⟨fun _ r h=>h,fun _ r h=>h⟩

  have YD:Ls (i+1)=Ls i:=u9 hk QT;by_cases Z1:e<=i
  ·
   have:∀ n,n<=i-e ->∀ r,pop ti (look (fr l vs T i)) (Ls i) o.op=some r->pop ti (look (fr l vs T i)) (Ls (i-n)) o.op=some r:=by
    intro n
    induction n with
    |zero=>intro _ r h;exact h
    |succ n ih =>
     intro hn r h;have h2:=ih m0 r h;have h3:=(step (i-(n+1)) m0 (fun oc QC Rj=>hx _ oc QC Rj (.inr ⟨m0,m0⟩))).2 m0 r;have e1:i-(n+1)+1=i-n:=m0
     rw[e1]at h3;exact h3 h2
   intro r h;have h2:=this (i-e) (aro _) r h;have e1:i-(i-e)=e:=m0
   rw[e1]at h2;exact h2
  ·have:∀ n,i+1+n<=e ->∀ r,pop ti (look (fr l vs T i)) (Ls i) o.op=some r->pop ti (look (fr l vs T i)) (Ls (i+1+n)) o.op=some r:=by
    intro n
    induction n with
    |zero=>intro _ r h;show pop ti (look (fr l vs T i)) (Ls (i+1)) o.op=some r;rw[YD];exact h
    |succ n ih =>
     intro hn r h;have h2:=ih m0 r h;exact(step (i+1+n) m0 (fun oc QC Rj=>hx _ oc QC Rj (.inl ⟨m0,m0⟩))).1 m0 r h2
   intro r h;have h2:=this (e-(i+1)) m0 r h;have e1:i+1+(e-(i+1))=e:=m0
   rw[e1]at h2;exact h2

 have slots:∀ (listed:Array Bool) (e:Nat) (R:PH) (γ:List Gh) (a:Act) (w:World),al0 ti l N B Ls T vs R0 γ0 w0 listed e R γ a w ->∀ (i:Nat) o,l[i]?=some o->listed[i]?=some false ->
   (∀ o',l[i]?=some o' ->∀ e∈o'.after.toList,Region.binds .any e=true->listed[e.on]?=some true) ->∀ t x,t∈h_ l.toArray o->(fr l vs T i).lookup t=some x ->∃ u,a.tmps[t]?=some u/\x.rep R γ (Ls e) u:=by
  intro listed e R γ a w M i o ho YE Xg t x Qp hx;have Tz:=(aq6.1 ho).1;by_cases hex:∃ (j:Nat) (o':Oper),j<i/\l[j]?=some o'/\o'.dst=some t
  ·obtain⟨j,o',hj,R8,Tq⟩:=hex
   have U0:=(hD.apart j i o' o t m0 R8 ho Tq Qp).2;rw[if_pos hj]at U0;have Z2:=M.done.anc U0 Xg;have UC:vs[j]?=some vs[j]:=arf m0;have:=uc l vs T i j o' vs[j] hj R8 Tq UC (fun k o2 h1 h2 h3 UP=>by
    have:=uniq j k o' o2 t R8 h3 Tq UP;omega) (fun k _ _=>by omega)
   rw[hx]at this;injection this with this
   subst this;exact M.fresh j o' t _ Z2 R8 Tq UC
  ·have WB:∀ j o',j<i->l[j]?=some o'->o'.dst≠some t:=fun j o' h1 h2 h3=>hex ⟨j,o',h1,h2,h3⟩
   rw[mV l vs T i WB]at hx;refine M.old t x hx fun k o' TA Qg Z3=>?_
   by_cases YF:k<i
   ·exact WB k o' YF Qg Z3
   ·by_cases WC:k=i
    ·subst WC;rw[YE]at TA;cases TA
    ·have U0:=(hD.apart k i o' o t WC Qg ho Z3 Qp).2
     rw[if_neg YF]at U0;have:=M.done.anc U0 (fun o2 h2=>M.done.down k o2 h2 TA);rw[YE]at this;cases this
 have WE:∀ (listed:Array Bool),Done l listed ->∀ i,i<l.length->listed[i]?=some true\/listed[i]?=some false:=by
  intro listed hd i hi;have OZ:i<listed.size:=by rw[hd.size];exact hi
  rw[ary OZ]
  cases listed[i]<;>simp

 have fin:∀ (listed:Array Bool) (e:Nat) (R:PH) (γ:List Gh) (a:Act) (w:World),al0 ti l N B Ls T vs R0 γ0 w0 listed e R γ a w->(∀ i,i<l.length->listed[i]?=some true)->Q .normal a w:=by
  intro listed e R γ a w M PK;have hle:Ls l.length=Ls e:=by
   have:=flat (l.length-e) e (fun c o h1 h2 ho=>by
    cases hk:bW ti o.op with
    |false=>rfl
    |true=>have:=M.hi c o h1 ho hk;rw[PK c (aq6.1 ho).1]at this;cases this) (by have:=M.le;omega)
   have e1:e+(l.length-e)=l.length:=by have:=M.le;omega
   rw[e1]at this;exact this
  rw[hle]at hK;refine hQ _ _ R γ w a hK M.inv ⟨M.size,M.defers,fun t x hx=>?_⟩ M.ext M.mv;by_cases hex:∃ (j:Nat) (o':Oper),j<l.length/\l[j]?=some o'/\o'.dst=some t
  ·obtain⟨j,o',hj,R8,Tq⟩:=hex
   have UC:vs[j]?=some vs[j]:=arf m0;have:=uc l vs T l.length j o' vs[j] hj R8 Tq UC (fun k o2 h1 h2 h3 UP=>by
    have:=uniq j k o' o2 t R8 h3 Tq UP;omega) (fun k _ _=>by omega)
   rw[hx]at this;injection this with this
   subst this;exact M.fresh j o' t _ (PK j hj) R8 Tq UC
  ·have WB:∀ j o',j<l.length->l[j]?=some o'->o'.dst≠some t:=fun j o' h1 h2 h3=>hex ⟨j,o',h1,h2,h3⟩
   rw[mV l vs T l.length WB]at hx;exact M.old t x hx fun k o' _ Qg Z3=>WB k o' (aq6.1 Qg).1 Qg Z3
 have VT:∀ (listed:Array Bool),Done l listed->Region.ready .any l.toArray listed=[] ->∀ i,i<l.length->listed[i]?=some true:=by
  intro listed hd P6 i
  induction i using Nat.strongRecOn with
  |ind i ihi =>
   intro hi;rcases WE listed hd i hi with h|h
   ·exact h
   ·exfalso
    have:i∈Region.ready .any l.toArray listed:=(vo hD.back hd i).2 ⟨hi,h,fun o ho e he hb=>ihi e.on (hD.back i o ho e he hb) (by have:=hD.back i o ho e he hb;omega)⟩;rw[P6]at this;cases this
 intro fuel
 induction fuel with
 |zero =>
  intro listed e R γ a w hc M;have PK:∀ i,i<l.length->listed[i]?=some true:=by
   intro i hi;rcases WE listed M.done i hi with h|h
   ·exact h
   ·exfalso
    have:0<ry l.length listed:=List.countP_pos_iff.2 ⟨i,by simpa using hi,by rw[h];rfl⟩;omega
  refine⟨?_,fin listed e R γ a w M PK⟩;apply List.eq_nil_iff_forall_not_mem.2;intro i Qp;obtain⟨h1,h2,_⟩:=(vo hD.back M.done i).1 Qp;rw[PK i h1]at h2;cases h2
 |succ fuel ih =>
  intro listed e R γ a w hc M;refine⟨fun P6=>fin listed e R γ a w M (VT listed M.done P6),fun i Qp=>?_⟩;obtain⟨h1,h2,h3⟩:=(vo hD.back M.done i).1 Qp;have ho:l[i]?=some l[i]:=arf h1;obtain⟨hd,v,hv,UZ⟩:=VR i _ ho;have VU:=slots listed e R γ a w M i _ ho h2 h3;have U2:ry l.length (listed.setIfInBounds i true)<=fuel:=by
   have:ry l.length (listed.setIfInBounds i true)<ry l.length listed:=by
    unfold ry;refine yI _ (fun x hx hq=>?_) ⟨i,by simpa using h1,by rw[h2];rfl,by rw[ar' (by rw[M.done.size];exact h1)];rfl⟩;by_cases hxi:x=i
    ·subst hxi;rw[h2];rfl
    ·rw[arT (Ne.symm hxi)]at hq;exact hq
   omega
  have VW:∀ (e':Nat) (R':PH) (γ':List Gh) (w':World) (u:Value),e'<=l.length->(∀ (c:Nat) o,c<e'->l[c]?=some o->bW ti o.op=true->(listed.setIfInBounds i true)[c]?=some true)->(∀ (c:Nat) o,e'<=c->l[c]?=some o->bW ti o.op=true->(listed.setIfInBounds i true)[c]?=some false) ->
    Inv B R' γ' (Ls e') w'->Ext B R R' w w'->Mv R R' γ γ' (Ls e) (Ls e')->v.rep R' γ' (Ls e') u->al0 ti l N B Ls T vs R0 γ0 w0 (listed.setIfInBounds i true) e' R' γ' (a.put l[i].dst u) w':=by
   intro e' R' γ' w' u hle' Pj Pq Ri QB SY hu;have Py:(a.put l[i].dst u).tmps.size=N:=by cases hdd:l[i].dst<;>simp[Act.put,M.size]
   have Pm:∀ t,l[i].dst≠some t->(a.put l[i].dst u).tmps[t]?=a.tmps[t]?:=by
    intro t ht
    cases hdd:l[i].dst with
    |none=>rfl
    |some d=>simp only[Act.put];rw[arT (by intro e;exact ht (by rw[hdd,e]))]
   refine⟨Ri,Py,by cases hdd:l[i].dst<;>exact M.defers,M.done.put h3,hle',Pj,Pq,fun j o d v' Z2 X8 Z4 YG=>?_,fun t x hx WB=>?_,M.ext.trans QB,M.mv.trans SY⟩
   ·by_cases Xh:j=i
    ·subst Xh
     rw[ho]at X8;injection X8 with X8;subst X8
     rw[hv]at YG;injection YG with YG;subst YG
     have hdN:d<N:=by have:=hd;rw[Z4]at this;exact this
     refine⟨u,?_,hu⟩;rw[Z4];simp only[Act.put];exact ar' (by rw[M.size];exact hdN)
    ·rw[arT (Ne.symm Xh)]at Z2
     obtain⟨u',g1,g2⟩:=M.fresh j o d v' Z2 X8 Z4 YG;refine⟨u',?_,AV.mv SY g2⟩;rw[Pm d (fun e=>Xh (uniq j i o _ d X8 ho Z4 e))];exact g1
   ·have hni:l[i].dst≠some t:=WB i _ (ar' (by rw[M.done.size];exact h1)) ho
    obtain⟨u',g1,g2⟩:=M.old t x hx fun k o TA Qg=>WB k o (by
     by_cases YF:k=i
     ·subst YF;rw[h2]at TA;cases TA
     ·rw[arT (Ne.symm YF)];exact TA) Qg
    exact⟨u',by rw[Pm t hni];exact g1,AV.mv SY g2⟩
  have U3:∀ d x,d∈l[i].looksAt l.toArray->(fr l vs T i).lookup d=some x ->∃ u,a.tmps[d]?=some u/\x.rep R γ (Ls e) u:=fun d x hd hx=>VU d x (by unfold h_;exact List.mem_append_left _ hd) hx

  have Ua:bW ti l[i].op=false->(∀ (c:Nat) o,c<e->l[c]?=some o->bW ti o.op=true->(listed.setIfInBounds i true)[c]?=some true)/\(∀ (c:Nat) o,e<=c->l[c]?=some o->bW ti o.op=true->(listed.setIfInBounds i true)[c]?=some false):=by
   intro hk;have Ph:∀ (c:Nat) o,l[c]?=some o->bW ti o.op=true->c≠i:=by
    rintro c o QC Rj rfl;rw[ho]at QC;injection QC with QC;subst QC;rw[hk]at Rj;cases Rj
   exact⟨fun c o hc QC Rj=>by rw[arT (Ne.symm (Ph c o QC Rj))];exact M.lo c o hc QC Rj,fun c o hc QC Rj=>by rw[arT (Ne.symm (Ph c o QC Rj))];exact M.hi c o hc QC Rj⟩
  have Ub:bW ti l[i].op=true->e<=i/\Ls i=Ls e/\(∀ (c:Nat) o,c<i+1->l[c]?=some o->bW ti o.op=true->(listed.setIfInBounds i true)[c]?=some true)/\(∀ (c:Nat) o,i+1<=c->l[c]?=some o->bW ti o.op=true->(listed.setIfInBounds i true)[c]?=some false):=by
   intro hk;have Z1:e<=i:=by
    rcases Nat.lt_or_ge i e with h|h
    ·have:=M.lo i _ h ho hk;rw[h2]at this;cases this
    ·exact h
   have U4:∀ (c:Nat) o,c<i->l[c]?=some o->bW ti o.op=true->listed[c]?=some true:=fun c o hc QC Rj=>M.done.anc (hD.chain i c _ o ho QC hk Rj hc) h3
   refine⟨Z1,?_,fun c o hc QC Rj=>?_,fun c o hc QC Rj=>?_⟩
   ·have:=flat (i-e) e (fun c o c1 c2 QC=>by
     cases Rj:bW ti o.op with
     |false=>rfl
     |true=>have q:=M.hi c o c1 QC Rj;rw[U4 c o m0 QC Rj]at q;cases q) m0
    have e1:e+(i-e)=i:=m0
    rw[e1]at this;exact this
   ·by_cases hci:c=i
    ·subst hci;exact ar' (by rw[M.done.size];exact h1)
    ·rw[arT (Ne.symm hci)];exact U4 c o m0 QC Rj
   ·rw[arT m0];exact M.hi c o m0 QC Rj
  unfold wpOp;simp only[List.getElem?_toArray,ho];rcases UZ with⟨hw,QT⟩|⟨hw,rfl,hLs⟩
  ·rw[if_pos (tT (afb RJ) U3 hw)]
   refine .inl ?_;have operand:∀ x v',(fun x=>if x∈l[i].op.operands then look (fr l vs T i) x else none) x=some v'->v'.rep R γ (Ls e) (a.eval x):=by
    intro x v' hx;by_cases hxo:x∈l[i].op.operands
    ·simp only[hxo,if_true]at hx
     cases x with
     |tmp t =>
      obtain⟨u,g1,g2⟩:=U3 t v' (by unfold Oper.looksAt;exact List.mem_append_left _ (List.mem_filterMap.2 ⟨.tmp t,by simpa using hxo,rfl⟩)) hx;have:a.eval (.tmp t)=u:=by simp[Act.eval,Array.getD_eq_getD_getElem?,g1]
      rw[this];exact g2
     |const c=>exact AV.ofVal_rep hx
     |global g=>cases hx
     |func f =>
      injection hx with hx;subst hx
      exact .fn f #[] [] rfl (fun j v x hv=>by simp at hv)
    ·simp only[hxo,if_false]at hx;cases hx
   cases hk:bW ti l[i].op with
   |false =>
    have hop2:=pass i _ v ho hk QT e M.le (fun c oc QC Rj XZ=>by
     refine hD.cross i c _ oc ho QC hk Rj (fun ha=>?_) (fun ha=>?_)
     ·have q:=M.done.anc ha h3
      rcases XZ with⟨c1,c2⟩|⟨c1,c2⟩
      ·
       have back:∀ i j,Anc l i j->j<i:=by
        intro i j h
        induction h with
        |edge ho he hb=>exact hD.back _ _ ho _ he hb
        |step ho he hb _ ih=>have:=hD.back _ _ ho _ he hb;omega
       have:=back i c ha;omega
      ·rw[M.hi c oc c1 QC Rj]at q;cases q
     ·rcases XZ with⟨c1,c2⟩|⟨c1,c2⟩
      ·have q:=M.done.anc ha (fun o2 Yz=>M.done.down c o2 Yz (M.lo c oc c2 QC Rj))
       rw[h2]at q;cases q
      ·have back:∀ i j,Anc l i j->j<i:=by
        intro i j h
        induction h with
        |edge ho he hb=>exact hD.back _ _ ho _ he hb
        |step ho he hb _ ih=>have:=hD.back _ _ ho _ he hb;omega
       have:=back c i ha;omega)
    have Xi:=Aa (ρ':=fun x=>if x∈l[i].op.operands then look (fr l vs T i) x else none) (fun x hx=>by simp only[hx,if_true]) hop2;refine lI O2 M.inv operand Xi ?_;rintro v' L' R' γ' w' u ⟨rfl,rfl⟩ k1 k2 k3 k4;obtain⟨q1,q2⟩:=Ua hk;exact ih _ e R' γ' _ w' U2 (VW e R' γ' w' u M.le q1 q2 k1 k2 k3 k4)
   |true =>
    obtain⟨Z1,hLe,q1,q2⟩:=Ub hk;rw[hLe]at QT;have Xi:=Aa (ρ':=fun x=>if x∈l[i].op.operands then look (fr l vs T i) x else none) (fun x hx=>by simp only[hx,if_true]) QT;refine lI O2 M.inv operand Xi ?_;rintro v' L' R' γ' w' u ⟨rfl,rfl⟩ k1 k2 k3 k4;exact ih _ (i+1) R' γ' _ w' U2 (VW (i+1) R' γ' w' u m0 q1 q2 k1 k2 k3 k4)
  ·rw[if_neg (by rw[tT (afb RJ) U3 hw];decide)]
   cases hk:bW ti l[i].op with
   |false =>
    obtain⟨q1,q2⟩:=Ua hk;exact ih _ e R γ _ w U2 (VW e R γ w Go.undef M.le q1 q2 M.inv (Ext.refl _ _ _) Mv.refl rfl)
   |true =>
    obtain⟨Z1,hLe,q1,q2⟩:=Ub hk;have hLi:Ls (i+1)=Ls e:=hLs.trans hLe;refine ih _ (i+1) R γ _ w U2 (VW (i+1) R γ w Go.undef m0 q1 q2 ?_ (Ext.refl _ _ _) ?_ rfl)
    ·rw[hLi];exact M.inv
    ·rw[hLi];exact Mv.refl
def fzB (F:List Nat)(T:Tm):Bool:=F.all fun t=>match T.lookup t with
 |some (.one (.c _))=>true
 |_=>false
theorem ahD {F:List Nat}{T:Tm}(h:fzB F T=true):∀ t∈F,∃ x,T.lookup t=some (.one (.c x)):=by
 intro t ht;have:=arZ.1 h t ht;split at this
 ·rename_i x hx;exact⟨x,hx⟩
 ·cases this
theorem IQ (F:List Nat)(O2:TIok P ti){Q:AX->Tm->List Ob->Prop}{T:Tm}{L:List Ob}{id:Nat}{l:List Oper}(ds:List (Option Tmp))(RJ:l.map (·.dst)=ds)(TF:P.follows .mixedOrders=true)(hc:fE F ti l=true)(hF:fzB F T=true)(h:aI P ti N ds (Q .normal) l T L):Aw P N n0 (.region id l.toArray true) Q T L:=by
 intro hn B R γ w a hi hT;have hD:=OQ hc;obtain⟨vs,Ls,h1,h0,h2,h3⟩:=abu l T L h;subst h0;have hiD:Inv B R γ (Ls 0) { w with drawn:=w.drawn+1 } :=⟨hi.len,hi.val,fun id x g hx hg=>(hi.obj id x g hx hg).mv Mv.refl (fun _ _=>rfl) (fun _ _ _ h=>h),hi.inj,hi.new,hi.bsz⟩;have heD:Ext B R R w { w with drawn:=w.drawn+1 } :=⟨⟨rfl,rfl,rfl,aro _,fun _ _=>rfl⟩,PH.sub_refl _,fun _ _ _=>rfl⟩;refine wp_region_any TF ?_;have Py:l.toArray.size=l.length:=by simp
 rw[Py];refine aoS O2 RJ (B:=B) hD h1 (ahD hF) h2 h3 (R0:=R) (γ0:=γ) (w0:=w) ?_ l.length (Array.replicate l.length false) 0 R γ a { w with drawn:=w.drawn+1 } ?_ ?_
 ·intro T' L' R' γ' w' a' q1 q2 q3 q4 q5
  exact⟨.normal,T',L',R',γ',rfl,q1,q2,q3,q4,nZ.of hn q5⟩
 ·unfold ry
  exact Nat.le_trans List.countP_le_length m5
 ·have hf:∀ i:Nat,i<l.length->(Array.replicate l.length false)[i]?=some false:=fun i hi=>by simp[hi]
  have ht:∀ i:Nat,(Array.replicate l.length false)[i]?≠some true:=by
   intro i e;by_cases hi:i<l.length
   ·rw[hf i hi]at e;cases e
   ·rw[Array.getElem?_eq_none m8]at e;cases e
  exact⟨hiD,hT.size,hT.defers,⟨m5,fun i o _ e=>absurd e (ht i)⟩,m0,fun c _ hc=>by omega,fun c o _ QC _=>hf c (aq6.1 QC).1,fun i o d v e=>absurd e (ht i),fun t x hx _=>hT.slot t x hx,heD,Mv.refl⟩
theorem aw_drawn2 (O2:TIok P ti){Q:AX->Tm->List Ob->Prop}{T:Tm}{L:List Ob}{id:Nat}{l:List Oper}(ds:List (Option Tmp))(RJ:l.map (·.dst)=ds)(TF:P.follows .mixedOrders=true)(hc:ak7 ti l=true)(h:aI P ti N ds (Q .normal) l T L):Aw P N n0 (.region id l.toArray true) Q T L :=
 IQ [] O2 ds RJ TF hc rfl h
end
def gdb (ds:List (Option Tmp))(T:Tm):Option (Nat×Bool)->Option Bool
 |none=>none
 |some (j,_)=>match ds[j]? with
  |some (some d)=>match T.lookup d with
   |some (.one (.c (.bool b)))=>some b
   |_=>none
  |_=>none
section
variable {P:Program} {ti:TI} {N:Nat} {ds:List (Option Tmp)} {K:Tm->List Ob->Prop} {o:Oper} {rest:List Oper} {T:Tm} {L:List Ob}
theorem eW {A B:Prop}{g:Option (Nat×Bool)}(h:ge ds T g=some true)(ha:A):gd ds T A B g:=by
 cases g with
 |none=>exact ha
 |some p =>
  obtain⟨j,want⟩:=p;simp only[ge]at h;simp only[gd];split at h
  ·rename_i d hd
   try simp only[hd]
   split at h
   ·rename_i b hb
    try simp only[hb]
    refine⟨fun _=>ha,fun e=>?_⟩;subst e
    cases want<;>simp at h
   ·cases h
   ·cases h
  ·cases h
theorem ED {A B:Prop}{g:Option (Nat×Bool)}(h:ge ds T g=some false)(hb:B):gd ds T A B g:=by
 cases g with
 |none=>cases h
 |some p =>
  obtain⟨j,want⟩:=p;simp only[ge]at h;simp only[gd];split at h
  ·rename_i d hd
   try simp only[hd]
   split at h
   ·rename_i b T8
    try simp only[T8]
    refine⟨fun e=>?_,fun _=>hb⟩;subst e
    cases b<;>simp at h
   ·rename_i T8
    try simp only[T8]
    exact hb
   ·cases h
  ·cases h
theorem fP {d:Nat}(hd:o.dst=some d)(hN:Nat.blt d N=true):dOK N o.dst:=by
 rw[hd];show d<N;exact Nat.blt_eq▸hN
theorem st_nil (h:K T L):aI P ti N ds K [] T L:=h
theorem st_pop {v:AV}{φ:Prop}{d:Nat}(hd:o.dst=some d)(hN:Nat.blt d N=true)(hg:ge ds T o.guard=some true)(hp:pop ti (look T) L o.op=some (v,φ))(hφ:φ)(h:aI P ti N ds K rest ((d,v)::T) L):aI P ti N ds K (o::rest) T L :=
 ⟨fP hd hN,eW hg (.inl ⟨v,φ,hp,hφ,by rw[hd];exact h⟩)⟩
theorem st_lit {v:AV}{φ:Prop}{d:Nat}(hd:o.dst=some d)(hN:Nat.blt d N=true)(hg:ge ds T o.guard=some true)(hp:uN ti (look T) o.op=some (v,φ))(hφ:φ)(h:aI P ti N ds K rest ((d,v)::T) L):aI P ti N ds K (o::rest) T L :=
 ⟨fP hd hN,eW hg (.inr (.inl ⟨v,φ,hp,hφ,by rw[hd];exact h⟩))⟩
theorem st_lop {v:AV}{L':List Ob}{φ:Prop}{d:Nat}(hd:o.dst=some d)(hN:Nat.blt d N=true)(hg:ge ds T o.guard=some true)(hp:AH ti (look T) L o.op=some (v,L',φ))(hφ:φ)(h:aI P ti N ds K rest ((d,v)::T) L'):aI P ti N ds K (o::rest) T L :=
 ⟨fP hd hN,eW hg (.inr (.inr (.inl ⟨v,L',φ,hp,hφ,by rw[hd];exact h⟩)))⟩
theorem sS_ {v:AV}{L':List Ob}{φ:Prop}(hd:o.dst=none)(hg:ge ds T o.guard=some true)(hp:AH ti (look T) L o.op=some (v,L',φ))(hφ:φ)(h:aI P ti N ds K rest T L'):aI P ti N ds K (o::rest) T L :=
 ⟨by rw[hd];trivial,eW hg (.inr (.inr (.inl ⟨v,L',φ,hp,hφ,by rw[hd];exact h⟩)))⟩
theorem aN {g:FuncId}{ps:List PV}{r:CV}{d:Nat}{v:AV}(hd:o.dst=some d)(hN:Nat.blt d N=true)(hg:ge ds T o.guard=some true)(hp:qF (look T) o.op=some (g,ps))(hc:Pure P g ps r)(hv:r.av=v)(h:aI P ti N ds K rest ((d,v)::T) L):aI P ti N ds K (o::rest) T L :=
 ⟨fP hd hN,eW hg (.inr (.inr (.inr (.inl ⟨g,ps,r,hp,hc,by rw[hd,hv];exact h⟩))))⟩
theorem cK (σ:List Nat){g:FuncId}{L0 L1 L':List Ob}{args TD:List AV}{r r':AV}{d:Nat}(hd:o.dst=some d)(hN:Nat.blt d N=true)(hg:ge ds T o.guard=some true)(hp:dj ti (look T) o.op=some (g,TD))(hc:Run P g L0 args L1 r)(ha:TD=args.map (AV.ren σ))(hF:gg σ L0 args L)
  (hr:r.ren (ce σ L.length L1.length)=r') (hL:joinL σ L L1=L') (h:aI P ti N ds K rest ((d,r')::T) L'):aI P ti N ds K (o::rest) T L :=
 ⟨fP hd hN,eW hg (.inr (.inr (.inr (.inr (.inr (.inr (.inl ⟨σ,g,L0,args,L1,r,by rw[hp,ha],hF,hc,by rw[hd,hr,hL];exact h⟩)))))))⟩
theorem ci {v:AV}{L':List Ob}{d:Nat}(hd:o.dst=some d)(hN:Nat.blt d N=true)(hg:ge ds T o.guard=some true)(hl:bW ti o.op=true)(YC:ti.soft=false)(hs:qW P (look T) L o.op v L')(h:aI P ti N ds K rest ((d,v)::T) L'):aI P ti N ds K (o::rest) T L :=
 ⟨fP hd hN,eW hg (.inr (.inr (.inr (.inr (.inr (.inr (.inr ⟨v,L',⟨hl,fun e=>by rw[YC]at e;cases e⟩,hs,by rw[hd];exact h⟩)))))))⟩
theorem JX {v:AV}{L':List Ob}(hd:o.dst=none)(hg:ge ds T o.guard=some true)(hl:bW ti o.op=true)(YC:ti.soft=false)(hs:qW P (look T) L o.op v L')(h:aI P ti N ds K rest T L'):aI P ti N ds K (o::rest) T L :=
 ⟨by rw[hd];trivial,eW hg (.inr (.inr (.inr (.inr (.inr (.inr (.inr ⟨v,L',⟨hl,fun e=>by rw[YC]at e;cases e⟩,hs,by rw[hd];exact h⟩)))))))⟩
theorem dM {v:AV}{d:Nat}(hd:o.dst=some d)(hN:Nat.blt d N=true)(hg:ge ds T o.guard=some true)(hl:bW ti o.op=true)(hk:sk o.op=4)(hs:qW P (look T) L o.op v L)(h:aI P ti N ds K rest ((d,v)::T) L):aI P ti N ds K (o::rest) T L :=
 ⟨fP hd hN,eW hg (.inr (.inr (.inr (.inr (.inr (.inr (.inr ⟨v,L,⟨hl,fun _ => .inr ⟨hk,rfl⟩⟩,hs,by rw[hd];exact h⟩)))))))⟩
theorem aen {v:AV}{L':List Ob}{d:Nat}(hd:o.dst=some d)(hN:Nat.blt d N=true)(hg:ge ds T o.guard=some true)(hl:bW ti o.op=true)(hk:sk o.op=0)(hs:qW P (look T) L o.op v L')(h:aI P ti N ds K rest ((d,v)::T) L'):aI P ti N ds K (o::rest) T L :=
 ⟨fP hd hN,eW hg (.inr (.inr (.inr (.inr (.inr (.inr (.inr ⟨v,L',⟨hl,fun _ => .inl hk⟩,hs,by rw[hd];exact h⟩)))))))⟩
theorem st_skip {d:Nat}(hd:o.dst=some d)(hN:Nat.blt d N=true)(hg:ge ds T o.guard=some false)(h:aI P ti N ds K rest ((d,.undef)::T) L):aI P ti N ds K (o::rest) T L :=
 ⟨fP hd hN,ED hg (by rw[hd];exact h)⟩
theorem sk0_ (hd:o.dst=none)(hg:ge ds T o.guard=some false)(h:aI P ti N ds K rest T L):aI P ti N ds K (o::rest) T L :=
 ⟨by rw[hd];trivial,ED hg (by rw[hd];exact h)⟩
theorem st_if {b:Bool}(_:gdb ds T o.guard=some b)(h1:b=true->aI P ti N ds K (o::rest) T L)(h2:b=false->aI P ti N ds K (o::rest) T L):aI P ti N ds K (o::rest) T L:=by
 cases hb:b
 ·exact h2 hb
 ·exact h1 hb
end
theorem fH {β:Type}{l:List (Nat×β)}{Pr:Nat->β->Prop}(h:∀ p∈l,Pr p.1 p.2):∀ t v,l.lookup t=some v->Pr t v:=by
 intro t v hv
 induction l with
 |nil=>cases hv
 |cons p l ih =>
  obtain⟨k,x⟩:=p;rw[List.lookup_cons]at hv;by_cases e:t=k
  ·subst e;simp at hv;subst hv;exact h (t,x) m5
  ·have:(t==k)=false:=by simpa using e
   rw[this]at hv;exact ih (fun p hp=>h p (arx _ hp)) hv
theorem Dl {α:Type}{l:List α}{f:α->Bool}{Pr:α->Prop}(h:l.all f=true)(hf:∀ x,f x=true->Pr x):∀ x∈l,Pr x:=fun x hx=>hf x (arZ.1 h x hx)
def TI.of (sz:List (Nat×Nat))(ag:List (Nat×Bool))(el:List (Nat×Nat))(fl:List (Nat×List (Nat×Nat)))(ze:List (Nat×AV))(bt:List (Nat×Nat))(ki:List (Nat×TypeDesc))(st zo:List Nat)(eq:List (Nat×List Sc))(ow:List Nat):TI where
 size:=fun t=>sz.lookup t
 agg:=fun t=>ag.lookup t
 elem:=fun t=>el.lookup t
 field:=fun s i=>match fl.lookup s with
  |some fs=>fs[i]?
  |none=>none
 zero:=fun t=>ze.lookup t
 bytes:=fun t=>bt.lookup t
 kind:=fun t=>ki.lookup t
 struct:=fun t=>st.contains t
 zok:=fun t=>zo.contains t
 eqs:=fun t=>eq.lookup t
 owns:=fun f=>ow.contains f
def am5 (P:Program)(t:TypeId):Bool :=
 match P.info? t with
 |some i=>match i.zero with
  |some z=>z.cells.size==i.size
  |none=>false
 |none=>false
theorem anl {P:Program}{t:TypeId}(h:am5 P t=true):∀ k,ff P t=some k->aeh P t k:=by
 intro k hk;unfold am5 at h;unfold ff at hk;split at h
 ·rename_i i hi
  split at h
  ·rename_i z hz
   rw[hi]at hk;simp at hk;simp at h;exact⟨i,z,hi,hz,hk,by rw[h,hk]⟩
  ·cases h
 ·cases h
theorem TI.of_ok {P:Program}{sz:List (Nat×Nat)}{ag:List (Nat×Bool)}{el:List (Nat×Nat)}{fl:List (Nat×List (Nat×Nat))}{ze:List (Nat×AV)}{bt:List (Nat×Nat)}{ki:List (Nat×TypeDesc)}{st zo:List Nat}{eq:List (Nat×List Sc)}{ow:List Nat}
  (h1:(sz.all fun p=>ff P p.1==some p.2)=true) (h2:(ag.all fun p=>Nw P p.1==some p.2)=true) (h3:(el.all fun p=>pE P p.1==some p.2)=true)
  (h4:(fl.all fun p=>(List.range p.2.length).all fun i=>zn P p.1 i==p.2[i]?)=true) (h5:∀ p∈ze,zeroOf P p.1=some p.2) (h6:(bt.all fun p=>kB P p.1==some p.2)=true) (h7:∀ p∈ki,P.underlying p.1=some p.2)
  (h8:(st.all fun t=>BG P t)=true) (h9:(zo.all fun t=>am5 P t)=true)
  (YH:∀ p∈eq,P.eqGuardType P.depth p.1=false /\ ∀ xs ys,eK p.2 xs=true->eK p.2 ys=true->aaQ P p.1 xs ys):TIok P (TI.of sz ag el fl ze bt ki st zo eq ow):=by
 refine⟨fH (Dl h1 fun p hp=>by simpa using hp),fH (Dl h2 fun p hp=>by simpa using hp),fH (Dl h3 fun p hp=>by simpa using hp),fun s i r h=>?_,fH h5,fH (Dl h6 fun p hp=>by simpa using hp),fH h7,fun t h=>?_,fun t h=>?_,fH YH⟩
 ·simp only[TI.of]at h
  split at h
  ·rename_i fs hf
   have:=fH (Pr:=fun s fs=>((List.range fs.length).all fun i=>zn P s i==fs[i]?)=true) (Dl h4 fun p hp=>hp) s fs hf;have hi:i<fs.length:=(aq6.1 h).1;have h2:=arZ.1 this i (by simpa using hi);rw[<- h];simpa using h2
  ·cases h
 ·exact arZ.1 h8 t (by simpa[TI.of]using h)
 ·exact anl (arZ.1 h9 t (by simpa[TI.of]using h))
section
variable {P:Program} {ti:TI} {N n0:Nat} {Q:AX->Tm->List Ob->Prop} {T:Tm} {L:List Ob}
theorem bj {rs:List ResultVar}{ps:List PV}{φ:Prop}{r:CV}(h:rC ti T L rs=some (ps,φ))(hφ:φ)(e:ai7 ps=r):Res ti rs T L r:=by
 unfold Res;rw[h];exact⟨hφ,e⟩
theorem a6 {rs:List ResultVar}{r:CV}(h:Res ti rs T L r):(AX.ret=AX.normal\/AX.ret=AX.ret)/\Res ti rs T L r:=⟨.inr rfl,h⟩
end
def Bl (T':Tm):Tm->Prop
 |[]=>True
 |(t,x)::T=>T'.lookup t=some x/\Bl T' T
def gK (n:Nat):Tm->Prop
 |[]=>True
 |(_,x)::T=>x.below n/\gK n T
def nP (n:Nat):List Ob->Prop
 |[]=>True
 |x::L=>x.below n/\nP n L
theorem fm_ {T' T:Tm}{L' L:List Ob}(h1:Bl T' T)(G:List Ob)(h2:L'=L++G)(h3:gK L.length T)(h4:nP L.length L):Fits T' L' T L:=by
 refine⟨fun p hp=>?_,⟨G,h2⟩,fun p hp=>?_,fun x hx=>?_⟩
 ·clear h3 h2
  induction T with
  |nil=>cases hp
  |cons q T ih =>
   rcases arp.1 hp with rfl|hp
   ·exact h1.1
   ·exact ih h1.2 hp
 ·clear h1 h2
  induction T with
  |nil=>cases hp
  |cons q T ih =>
   rcases arp.1 hp with rfl|hp
   ·exact h3.1
   ·exact ih h3.2 hp
 ·clear h1 h2 h3
  generalize hn:L.length=n at h4;clear hn
  induction L with
  |nil=>cases hx
  |cons q L ih =>
   rcases arp.1 hx with rfl|hx
   ·exact h4.1
   ·exact ih hx h4.2
theorem aU {k:IntKind}{a b:Int}(h:a=b):some (AV.one (.c (.int k a)))=some (AV.one (.c (.int k b))):=by rw[h]
theorem mc {a b:List (List AC)}{t:Nat}(h:a=b):some (AV.one (.own a t))=some (AV.one (.own b t)):=by rw[h]
theorem dh {x:Int}(h : -9223372036854775808<=x/\x<=9223372036854775807):IntKind.i64.wrap x=x:=IntWalk.i64_in x m0
theorem a7 {x y:Int}(h:x=y)(hb : -9223372036854775808<=y/\y<=9223372036854775807):IntKind.i64.wrap x=y:=by rw[h];exact dh hb
theorem bv {α:Type}{l:List α}{f:α->List AC}{i:Nat}{x:α}(h:l[i]?=some x):(l.map f)[((i:Nat):Int).toNat]?=some (f x):=by
 rw[Int.toNat_natCast,arw,h];rfl
theorem gol_ {α:Type}{l:List α}{i:Nat}(h:i<l.length):∃ x,l[i]?=some x:=⟨l[i],arf h⟩
theorem bR {α:Type}{l:List α}{i:Nat}{x:α}(h:l[i]?=some x):l.take (i+1)=l.take i++[x]:=by
 obtain⟨hi,rfl⟩:=aq6.1 h;rw[List.take_succ_eq_append_getElem hi]
section
variable {P:Program} {ti:TI} {N n0:Nat} {ds:List (Option Tmp)} {K:Tm->List Ob->Prop} {o:Oper} {rest:List Oper} {T:Tm} {L:List Ob}
theorem ak2 {ρ:Operand->Option AV}{t:TypeId}{x ix:Operand}{vx:AV}{es:List (List AC)}{k0:IntKind}{i:Int}{k:Nat}{e:List AC}(hx:ρ x=some vx)(hl:dD vx=some es)(hi:ρ ix=some (.one (.c (.int k0 i))))(hk:(ti.elem t).bind ti.size=some k)(he:es[i.toNat]?=some e) :
  pop ti ρ L (.indexAddr t x ix)=some (.one (.c (.ref e)),0<=i/\e.length=k):=by
 simp only[pop,hx,hi];split
 ·rename_i h1 h2
  injection h1 with h1;subst h1;simp[dD]at hl
 ·rename_i h1 h2
  injection h1 with h1;injection h2 with h2;subst h1 h2
  simp only[eU,hl,hk,he]
 ·rename_i h;exact(h _ _ rfl rfl).elim
theorem bB {t:TypeId}{x ix:Operand}{vx:AV}{es:List (List AC)}{k0:IntKind}{i:Int}{k d:Nat}{e:List AC}(hd:o.dst=some d)(hN:Nat.blt d N=true)(hg:ge ds T o.guard=some true)(ho:o.op = .indexAddr t x ix)(hx:look T x=some vx)(hl:dD vx=some es)(hi:look T ix=some (.one (.c (.int k0 i))))
  (hk:(ti.elem t).bind ti.size=some k) (he:es[i.toNat]?=some e) (hφ:0<=i/\e.length=k) (h:aI P ti N ds K rest ((d,.one (.c (.ref e)))::T) L):aI P ti N ds K (o::rest) T L :=
 st_pop hd hN hg (by rw[ho];exact ak2 hx hl hi hk he) hφ h
theorem akM {ρ:Operand->Option AV}{t:TypeId}{p:Operand}{id OY i off k:Nat}{es:List (List SV)}{e:List SV}{x:SV}(hp:ρ p=some (.one (.ep id OY i off)))(hL:L[id]?=some (.row OY es k))(ha:ti.agg t=some false)(he:es[i]?=some e)(hx:e[off]?=some x) :
  pop ti ρ L (.load t p)=some (.one x,OY=OY):=by
 simp only[pop,hp,aq5,fC,hL,he,ha,hx]
theorem lY {t:TypeId}{p:Operand}{id OY i off k d:Nat}{es:List (List SV)}{e:List SV}{x:SV}(hd:o.dst=some d)(hN:Nat.blt d N=true)(hg:ge ds T o.guard=some true)(ho:o.op = .load t p)(hp:look T p=some (.one (.ep id OY i off)))(hL:L[id]?=some (.row OY es k))(ha:ti.agg t=some false)(he:es[i]?=some e)(hx:e[off]?=some x)
  (h:aI P ti N ds K rest ((d,.one x)::T) L):aI P ti N ds K (o::rest) T L :=
 st_pop hd hN hg (by rw[ho];exact akM hp hL ha he hx) rfl h
theorem ah_ {ρ:Operand->Option AV}{t:TypeId}{p:Operand}{id OY i off k n:Nat}{es:List (List SV)}{e:List SV}(hp:ρ p=some (.one (.ep id OY i off)))(hL:L[id]?=some (.row OY es k))(ha:ti.agg t=some true)(hn:ti.size t=some n)(he:es[i]?=some e) :
  pop ti ρ L (.load t p)=some (.agg ((e.drop off).take n),OY=OY/\off+n<=e.length):=by
 simp only[pop,hp,aq5,fC,hL,he,ha,hn]
theorem K2 {t:TypeId}{p:Operand}{id OY i off k d n:Nat}{es:List (List SV)}{e xs:List SV}(hd:o.dst=some d)(hN:Nat.blt d N=true)(hg:ge ds T o.guard=some true)(ho:o.op = .load t p)(hp:look T p=some (.one (.ep id OY i off)))(hL:L[id]?=some (.row OY es k))(ha:ti.agg t=some true)(hn:ti.size t=some n)(he:es[i]?=some e)(hx:(e.drop off).take n=xs)(hle:off+n<=e.length)
  (h:aI P ti N ds K rest ((d,.agg xs)::T) L):aI P ti N ds K (o::rest) T L :=
 st_pop hd hN hg (φ:=OY=OY/\off+n<=e.length) (by rw[ho];exact ah_ hp hL ha hn he) ⟨rfl,hle⟩ (by rw[hx];exact h)
theorem alb {ρ:Operand->Option AV}{t:TypeId}{p q:Operand}{id OY i off k:Nat}{es:List (List SV)}{e xs:List SV}(hp:ρ p=some (.one (.ep id OY i off)))(hq:(ρ q).bind AV.cells=some xs)(hL:L[id]?=some (.row OY es k))(he:es[i]?=some e) :
  AH ti ρ L (.store t p q)=some (.undef,L.set id (.row OY (es.set i (splice e off xs)) k),OY=OY/\off+xs.length<=e.length/\ti.size t=some xs.length):=by
 simp only[AH,hp,hq,hL,he]
theorem nK {t:TypeId}{p q:Operand}{id OY i off k:Nat}{es:List (List SV)}{e xs:List SV}{L':List Ob}(hd:o.dst=none)(hg:ge ds T o.guard=some true)(ho:o.op = .store t p q)(hp:look T p=some (.one (.ep id OY i off)))(hq:(look T q).bind AV.cells=some xs)(hL:L[id]?=some (.row OY es k))(he:es[i]?=some e)
  (hφ:off+xs.length<=e.length/\ti.size t=some xs.length) (VN:L.set id (.row OY (es.set i (splice e off xs)) k)=L') (h:aI P ti N ds K rest T L'):aI P ti N ds K (o::rest) T L :=
 sS_ hd hg (φ:=OY=OY/\off+xs.length<=e.length/\ti.size t=some xs.length) (by rw[ho];exact alb hp hq hL he) ⟨rfl,hφ⟩ (by rw[VN];exact h)
end
open Go.RowKit Go.MapKept
def ut (s:ByteArray):List (AC×AV)->Option Nat
 |[]=>none
 |p::r=>match p.1 with
  |.str t=>if s=t then some 0 else(ut s r).map (· +1)
  |_=>(ut s r).map (· +1)
def strKeys (PT:List (AC×AV)):Prop :=∀ p∈PT,∃ t,p.1 = .str t
def oq (PT:List (AC×AV))(s:ByteArray)(z:AV):AV :=
 match ut s PT with
 |some i=>match PT[i]? with
  |some p=>p.2
  |none=>z
 |none=>z
def Gx (PT:List (AC×AV))(s:ByteArray)(v:AV):List (AC×AV) :=
 match ut s PT with
 |some i=>PT.set i (.str s,v)
 |none=>PT++[(.str s,v)]
section
variable {P:Program} {ti:TI} {B:Nat->Prop} {N:Nat} {R:PH} {γ:List Gh} {L:List Ob} {w:World} {ρ:Operand->Option AV}
theorem tk {s:ByteArray}:∀ {PT:List (AC×AV)} {i:Nat},ut s PT=some i ->∃ p,PT[i]?=some p/\p.1 = .str s
 |p::r,i,h=>by
  unfold ut at h;split at h
  ·rename_i t ht
   split at h
   ·rename_i e;injection h with h;subst h e;exact⟨p,rfl,ht⟩
   ·cases hr:ut s r with
    |none=>simp[hr]at h
    |some j=>simp[hr]at h;subst h;obtain⟨q,h1,h2⟩:=tk hr;exact⟨q,by simpa using h1,h2⟩
  ·cases hr:ut s r with
   |none=>simp[hr]at h
   |some j=>simp[hr]at h;subst h;obtain⟨q,h1,h2⟩:=tk hr;exact⟨q,by simpa using h1,h2⟩
theorem oU {s:ByteArray}:∀ (l:List MapEntry) (PT:List (AC×AV)) (i0:Nat),l.length=PT.length->strKeys PT->(∀ (j:Nat) e p,l[j]?=some e->PT[j]?=some p->bF R e.key p.1) ->
  (ut s PT=none/\Instr.findNow .string (.string s) l i0=some none)\/(∃ i e,ut s PT=some i/\l[i]?=some e/\e.key = .string s/\Instr.findNow .string (.string s) l i0=some (some (i0+i,e.val)))
 |[],[],i0,_,_,_ => .inl ⟨rfl,rfl⟩
 |e::l,p::PT,i0,hl,hs,hr=>by
  obtain⟨t,ht⟩:=hs p m5;have hk:=hr 0 e p rfl rfl;rw[ht]at hk;generalize TZ:e.key=ek at hk
  cases hk;unfold ut Instr.findNow;simp only[ht,TZ,Instr.sameNow];by_cases e1:s=t
  ·subst e1
   refine .inr ⟨0,e,m5,rfl,TZ,?_⟩;have:(s==s)=true:=(bytes_beq s s).2 rfl;simp[this]
  ·have:(s==t)=false:=by
    cases hb:(s==t)with
    |false=>rfl
    |true=>exact absurd ((bytes_beq s t).1 hb) e1
   simp only[this,e1,if_false];rcases oU l PT (i0+1) (by simpa using hl) (fun q hq=>hs q (arx _ hq)) (fun j e' q h1 h2=>hr (j+1) e' q (by simpa using h1) (by simpa using h2))with⟨h1,h2⟩|⟨i,e',h1,h2,h3,h4⟩
   ·exact .inl ⟨by simp[h1],h2⟩
   ·exact .inr ⟨i+1,e',by simp[h1],by simpa using h2,h3,by rw[h4];simp;omega⟩
theorem zF {t:TypeId}:qW P ρ L (.makeMap t none) (.one (.mp L.length)) (L++[.map []]):=by
 intro B R γ w ev o ho hi hρ QM;obtain⟨dst,op,type,pos,after,guard⟩:=o;simp only at ho;subst ho;refine⟨w.alloc (.map #[] 0),R,γ++[.box w.heap.size],.inl ⟨.map (some w.heap.size),?_,w.heap.size,rfl,?_⟩,?_,⟨Kept.alloc hi.bsz _,PH.sub_refl _,fun _ _ _=>rfl⟩,Mv.push _ _ hi.len⟩
 ·simp[execOp,Instr.makeMap]
 ·rw[arc (by rw[hi.len];omega),hi.len];simp
 ·exact hi.push _ _ _ rfl ⟨⟨#[],dy w _,rfl,fun j e p he _=>by simp at he⟩,fun o=>hi.none_at o⟩
theorem Mv.turnMap {id:Nat}{PT kvs':List (AC×AV)}(hL:L[id]?=some (.map PT)):Mv R R γ γ L (L.set id (.map kvs')):=by
 have OZ:id<L.length:=(aq6.1 hL).1;refine⟨PH.sub_refl _,m5,fun t n k _ h=>⟨n,?_,aro _,fun _=>rfl⟩,fun t OY es k _ h=>⟨OY,es,?_,aro _,fun _=>⟨rfl,rfl⟩⟩,fun _ _ h=>h⟩
 ·by_cases e:t=id
  ·subst e;rw[ars OZ]at h;cases h
  ·rw[art (Ne.symm e)]at h;exact h
 ·by_cases e:t=id
  ·subst e;rw[ars OZ]at h;cases h
  ·rw[art (Ne.symm e)]at h;exact h
theorem EQ (hi:Inv B R γ L w){id b:Nat}{PT:List (AC×AV)}(hL:L[id]?=some (.map PT))(hg:γ[id]?=some (.box b)) :
  (∃ es,w.heap[b]?=some (.map es es.size)/\es.size=PT.length /\ ∀ (j:Nat) e p,es[j]?=some e->PT[j]?=some p->e.born=j/\bF R e.key p.1/\p.2.rep R γ L e.val):=(hi.obj id _ _ hL hg).1
theorem sn (hi:Inv B R γ L w){id b:Nat}{PT kvs':List (AC×AV)}{es:Array MapEntry}(hL:L[id]?=some (.map PT))(hg:γ[id]?=some (.box b))(hb:w.heap[b]?=some (.map es es.size))(Pz:Array MapEntry)(hs:Pz.size=kvs'.length)
  (h:∀ (j:Nat) e p,Pz[j]?=some e->kvs'[j]?=some p->e.born=j/\bF R e.key p.1/\p.2.rep R γ L e.val) :
  Inv B R γ (L.set id (.map kvs')) { w with heap:=w.heap.setIfInBounds b (.map Pz Pz.size) } /\ Ext B R R w { w with heap:=w.heap.setIfInBounds b (.map Pz Pz.size) } :=by
 have hh:=Go.MapKept.heap_set (o' := .map Pz Pz.size) hb;have hm:=Mv.turnMap (R:=R) (γ:=γ) (kvs':=kvs') hL;have R9:=(hi.new id _ b hg rfl).1;have hR:∀ o,R b o=none:=(hi.obj id _ _ hL hg).2;refine⟨hi.turn hL hg rfl hm (fun b' Ph=>hh.2 b' Ph) m5 (fun _ _ _=>rfl) (fun o u e=>by rw[hR o]at e;cases e) ⟨⟨Pz,hh.1,hs,fun j e p he hp=>?_⟩,hR⟩,⟨⟨rfl,rfl,rfl,m5,fun b' P3=>hh.2 b' (fun e=>R9 (by rw[<- e];exact P3))⟩,PH.sub_refl _,fun _ _ _=>rfl⟩⟩;obtain⟨a1,a2,a3⟩:=h j e p he hp;exact⟨a1,a2,AV.mv hm a3⟩
theorem sd {et:TypeId}{z:AV}(hz:zeroOf P et=some z):∃ u,(zeroValue et).run P w = .ok u w/\z.rep R γ L u:=by
 unfold zeroOf at hz
 cases PE:P.info? et with
 |none=>simp[PE]at hz
 |some inf =>
  simp only[PE,aq5]at hz
  cases Rk:inf.zero with
  |none=>simp[Rk]at hz
  |some u =>
   simp only[Rk,aq5]at hz;exact⟨u,by simp[zeroValue,typeInfo,program,Sem.run,PE,Rk],AV.ofVal_rep hz⟩
theorem oZ {v:AV}{p:PV}{u:Value}(h:v.norm=some p)(hu:v.rep R γ L u):p.rep R u:=AV.norm_rep hu h
theorem aj9 {p q:PV}{u v:Value}(hp:p.rep R u)(hq:q.rep R v):(AV.tup [p,q]).rep R γ L (.tuple #[u,v]):=by
 refine⟨#[u,v],rfl,rfl,fun j x y hx hy=>?_⟩
 match j,hx,hy with
 |0,hx,hy=>simp at hx hy;subst hx hy;exact hp
 |1,hx,hy=>simp at hx hy;subst hx hy;exact hq
 |j+2,hx,hy=>simp at hx
theorem nY {t kt et:TypeId}{x k:Operand}{s:ByteArray}{id:Nat}{PT:List (AC×AV)}{z:AV}{p:PV}(hx:ρ x=some (.one (.mp id)))(hk:ρ k=some (.one (.c (.str s))))(hL:L[id]?=some (.map PT))(U5:strKeys PT)
  (ht:P.underlying t=some (.map kt et)) (Un:P.underlying kt=some .string) (hz:zeroOf P et=some z) (hp:(oq PT s z).norm=some p):qW P ρ L (.lookup t x k true) (.tup [p,.one (.bool (ut s PT).isSome)]) L:=by
 intro B R γ w ev o ho hi hρ QM;obtain⟨dst,op,type,pos,after,guard⟩:=o;simp only at ho;subst ho;obtain⟨b,Vt,hg⟩:=(hρ _ (by simp[Op.operands,Call.operands]) _ hx);have YI:=(hρ _ (by simp[Op.operands,Call.operands]) _ hk);generalize WC:ev k=kv at YI
 cases YI;obtain⟨es,hb,Py,SK⟩:=EQ hi hL hg;have U6:=fun e=>Go.MapKept.run_checkKey (P:=P) (w:=w) (k := .string s) Un trivial e 9999
 obtain⟨zu,hzr,YJ⟩:=sd (P:=P) (w:=w) (R:=R) (γ:=γ) (L:=L) hz;rcases oU (R:=R) (s:=s) es.toList PT 0 (by simpa using Py) U5 (fun j e p he hp=>(SK j e p (by simpa using he) hp).2.1)with⟨h1,h2⟩|⟨i,e,h1,h2,h3,h4⟩
 ·refine⟨w,R,γ,.inl ⟨.tuple #[zu,.bool false],?_,?_⟩,hi,Ext.refl _ _ _,Mv.refl⟩
  ·simp[execOp,Instr.lookup,Vt,WC,run_underlying ht,Go.MapKept.run_getObj_map hb,U6,Go.MapKept.run_findKey Un h2,hzr,Result.andThen]
  ·unfold oq at hp;rw[h1]at hp ⊢;exact aj9 (oZ hp YJ) (.bool false)
 ·obtain⟨q,hq,SA⟩:=tk h1
  refine⟨w,R,γ,.inl ⟨.tuple #[e.val,.bool true],?_,?_⟩,hi,Ext.refl _ _ _,Mv.refl⟩
  ·simp[execOp,Instr.lookup,Vt,WC,run_underlying ht,Go.MapKept.run_getObj_map hb,U6,Go.MapKept.run_findKey Un h4,Result.andThen]
  ·unfold oq at hp;rw[h1]at hp ⊢;simp only[hq]at hp;exact aj9 (oZ hp (SK i e q (by simpa using h2) hq).2.2) (.bool true)
theorem vZ {es:Array MapEntry}{i j:Nat}{f:MapEntry->MapEntry}{e:MapEntry}(h:(es.modify i f)[j]?=some e):∃ e0,es[j]?=some e0/\e=if j=i then f e0 else e0:=by
 rw[Array.getElem?_modify]at h;split at h
 ·rename_i e1;subst e1
  cases h0:es[i]? with
  |none=>simp[h0]at h
  |some e0=>simp[h0]at h;exact⟨e0,rfl,by simp[h]⟩
 ·rename_i Ph;exact⟨e,h,by rw[if_neg (Ne.symm Ph)]⟩
theorem NQ {es:Array MapEntry}{PT:List (AC×AV)}(Py:es.size=PT.length)(SK:∀ (j:Nat) e p,es[j]?=some e->PT[j]?=some p->e.born=j/\bF R e.key p.1/\p.2.rep R γ L e.val){key val:Value}{kx:AC}{v:AV}(hk:bF R key kx)(hv:v.rep R γ L val) :
  ∀ (j:Nat) e p,(es.push { key,val,born:=es.size })[j]?=some e->(PT++[(kx,v)])[j]?=some p->e.born=j/\bF R e.key p.1/\p.2.rep R γ L e.val:=by
 intro j e p he hp;by_cases hj:j<es.size
 ·rw[Array.getElem?_push_lt hj]at he
  rw[arl m0]at hp;exact SK j e p (by rw[ary hj];exact he) hp
 ·have VM:j=es.size:=by
   have:=(arU.1 he).1;simp at this;omega
  subst VM;rw[Array.getElem?_push_size]at he;rw[arc m0,Py]at hp;simp at he hp;subst he hp;exact⟨rfl,hk,hv⟩
theorem uL {t kt et:TypeId}{x k y:Operand}{s:ByteArray}{id:Nat}{PT:List (AC×AV)}{v:AV}(hx:ρ x=some (.one (.mp id)))(hk:ρ k=some (.one (.c (.str s))))(hy:ρ y=some v)(hL:L[id]?=some (.map PT))(U5:strKeys PT)
  (ht:P.underlying t=some (.map kt et)) (Un:P.underlying kt=some .string):qW P ρ L (.mapUpdate t x k y) .undef (L.set id (.map (Gx PT s v))):=by
 intro B R γ w ev o ho hi hρ QM;obtain⟨dst,op,type,pos,after,guard⟩:=o;simp only at ho;subst ho;obtain⟨b,Vt,hg⟩:=(hρ _ (by simp[Op.operands,Call.operands]) _ hx);have YI:=(hρ _ (by simp[Op.operands,Call.operands]) _ hk);have hyv:=(hρ _ (by simp[Op.operands,Call.operands]) _ hy);generalize WC:ev k=kv at YI;generalize hye:ev y=yv at hyv
 cases YI;obtain⟨es,hb,Py,SK⟩:=EQ hi hL hg;have U6:=fun e=>Go.MapKept.run_checkKey (P:=P) (w:=w) (k := .string s) Un trivial e 9999
 rcases oU (R:=R) (s:=s) es.toList PT 0 (by simpa using Py) U5 (fun j e p he hp=>(SK j e p (by simpa using he) hp).2.1)with⟨h1,h2⟩|⟨i,e,h1,h2,h3,h4⟩
 ·obtain⟨i1,i2⟩:=sn hi (kvs':=PT++[(.str s,v)]) hL hg hb (es.push { key := .string s,val:=yv,born:=es.size }) (by simp[Py]) (NQ Py SK (.str s) hyv)
  refine⟨_,R,γ,.inr ⟨?_,rfl⟩,?_,i2,Mv.turnMap hL⟩
  ·simp[execOp,Instr.mapUpdate,Vt,WC,hye,run_underlying ht,Go.MapKept.run_getObj_map hb,U6,Go.MapKept.run_findKey Un h2,Go.MapKept.run_setObj_map _ hb,Result.andThen]
  ·unfold Gx;rw[h1];exact i1
 ·have hj:es[i]?=some e:=by simpa using h2
  obtain⟨p,hp,WF⟩:=tk h1;obtain⟨i1,i2⟩:=sn hi (kvs':=PT.set i (.str s,v)) hL hg hb (es.modify i fun e =>{ e with key := .string s,val:=yv }) (by simp[Py]) (fun j e' p' QB X9=>by
   obtain⟨e0,h5,h6⟩:=vZ QB;by_cases Xh:j=i
   ·subst Xh
    rw[ars (aq6.1 hp).1]at X9;injection X9 with X9;subst X9
    rw[if_pos rfl]at h6;subst h6;exact⟨(SK j e0 p h5 hp).1,.str s,hyv⟩
   ·rw[art (Ne.symm Xh)]at X9
    rw[if_neg Xh]at h6;subst h6;exact SK j _ p' h5 X9)
  rw[Array.size_modify]at i1 i2;refine⟨_,R,γ,.inr ⟨?_,rfl⟩,?_,i2,Mv.turnMap hL⟩
  ·simp[execOp,Instr.mapUpdate,Vt,WC,hye,run_underlying ht,Go.MapKept.run_getObj_map hb,U6,Go.MapKept.run_findKey Un h4,hj,h3,run_keyThatStays (d := .string) (k := .string s) trivial,Go.MapKept.run_setObj_map _ hb,Result.andThen]
  ·unfold Gx;rw[h1];exact i1
def capOf:AV->Option Cap
 |.one (.c x)=>some (.c x)
 |.one (.ptr id off)=>some (.ptr id off)
 |v=>match v.norm with
  |some (.one x)=>some (.c x)
  |_=>none
def xP (ρ:Operand->Option AV):List Operand->Option (List Cap)
 |[]=>some []
 |x::xs=>match (ρ x).bind capOf,xP ρ xs with
  |some c,some cs=>some (c::cs)
  |_,_=>none
theorem afH {v:AV}{c:Cap}{u:Value}(h:capOf v=some c)(hu:v.rep R γ L u):c.rep R γ u:=by
 unfold capOf at h;split at h
 ·injection h with h;subst h;exact hu
 ·injection h with h;subst h;exact hu
 ·split at h
  ·rename_i x hx;injection h with h;subst h;exact oZ hx hu
  ·cases h
theorem zQ {ev:Operand->Value}:∀ {xs:List Operand} {cs:List Cap},(∀ x,x∈xs ->∀ v,ρ x=some v->v.rep R γ L (ev x))->xP ρ xs=some cs->xs.length=cs.length /\ ∀ (j:Nat) x c,xs[j]?=some x->cs[j]?=some c->c.rep R γ (ev x)
 |[],cs,_,h=>by injection h with h;subst h;exact⟨rfl,fun j x c h=>by simp at h⟩
 |x::xs,cs,hρ,h=>by
  unfold xP at h;split at h
  ·rename_i c T0 hc SH
   injection h with h;subst h
   obtain⟨h1,h2⟩:=zQ (fun y hy=>hρ y (arx _ hy)) SH;refine⟨by simp[h1],fun j y d hy hd=>?_⟩
   cases j with
   |zero =>
    simp at hy hd;subst hy hd
    cases hx:ρ x with
    |none=>simp[hx]at hc
    |some v=>simp[hx]at hc;exact afH hc (hρ x m5 _ hx)
   |succ j=>exact h2 j y d (by simpa using hy) (by simpa using hd)
  ·cases h
theorem qc {f:FuncId}{captured:Array Operand}{caps:List Cap}(hc:xP ρ captured.toList=some caps):qW P ρ L (.makeFunc (.func f) #[] captured) (.one (.clo f caps)) L:=by
 intro B R γ w ev o ho hi hρ QM;obtain⟨dst,op,type,pos,after,guard⟩:=o;simp only at ho;subst ho;obtain⟨h1,h2⟩:=zQ (fun y hy=>hρ y (by simp[Op.operands];simpa using hy)) hc;refine⟨w,R,γ,.inl ⟨.func (.func f) #[] (captured.map ev),by simp[execOp,Instr.makeFunc],captured.map ev,rfl,by simpa using h1,fun j u x hu hx=>?_⟩,hi,Ext.refl _ _ _,Mv.refl⟩;rw[Array.getElem?_map]at hu
 cases hq:captured[j]? with
 |none=>simp[hq]at hu
 |some y=>simp[hq]at hu;subst hu;exact h2 j y x (by simpa using hq) hx
end
