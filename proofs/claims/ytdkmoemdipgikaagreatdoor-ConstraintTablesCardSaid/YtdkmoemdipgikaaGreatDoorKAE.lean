/- Parts. No condition. -/
import Derived.Test.YtdkmoemdipgikaaGreatDoorKAD
import Derived.IntWalk
import Derived.MapFrom
set_option linter.unusedSimpArgs false
set_option linter.unusedVariables false
namespace Go.Proofs.YtdkmoemdipgikaaGreatDoor
open Go.RowKit
section
variable {P:Program} {ti:TI} {B:Nat->Prop} {N n0:Nat}
theorem L8 {ds:List (Option Tmp)}{K:Tm->List Ob->Prop}:∀ (l:List Oper) (T:Tm) (L:List Ob),aB P ti N ds K l T L ->
  ∃ (vs:List AV) (Ls:Nat->List Ob),vs.length=l.length/\Ls 0=L/\(∀ (i:Nat) o,l[i]?=some o->dOK N o.dst /\ ∃ v,vs[i]?=some v /\
   ((fD ds (eJ l vs T i) o.guard=some true/\fB P ti (look (eJ l vs T i)) (Ls i) (fun v' L'=>v'=v/\L'=Ls (i+1)) o.op)\/(fD ds (eJ l vs T i) o.guard=some false/\v = .undef/\Ls (i+1)=Ls i))) /\
   K (eJ l vs T l.length) (Ls l.length)
 |[],T,L,h=>⟨[],fun _=>L,rfl,rfl,fun i o ho=>by simp at ho,by have h:K T L:=h;simpa[eJ]using h⟩
 |o::l,T,L,h=>by
  obtain⟨hd,hg⟩:=h;have go:∀ v L1,((fD ds T o.guard=some true/\fB P ti (look T) L (fun v' L'=>v'=v/\L'=L1) o.op)\/(fD ds T o.guard=some false/\v = .undef/\L1=L))->aB P ti N ds K l (rK T o.dst v) L1 ->∃ (vs:List AV) (Ls:Nat->List Ob),vs.length=(o::l).length/\Ls 0=L/\(∀ (i:Nat) o',(o::l)[i]?=some o'->dOK N o'.dst /\ ∃ v,vs[i]?=some v /\
   ((fD ds (eJ (o::l) vs T i) o'.guard=some true/\fB P ti (look (eJ (o::l) vs T i)) (Ls i) (fun v' L'=>v'=v/\L'=Ls (i+1)) o'.op)\/(fD ds (eJ (o::l) vs T i) o'.guard=some false/\v = .undef/\Ls (i+1)=Ls i))) /\
   K (eJ (o::l) vs T (o::l).length) (Ls (o::l).length):=by
   intro v L1 hv hr;obtain⟨vs,Ls,h1,h0,h2,h3⟩:=L8 l (rK T o.dst v) L1 hr;refine⟨v::vs,fun i=>match i with|0=>L|i+1=>Ls i,by simp[h1],rfl,fun i o' ho=>?_,by simpa[eJ]using h3⟩
   cases i with
   |zero =>
    simp at ho;subst ho;exact⟨hd,v,rfl,by simpa[eJ,h0]using hv⟩
   |succ i =>
    obtain⟨g1,v',g2,g3⟩:=h2 i o' (by simpa using ho);exact⟨g1,v',by simpa using g2,by simpa[eJ]using g3⟩
  rcases ael hg with⟨h1,h2⟩|⟨h1,h2⟩
  ·obtain⟨v,L1,g1,g2⟩:=aca h2
   exact go v L1 (.inl ⟨h1,g1⟩) g2
  ·exact go .undef L (.inr ⟨h1,rfl,rfl⟩) h2
theorem yQ:∀ (l:List Oper) (vs:List AV) (T:Tm) (i:Nat) (o:Oper) (v:AV),l[i]?=some o->vs[i]?=some v->eJ l vs T (i+1)=rK (eJ l vs T i) o.dst v
 |[],_,_,_,_,_,h,_=>by simp at h
 |_::_,[],_,_,_,_,_,h=>by simp at h
 |o0::l,v0::vs,T,0,o,v,ho,hv=>by
  simp at ho hv;subst ho hv;simp[eJ]
 |o0::l,v0::vs,T,i+1,o,v,ho,hv=>by
  rw[eJ,eJ];exact yQ l vs _ i o v (by simpa using ho) (by simpa using hv)
theorem zI {ρ:Operand->Option AV}{L L1:List Ob}{s:TypeId}{x:Operand}{i:Nat}{y:AC}{v:AV}(hx:ρ x=some (.one (.c y)))(h:fB P ti ρ L (fun v' L'=>v'=v/\L'=L1) (.fieldAddr s x i)):∃ z,v = .one (.c z):=by
 rcases h with⟨v',φ,hp,_,rfl,_⟩|⟨_,_,hp,_⟩|⟨_,_,_,hp,_⟩|⟨_,_,_,hp,_⟩|⟨_,_,_,_,_,_,hp,_⟩|⟨_,_,_,_,hp,_⟩|⟨_,_,_,_,_,_,hp,_⟩|⟨_,_,hp,_⟩
 ·simp only[pop,hx]at hp
  unfold fi at hp;split at hp
  ·split at hp
   ·split at hp
    ·cases hp;exact⟨_,rfl⟩
    ·cases hp
   ·cases hp
  ·rename_i e;cases e
  ·cases hp
 ·cases hp
 ·cases hp
 ·cases hp
 ·cases hp
 ·cases hp
 ·cases hp
 ·cases hp.1
theorem zA {ρ:Operand->Option AV}{L L1:List Ob}{s:TypeId}{x ix:Operand}{y:AC}{v:AV}(hx:ρ x=some (.one (.c y)))(h:fB P ti ρ L (fun v' L'=>v'=v/\L'=L1) (.indexAddr s x ix)):∃ z,v = .one (.c z):=by
 rcases h with⟨v',φ,hp,_,rfl,_⟩|⟨_,_,hp,_⟩|⟨_,_,_,hp,_⟩|⟨_,_,_,hp,_⟩|⟨_,_,_,_,_,_,hp,_⟩|⟨_,_,_,_,hp,_⟩|⟨_,_,_,_,_,_,hp,_⟩|⟨_,_,hp,_⟩
 ·simp only[pop,hx]at hp
  split at hp
  ·rename_i e _;cases e
  ·unfold d5 at hp
   split at hp
   ·split at hp
    ·cases hp;exact⟨_,rfl⟩
    ·cases hp
   ·cases hp
  ·cases hp
 ·cases hp
 ·cases hp
 ·cases hp
 ·cases hp
 ·cases hp
 ·cases hp
 ·cases hp.1
theorem aci {ρ:Operand->Option AV}{L L1:List Ob}{ty:TypeId}{x:Operand}{y:AC}{v:AV}(hag:ti.agg ty=some false)(hx:ρ x=some (.one (.c y)))(h:fB P ti ρ L (fun v' L'=>v'=v/\L'=L1) (.load ty x)):∃ z,v = .one (.c z):=by
 rcases h with⟨v',φ,hp,_,rfl,_⟩|⟨_,_,hp,_⟩|⟨_,_,_,hp,_⟩|⟨_,_,_,hp,_⟩|⟨_,_,_,_,_,_,hp,_⟩|⟨_,_,_,_,hp,_⟩|⟨_,_,_,_,_,_,hp,_⟩|⟨_,_,hp,_⟩
 ·simp only[pop,hx,amv]at hp
  unfold eM at hp;split at hp
  ·rename_i cs _
   rw[hag]at hp
   cases cs with
   |nil=>simp at hp
   |cons z cs =>
    simp only[Option.some.injEq,Prod.mk.injEq]at hp;exact⟨z,hp.1.symm⟩
  ·rename_i e;cases e
  ·rename_i e;cases e
  ·cases hp
 ·cases hp
 ·cases hp
 ·cases hp
 ·cases hp
 ·cases hp
 ·cases hp
 ·cases hp.1
structure ahc (ti:TI)(l:List Oper)(N:Nat)(B:Nat->Prop)(Ls:Nat->List Ob)(T:Tm)(vs:List AV)(R0:PH)(γ0:List Gh)(w0:World)(listed:Array Bool)(e:Nat)(R:PH)(γ:List Gh)(a:Act)(w:World):Prop where
 inv:Inv B R γ (Ls e) w
 size:a.tmps.size=N
 defers:a.defers=[]
 done:Done l listed
 le:e<=l.length
 lo:∀ (c:Nat) o,c<e->l[c]?=some o->bP ti o.op=true->listed[c]?=some true
 hi:∀ (c:Nat) o,e<=c->l[c]?=some o->bP ti o.op=true->listed[c]?=some false
 fresh:∀ (i:Nat) o d v,listed[i]?=some true->l[i]?=some o->o.dst=some d->vs[i]?=some v ->∃ u,a.tmps[d]?=some u/\v.rep R γ (Ls e) u
 old:∀ t x,T.lookup t=some x->(∀ (i:Nat) o,listed[i]?=some true->l[i]?=some o->o.dst≠some t) ->∃ u,a.tmps[t]?=some u/\x.rep R γ (Ls e) u
 ext:Ext B R0 R w0 w
 mv:Mv R0 R γ0 γ (Ls 0) (Ls e)
theorem s6 {l:List Oper}{listed:Array Bool}(hback:∀ (i:Nat) o,l[i]?=some o ->∀ e∈o.after.toList,Region.binds .any e=true->e.on<i)(h:Done l listed)(i:Nat):i∈Region.ready .any l.toArray listed↔i<l.length/\listed[i]?=some false /\ ∀ o,l[i]?=some o ->∀ e∈o.after.toList,Region.binds .any e=true->listed[e.on]?=some true:=by
 unfold Region.ready;rw[List.mem_filter,List.mem_range];simp only[List.size_toArray,amO];constructor
 ·rintro⟨hi,h1,h2⟩
  have hlt:i<listed.size:=by rw[h.size];exact hi
  have e1:listed[i]?=some listed[i]:=amV hlt;refine⟨hi,?_,fun o ho e he hb=>?_⟩
  ·rw[Array.getD_eq_getD_getElem?,e1]at h1
   simp at h1;rw[e1,h1]
  ·simp only[List.getElem?_toArray,ho,Option.map_some,Option.getD_some]at h2
   have:=Array.all_eq_true'.1 h2 e (by simpa using he);rw[hb]at this;have hlt2:e.on<listed.size:=by rw[h.size];have:=hback i o ho e he hb;omega
   have e2:listed[e.on]?=some listed[e.on]:=amV hlt2;rw[Array.getD_eq_getD_getElem?,e2]at this;simp at this;rw[e2,this]
 ·rintro⟨hi,h1,h2⟩
  refine⟨hi,by simp[Array.getD_eq_getD_getElem?,h1],?_⟩;have ho:l[i]?=some l[i]:=amF hi;simp only[List.getElem?_toArray,ho,Option.map_some,Option.getD_some];rw[Array.all_eq_true'];intro e he;by_cases hb:Region.binds .any e=true
  ·simp[hb,Array.getD_eq_getD_getElem?,h2 _ ho e (by simpa using he) hb]
  ·simp[hb]
open Classical in
theorem akO (hti:TIok P ti){l:List Oper}{ds:List (Option Tmp)}(hds:l.map (·.dst)=ds){F:List Nat}(hD:ahX F ti l){K:Tm->List Ob->Prop}{Q:Exit->Act->World->Prop}{T:Tm}{vs:List AV}{Ls:Nat->List Ob}{R0:PH}{γ0:List Gh}{w0:World}(hvl:vs.length=l.length)(hF:∀ t∈F,∃ x,T.lookup t=some (.one (.c x)))
  (htr:∀ (i:Nat) o,l[i]?=some o->dOK N o.dst /\ ∃ v,vs[i]?=some v /\
   ((fD ds (eJ l vs T i) o.guard=some true/\fB P ti (look (eJ l vs T i)) (Ls i) (fun v' L'=>v'=v/\L'=Ls (i+1)) o.op)\/(fD ds (eJ l vs T i) o.guard=some false/\v = .undef/\Ls (i+1)=Ls i)))
  (hK:K (eJ l vs T l.length) (Ls l.length))
  (hQ:∀ T' L' R' γ' w' a',K T' L'->Inv B R' γ' L' w'->cg N R' γ' L' T' a'->Ext B R0 R' w0 w'->Mv R0 R' γ0 γ' (Ls 0) L'->Q .normal a' w') :
  ∀ (fuel:Nat) (listed:Array Bool) (e:Nat) (R:PH) (γ:List Gh) (a:Act) (w:World),o_ l.length listed<=fuel->ahc ti l N B Ls T vs R0 γ0 w0 listed e R γ a w->wpAny P .any l.toArray Q fuel listed a w:=by
 have uniq:∀ (i j:Nat) o o' d,l[i]?=some o->l[j]?=some o'->o.dst=some d->o'.dst=some d->i=j:=by
  intro i j o o' d ho ho' hd hd';by_cases hne:i=j
  ·exact hne
  ·exfalso
   exact(hD.apart i j o o' d hne ho ho' hd (by unfold fO;simp[hd'])).1 hd'

 have der:∀ (m i:Nat) (G:List Nat),i+m<=l.length->(∀ t∈G,(∃ x,(eJ l vs T i).lookup t=some (.one (.c x))) /\ ∀ (k:Nat) o,i<=k->l[k]?=some o->o.dst≠some t) ->
   ∀ t∈G7 ti (l.drop i) m G,∃ x,(eJ l vs T (i+m)).lookup t=some (.one (.c x)):=by
  intro m
  induction m with
  |zero =>
   intro i G _ hG t ht;have:t∈G:=by
    cases G with
    |nil=>cases hd:l.drop i<;>rw[hd]at ht<;>exact ht
    |cons g G=>cases hd:l.drop i<;>rw[hd]at ht<;>exact ht
   exact(hG t this).1
  |succ m ih =>
   intro i G hle hG t ht;have hlt:i<l.length:=m0
   have ho:l[i]?=some l[i]:=amF hlt;rw[am2 hlt]at ht;have hG':∀ t∈agI ti l[i] G,(∃ x,(eJ l vs T (i+1)).lookup t=some (.one (.c x))) /\ ∀ (k:Nat) o,i+1<=k->l[k]?=some o->o.dst≠some t:=by
    obtain⟨_,v,hv,hstep⟩:=htr i _ ho;have hold:∀ t∈G,(∃ x,(eJ l vs T (i+1)).lookup t=some (.one (.c x))) /\ ∀ (k:Nat) o,i+1<=k->l[k]?=some o->o.dst≠some t:=fun t ht=>by
     obtain⟨⟨x,hx⟩,hk⟩:=hG t ht;refine⟨⟨x,?_⟩,fun k o h1 h2=>hk k o m0 h2⟩;rw[yQ l vs T i _ v ho hv,pn (hk i _ (amM _) ho)];exact hx
    have hnew:∀ d x,l[i].dst=some d->v = .one (.c x)->(∃ x,(eJ l vs T (i+1)).lookup d=some (.one (.c x))) /\ ∀ (k:Nat) o,i+1<=k->l[k]?=some o->o.dst≠some d:=fun d x hd hvx=>by
     refine⟨⟨x,?_⟩,fun k o h1 h2 h3=>?_⟩
     ·rw[yQ l vs T i _ v ho hv,hd,hvx]
      simp[rK,List.lookup_cons]
     ·have:=uniq i k _ o d ho h2 hd h3
      omega
    have look_of:∀ t∈G,∃ x,look (eJ l vs T i) (.tmp t)=some (.one (.c x)):=fun t ht=>(hG t ht).1
    have hval:l[i].guard=none->fB P ti (look (eJ l vs T i)) (Ls i) (fun v' L'=>v'=v/\L'=Ls (i+1)) l[i].op:=fun hg=>by
     rcases hstep with⟨_,h⟩|⟨h,_,_⟩
     ·exact h
     ·rw[hg]at h;cases h
    intro t ht;unfold agI at ht;split at ht
    ·cases ht
    ·rename_i d s t0 ix _ hg hd hop _
     split at ht
     ·rename_i hc
      rcases amN.1 ht with rfl|ht
      ·obtain⟨x,hx⟩:=look_of t0 (by simpa using hc)
       have h:=hval hg;rw[hop]at h;obtain⟨y,hy⟩:=zI hx h;exact hnew _ y hd hy
      ·exact hold t ht
     ·exact hold t ht
    ·rename_i d s t0 ix _ hg hd hop _
     split at ht
     ·rename_i hc
      rcases amN.1 ht with rfl|ht
      ·obtain⟨x,hx⟩:=look_of t0 (by simpa using hc)
       have h:=hval hg;rw[hop]at h;obtain⟨y,hy⟩:=zA hx h;exact hnew _ y hd hy
      ·exact hold t ht
     ·exact hold t ht
    ·rename_i d ty t0 _ hg hd hop _
     split at ht
     ·rename_i hc
      rcases amN.1 ht with rfl|ht
      ·obtain⟨x,hx⟩:=look_of t0 (by simpa using hc.1)
       have h:=hval hg;rw[hop]at h;obtain⟨y,hy⟩:=aci hc.2 hx h;exact hnew _ y hd hy
      ·exact hold t ht
     ·exact hold t ht
    ·exact hold t ht
   have e1:i+1+m=i+(m+1):=m0
   have key:=ih (i+1) (agI ti l[i] G) m0 hG' t;rw[e1]at key;refine key ?_
   cases hG0:G with
   |nil=>rw[hG0]at ht;cases ht
   |cons g G0=>rw[hG0]at ht;exact ht
 have derI:∀ i,i<=l.length ->∀ t∈G7 ti l i F,∃ x,(eJ l vs T i).lookup t=some (.one (.c x)):=by
  intro i hi t ht;have:=der i 0 F m0 (fun t ht=>⟨by
   obtain⟨x,hx⟩:=hF t ht;exact⟨x,(lq l vs T 0 fun j o' h=>by omega).trans hx⟩,fun k o _ hk=>hD.fz t ht o (amC hk)⟩) t (by rw[List.drop_zero];exact ht)
  rw[anb]at this;exact this

 have flat:∀ n e,(∀ (c:Nat) o,e<=c->c<e+n->l[c]?=some o->bP ti o.op=false)->e+n<=l.length->Ls (e+n)=Ls e:=by
  intro n
  induction n with
  |zero=>intro e _ _;rfl
  |succ n ih =>
   intro e h hle;have h1:=ih e (fun c o h1 h2=>h c o h1 m0) m0;have hlt:e+n<l.length:=m0
   have ho:l[e+n]?=some l[e+n]:=amF hlt;obtain⟨_,v,_,hs⟩:=htr _ _ ho;rw[<- h1];show Ls (e+n+1)=Ls (e+n);rcases hs with⟨_,hop⟩|⟨_,_,hop⟩
   ·exact sH (h _ _ m0 m0 ho) hop
   ·exact hop

 have pass:∀ (i:Nat) o v,l[i]?=some o->bP ti o.op=false->fB P ti (look (eJ l vs T i)) (Ls i) (fun v' L'=>v'=v/\L'=Ls (i+1)) o.op ->∀ e,e<=l.length ->
   (∀ (c:Nat) oc,l[c]?=some oc->bP ti oc.op=true->(i<c/\c<e)\/(e<=c/\c<i)->okX (G7 ti l i F) ti i c o.op oc.op=true)->fB P ti (look (eJ l vs T i)) (Ls e) (fun v' L'=>v'=v/\L'=Ls e) o.op:=by
  intro i o v ho hk hop e hel hx;have hil:=(amw.1 ho).1;refine quiet_move hk hop ?_;by_cases hins:y_ o.op=true
  ·intro r hr;rw[<- Oi hins (L:=Ls i)];exact hr
  have hins':y_ o.op=false:=by simpa using hins
  by_cases hfz:Iq (G7 ti l i F) o.op=true
  ·intro r hr
   rw[<- ajr (L:=Ls i) hfz (fun t ht=>derI i m0 t ht)];exact hr
  have hfz':Iq (G7 ti l i F) o.op=false:=by simpa using hfz
  have step:∀ c,c<l.length->(∀ oc,l[c]?=some oc->bP ti oc.op=true->okX (G7 ti l i F) ti i c o.op oc.op=true)->(i<c ->∀ r,pop ti (look (eJ l vs T i)) (Ls c) o.op=some r->pop ti (look (eJ l vs T i)) (Ls (c+1)) o.op=some r)/\(c<i ->∀ r,pop ti (look (eJ l vs T i)) (Ls (c+1)) o.op=some r->pop ti (look (eJ l vs T i)) (Ls c) o.op=some r):=by
   intro c hc hok;have hoc:l[c]?=some l[c]:=amF hc;obtain⟨_,vc,_,hs⟩:=htr c _ hoc;rcases hs with⟨_,hopc⟩|⟨_,_,hopc⟩
   ·cases hkc:bP ti l[c].op with
    |false=>rw[sH hkc hopc];exact⟨fun _ r h=>h,fun _ r h=>h⟩
    |true =>
     have h1:=hok _ hoc hkc;unfold okX at h1;rw[hins',hfz']at h1;simp only[Bool.false_or,amO]at h1;obtain⟨hsf,h1⟩:=h1;have h0:sk l[c].op≠0:=by intro e0;rw[e0]at h1;cases h1
     obtain⟨r1,r2,r3,r4⟩:=adw hsf h0 hopc;split at h1
     ·rename_i hsk
      have hlt:i<c:=amZ h1;exact⟨fun _ r h=>Hq (r1 hsk) h,fun hci=>by omega⟩
     ·rename_i hsk
      exact⟨fun _ r h=>Hq (r2 hsk).1 h,fun _ r h=>Hq (r2 hsk).2 h⟩
     ·rename_i hsk
      have hl:isLoad o.op=false:=by simpa using h1
      exact⟨fun _ r h=>afH (r3 hsk).1 hl h,fun _ r h=>afH (r3 hsk).2 hl h⟩
     ·rename_i hsk
      exact⟨fun _ r h=>Hq (r4 hsk).1 h,fun _ r h=>Hq (r4 hsk).2 h⟩
     ·cases h1
   ·rw[hopc];exact⟨fun _ r h=>h,fun _ r h=>h⟩

  have hsame:Ls (i+1)=Ls i:=sH hk hop;by_cases hei:e<=i
  ·
   have:∀ n,n<=i-e ->∀ r,pop ti (look (eJ l vs T i)) (Ls i) o.op=some r->pop ti (look (eJ l vs T i)) (Ls (i-n)) o.op=some r:=by
    intro n
    induction n with
    |zero=>intro _ r h;exact h
    |succ n ih =>
     intro hn r h;have h2:=ih m0 r h;have h3:=(step (i-(n+1)) m0 (fun oc hoc hkc=>hx _ oc hoc hkc (.inr ⟨m0,m0⟩))).2 m0 r;have e1:i-(n+1)+1=i-n:=m0
     rw[e1]at h3;exact h3 h2
   intro r h;have h2:=this (i-e) (amM _) r h;have e1:i-(i-e)=e:=m0
   rw[e1]at h2;exact h2
  ·have:∀ n,i+1+n<=e ->∀ r,pop ti (look (eJ l vs T i)) (Ls i) o.op=some r->pop ti (look (eJ l vs T i)) (Ls (i+1+n)) o.op=some r:=by
    intro n
    induction n with
    |zero=>intro _ r h;show pop ti (look (eJ l vs T i)) (Ls (i+1)) o.op=some r;rw[hsame];exact h
    |succ n ih =>
     intro hn r h;have h2:=ih m0 r h;exact(step (i+1+n) m0 (fun oc hoc hkc=>hx _ oc hoc hkc (.inl ⟨m0,m0⟩))).1 m0 r h2
   intro r h;have h2:=this (e-(i+1)) m0 r h;have e1:i+1+(e-(i+1))=e:=m0
   rw[e1]at h2;exact h2

 have slots:∀ (listed:Array Bool) (e:Nat) (R:PH) (γ:List Gh) (a:Act) (w:World),ahc ti l N B Ls T vs R0 γ0 w0 listed e R γ a w ->∀ (i:Nat) o,l[i]?=some o->listed[i]?=some false ->
   (∀ o',l[i]?=some o' ->∀ e∈o'.after.toList,Region.binds .any e=true->listed[e.on]?=some true) ->∀ t x,t∈fO l.toArray o->(eJ l vs T i).lookup t=some x ->∃ u,a.tmps[t]?=some u/\x.rep R γ (Ls e) u:=by
  intro listed e R γ a w M i o ho hli hed t x hmem hx;have hil:=(amw.1 ho).1;by_cases hex:∃ (j:Nat) (o':Oper),j<i/\l[j]?=some o'/\o'.dst=some t
  ·obtain⟨j,o',hj,ho',hd'⟩:=hex
   have hanc:=(hD.apart j i o' o t m0 ho' ho hd' hmem).2;rw[if_pos hj]at hanc;have hlj:=M.done.anc hanc hed;have hjv:vs[j]?=some vs[j]:=amF m0;have:=qM l vs T i j o' vs[j] hj ho' hd' hjv (fun k o2 h1 h2 h3 hd2=>by
    have:=uniq j k o' o2 t ho' h3 hd' hd2;omega) (fun k _ _=>by omega)
   rw[hx]at this;injection this with this
   subst this;exact M.fresh j o' t _ hlj ho' hd' hjv
  ·have hno:∀ j o',j<i->l[j]?=some o'->o'.dst≠some t:=fun j o' h1 h2 h3=>hex ⟨j,o',h1,h2,h3⟩
   rw[lq l vs T i hno]at hx;refine M.old t x hx fun k o' hlk hok hdk=>?_
   by_cases hki:k<i
   ·exact hno k o' hki hok hdk
   ·by_cases hke:k=i
    ·subst hke;rw[hli]at hlk;cases hlk
    ·have hanc:=(hD.apart k i o' o t hke hok ho hdk hmem).2
     rw[if_neg hki]at hanc;have:=M.done.anc hanc (fun o2 h2=>M.done.down k o2 h2 hlk);rw[hli]at this;cases this
 have hbool:∀ (listed:Array Bool),Done l listed ->∀ i,i<l.length->listed[i]?=some true\/listed[i]?=some false:=by
  intro listed hd i hi;have hlt:i<listed.size:=by rw[hd.size];exact hi
  rw[amV hlt]
  cases listed[i]<;>simp

 have fin:∀ (listed:Array Bool) (e:Nat) (R:PH) (γ:List Gh) (a:Act) (w:World),ahc ti l N B Ls T vs R0 γ0 w0 listed e R γ a w->(∀ i,i<l.length->listed[i]?=some true)->Q .normal a w:=by
  intro listed e R γ a w M hall;have hle:Ls l.length=Ls e:=by
   have:=flat (l.length-e) e (fun c o h1 h2 ho=>by
    cases hk:bP ti o.op with
    |false=>rfl
    |true=>have:=M.hi c o h1 ho hk;rw[hall c (amw.1 ho).1]at this;cases this) (by have:=M.le;omega)
   have e1:e+(l.length-e)=l.length:=by have:=M.le;omega
   rw[e1]at this;exact this
  rw[hle]at hK;refine hQ _ _ R γ w a hK M.inv ⟨M.size,M.defers,fun t x hx=>?_⟩ M.ext M.mv;by_cases hex:∃ (j:Nat) (o':Oper),j<l.length/\l[j]?=some o'/\o'.dst=some t
  ·obtain⟨j,o',hj,ho',hd'⟩:=hex
   have hjv:vs[j]?=some vs[j]:=amF m0;have:=qM l vs T l.length j o' vs[j] hj ho' hd' hjv (fun k o2 h1 h2 h3 hd2=>by
    have:=uniq j k o' o2 t ho' h3 hd' hd2;omega) (fun k _ _=>by omega)
   rw[hx]at this;injection this with this
   subst this;exact M.fresh j o' t _ (hall j hj) ho' hd' hjv
  ·have hno:∀ j o',j<l.length->l[j]?=some o'->o'.dst≠some t:=fun j o' h1 h2 h3=>hex ⟨j,o',h1,h2,h3⟩
   rw[lq l vs T l.length hno]at hx;exact M.old t x hx fun k o' _ hok hdk=>hno k o' (amw.1 hok).1 hok hdk
 have allDone:∀ (listed:Array Bool),Done l listed->Region.ready .any l.toArray listed=[] ->∀ i,i<l.length->listed[i]?=some true:=by
  intro listed hd hnil i
  induction i using Nat.strongRecOn with
  |ind i ihi =>
   intro hi;rcases hbool listed hd i hi with h|h
   ·exact h
   ·exfalso
    have:i∈Region.ready .any l.toArray listed:=(s6 hD.back hd i).2 ⟨hi,h,fun o ho e he hb=>ihi e.on (hD.back i o ho e he hb) (by have:=hD.back i o ho e he hb;omega)⟩;rw[hnil]at this;cases this
 intro fuel
 induction fuel with
 |zero =>
  intro listed e R γ a w hc M;have hall:∀ i,i<l.length->listed[i]?=some true:=by
   intro i hi;rcases hbool listed M.done i hi with h|h
   ·exact h
   ·exfalso
    have:0<o_ l.length listed:=List.countP_pos_iff.2 ⟨i,by simpa using hi,by rw[h];rfl⟩;omega
  refine⟨?_,fin listed e R γ a w M hall⟩;apply List.eq_nil_iff_forall_not_mem.2;intro i hmem;obtain⟨h1,h2,_⟩:=(s6 hD.back M.done i).1 hmem;rw[hall i h1]at h2;cases h2
 |succ fuel ih =>
  intro listed e R γ a w hc M;refine⟨fun hnil=>fin listed e R γ a w M (allDone listed M.done hnil),fun i hmem=>?_⟩;obtain⟨h1,h2,h3⟩:=(s6 hD.back M.done i).1 hmem;have ho:l[i]?=some l[i]:=amF h1;obtain⟨hd,v,hv,hstep⟩:=htr i _ ho;have hsl:=slots listed e R γ a w M i _ ho h2 h3;have hcnt:o_ l.length (listed.setIfInBounds i true)<=fuel:=by
   have:o_ l.length (listed.setIfInBounds i true)<o_ l.length listed:=by
    unfold o_;refine uU _ (fun x hx hq=>?_) ⟨i,by simpa using h1,by rw[h2];rfl,by rw[ano (by rw[M.done.size];exact h1)];rfl⟩;by_cases hxi:x=i
    ·subst hxi;rw[h2];rfl
    ·rw[ane (Ne.symm hxi)]at hq;exact hq
   omega
  have hput:∀ (e':Nat) (R':PH) (γ':List Gh) (w':World) (u:Value),e'<=l.length->(∀ (c:Nat) o,c<e'->l[c]?=some o->bP ti o.op=true->(listed.setIfInBounds i true)[c]?=some true)->(∀ (c:Nat) o,e'<=c->l[c]?=some o->bP ti o.op=true->(listed.setIfInBounds i true)[c]?=some false) ->
    Inv B R' γ' (Ls e') w'->Ext B R R' w w'->Mv R R' γ γ' (Ls e) (Ls e')->v.rep R' γ' (Ls e') u->ahc ti l N B Ls T vs R0 γ0 w0 (listed.setIfInBounds i true) e' R' γ' (a.put l[i].dst u) w':=by
   intro e' R' γ' w' u hle' hlo hhi hi' he' hmv hu;have hsz:(a.put l[i].dst u).tmps.size=N:=by cases hdd:l[i].dst<;>simp[Act.put,M.size]
   have keep:∀ t,l[i].dst≠some t->(a.put l[i].dst u).tmps[t]?=a.tmps[t]?:=by
    intro t ht
    cases hdd:l[i].dst with
    |none=>rfl
    |some d=>simp only[Act.put];rw[ane (by intro e;exact ht (by rw[hdd,e]))]
   refine⟨hi',hsz,by cases hdd:l[i].dst<;>exact M.defers,M.done.put h3,hle',hlo,hhi,fun j o d v' hlj hoj hdj hvj=>?_,fun t x hx hno=>?_,M.ext.trans he',M.mv.trans hmv⟩
   ·by_cases hji:j=i
    ·subst hji
     rw[ho]at hoj;injection hoj with hoj;subst hoj
     rw[hv]at hvj;injection hvj with hvj;subst hvj
     have hdN:d<N:=by have:=hd;rw[hdj]at this;exact this
     refine⟨u,?_,hu⟩;rw[hdj];simp only[Act.put];exact ano (by rw[M.size];exact hdN)
    ·rw[ane (Ne.symm hji)]at hlj
     obtain⟨u',g1,g2⟩:=M.fresh j o d v' hlj hoj hdj hvj;refine⟨u',?_,AV.mv hmv g2⟩;rw[keep d (fun e=>hji (uniq j i o _ d hoj ho hdj e))];exact g1
   ·have hni:l[i].dst≠some t:=hno i _ (ano (by rw[M.done.size];exact h1)) ho
    obtain⟨u',g1,g2⟩:=M.old t x hx fun k o hlk hok=>hno k o (by
     by_cases hki:k=i
     ·subst hki;rw[h2]at hlk;cases hlk
     ·rw[ane (Ne.symm hki)];exact hlk) hok
    exact⟨u',by rw[keep t hni];exact g1,AV.mv hmv g2⟩
  have hlook:∀ d x,d∈l[i].looksAt l.toArray->(eJ l vs T i).lookup d=some x ->∃ u,a.tmps[d]?=some u/\x.rep R γ (Ls e) u:=fun d x hd hx=>hsl d x (by unfold fO;exact List.mem_append_left _ hd) hx

  have quietLo:bP ti l[i].op=false->(∀ (c:Nat) o,c<e->l[c]?=some o->bP ti o.op=true->(listed.setIfInBounds i true)[c]?=some true)/\(∀ (c:Nat) o,e<=c->l[c]?=some o->bP ti o.op=true->(listed.setIfInBounds i true)[c]?=some false):=by
   intro hk;have hne:∀ (c:Nat) o,l[c]?=some o->bP ti o.op=true->c≠i:=by
    rintro c o hoc hkc rfl;rw[ho]at hoc;injection hoc with hoc;subst hoc;rw[hk]at hkc;cases hkc
   exact⟨fun c o hc hoc hkc=>by rw[ane (Ne.symm (hne c o hoc hkc))];exact M.lo c o hc hoc hkc,fun c o hc hoc hkc=>by rw[ane (Ne.symm (hne c o hoc hkc))];exact M.hi c o hc hoc hkc⟩
  have chainAt:bP ti l[i].op=true->e<=i/\Ls i=Ls e/\(∀ (c:Nat) o,c<i+1->l[c]?=some o->bP ti o.op=true->(listed.setIfInBounds i true)[c]?=some true)/\(∀ (c:Nat) o,i+1<=c->l[c]?=some o->bP ti o.op=true->(listed.setIfInBounds i true)[c]?=some false):=by
   intro hk;have hei:e<=i:=by
    rcases Nat.lt_or_ge i e with h|h
    ·have:=M.lo i _ h ho hk;rw[h2]at this;cases this
    ·exact h
   have hbelow:∀ (c:Nat) o,c<i->l[c]?=some o->bP ti o.op=true->listed[c]?=some true:=fun c o hc hoc hkc=>M.done.anc (hD.chain i c _ o ho hoc hk hkc hc) h3
   refine⟨hei,?_,fun c o hc hoc hkc=>?_,fun c o hc hoc hkc=>?_⟩
   ·have:=flat (i-e) e (fun c o c1 c2 hoc=>by
     cases hkc:bP ti o.op with
     |false=>rfl
     |true=>have q:=M.hi c o c1 hoc hkc;rw[hbelow c o m0 hoc hkc]at q;cases q) m0
    have e1:e+(i-e)=i:=m0
    rw[e1]at this;exact this
   ·by_cases hci:c=i
    ·subst hci;exact ano (by rw[M.done.size];exact h1)
    ·rw[ane (Ne.symm hci)];exact hbelow c o m0 hoc hkc
   ·rw[ane m0];exact M.hi c o m0 hoc hkc
  unfold wpOp;simp only[List.getElem?_toArray,ho];rcases hstep with⟨hw,hop⟩|⟨hw,rfl,hLs⟩
  ·rw[if_pos (q8 (B4 hds) hlook hw)]
   refine .inl ?_;have operand:∀ x v',(fun x=>if x∈l[i].op.operands then look (eJ l vs T i) x else none) x=some v'->v'.rep R γ (Ls e) (a.eval x):=by
    intro x v' hx;by_cases hxo:x∈l[i].op.operands
    ·simp only[hxo,if_true]at hx
     cases x with
     |tmp t =>
      obtain⟨u,g1,g2⟩:=hlook t v' (by unfold Oper.looksAt;exact List.mem_append_left _ (List.mem_filterMap.2 ⟨.tmp t,by simpa using hxo,rfl⟩)) hx;have:a.eval (.tmp t)=u:=by simp[Act.eval,Array.getD_eq_getD_getElem?,g1]
      rw[this];exact g2
     |const c=>exact AV.ofVal_rep hx
     |global g=>cases hx
     |func f =>
      injection hx with hx;subst hx
      exact .fn f #[] [] rfl (fun j v x hv=>by simp at hv)
    ·simp only[hxo,if_false]at hx;cases hx
   cases hk:bP ti l[i].op with
   |false =>
    have hop2:=pass i _ v ho hk hop e M.le (fun c oc hoc hkc hcc=>by
     refine hD.cross i c _ oc ho hoc hk hkc (fun ha=>?_) (fun ha=>?_)
     ·have q:=M.done.anc ha h3
      rcases hcc with⟨c1,c2⟩|⟨c1,c2⟩
      ·
       have back:∀ i j,KE l i j->j<i:=by
        intro i j h
        induction h with
        |edge ho he hb=>exact hD.back _ _ ho _ he hb
        |step ho he hb _ ih=>have:=hD.back _ _ ho _ he hb;omega
       have:=back i c ha;omega
      ·rw[M.hi c oc c1 hoc hkc]at q;cases q
     ·rcases hcc with⟨c1,c2⟩|⟨c1,c2⟩
      ·have q:=M.done.anc ha (fun o2 h2'=>M.done.down c o2 h2' (M.lo c oc c2 hoc hkc))
       rw[h2]at q;cases q
      ·have back:∀ i j,KE l i j->j<i:=by
        intro i j h
        induction h with
        |edge ho he hb=>exact hD.back _ _ ho _ he hb
        |step ho he hb _ ih=>have:=hD.back _ _ ho _ he hb;omega
       have:=back c i ha;omega)
    have hop':=wG (ρ':=fun x=>if x∈l[i].op.operands then look (eJ l vs T i) x else none) (fun x hx=>by simp only[hx,if_true]) hop2;refine gZ hti M.inv operand hop' ?_;rintro v' L' R' γ' w' u ⟨rfl,rfl⟩ k1 k2 k3 k4;obtain⟨q1,q2⟩:=quietLo hk;exact ih _ e R' γ' _ w' hcnt (hput e R' γ' w' u M.le q1 q2 k1 k2 k3 k4)
   |true =>
    obtain⟨hei,hLe,q1,q2⟩:=chainAt hk;rw[hLe]at hop;have hop':=wG (ρ':=fun x=>if x∈l[i].op.operands then look (eJ l vs T i) x else none) (fun x hx=>by simp only[hx,if_true]) hop;refine gZ hti M.inv operand hop' ?_;rintro v' L' R' γ' w' u ⟨rfl,rfl⟩ k1 k2 k3 k4;exact ih _ (i+1) R' γ' _ w' hcnt (hput (i+1) R' γ' w' u m0 q1 q2 k1 k2 k3 k4)
  ·rw[if_neg (by rw[q8 (B4 hds) hlook hw];decide)]
   cases hk:bP ti l[i].op with
   |false =>
    obtain⟨q1,q2⟩:=quietLo hk;exact ih _ e R γ _ w hcnt (hput e R γ w Go.undef M.le q1 q2 M.inv (Ext.refl _ _ _) Mv.refl rfl)
   |true =>
    obtain⟨hei,hLe,q1,q2⟩:=chainAt hk;have hLi:Ls (i+1)=Ls e:=hLs.trans hLe;refine ih _ (i+1) R γ _ w hcnt (hput (i+1) R γ w Go.undef m0 q1 q2 ?_ (Ext.refl _ _ _) ?_ rfl)
    ·rw[hLi];exact M.inv
    ·rw[hLi];exact Mv.refl
def fzB (F:List Nat)(T:Tm):Bool:=F.all fun t=>match T.lookup t with
 |some (.one (.c _))=>true
 |_=>false
theorem ae6 {F:List Nat}{T:Tm}(h:fzB F T=true):∀ t∈F,∃ x,T.lookup t=some (.one (.c x)):=by
 intro t ht;have:=ank.1 h t ht;split at this
 ·rename_i x hx;exact⟨x,hx⟩
 ·cases this
theorem gp (F:List Nat)(hti:TIok P ti){Q:AX->Tm->List Ob->Prop}{T:Tm}{L:List Ob}{id:Nat}{l:List Oper}(ds:List (Option Tmp))(hds:l.map (·.dst)=ds)(hmix:P.follows .mixedOrders=true)(hc:fS F ti l=true)(hF:fzB F T=true)(h:aB P ti N ds (Q .normal) l T L):Aw P N n0 (.region id l.toArray true) Q T L:=by
 intro hn B R γ w a hi hT;have hD:=Ii hc;obtain⟨vs,Ls,h1,h0,h2,h3⟩:=L8 l T L h;subst h0;have hiD:Inv B R γ (Ls 0) { w with drawn:=w.drawn+1 } :=⟨hi.len,hi.val,fun id x g hx hg=>(hi.obj id x g hx hg).mv Mv.refl (fun _ _=>rfl) (fun _ _ _ h=>h),hi.inj,hi.new,hi.bsz⟩;have heD:Ext B R R w { w with drawn:=w.drawn+1 } :=⟨⟨rfl,rfl,rfl,amM _,fun _ _=>rfl⟩,PH.sub_refl _,fun _ _ _=>rfl⟩;refine wp_region_any hmix ?_;have hsz:l.toArray.size=l.length:=by simp
 rw[hsz];refine akO hti hds (B:=B) hD h1 (ae6 hF) h2 h3 (R0:=R) (γ0:=γ) (w0:=w) ?_ l.length (Array.replicate l.length false) 0 R γ a { w with drawn:=w.drawn+1 } ?_ ?_
 ·intro T' L' R' γ' w' a' q1 q2 q3 q4 q5
  exact⟨.normal,T',L',R',γ',rfl,q1,q2,q3,q4,fP.of hn q5⟩
 ·unfold o_
  exact Nat.le_trans List.countP_le_length m5
 ·have hf:∀ i:Nat,i<l.length->(Array.replicate l.length false)[i]?=some false:=fun i hi=>by simp[hi]
  have ht:∀ i:Nat,(Array.replicate l.length false)[i]?≠some true:=by
   intro i e;by_cases hi:i<l.length
   ·rw[hf i hi]at e;cases e
   ·rw[Array.getElem?_eq_none m8]at e;cases e
  exact⟨hiD,hT.size,hT.defers,⟨m5,fun i o _ e=>absurd e (ht i)⟩,m0,fun c _ hc=>by omega,fun c o _ hoc _=>hf c (amw.1 hoc).1,fun i o d v e=>absurd e (ht i),fun t x hx _=>hT.slot t x hx,heD,Mv.refl⟩
theorem aw_drawn2 (hti:TIok P ti){Q:AX->Tm->List Ob->Prop}{T:Tm}{L:List Ob}{id:Nat}{l:List Oper}(ds:List (Option Tmp))(hds:l.map (·.dst)=ds)(hmix:P.follows .mixedOrders=true)(hc:ahF ti l=true)(h:aB P ti N ds (Q .normal) l T L):Aw P N n0 (.region id l.toArray true) Q T L :=
 gp [] hti ds hds hmix hc rfl h
end
def gdb (ds:List (Option Tmp))(T:Tm):Option (Nat×Bool)->Option Bool
 |none=>none
 |some (j,_)=>match ds[j]? with
  |some (some d)=>match T.lookup d with
   |some (.one (.c (.bool b)))=>some b
   |_=>none
  |_=>none
section
variable {P:Program} {ti:TI} {N:Nat} {ds:List (Option Tmp)} {K:Tm->List Ob->Prop} {o:Oper} {rest:List Oper} {T:Tm} {L:List Ob}
theorem dC {A B:Prop}{g:Option (Nat×Bool)}(h:fD ds T g=some true)(ha:A):gd ds T A B g:=by
 cases g with
 |none=>exact ha
 |some p =>
  obtain⟨j,want⟩:=p;simp only[fD]at h;simp only[gd];split at h
  ·rename_i d hd
   try simp only[hd]
   split at h
   ·rename_i b hb
    try simp only[hb]
    refine⟨fun _=>ha,fun e=>?_⟩;subst e
    cases want<;>simp at h
   ·cases h
   ·cases h
  ·cases h
theorem zD {A B:Prop}{g:Option (Nat×Bool)}(h:fD ds T g=some false)(hb:B):gd ds T A B g:=by
 cases g with
 |none=>cases h
 |some p =>
  obtain⟨j,want⟩:=p;simp only[fD]at h;simp only[gd];split at h
  ·rename_i d hd
   try simp only[hd]
   split at h
   ·rename_i b hbb
    try simp only[hbb]
    refine⟨fun e=>?_,fun _=>hb⟩;subst e
    cases b<;>simp at h
   ·rename_i hbb
    try simp only[hbb]
    exact hb
   ·cases h
  ·cases h
theorem eT {d:Nat}(hd:o.dst=some d)(hN:Nat.blt d N=true):dOK N o.dst:=by
 rw[hd];show d<N;exact Nat.blt_eq▸hN
theorem st_nil (h:K T L):aB P ti N ds K [] T L:=h
theorem st_pop {v:AV}{φ:Prop}{d:Nat}(hd:o.dst=some d)(hN:Nat.blt d N=true)(hg:fD ds T o.guard=some true)(hp:pop ti (look T) L o.op=some (v,φ))(hφ:φ)(h:aB P ti N ds K rest ((d,v)::T) L):aB P ti N ds K (o::rest) T L :=
 ⟨eT hd hN,dC hg (.inl ⟨v,φ,hp,hφ,by rw[hd];exact h⟩)⟩
theorem st_lit {v:AV}{φ:Prop}{d:Nat}(hd:o.dst=some d)(hN:Nat.blt d N=true)(hg:fD ds T o.guard=some true)(hp:rS ti (look T) o.op=some (v,φ))(hφ:φ)(h:aB P ti N ds K rest ((d,v)::T) L):aB P ti N ds K (o::rest) T L :=
 ⟨eT hd hN,dC hg (.inr (.inl ⟨v,φ,hp,hφ,by rw[hd];exact h⟩))⟩
theorem st_lop {v:AV}{L':List Ob}{φ:Prop}{d:Nat}(hd:o.dst=some d)(hN:Nat.blt d N=true)(hg:fD ds T o.guard=some true)(hp:xj ti (look T) L o.op=some (v,L',φ))(hφ:φ)(h:aB P ti N ds K rest ((d,v)::T) L'):aB P ti N ds K (o::rest) T L :=
 ⟨eT hd hN,dC hg (.inr (.inr (.inl ⟨v,L',φ,hp,hφ,by rw[hd];exact h⟩)))⟩
theorem sS_ {v:AV}{L':List Ob}{φ:Prop}(hd:o.dst=none)(hg:fD ds T o.guard=some true)(hp:xj ti (look T) L o.op=some (v,L',φ))(hφ:φ)(h:aB P ti N ds K rest T L'):aB P ti N ds K (o::rest) T L :=
 ⟨by rw[hd];trivial,dC hg (.inr (.inr (.inl ⟨v,L',φ,hp,hφ,by rw[hd];exact h⟩)))⟩
theorem aF {g:FuncId}{ps:List PV}{r:CV}{d:Nat}{v:AV}(hd:o.dst=some d)(hN:Nat.blt d N=true)(hg:fD ds T o.guard=some true)(hp:oL (look T) o.op=some (g,ps))(hc:Pure P g ps r)(hv:r.av=v)(h:aB P ti N ds K rest ((d,v)::T) L):aB P ti N ds K (o::rest) T L :=
 ⟨eT hd hN,dC hg (.inr (.inr (.inr (.inl ⟨g,ps,r,hp,hc,by rw[hd,hv];exact h⟩))))⟩
theorem Fp {g:FuncId}{es es':List (List AC)}{t k d:Nat}{ps:List PV}(hd:o.dst=some d)(hN:Nat.blt d N=true)(hg:fD ds T o.guard=some true)(hp:dW ti (look T) o.op=some (g,es,some t,ps))(hL:L[t]?=some (.spare es.length k))(hc:Ee P g es k ps es')
  (h:aB P ti N ds K rest ((d,.one (.own es' L.length))::T) (L.set t .dead++[.spare es'.length k])):aB P ti N ds K (o::rest) T L :=
 ⟨eT hd hN,dC hg (.inr (.inr (.inr (.inr (.inl ⟨g,es,t,k,ps,es',hp,hL,hc,by rw[hd];exact h⟩)))))⟩
theorem cB (σ:List Nat){g:FuncId}{L0 L1 L':List Ob}{args asx:List AV}{r r':AV}{d:Nat}(hd:o.dst=some d)(hN:Nat.blt d N=true)(hg:fD ds T o.guard=some true)(hp:dj ti (look T) o.op=some (g,asx))(hc:Run P g L0 args L1 r)(ha:asx=args.map (AV.ren σ))(hF:eQ σ L0 args L)
  (hr:r.ren (ct σ L.length L1.length)=r') (hL:joinL σ L L1=L') (h:aB P ti N ds K rest ((d,r')::T) L'):aB P ti N ds K (o::rest) T L :=
 ⟨eT hd hN,dC hg (.inr (.inr (.inr (.inr (.inr (.inr (.inl ⟨σ,g,L0,args,L1,r,by rw[hp,ha],hF,hc,by rw[hd,hr,hL];exact h⟩)))))))⟩
theorem bL {v:AV}{L':List Ob}{d:Nat}(hd:o.dst=some d)(hN:Nat.blt d N=true)(hg:fD ds T o.guard=some true)(hl:bP ti o.op=true)(hsf:ti.soft=false)(hs:kZ P (look T) L o.op v L')(h:aB P ti N ds K rest ((d,v)::T) L'):aB P ti N ds K (o::rest) T L :=
 ⟨eT hd hN,dC hg (.inr (.inr (.inr (.inr (.inr (.inr (.inr ⟨v,L',⟨hl,fun e=>by rw[hsf]at e;cases e⟩,hs,by rw[hd];exact h⟩)))))))⟩
theorem xT {v:AV}{L':List Ob}(hd:o.dst=none)(hg:fD ds T o.guard=some true)(hl:bP ti o.op=true)(hsf:ti.soft=false)(hs:kZ P (look T) L o.op v L')(h:aB P ti N ds K rest T L'):aB P ti N ds K (o::rest) T L :=
 ⟨by rw[hd];trivial,dC hg (.inr (.inr (.inr (.inr (.inr (.inr (.inr ⟨v,L',⟨hl,fun e=>by rw[hsf]at e;cases e⟩,hs,by rw[hd];exact h⟩)))))))⟩
theorem cR {v:AV}{d:Nat}(hd:o.dst=some d)(hN:Nat.blt d N=true)(hg:fD ds T o.guard=some true)(hl:bP ti o.op=true)(hk:sk o.op=4)(hs:kZ P (look T) L o.op v L)(h:aB P ti N ds K rest ((d,v)::T) L):aB P ti N ds K (o::rest) T L :=
 ⟨eT hd hN,dC hg (.inr (.inr (.inr (.inr (.inr (.inr (.inr ⟨v,L,⟨hl,fun _ => .inr ⟨hk,rfl⟩⟩,hs,by rw[hd];exact h⟩)))))))⟩
theorem aar {v:AV}{L':List Ob}{d:Nat}(hd:o.dst=some d)(hN:Nat.blt d N=true)(hg:fD ds T o.guard=some true)(hl:bP ti o.op=true)(hk:sk o.op=0)(hs:kZ P (look T) L o.op v L')(h:aB P ti N ds K rest ((d,v)::T) L'):aB P ti N ds K (o::rest) T L :=
 ⟨eT hd hN,dC hg (.inr (.inr (.inr (.inr (.inr (.inr (.inr ⟨v,L',⟨hl,fun _ => .inl hk⟩,hs,by rw[hd];exact h⟩)))))))⟩
theorem st_skip {d:Nat}(hd:o.dst=some d)(hN:Nat.blt d N=true)(hg:fD ds T o.guard=some false)(h:aB P ti N ds K rest ((d,.undef)::T) L):aB P ti N ds K (o::rest) T L :=
 ⟨eT hd hN,zD hg (by rw[hd];exact h)⟩
theorem sk0_ (hd:o.dst=none)(hg:fD ds T o.guard=some false)(h:aB P ti N ds K rest T L):aB P ti N ds K (o::rest) T L :=
 ⟨by rw[hd];trivial,zD hg (by rw[hd];exact h)⟩
theorem st_if {b:Bool}(_:gdb ds T o.guard=some b)(h1:b=true->aB P ti N ds K (o::rest) T L)(h2:b=false->aB P ti N ds K (o::rest) T L):aB P ti N ds K (o::rest) T L:=by
 cases hb:b
 ·exact h2 hb
 ·exact h1 hb
end
theorem ff {β:Type}{l:List (Nat×β)}{Pr:Nat->β->Prop}(h:∀ p∈l,Pr p.1 p.2):∀ t v,l.lookup t=some v->Pr t v:=by
 intro t v hv
 induction l with
 |nil=>cases hv
 |cons p l ih =>
  obtain⟨k,x⟩:=p;rw[List.lookup_cons]at hv;by_cases e:t=k
  ·subst e;simp at hv;subst hv;exact h (t,x) m5
  ·have:(t==k)=false:=by simpa using e
   rw[this]at hv;exact ih (fun p hp=>h p (amU _ hp)) hv
theorem yp {α:Type}{l:List α}{f:α->Bool}{Pr:α->Prop}(h:l.all f=true)(hf:∀ x,f x=true->Pr x):∀ x∈l,Pr x:=fun x hx=>hf x (ank.1 h x hx)
def TI.of (sz:List (Nat×Nat))(ag:List (Nat×Bool))(el:List (Nat×Nat))(fl:List (Nat×List (Nat×Nat)))(ze:List (Nat×AV))(bt:List (Nat×Nat))(ki:List (Nat×TypeDesc))(st zo:List Nat)(eq:List (Nat×List Sc))(ow:List Nat):TI where
 size:=fun t=>sz.lookup t
 agg:=fun t=>ag.lookup t
 elem:=fun t=>el.lookup t
 field:=fun s i=>match fl.lookup s with
  |some fs=>fs[i]?
  |none=>none
 zero:=fun t=>ze.lookup t
 bytes:=fun t=>bt.lookup t
 kind:=fun t=>ki.lookup t
 struct:=fun t=>st.contains t
 zok:=fun t=>zo.contains t
 eqs:=fun t=>eq.lookup t
 owns:=fun f=>ow.contains f
def aiM (P:Program)(t:TypeId):Bool :=
 match P.info? t with
 |some i=>match i.zero with
  |some z=>z.cells.size==i.size
  |none=>false
 |none=>false
theorem aiY {P:Program}{t:TypeId}(h:aiM P t=true):∀ k,en P t=some k->aab P t k:=by
 intro k hk;unfold aiM at h;unfold en at hk;split at h
 ·rename_i i hi
  split at h
  ·rename_i z hz
   rw[hi]at hk;simp at hk;simp at h;exact⟨i,z,hi,hz,hk,by rw[h,hk]⟩
  ·cases h
 ·cases h
theorem TI.of_ok {P:Program}{sz:List (Nat×Nat)}{ag:List (Nat×Bool)}{el:List (Nat×Nat)}{fl:List (Nat×List (Nat×Nat))}{ze:List (Nat×AV)}{bt:List (Nat×Nat)}{ki:List (Nat×TypeDesc)}{st zo:List Nat}{eq:List (Nat×List Sc)}{ow:List Nat}
  (h1:(sz.all fun p=>en P p.1==some p.2)=true) (h2:(ag.all fun p=>JA P p.1==some p.2)=true) (h3:(el.all fun p=>nu P p.1==some p.2)=true)
  (h4:(fl.all fun p=>(List.range p.2.length).all fun i=>vX P p.1 i==p.2[i]?)=true) (h5:∀ p∈ze,zeroOf P p.1=some p.2) (h6:(bt.all fun p=>ko P p.1==some p.2)=true) (h7:∀ p∈ki,P.underlying p.1=some p.2)
  (h8:(st.all fun t=>xy P t)=true) (h9:(zo.all fun t=>aiM P t)=true)
  (h10:∀ p∈eq,P.eqGuardType P.depth p.1=false /\ ∀ xs ys,dS p.2 xs=true->dS p.2 ys=true->K9 P p.1 xs ys):TIok P (TI.of sz ag el fl ze bt ki st zo eq ow):=by
 refine⟨ff (yp h1 fun p hp=>by simpa using hp),ff (yp h2 fun p hp=>by simpa using hp),ff (yp h3 fun p hp=>by simpa using hp),fun s i r h=>?_,ff h5,ff (yp h6 fun p hp=>by simpa using hp),ff h7,fun t h=>?_,fun t h=>?_,ff h10⟩
 ·simp only[TI.of]at h
  split at h
  ·rename_i fs hf
   have:=ff (Pr:=fun s fs=>((List.range fs.length).all fun i=>vX P s i==fs[i]?)=true) (yp h4 fun p hp=>hp) s fs hf;have hi:i<fs.length:=(amw.1 h).1;have h2:=ank.1 this i (by simpa using hi);rw[<- h];simpa using h2
  ·cases h
 ·exact ank.1 h8 t (by simpa[TI.of]using h)
 ·exact aiY (ank.1 h9 t (by simpa[TI.of]using h))
section
variable {P:Program} {ti:TI} {N n0:Nat} {Q:AX->Tm->List Ob->Prop} {T:Tm} {L:List Ob}
theorem aO {rs:List ResultVar}{ps:List PV}{φ:Prop}{r:CV}(h:qp ti T L rs=some (ps,φ))(hφ:φ)(e:aeB ps=r):Res ti rs T L r:=by
 unfold Res;rw[h];exact⟨hφ,e⟩
theorem aJ {rs:List ResultVar}{r:CV}(h:Res ti rs T L r):(AX.ret=AX.normal\/AX.ret=AX.ret)/\Res ti rs T L r:=⟨.inr rfl,h⟩
end
def agY (n:Int):CV := .val (.one (.int .i64 n))
def xu (T':Tm):Tm->Prop
 |[]=>True
 |(t,x)::T=>T'.lookup t=some x/\xu T' T
def eF (n:Nat):Tm->Prop
 |[]=>True
 |(_,x)::T=>x.below n/\eF n T
def od (n:Nat):List Ob->Prop
 |[]=>True
 |x::L=>x.below n/\od n L
theorem fm_ {T' T:Tm}{L' L:List Ob}(h1:xu T' T)(G:List Ob)(h2:L'=L++G)(h3:eF L.length T)(h4:od L.length L):Fits T' L' T L:=by
 refine⟨fun p hp=>?_,⟨G,h2⟩,fun p hp=>?_,fun x hx=>?_⟩
 ·clear h3 h2
  induction T with
  |nil=>cases hp
  |cons q T ih =>
   rcases amN.1 hp with rfl|hp
   ·exact h1.1
   ·exact ih h1.2 hp
 ·clear h1 h2
  induction T with
  |nil=>cases hp
  |cons q T ih =>
   rcases amN.1 hp with rfl|hp
   ·exact h3.1
   ·exact ih h3.2 hp
 ·clear h1 h2 h3
  generalize hn:L.length=n at h4;clear hn
  induction L with
  |nil=>cases hx
  |cons q L ih =>
   rcases amN.1 hx with rfl|hx
   ·exact h4.1
   ·exact ih hx h4.2
theorem aM {k:IntKind}{a b:Int}(h:a=b):some (AV.one (.c (.int k a)))=some (AV.one (.c (.int k b))):=by rw[h]
theorem tN {a b:List (List AC)}{t:Nat}(h:a=b):some (AV.one (.own a t))=some (AV.one (.own b t)):=by rw[h]
theorem xM {x:Int}(h : -9223372036854775808<=x/\x<=9223372036854775807):IntKind.i64.wrap x=x:=IntWalk.i64_in x m0
theorem aS {x y:Int}(h:x=y)(hb : -9223372036854775808<=y/\y<=9223372036854775807):IntKind.i64.wrap x=y:=by rw[h];exact xM hb
theorem aU {α:Type}{l:List α}{f:α->List AC}{i:Nat}{x:α}(h:l[i]?=some x):(l.map f)[((i:Nat):Int).toNat]?=some (f x):=by
 rw[Int.toNat_natCast,amT,h];rfl
theorem gol_ {α:Type}{l:List α}{i:Nat}(h:i<l.length):∃ x,l[i]?=some x:=⟨l[i],amF h⟩
theorem bu {α:Type}{l:List α}{i:Nat}{x:α}(h:l[i]?=some x):l.take (i+1)=l.take i++[x]:=by
 obtain⟨hi,rfl⟩:=amw.1 h;rw[List.take_succ_eq_append_getElem hi]
section
variable {P:Program} {ti:TI} {N n0:Nat} {ds:List (Option Tmp)} {K:Tm->List Ob->Prop} {o:Oper} {rest:List Oper} {T:Tm} {L:List Ob}
theorem ahu {ρ:Operand->Option AV}{t:TypeId}{x ix:Operand}{vx:AV}{es:List (List AC)}{k0:IntKind}{i:Int}{k:Nat}{e:List AC}(hx:ρ x=some vx)(hl:df vx=some es)(hi:ρ ix=some (.one (.c (.int k0 i))))(hk:(ti.elem t).bind ti.size=some k)(he:es[i.toNat]?=some e) :
  pop ti ρ L (.indexAddr t x ix)=some (.one (.c (.ref e)),0<=i/\e.length=k):=by
 simp only[pop,hx,hi];split
 ·rename_i h1 h2
  injection h1 with h1;subst h1;simp[df]at hl
 ·rename_i h1 h2
  injection h1 with h1;injection h2 with h2;subst h1 h2
  simp only[d5,hl,hk,he]
 ·rename_i h;exact(h _ _ rfl rfl).elim
theorem aZ {t:TypeId}{x ix:Operand}{vx:AV}{es:List (List AC)}{k0:IntKind}{i:Int}{k d:Nat}{e:List AC}(hd:o.dst=some d)(hN:Nat.blt d N=true)(hg:fD ds T o.guard=some true)(ho:o.op = .indexAddr t x ix)(hx:look T x=some vx)(hl:df vx=some es)(hi:look T ix=some (.one (.c (.int k0 i))))
  (hk:(ti.elem t).bind ti.size=some k) (he:es[i.toNat]?=some e) (hφ:0<=i/\e.length=k) (h:aB P ti N ds K rest ((d,.one (.c (.ref e)))::T) L):aB P ti N ds K (o::rest) T L :=
 st_pop hd hN hg (by rw[ho];exact ahu hx hl hi hk he) hφ h
theorem agq {ρ:Operand->Option AV}{t:TypeId}{p:Operand}{id ver i off k:Nat}{es:List (List SV)}{e:List SV}{x:SV}(hp:ρ p=some (.one (.ep id ver i off)))(hL:L[id]?=some (.row ver es k))(ha:ti.agg t=some false)(he:es[i]?=some e)(hx:e[off]?=some x) :
  pop ti ρ L (.load t p)=some (.one x,ver=ver):=by
 simp only[pop,hp,amv,eM,hL,he,ha,hx]
theorem kn {t:TypeId}{p:Operand}{id ver i off k d:Nat}{es:List (List SV)}{e:List SV}{x:SV}(hd:o.dst=some d)(hN:Nat.blt d N=true)(hg:fD ds T o.guard=some true)(ho:o.op = .load t p)(hp:look T p=some (.one (.ep id ver i off)))(hL:L[id]?=some (.row ver es k))(ha:ti.agg t=some false)(he:es[i]?=some e)(hx:e[off]?=some x)
  (h:aB P ti N ds K rest ((d,.one x)::T) L):aB P ti N ds K (o::rest) T L :=
 st_pop hd hN hg (by rw[ho];exact agq hp hL ha he hx) rfl h
theorem aeD {ρ:Operand->Option AV}{t:TypeId}{p:Operand}{id ver i off k n:Nat}{es:List (List SV)}{e:List SV}(hp:ρ p=some (.one (.ep id ver i off)))(hL:L[id]?=some (.row ver es k))(ha:ti.agg t=some true)(hn:ti.size t=some n)(he:es[i]?=some e) :
  pop ti ρ L (.load t p)=some (.agg ((e.drop off).take n),ver=ver/\off+n<=e.length):=by
 simp only[pop,hp,amv,eM,hL,he,ha,hn]
theorem NJ {t:TypeId}{p:Operand}{id ver i off k d n:Nat}{es:List (List SV)}{e xs:List SV}(hd:o.dst=some d)(hN:Nat.blt d N=true)(hg:fD ds T o.guard=some true)(ho:o.op = .load t p)(hp:look T p=some (.one (.ep id ver i off)))(hL:L[id]?=some (.row ver es k))(ha:ti.agg t=some true)(hn:ti.size t=some n)(he:es[i]?=some e)(hx:(e.drop off).take n=xs)(hle:off+n<=e.length)
  (h:aB P ti N ds K rest ((d,.agg xs)::T) L):aB P ti N ds K (o::rest) T L :=
 st_pop hd hN hg (φ:=ver=ver/\off+n<=e.length) (by rw[ho];exact aeD hp hL ha hn he) ⟨rfl,hle⟩ (by rw[hx];exact h)
theorem agV {ρ:Operand->Option AV}{t:TypeId}{p q:Operand}{id ver i off k:Nat}{es:List (List SV)}{e xs:List SV}(hp:ρ p=some (.one (.ep id ver i off)))(hq:(ρ q).bind AV.cells=some xs)(hL:L[id]?=some (.row ver es k))(he:es[i]?=some e) :
  xj ti ρ L (.store t p q)=some (.undef,L.set id (.row ver (es.set i (splice e off xs)) k),ver=ver/\off+xs.length<=e.length/\ti.size t=some xs.length):=by
 simp only[xj,hp,hq,hL,he]
theorem iV {t:TypeId}{p q:Operand}{id ver i off k:Nat}{es:List (List SV)}{e xs:List SV}{L':List Ob}(hd:o.dst=none)(hg:fD ds T o.guard=some true)(ho:o.op = .store t p q)(hp:look T p=some (.one (.ep id ver i off)))(hq:(look T q).bind AV.cells=some xs)(hL:L[id]?=some (.row ver es k))(he:es[i]?=some e)
  (hφ:off+xs.length<=e.length/\ti.size t=some xs.length) (hL':L.set id (.row ver (es.set i (splice e off xs)) k)=L') (h:aB P ti N ds K rest T L'):aB P ti N ds K (o::rest) T L :=
 sS_ hd hg (φ:=ver=ver/\off+xs.length<=e.length/\ti.size t=some xs.length) (by rw[ho];exact agV hp hq hL he) ⟨rfl,hφ⟩ (by rw[hL'];exact h)
theorem OD {Q:AX->Tm->List Ob->Prop}{c:Code}(t:Nat){x:SV}{y:AC}(ht:T.lookup t=some (.one x))(hy:x.norm=some y)(h:Aw P N n0 c Q ((t,.one (.c y))::T) L):Aw P N n0 c Q T L:=by
 intro hn B R γ w a hi hT;refine h hn B R γ w a hi ⟨hT.size,hT.defers,fun t' z hz=>?_⟩;rw[List.lookup_cons]at hz;by_cases e:t'=t
 ·subst e
  simp at hz;subst hz;obtain⟨u,h1,h2⟩:=hT.slot t' _ ht;exact⟨u,h1,SV.norm_rep h2 hy⟩
 ·have:(t'==t)=false:=by simpa using e
  rw[this]at hz;exact hT.slot t' z hz
end
open Go.RowKit Go.MapKept
def kP (s:ByteArray):List (AC×AV)->Option Nat
 |[]=>none
 |p::r=>match p.1 with
  |.str t=>if s=t then some 0 else(kP s r).map (· +1)
  |_=>(kP s r).map (· +1)
def strKeys (kvs:List (AC×AV)):Prop :=∀ p∈kvs,∃ t,p.1 = .str t
def iF (kvs:List (AC×AV))(s:ByteArray)(z:AV):AV :=
 match kP s kvs with
 |some i=>match kvs[i]? with
  |some p=>p.2
  |none=>z
 |none=>z
def lE (kvs:List (AC×AV))(s:ByteArray)(v:AV):List (AC×AV) :=
 match kP s kvs with
 |some i=>kvs.set i (.str s,v)
 |none=>kvs++[(.str s,v)]
def E_ (kvs:List (AC×AV))(s:ByteArray):Nat :=
 match kP s kvs with
 |some i=>i
 |none=>kvs.length
section
variable {P:Program} {ti:TI} {B:Nat->Prop} {N:Nat} {R:PH} {γ:List Gh} {L:List Ob} {w:World} {ρ:Operand->Option AV}
theorem qL {s:ByteArray}:∀ {kvs:List (AC×AV)} {i:Nat},kP s kvs=some i ->∃ p,kvs[i]?=some p/\p.1 = .str s
 |p::r,i,h=>by
  unfold kP at h;split at h
  ·rename_i t ht
   split at h
   ·rename_i e;injection h with h;subst h e;exact⟨p,rfl,ht⟩
   ·cases hr:kP s r with
    |none=>simp[hr]at h
    |some j=>simp[hr]at h;subst h;obtain⟨q,h1,h2⟩:=qL hr;exact⟨q,by simpa using h1,h2⟩
  ·cases hr:kP s r with
   |none=>simp[hr]at h
   |some j=>simp[hr]at h;subst h;obtain⟨q,h1,h2⟩:=qL hr;exact⟨q,by simpa using h1,h2⟩
theorem mq {s:ByteArray}:∀ (l:List MapEntry) (kvs:List (AC×AV)) (i0:Nat),l.length=kvs.length->strKeys kvs->(∀ (j:Nat) e p,l[j]?=some e->kvs[j]?=some p->bg R e.key p.1) ->
  (kP s kvs=none/\Instr.findNow .string (.string s) l i0=some none)\/(∃ i e,kP s kvs=some i/\l[i]?=some e/\e.key = .string s/\Instr.findNow .string (.string s) l i0=some (some (i0+i,e.val)))
 |[],[],i0,_,_,_ => .inl ⟨rfl,rfl⟩
 |e::l,p::kvs,i0,hl,hs,hr=>by
  obtain⟨t,ht⟩:=hs p m5;have hk:=hr 0 e p rfl rfl;rw[ht]at hk;generalize hek:e.key=ek at hk
  cases hk;unfold kP Instr.findNow;simp only[ht,hek,Instr.sameNow];by_cases e1:s=t
  ·subst e1
   refine .inr ⟨0,e,m5,rfl,hek,?_⟩;have:(s==s)=true:=(bytes_beq s s).2 rfl;simp[this]
  ·have:(s==t)=false:=by
    cases hb:(s==t)with
    |false=>rfl
    |true=>exact absurd ((bytes_beq s t).1 hb) e1
   simp only[this,e1,if_false];rcases mq l kvs (i0+1) (by simpa using hl) (fun q hq=>hs q (amU _ hq)) (fun j e' q h1 h2=>hr (j+1) e' q (by simpa using h1) (by simpa using h2))with⟨h1,h2⟩|⟨i,e',h1,h2,h3,h4⟩
   ·exact .inl ⟨by simp[h1],h2⟩
   ·exact .inr ⟨i+1,e',by simp[h1],by simpa using h2,h3,by rw[h4];simp;omega⟩
theorem lm {t:TypeId}:kZ P ρ L (.makeMap t none) (.one (.mp L.length)) (L++[.map []]):=by
 intro B R γ w ev o ho hi hρ hfv;obtain⟨dst,op,type,pos,after,guard⟩:=o;simp only at ho;subst ho;refine⟨w.alloc (.map #[] 0),R,γ++[.box w.heap.size],.inl ⟨.map (some w.heap.size),?_,w.heap.size,rfl,?_⟩,?_,⟨Kept.alloc hi.bsz _,PH.sub_refl _,fun _ _ _=>rfl⟩,Mv.push _ _ hi.len⟩
 ·simp[execOp,Instr.makeMap]
 ·rw[amD (by rw[hi.len];omega),hi.len];simp
 ·exact hi.push _ _ _ rfl ⟨⟨#[],dt w _,rfl,fun j e p he _=>by simp at he⟩,fun o=>hi.none_at o⟩
theorem Mv.turnMap {id:Nat}{kvs kvs':List (AC×AV)}(hL:L[id]?=some (.map kvs)):Mv R R γ γ L (L.set id (.map kvs')):=by
 have hlt:id<L.length:=(amw.1 hL).1;refine⟨PH.sub_refl _,m5,fun t n k _ h=>⟨n,?_,amM _,fun _=>rfl⟩,fun t ver es k _ h=>⟨ver,es,?_,amM _,fun _=>⟨rfl,rfl⟩⟩,fun _ _ h=>h⟩
 ·by_cases e:t=id
  ·subst e;rw[amP hlt]at h;cases h
  ·rw[amQ (Ne.symm e)]at h;exact h
 ·by_cases e:t=id
  ·subst e;rw[amP hlt]at h;cases h
  ·rw[amQ (Ne.symm e)]at h;exact h
theorem yO (hi:Inv B R γ L w){id b:Nat}{kvs:List (AC×AV)}(hL:L[id]?=some (.map kvs))(hg:γ[id]?=some (.box b)) :
  (∃ es,w.heap[b]?=some (.map es es.size)/\es.size=kvs.length /\ ∀ (j:Nat) e p,es[j]?=some e->kvs[j]?=some p->e.born=j/\bg R e.key p.1/\p.2.rep R γ L e.val):=(hi.obj id _ _ hL hg).1
theorem pm (hi:Inv B R γ L w){id b:Nat}{kvs kvs':List (AC×AV)}{es:Array MapEntry}(hL:L[id]?=some (.map kvs))(hg:γ[id]?=some (.box b))(hb:w.heap[b]?=some (.map es es.size))(es':Array MapEntry)(hs:es'.size=kvs'.length)
  (h:∀ (j:Nat) e p,es'[j]?=some e->kvs'[j]?=some p->e.born=j/\bg R e.key p.1/\p.2.rep R γ L e.val) :
  Inv B R γ (L.set id (.map kvs')) { w with heap:=w.heap.setIfInBounds b (.map es' es'.size) } /\ Ext B R R w { w with heap:=w.heap.setIfInBounds b (.map es' es'.size) } :=by
 have hh:=Go.MapKept.heap_set (o' := .map es' es'.size) hb;have hm:=Mv.turnMap (R:=R) (γ:=γ) (kvs':=kvs') hL;have hnb:=(hi.new id _ b hg rfl).1;have hR:∀ o,R b o=none:=(hi.obj id _ _ hL hg).2;refine⟨hi.turn hL hg rfl hm (fun b' hne=>hh.2 b' hne) m5 (fun _ _ _=>rfl) (fun o u e=>by rw[hR o]at e;cases e) ⟨⟨es',hh.1,hs,fun j e p he hp=>?_⟩,hR⟩,⟨⟨rfl,rfl,rfl,m5,fun b' hb'=>hh.2 b' (fun e=>hnb (by rw[<- e];exact hb'))⟩,PH.sub_refl _,fun _ _ _=>rfl⟩⟩;obtain⟨a1,a2,a3⟩:=h j e p he hp;exact⟨a1,a2,AV.mv hm a3⟩
theorem qc {et:TypeId}{z:AV}(hz:zeroOf P et=some z):∃ u,(zeroValue et).run P w = .ok u w/\z.rep R γ L u:=by
 unfold zeroOf at hz
 cases hinf:P.info? et with
 |none=>simp[hinf]at hz
 |some inf =>
  simp only[hinf,amv]at hz
  cases hzz:inf.zero with
  |none=>simp[hzz]at hz
  |some u =>
   simp only[hzz,amv]at hz;exact⟨u,by simp[zeroValue,typeInfo,program,Sem.run,hinf,hzz],AV.ofVal_rep hz⟩
theorem oO {t kt et:TypeId}{x k:Operand}{s:ByteArray}{id:Nat}{kvs:List (AC×AV)}{z:AV}(hx:ρ x=some (.one (.mp id)))(hk:ρ k=some (.one (.c (.str s))))(hL:L[id]?=some (.map kvs))(hkeys:strKeys kvs)
  (ht:P.underlying t=some (.map kt et)) (hkt:P.underlying kt=some .string) (hz:zeroOf P et=some z):kZ P ρ L (.lookup t x k false) (iF kvs s z) L:=by
 intro B R γ w ev o ho hi hρ hfv;obtain⟨dst,op,type,pos,after,guard⟩:=o;simp only at ho;subst ho;obtain⟨b,hxv,hg⟩:=(hρ _ (by simp[Op.operands,Call.operands]) _ hx);have hkv:=(hρ _ (by simp[Op.operands,Call.operands]) _ hk);generalize hke:ev k=kv at hkv
 cases hkv;obtain⟨es,hb,hsz,hent⟩:=yO hi hL hg;have hchk:=fun e=>Go.MapKept.run_checkKey (P:=P) (w:=w) (k := .string s) hkt trivial e 9999
 obtain⟨zu,hzr,hzrep⟩:=qc (P:=P) (w:=w) (R:=R) (γ:=γ) (L:=L) hz;rcases mq (R:=R) (s:=s) es.toList kvs 0 (by simpa using hsz) hkeys (fun j e p he hp=>(hent j e p (by simpa using he) hp).2.1)with⟨h1,h2⟩|⟨i,e,h1,h2,h3,h4⟩
 ·refine⟨w,R,γ,.inl ⟨zu,?_,?_⟩,hi,Ext.refl _ _ _,Mv.refl⟩
  ·simp[execOp,Instr.lookup,hxv,hke,run_underlying ht,Go.MapKept.run_getObj_map hb,hchk,Go.MapKept.run_findKey hkt h2,hzr,Result.andThen]
  ·unfold iF;rw[h1];exact hzrep
 ·obtain⟨p,hp,hp1⟩:=qL h1
  refine⟨w,R,γ,.inl ⟨e.val,?_,?_⟩,hi,Ext.refl _ _ _,Mv.refl⟩
  ·simp[execOp,Instr.lookup,hxv,hke,run_underlying ht,Go.MapKept.run_getObj_map hb,hchk,Go.MapKept.run_findKey hkt h4,Result.andThen]
  ·unfold iF;rw[h1];simp only[hp];exact(hent i e p (by simpa using h2) hp).2.2
theorem mI {v:AV}{p:PV}{u:Value}(h:v.norm=some p)(hu:v.rep R γ L u):p.rep R u:=AV.norm_rep hu h
theorem ags {p q:PV}{u v:Value}(hp:p.rep R u)(hq:q.rep R v):(AV.tup [p,q]).rep R γ L (.tuple #[u,v]):=by
 refine⟨#[u,v],rfl,rfl,fun j x y hx hy=>?_⟩
 match j,hx,hy with
 |0,hx,hy=>simp at hx hy;subst hx hy;exact hp
 |1,hx,hy=>simp at hx hy;subst hx hy;exact hq
 |j+2,hx,hy=>simp at hx
theorem lW {t kt et:TypeId}{x k:Operand}{s:ByteArray}{id:Nat}{kvs:List (AC×AV)}{z:AV}{p:PV}(hx:ρ x=some (.one (.mp id)))(hk:ρ k=some (.one (.c (.str s))))(hL:L[id]?=some (.map kvs))(hkeys:strKeys kvs)
  (ht:P.underlying t=some (.map kt et)) (hkt:P.underlying kt=some .string) (hz:zeroOf P et=some z) (hp:(iF kvs s z).norm=some p):kZ P ρ L (.lookup t x k true) (.tup [p,.one (.bool (kP s kvs).isSome)]) L:=by
 intro B R γ w ev o ho hi hρ hfv;obtain⟨dst,op,type,pos,after,guard⟩:=o;simp only at ho;subst ho;obtain⟨b,hxv,hg⟩:=(hρ _ (by simp[Op.operands,Call.operands]) _ hx);have hkv:=(hρ _ (by simp[Op.operands,Call.operands]) _ hk);generalize hke:ev k=kv at hkv
 cases hkv;obtain⟨es,hb,hsz,hent⟩:=yO hi hL hg;have hchk:=fun e=>Go.MapKept.run_checkKey (P:=P) (w:=w) (k := .string s) hkt trivial e 9999
 obtain⟨zu,hzr,hzrep⟩:=qc (P:=P) (w:=w) (R:=R) (γ:=γ) (L:=L) hz;rcases mq (R:=R) (s:=s) es.toList kvs 0 (by simpa using hsz) hkeys (fun j e p he hp=>(hent j e p (by simpa using he) hp).2.1)with⟨h1,h2⟩|⟨i,e,h1,h2,h3,h4⟩
 ·refine⟨w,R,γ,.inl ⟨.tuple #[zu,.bool false],?_,?_⟩,hi,Ext.refl _ _ _,Mv.refl⟩
  ·simp[execOp,Instr.lookup,hxv,hke,run_underlying ht,Go.MapKept.run_getObj_map hb,hchk,Go.MapKept.run_findKey hkt h2,hzr,Result.andThen]
  ·unfold iF at hp;rw[h1]at hp ⊢;exact ags (mI hp hzrep) (.bool false)
 ·obtain⟨q,hq,hq1⟩:=qL h1
  refine⟨w,R,γ,.inl ⟨.tuple #[e.val,.bool true],?_,?_⟩,hi,Ext.refl _ _ _,Mv.refl⟩
  ·simp[execOp,Instr.lookup,hxv,hke,run_underlying ht,Go.MapKept.run_getObj_map hb,hchk,Go.MapKept.run_findKey hkt h4,Result.andThen]
  ·unfold iF at hp;rw[h1]at hp ⊢;simp only[hq]at hp;exact ags (mI hp (hent i e q (by simpa using h2) hq).2.2) (.bool true)
theorem s9 {es:Array MapEntry}{i j:Nat}{f:MapEntry->MapEntry}{e:MapEntry}(h:(es.modify i f)[j]?=some e):∃ e0,es[j]?=some e0/\e=if j=i then f e0 else e0:=by
 rw[Array.getElem?_modify]at h;split at h
 ·rename_i e1;subst e1
  cases h0:es[i]? with
  |none=>simp[h0]at h
  |some e0=>simp[h0]at h;exact⟨e0,rfl,by simp[h]⟩
 ·rename_i hne;exact⟨e,h,by rw[if_neg (Ne.symm hne)]⟩
theorem Kv {es:Array MapEntry}{kvs:List (AC×AV)}(hsz:es.size=kvs.length)(hent:∀ (j:Nat) e p,es[j]?=some e->kvs[j]?=some p->e.born=j/\bg R e.key p.1/\p.2.rep R γ L e.val){key val:Value}{kx:AC}{v:AV}(hk:bg R key kx)(hv:v.rep R γ L val) :
  ∀ (j:Nat) e p,(es.push { key,val,born:=es.size })[j]?=some e->(kvs++[(kx,v)])[j]?=some p->e.born=j/\bg R e.key p.1/\p.2.rep R γ L e.val:=by
 intro j e p he hp;by_cases hj:j<es.size
 ·rw[Array.getElem?_push_lt hj]at he
  rw[amK m0]at hp;exact hent j e p (by rw[amV hj];exact he) hp
 ·have hj2:j=es.size:=by
   have:=(anf.1 he).1;simp at this;omega
  subst hj2;rw[Array.getElem?_push_size]at he;rw[amD m0,hsz]at hp;simp at he hp;subst he hp;exact⟨rfl,hk,hv⟩
theorem ir {t kt et:TypeId}{x k y:Operand}{s:ByteArray}{id:Nat}{kvs:List (AC×AV)}{v:AV}(hx:ρ x=some (.one (.mp id)))(hk:ρ k=some (.one (.c (.str s))))(hy:ρ y=some v)(hL:L[id]?=some (.map kvs))(hkeys:strKeys kvs)
  (ht:P.underlying t=some (.map kt et)) (hkt:P.underlying kt=some .string):kZ P ρ L (.mapUpdate t x k y) .undef (L.set id (.map (lE kvs s v))):=by
 intro B R γ w ev o ho hi hρ hfv;obtain⟨dst,op,type,pos,after,guard⟩:=o;simp only at ho;subst ho;obtain⟨b,hxv,hg⟩:=(hρ _ (by simp[Op.operands,Call.operands]) _ hx);have hkv:=(hρ _ (by simp[Op.operands,Call.operands]) _ hk);have hyv:=(hρ _ (by simp[Op.operands,Call.operands]) _ hy);generalize hke:ev k=kv at hkv;generalize hye:ev y=yv at hyv
 cases hkv;obtain⟨es,hb,hsz,hent⟩:=yO hi hL hg;have hchk:=fun e=>Go.MapKept.run_checkKey (P:=P) (w:=w) (k := .string s) hkt trivial e 9999
 rcases mq (R:=R) (s:=s) es.toList kvs 0 (by simpa using hsz) hkeys (fun j e p he hp=>(hent j e p (by simpa using he) hp).2.1)with⟨h1,h2⟩|⟨i,e,h1,h2,h3,h4⟩
 ·obtain⟨i1,i2⟩:=pm hi (kvs':=kvs++[(.str s,v)]) hL hg hb (es.push { key := .string s,val:=yv,born:=es.size }) (by simp[hsz]) (Kv hsz hent (.str s) hyv)
  refine⟨_,R,γ,.inr ⟨?_,rfl⟩,?_,i2,Mv.turnMap hL⟩
  ·simp[execOp,Instr.mapUpdate,hxv,hke,hye,run_underlying ht,Go.MapKept.run_getObj_map hb,hchk,Go.MapKept.run_findKey hkt h2,Go.MapKept.run_setObj_map _ hb,Result.andThen]
  ·unfold lE;rw[h1];exact i1
 ·have hj:es[i]?=some e:=by simpa using h2
  obtain⟨p,hp,hp1⟩:=qL h1;obtain⟨i1,i2⟩:=pm hi (kvs':=kvs.set i (.str s,v)) hL hg hb (es.modify i fun e =>{ e with key := .string s,val:=yv }) (by simp[hsz]) (fun j e' p' he' hp'=>by
   obtain⟨e0,h5,h6⟩:=s9 he';by_cases hji:j=i
   ·subst hji
    rw[amP (amw.1 hp).1]at hp';injection hp' with hp';subst hp'
    rw[if_pos rfl]at h6;subst h6;exact⟨(hent j e0 p h5 hp).1,.str s,hyv⟩
   ·rw[amQ (Ne.symm hji)]at hp'
    rw[if_neg hji]at h6;subst h6;exact hent j _ p' h5 hp')
  rw[Array.size_modify]at i1 i2;refine⟨_,R,γ,.inr ⟨?_,rfl⟩,?_,i2,Mv.turnMap hL⟩
  ·simp[execOp,Instr.mapUpdate,hxv,hke,hye,run_underlying ht,Go.MapKept.run_getObj_map hb,hchk,Go.MapKept.run_findKey hkt h4,hj,h3,run_keyThatStays (d := .string) (k := .string s) trivial,Go.MapKept.run_setObj_map _ hb,Result.andThen]
  ·unfold lE;rw[h1];exact i1
theorem GF {t kt et:TypeId}{x k:Operand}{s:ByteArray}{id:Nat}{kvs:List (AC×AV)}{z:AV}{p:PV}(hx:ρ x=some (.one (.mp id)))(hk:ρ k=some (.one (.c (.str s))))(hL:L[id]?=some (.map kvs))(hkeys:strKeys kvs)
  (ht:P.underlying t=some (.map kt et)) (hkt:P.underlying kt=some .string) (hz:zeroOf P et=some z) (hp:(iF kvs s z).norm=some p):kZ P ρ L (.mapEntry t x k) (.tup [p,.one (.int .i64 (E_ kvs s))]) (L.set id (.map (lE kvs s (iF kvs s z)))):=by
 intro B R γ w ev o ho hi hρ hfv;obtain⟨dst,op,type,pos,after,guard⟩:=o;simp only at ho;subst ho;obtain⟨b,hxv,hg⟩:=(hρ _ (by simp[Op.operands,Call.operands]) _ hx);have hkv:=(hρ _ (by simp[Op.operands,Call.operands]) _ hk);generalize hke:ev k=kv at hkv
 cases hkv;obtain⟨es,hb,hsz,hent⟩:=yO hi hL hg;have hchk:=fun e=>Go.MapKept.run_checkKey (P:=P) (w:=w) (k := .string s) hkt trivial e 9999
 obtain⟨zu,hzr,hzrep⟩:=qc (P:=P) (w:=w) (R:=R) (γ:=γ) (L:=L) hz;rcases mq (R:=R) (s:=s) es.toList kvs 0 (by simpa using hsz) hkeys (fun j e p he hp=>(hent j e p (by simpa using he) hp).2.1)with⟨h1,h2⟩|⟨i,e,h1,h2,h3,h4⟩
 ·obtain⟨i1,i2⟩:=pm hi (kvs':=kvs++[(.str s,z)]) hL hg hb (es.push { key := .string s,val:=zu,born:=es.size }) (by simp[hsz]) (Kv hsz hent (.str s) hzrep)
  have hmv:iF kvs s z=z:=by unfold iF;rw[h1]
  rw[hmv]at hp ⊢;refine⟨_,R,γ,.inl ⟨.tuple #[zu,.int .i64 es.size],?_,?_⟩,?_,i2,Mv.turnMap hL⟩
  ·simp[execOp,Instr.mapEntry,hxv,hke,run_underlying ht,Go.MapKept.run_getObj_map hb,hchk,Go.MapKept.run_findKey hkt h2,hzr,Go.MapKept.run_setObj_map _ hb,Result.andThen,goInt]
  ·refine ags (mI hp hzrep) ?_
   unfold E_;rw[h1,<- hsz];exact .int _ _
  ·unfold lE;rw[h1];exact i1
 ·have hj:es[i]?=some e:=by simpa using h2
  obtain⟨q,hq,hq1⟩:=qL h1;have hmv:iF kvs s z=q.2:=by unfold iF;rw[h1];simp only[hq]
  have hent':=hent i e q hj hq;rw[hmv]at hp ⊢;obtain⟨i1,i2⟩:=pm hi (kvs':=kvs.set i (.str s,q.2)) hL hg hb (es.modify i fun e =>{ e with key := .string s }) (by simp[hsz]) (fun j e' p' he' hp'=>by
   obtain⟨e0,h5,h6⟩:=s9 he';by_cases hji:j=i
   ·subst hji
    rw[amP (amw.1 hq).1]at hp';injection hp' with hp';subst hp'
    rw[if_pos rfl]at h6;subst h6;exact⟨(hent j e0 q h5 hq).1,.str s,(hent j e0 q h5 hq).2.2⟩
   ·rw[amQ (Ne.symm hji)]at hp'
    rw[if_neg hji]at h6;subst h6;exact hent j _ p' h5 hp')
  rw[Array.size_modify]at i1 i2;refine⟨_,R,γ,.inl ⟨.tuple #[e.val,.int .i64 i],?_,?_⟩,?_,i2,Mv.turnMap hL⟩
  ·simp[execOp,Instr.mapEntry,hxv,hke,run_underlying ht,Go.MapKept.run_getObj_map hb,hchk,Go.MapKept.run_findKey hkt h4,hj,h3,run_keyThatStays (d := .string) (k := .string s) trivial,Go.MapKept.run_setObj_map _ hb,Result.andThen,goInt,hent'.1]
  ·refine ags (mI hp hent'.2.2) ?_
   unfold E_;rw[h1];exact .int _ _
  ·unfold lE;rw[h1];exact i1
theorem find_born {es:Array MapEntry}(h:∀ (j:Nat) e,es[j]?=some e->e.born=j){i:Nat}(hi:i<es.size):es.findIdx? (fun e=>(e.born:Int)==(i:Int))=some i:=by
 rw[Array.findIdx?_eq_some_iff_getElem];refine⟨hi,?_,fun j hj=>?_⟩
 ·have:=h i es[i] (amV hi)
  simp[this]
 ·have:=h j es[j] (amV m0)
  simp[this];omega
theorem BA {t:TypeId}{x k y:Operand}{id i:Nat}{kvs:List (AC×AV)}{q:AC×AV}{v:AV}(hx:ρ x=some (.one (.mp id)))(hk:ρ k=some (.one (.c (.int .i64 i))))(hy:ρ y=some v)(hL:L[id]?=some (.map kvs))(hq:kvs[i]?=some q) :
  kZ P ρ L (.entryStore t x k y) .undef (L.set id (.map (kvs.set i (q.1,v)))):=by
 intro B R γ w ev o ho hi hρ hfv;obtain⟨dst,op,type,pos,after,guard⟩:=o;simp only at ho;subst ho;obtain⟨b,hxv,hg⟩:=(hρ _ (by simp[Op.operands,Call.operands]) _ hx);have hkv:=(hρ _ (by simp[Op.operands,Call.operands]) _ hk);have hyv:=(hρ _ (by simp[Op.operands,Call.operands]) _ hy);generalize hke:ev k=kv at hkv;generalize hye:ev y=yv at hyv
 cases hkv;obtain⟨es,hb,hsz,hent⟩:=yO hi hL hg;have hlt:=(amw.1 hq).1;have hfi:=find_born (es:=es) (fun j e he=>by
  have:j<kvs.length:=by rw[<- hsz];exact(anf.1 he).1
  exact(hent j e _ he (amF this)).1) (i:=i) m0
 obtain⟨i1,i2⟩:=pm hi (kvs':=kvs.set i (q.1,v)) hL hg hb (es.modify i fun e =>{ e with val:=yv }) (by simp[hsz]) (fun j e' p' he' hp'=>by
   obtain⟨e0,h5,h6⟩:=s9 he';by_cases hji:j=i
   ·subst hji
    rw[amP hlt]at hp';injection hp' with hp';subst hp'
    rw[if_pos rfl]at h6;subst h6;exact⟨(hent j e0 q h5 hq).1,(hent j e0 q h5 hq).2.1,hyv⟩
   ·rw[amQ (Ne.symm hji)]at hp'
    rw[if_neg hji]at h6;subst h6;exact hent j _ p' h5 hp')
 rw[Array.size_modify]at i1 i2;refine⟨_,R,γ,.inr ⟨?_,rfl⟩,i1,i2,Mv.turnMap hL⟩;simp[execOp,Instr.entryStore,hxv,hke,hye,Go.MapKept.run_getObj_map hb,asInt,asIntOf,hfi,Go.MapKept.run_setObj_map _ hb,Result.andThen]
def capOf:AV->Option Cap
 |.one (.c x)=>some (.c x)
 |.one (.ptr id off)=>some (.ptr id off)
 |v=>match v.norm with
  |some (.one x)=>some (.c x)
  |_=>none
def uE (ρ:Operand->Option AV):List Operand->Option (List Cap)
 |[]=>some []
 |x::xs=>match (ρ x).bind capOf,uE ρ xs with
  |some c,some cs=>some (c::cs)
  |_,_=>none
theorem abo {v:AV}{c:Cap}{u:Value}(h:capOf v=some c)(hu:v.rep R γ L u):c.rep R γ u:=by
 unfold capOf at h;split at h
 ·injection h with h;subst h;exact hu
 ·injection h with h;subst h;exact hu
 ·split at h
  ·rename_i x hx;injection h with h;subst h;exact mI hx hu
  ·cases h
theorem wO {ev:Operand->Value}:∀ {xs:List Operand} {cs:List Cap},(∀ x,x∈xs ->∀ v,ρ x=some v->v.rep R γ L (ev x))->uE ρ xs=some cs->xs.length=cs.length /\ ∀ (j:Nat) x c,xs[j]?=some x->cs[j]?=some c->c.rep R γ (ev x)
 |[],cs,_,h=>by injection h with h;subst h;exact⟨rfl,fun j x c h=>by simp at h⟩
 |x::xs,cs,hρ,h=>by
  unfold uE at h;split at h
  ·rename_i c cs' hc hcs
   injection h with h;subst h
   obtain⟨h1,h2⟩:=wO (fun y hy=>hρ y (amU _ hy)) hcs;refine⟨by simp[h1],fun j y d hy hd=>?_⟩
   cases j with
   |zero =>
    simp at hy hd;subst hy hd
    cases hx:ρ x with
    |none=>simp[hx]at hc
    |some v=>simp[hx]at hc;exact abo hc (hρ x m5 _ hx)
   |succ j=>exact h2 j y d (by simpa using hy) (by simpa using hd)
  ·cases h
theorem nO {f:FuncId}{captured:Array Operand}{caps:List Cap}(hc:uE ρ captured.toList=some caps):kZ P ρ L (.makeFunc (.func f) #[] captured) (.one (.clo f caps)) L:=by
 intro B R γ w ev o ho hi hρ hfv;obtain⟨dst,op,type,pos,after,guard⟩:=o;simp only at ho;subst ho;obtain⟨h1,h2⟩:=wO (fun y hy=>hρ y (by simp[Op.operands];simpa using hy)) hc;refine⟨w,R,γ,.inl ⟨.func (.func f) #[] (captured.map ev),by simp[execOp,Instr.makeFunc],captured.map ev,rfl,by simpa using h1,fun j u x hu hx=>?_⟩,hi,Ext.refl _ _ _,Mv.refl⟩;rw[Array.getElem?_map]at hu
 cases hq:captured[j]? with
 |none=>simp[hq]at hu
 |some y=>simp[hq]at hu;subst hu;exact h2 j y x (by simpa using hq) hx
end
