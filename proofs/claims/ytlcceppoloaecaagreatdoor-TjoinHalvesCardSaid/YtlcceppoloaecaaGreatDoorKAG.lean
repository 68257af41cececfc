/- Parts. No condition. -/
import Derived.Test.YtlcceppoloaecaaGreatDoorKAF
import Derived.Scope
import Derived.Shelf.SlSortCmp.NoneTotal
import Derived.Laws.StructEq
set_option linter.unusedSimpArgs false
set_option linter.unusedVariables false
namespace Go.Proofs.YtlcceppoloaecaaGreatDoor
open Go.RowKit
section
variable {P:Program} {Q:Exit->Act->World->Prop} {md:Region.Mode}
def m6 (md:Region.Mode)(ops:Array Oper):Nat->Array Bool->List Nat->Prop
 |0,_,s=>s=[]
 |fuel+1,listed,s=>(Region.ready md ops listed=[]/\s=[]) \/ ∃ i s',i∈Region.ready md ops listed/\s=i::s'/\m6 md ops fuel (listed.setIfInBounds i true) s'
theorem akN (ops:Array Oper):∀ (fuel t:Nat) (listed:Array Bool),m6 md ops fuel listed (Region.linearise.go md ops fuel t listed []):=by
 intro fuel
 induction fuel with
 |zero=>intro t listed;simp[Region.linearise.go,m6]
 |succ fuel ih =>
  intro t listed;simp only[Region.linearise.go];change m6 md ops (fuel+1) listed (match (Region.ready md ops listed)[t%(Region.ready md ops listed).length]? with
   |some i=>Region.linearise.go md ops fuel (t/(Region.ready md ops listed).length) (listed.setIfInBounds i true) [i]
   |none=>[].reverse)
  cases hi:(Region.ready md ops listed)[t%(Region.ready md ops listed).length]? with
  |none =>
   have Qe:Region.ready md ops listed=[]:=by
    cases hr:Region.ready md ops listed with
    |nil=>rfl
    |cons x xs =>
     rw[hr]at hi;have O0:t%(x::xs).length<(x::xs).length:=Nat.mod_lt _ m5;simp at hi;simp at O0;omega
   exact .inl ⟨Qe,rfl⟩
  |some i =>
   simp only[];rw[linearise_go_acc,List.reverse_singleton,List.singleton_append];exact .inr ⟨i,_,aqe hi,rfl,ih _ _⟩
theorem yA {ops:Array Oper}:∀ (fuel:Nat) (listed:Array Bool) (s:List Nat) (a:Act) (w:World),wpAny P md ops Q fuel listed a w->m6 md ops fuel listed s->wpOps P ops Q s a w
 |0,_,s,a,w,h,hs=>by cases hs;exact h.2
 |fuel+1,listed,s,a,w,h,hs=>by
  rcases hs with⟨h0,rfl⟩|⟨i,s',hi,rfl,hs⟩
  ·exact h.1 h0
  ·rw[wpOps_cons]
   exact wpOp_mono (fun a w hh=>yA fuel _ s' a w hh hs) (h.2 i hi)
theorem mem_ready {ops:Array Oper}{listed:Array Bool}{i:Nat}:i∈Region.ready md ops listed ↔ ∃ o,ops[i]?=some o/\listed.getD i true=false /\ ∀ e∈o.after.toList,Region.binds md e=true->listed.getD e.on false=true:=by
 unfold Region.ready;rw[List.mem_filter,List.mem_range,aqr,Bool.not_eq_true'];constructor
 ·rintro⟨hi,h1,h2⟩
  have ho:ops[i]?=some ops[i]:=aqy hi;rw[ho,Option.map_some,Option.getD_some]at h2;refine⟨_,ho,h1,fun e he hb=>?_⟩;have:=Array.all_eq_true'.1 h2 e (by simpa using he);rw[hb]at this;simpa using this
 ·rintro⟨o,ho,h1,h2⟩
  refine⟨(aqT.1 ho).1,h1,?_⟩;rw[ho,Option.map_some,Option.getD_some,Array.all_eq_true'];intro e he;by_cases hb:Region.binds md e=true
  ·rw[hb,h2 e (by simpa using he) hb];rfl
  ·simp[hb]
structure uv (π:Nat->Nat)(u v:Nat)(l m:List Oper):Prop where
 inv:∀ i,π (π i)=i
 get:∀ i,∃ f:Oper->Array Edge,m[π i]?=(l[i]?).map (fun o =>{ o with after:=f o }) /\
  ∀ o,l[i]?=some o->(∀ e∈o.after.toList,{ e with on:=π e.on }∈(f o).toList) /\ ∀ e∈(f o).toList,(∃ e'∈o.after.toList,e={ e' with on:=π e'.on })\/(i=v/\e.on=π u)
 len:m.length=l.length
structure Sw (π:Nat->Nat)(listed Wl:Array Bool):Prop where
 get:∀ i,Wl[π i]?=listed[i]?
theorem uv.inj {π:Nat->Nat}{u v:Nat}{l m:List Oper}(h:uv π u v l m){i j:Nat}(e:π i=π j):i=j:=by rw[<- h.inv i,e,h.inv]
theorem Sw.set {π:Nat->Nat}{u v:Nat}{l m:List Oper}(hL:uv π u v l m){a b:Array Bool}(h:Sw π a b)(i:Nat):Sw π (a.setIfInBounds i true) (b.setIfInBounds (π i) true):=by
 refine⟨fun j=>?_⟩;rw[Array.getElem?_setIfInBounds,Array.getElem?_setIfInBounds];by_cases e:i=j
 ·subst e
  rw[if_pos rfl,if_pos rfl];have:=h.get i;by_cases hi:i<a.size
  ·rw[aqy hi]at this
   rw[if_pos hi,if_pos (aqT.1 this).1]
  ·have hn:a[i]?=none:=Array.getElem?_eq_none m0
   rw[hn]at this;rw[if_neg hi,if_neg (by have:=Array.getElem?_eq_none_iff.1 this;omega)]
 ·rw[if_neg e,if_neg (fun e'=>e (hL.inj e'))]
  exact h.get j
theorem Sw.getD {π:Nat->Nat}{a b:Array Bool}(h:Sw π a b)(i:Nat)(d:Bool):b.getD (π i) d=a.getD i d:=by
 rw[Array.getD_eq_getD_getElem?,Array.getD_eq_getD_getElem?,h.get]
theorem uv.fwd {π:Nat->Nat}{u v:Nat}{l m:List Oper}(hL:uv π u v l m){a b:Array Bool}(h:Sw π a b){i:Nat}(hi:i∈Region.ready md l.toArray a)(hv:i=v->a.getD u false=true):π i∈Region.ready md m.toArray b:=by
 obtain⟨o,ho,h1,h2⟩:=mem_ready.1 hi;rw[List.getElem?_toArray]at ho;obtain⟨f,hm,hf⟩:=hL.get i;rw[ho,Option.map_some]at hm;refine mem_ready.2 ⟨_,by rw[List.getElem?_toArray];exact hm,by rw[h.getD];exact h1,fun e he hb=>?_⟩;rcases(hf o ho).2 e he with⟨e',QO,rfl⟩|⟨hiv,Yo⟩
 ·rw[h.getD];exact h2 e' QO hb
 ·rw[Yo,h.getD];exact hv hiv
theorem uv.bwd {π:Nat->Nat}{u v:Nat}{l m:List Oper}(hL:uv π u v l m){a b:Array Bool}(h:Sw π a b){j:Nat}(hj:j∈Region.ready md m.toArray b):π j∈Region.ready md l.toArray a:=by
 obtain⟨o',SB,h1,h2⟩:=mem_ready.1 hj;rw[List.getElem?_toArray]at SB;obtain⟨f,hm,hf⟩:=hL.get (π j);rw[hL.inv,SB]at hm
 cases ho:l[π j]? with
 |none=>rw[ho]at hm;cases hm
 |some o =>
  rw[ho,Option.map_some]at hm;injection hm with hm
  subst hm;refine mem_ready.2 ⟨o,by rw[List.getElem?_toArray];exact ho,by rw[<- h.getD,hL.inv];exact h1,fun e he hb=>?_⟩;have:=h2 _ ((hf o ho).1 e he) hb;rw[<- h.getD];exact this
theorem uv.seq {π:Nat->Nat}{u v:Nat}{l m:List Oper}(hL:uv π u v l m):∀ (fuel:Nat) (a b:Array Bool) (s:List Nat),Sw π a b->a.getD u false=true->m6 md l.toArray fuel a s->m6 md m.toArray fuel b (s.map π)
 |0,_,_,s,_,_,hs=>by cases hs;rfl
 |fuel+1,a,b,s,h,hu,hs=>by
  rcases hs with⟨h0,rfl⟩|⟨i,s',hi,rfl,hs⟩
  ·refine .inl ⟨?_,rfl⟩
   apply List.eq_nil_iff_forall_not_mem.2;intro j hj;have:=hL.bwd h hj;rw[h0]at this;cases this
  ·refine .inr ⟨π i,s'.map π,hL.fwd h hi (fun _=>hu),rfl,uv.seq hL fuel _ _ s' (h.set hL i) ?_ hs⟩
   rw[Array.getD_eq_getD_getElem?]at hu ⊢;rw[Array.getElem?_setIfInBounds];by_cases e:i=u
   ·subst e
    rw[if_pos rfl];by_cases O0:i<a.size
    ·rw[if_pos O0];rfl
    ·rw[Array.getElem?_eq_none m0]at hu;cases hu
   ·rw[if_neg e];exact hu
theorem G1 {π1 π2:Nat->Nat}{u v:Nat}{l m1 m2:List Oper}(h1:uv π1 u v l m1)(h2:uv π2 v u l m2)(Pn:u≠v):∀ (fuel:Nat) (a b1 b2:Array Bool) (s:List Nat),Sw π1 a b1->Sw π2 a b2->m6 md l.toArray fuel a s ->
  m6 md m1.toArray fuel b1 (s.map π1)\/m6 md m2.toArray fuel b2 (s.map π2)
 |0,_,_,_,s,_,_,hs=>by cases hs;exact .inl rfl
 |fuel+1,a,b1,b2,s,k1,k2,hs=>by
  rcases hs with⟨h0,rfl⟩|⟨i,s',hi,rfl,hs⟩
  ·refine .inl (.inl ⟨?_,rfl⟩)
   apply List.eq_nil_iff_forall_not_mem.2;intro j hj;have:=h1.bwd k1 hj;rw[h0]at this;cases this
  ·have SD:∀ x,i=x->(a.setIfInBounds i true).getD x false=true:=fun x e=>by
    subst e;obtain⟨o,_,hl,_⟩:=mem_ready.1 hi;rw[Array.getD_eq_getD_getElem?,Array.getElem?_setIfInBounds,if_pos rfl];by_cases O0:i<a.size
    ·rw[if_pos O0];rfl
    ·rw[Array.getD_eq_getD_getElem?,Array.getElem?_eq_none m0]at hl;cases hl
   by_cases eu:i=u
   ·exact .inl (.inr ⟨_,_,h1.fwd k1 hi (fun e=>absurd (eu.symm.trans e) Pn),rfl,h1.seq fuel _ _ s' (k1.set h1 i) (SD u eu) hs⟩)
   ·by_cases ev:i=v
    ·exact .inr (.inr ⟨_,_,h2.fwd k2 hi (fun e=>absurd e eu),rfl,h2.seq fuel _ _ s' (k2.set h2 i) (SD v ev) hs⟩)
    ·rcases G1 h1 h2 Pn fuel _ _ _ s' (k1.set h1 i) (k2.set h2 i) hs with h|h
     ·exact .inl (.inr ⟨_,_,h1.fwd k1 hi (fun e=>absurd e ev),rfl,h⟩)
     ·exact .inr (.inr ⟨_,_,h2.fwd k2 hi (fun e=>absurd e eu),rfl,h⟩)
theorem uT {π:Nat->Nat}{u v:Nat}{l m:List Oper}(hL:uv π u v l m)(hg:∀ (i:Nat) o,l[i]?=some o->o.guard=none):∀ (s:List Nat) (a:Act) (w:World),wpOps P m.toArray Q (s.map π) a w->wpOps P l.toArray Q s a w
 |[],_,_,h=>h
 |i::s,a,w,h=>by
  rw[aqj,wpOps_cons]at h;rw[wpOps_cons];have ih:=uT hL hg s;obtain⟨f,hm,_⟩:=hL.get i;unfold wpOp at h ⊢;rw[List.getElem?_toArray]at h ⊢;rw[hm]at h
  cases ho:l[i]? with
  |none=>rw[ho]at h;exact ih a w h
  |some o =>
   rw[ho,Option.map_some]at h;simp only at h ⊢;have hgo:=hg i o ho;have e1:∀ y,Region.wanted o y=true:=fun y=>by unfold Region.wanted;rw[hgo]
   have e2:∀ y,Region.wanted { o with after:=f o } y=true:=fun y=>by unfold Region.wanted;show(match o.guard with|none=>true|some (j,b)=>_)=true;rw[hgo]
   rw[e2,if_pos rfl]at h;rw[e1,if_pos rfl];rcases h with h|h
   ·exact .inl (Oper.wp_mono (fun a w=>ih a w) h)
   ·exact .inr h
end
def swp (p i:Nat):Nat:=if i=p then p+1 else if i=p+1 then p else i
theorem ada (p i:Nat):swp p (swp p i)=i:=by
 unfold swp;by_cases h1:i=p
 ·rw[if_pos h1,if_neg m0,if_pos rfl];exact h1.symm
 ·rw[if_neg h1]
  by_cases h2:i=p+1
  ·rw[if_pos h2,if_pos rfl];exact h2.symm
  ·rw[if_neg h2,if_neg h1,if_neg h2]
def alm (p i:Nat)(o:Oper):Oper :={ o with after:=if i=p+1 then o.after.push ⟨p,.data⟩else o.after }
def l1E (p:Nat)(l:List Oper):List Oper:=l.mapIdx (alm p)
def al6 (p:Nat)(o:Oper):Oper :={ o with after:=o.after.map fun e =>{ e with on:=swp p e.on } }
def MA (p:Nat)(l:List Oper):List Oper:=match l[p]?,l[p+1]? with
 |some a,some b=>(l.set p b).set (p+1) a
 |_,_=>l
def l2E (p:Nat)(l:List Oper):List Oper:=(MA p l).mapIdx fun i o=>alm p i (al6 p o)
theorem adV {p:Nat}{l:List Oper}(hp:p+1<l.length)(i:Nat):(MA p l)[swp p i]?=l[i]?:=by
 have h1:l[p]?=some l[p]:=aqh m0;have h2:l[p+1]?=some l[p+1]:=aqh hp;unfold MA;rw[h1,h2];simp only;unfold swp;by_cases e1:i=p
 ·subst e1
  rw[if_pos rfl,aqs (by simpa using hp),h1]
 ·rw[if_neg e1]
  by_cases e2:i=p+1
  ·subst e2
   rw[if_pos rfl,aqt m0,aqs m0,h2]
  ·rw[if_neg e2,aqt m0,aqt m0]
theorem aer (p:Nat)(l:List Oper):(MA p l).length=l.length:=by unfold MA;split<;>simp
theorem anh (p:Nat)(l:List Oper):uv (fun i=>i) p (p+1) l (l1E p l):=by
 refine⟨fun _=>rfl,fun i=>⟨fun o=>if i=p+1 then o.after.push ⟨p,.data⟩else o.after,?_,fun o ho=>⟨fun e he=>?_,fun e he=>?_⟩⟩,by simp[l1E]⟩
 ·unfold l1E
  rw[List.getElem?_mapIdx];rfl
 ·show e∈_
  split
  ·simp[he]
  ·exact he
 ·split at he
  ·rename_i hi
   rw[Array.toList_push,aqB,aqP]at he;rcases he with he|rfl
   ·exact .inl ⟨e,he,rfl⟩
   ·exact .inr ⟨hi,rfl⟩
  ·exact .inl ⟨e,he,rfl⟩
theorem anU {p:Nat}{l:List Oper}(hp:p+1<l.length):uv (swp p) (p+1) p l (l2E p l):=by
 refine⟨ada p,fun i=>⟨fun o=>if swp p i=p+1 then(o.after.map fun e =>{ e with on:=swp p e.on }).push ⟨p,.data⟩else o.after.map fun e =>{ e with on:=swp p e.on },?_,fun o ho=>⟨fun e he=>?_,fun e he=>?_⟩⟩,by unfold l2E;rw[List.length_mapIdx,aer]⟩
 ·unfold l2E
  rw[List.getElem?_mapIdx,adV hp];rfl
 ·have hm:({ e with on:=swp p e.on }:Edge)∈(o.after.map fun e =>{ e with on:=swp p e.on }).toList:=by
   rw[Array.toList_map];exact aqJ.2 ⟨e,he,rfl⟩
  split
  ·rw[Array.toList_push];exact List.mem_append_left _ hm
  ·exact hm
 ·have Uu:∀ e:Edge,e∈(o.after.map fun e =>{ e with on:=swp p e.on }).toList ->∃ e'∈o.after.toList,e={ e' with on:=swp p e'.on } :=fun e h=>by
   rw[Array.toList_map]at h;obtain⟨e',h1,h2⟩:=aqJ.1 h;exact⟨e',h1,h2.symm⟩
  split at he
  ·rename_i hi
   rw[Array.toList_push,aqB,aqP]at he;rcases he with he|rfl
   ·exact .inl (Uu e he)
   ·refine .inr ⟨?_,?_⟩
    ·rw[<- ada p i,hi];unfold swp;rw[if_neg m0,if_pos rfl]
    ·show p=swp p (p+1);unfold swp;rw[if_neg m0,if_pos rfl]
  ·exact .inl (Uu e he)
section
variable {P:Program} {ti:TI} {N n0:Nat}
theorem Il (F:List Nat)(O6:TIok P ti){Q:AX->Tm->List Ob->Prop}{T:Tm}{L:List Ob}{l:List Oper}(ds:List (Option Tmp))(R5:l.map (·.dst)=ds)(hc:fu F ti l=true)(hF:fzB F T=true)(h:aI P ti N ds (Q .normal) l T L)
  (hn:n0<=L.length) {B:Nat->Prop} {R:PH} {γ:List Gh} {w:World} {a:Act} (hi:Inv B R γ L w) (hT:eZ N R γ L T a):wpAny P .any l.toArray (uS N n0 B Q R w γ L) l.length (Array.replicate l.length false) a { w with drawn:=w.drawn+1 } :=by
 have hD:=KF hc;obtain⟨vs,Ls,h1,h0,h2,h3⟩:=aa8 l T L h;subst h0;have hiD:Inv B R γ (Ls 0) { w with drawn:=w.drawn+1 } :=⟨hi.len,hi.val,fun id x g hx hg=>(hi.obj id x g hx hg).mv Mv.refl (fun _ _=>rfl) (fun _ _ _ h=>h),hi.inj,hi.new,hi.bsz⟩;have heD:Ext B R R w { w with drawn:=w.drawn+1 } :=⟨⟨rfl,rfl,rfl,aqo _,fun _ _=>rfl⟩,PH.sub_refl _,fun _ _ _=>rfl⟩;refine aok O6 R5 (B:=B) hD h1 (ahr hF) h2 h3 (R0:=R) (γ0:=γ) (w0:=w) ?_ l.length (Array.replicate l.length false) 0 R γ a { w with drawn:=w.drawn+1 } ?_ ?_
 ·intro T' L' R' γ' w' a' q1 q2 q3 q4 q5
  exact⟨.normal,T',L',R',γ',rfl,q1,q2,q3,q4,nl.of hn q5⟩
 ·unfold qH
  exact Nat.le_trans List.countP_le_length m5
 ·have hf:∀ i:Nat,i<l.length->(Array.replicate l.length false)[i]?=some false:=fun i hi=>by simp[hi]
  have ht:∀ i:Nat,(Array.replicate l.length false)[i]?≠some true:=by
   intro i e;by_cases hi:i<l.length
   ·rw[hf i hi]at e;cases e
   ·rw[Array.getElem?_eq_none m8]at e;cases e
  exact⟨hiD,hT.size,hT.defers,⟨m5,fun i o _ e=>absurd e (ht i)⟩,m0,fun c _ hc=>by omega,fun c o _ QQ _=>hf c (ap_.1 QQ).1,fun i o d v e=>absurd e (ht i),fun t x hx _=>hT.slot t x hx,heD,Mv.refl⟩
theorem xZ (F:List Nat)(O6:TIok P ti){Q:AX->Tm->List Ob->Prop}{T:Tm}{L:List Ob}{id:Nat}{l:List Oper}(p:Nat)(hp:p+1<l.length)(hg:l.all (fun o=>o.guard.isNone)=true)(T8:P.follows .mixedOrders=true)(Y5:fu F ti (l1E p l)=true)(TQ:fu F ti (l2E p l)=true)(hF:fzB F T=true)
  (h1:aI P ti N ((l1E p l).map (·.dst)) (Q .normal) (l1E p l) T L) (h2:aI P ti N ((l2E p l).map (·.dst)) (Q .normal) (l2E p l) T L):Aw P N n0 (.region id l.toArray true) Q T L:=by
 intro hn B R γ w a hi hT;refine wp_region_draw fun t=>?_
 have hs:Region.schedule (P.follows .mixedOrders) l.toArray t=Region.linearise.go .any l.toArray l.length t (Array.replicate l.length false) []:=by
  simp only[Region.schedule,T8,Bool.true_or,if_true,Region.linearise,List.size_toArray]
 rw[hs];have Y9:=akN (md := .any) l.toArray l.length t (Array.replicate l.length false);generalize Region.linearise.go .any l.toArray l.length t (Array.replicate l.length false) []=s at Y9;have W7:∀ (i:Nat) o,l[i]?=some o->o.guard=none:=fun i o ho=>by
  have:=aqY.1 hg o (aqe ho);simpa using this
 have Wm:Sw (swp p) (Array.replicate l.length false) (Array.replicate l.length false):=⟨fun i=>by
  by_cases hi:i<l.length
  ·have:swp p i<l.length:=by
    unfold swp;by_cases e1:i=p
    ·rw[if_pos e1];exact hp
    ·rw[if_neg e1]
     by_cases e2:i=p+1
     ·rw[if_pos e2];omega
     ·rw[if_neg e2];exact hi
   simp[hi,this]
  ·have:¬ swp p i<l.length:=by unfold swp;rw[if_neg m0,if_neg m0];exact hi
   simp[hi,this]⟩
 have L1:=anh p l;have L2:=anU hp;rcases G1 L1 L2 m0 l.length _ _ _ s ⟨fun _=>rfl⟩ Wm Y9 with h|h
 ·refine uT L1 W7 s a _ (yA l.length (Array.replicate l.length false) _ a _ ?_ h)
  have:=Il F O6 _ rfl Y5 hF h1 hn hi hT;rw[L1.len]at this;exact this
 ·refine uT L2 W7 s a _ (yA l.length (Array.replicate l.length false) _ a _ ?_ h)
  have:=Il F O6 _ rfl TQ hF h2 hn hi hT;rw[L2.len]at this;exact this
def jL (N n0:Nat)(T:Tm)(L:List Ob)(T':Tm)(L':List Ob):Prop :=
 n0<=L.length->n0<=L'.length /\ ∀ (B:Nat->Prop) (R:PH) (γ:List Gh) (w:World) (a:Act),Inv B R γ L w->eZ N R γ L T a ->∃ R' γ',Inv B R' γ' L' w/\eZ N R' γ' L' T' a/\Ext B R R' w w/\nl n0 R R' γ γ' L L'
theorem jL.refl {T:Tm}{L:List Ob}:jL N n0 T L T L:=fun hn=>⟨hn,fun _ R γ w _ hi hT=>⟨R,γ,hi,hT,Ext.refl _ _ _,nl.of hn Mv.refl⟩⟩
theorem jL.trans {T T1 T2:Tm}{L L1 L2:List Ob}(h:jL N n0 T L T1 L1)(k:jL N n0 T1 L1 T2 L2):jL N n0 T L T2 L2:=fun hn =>
 ⟨(k (h hn).1).1,fun B R γ w a hi hT=>by
  obtain⟨R1,γ1,i1,t1,e1,m1⟩:=(h hn).2 B R γ w a hi hT;obtain⟨R2,γ2,i2,t2,e2,m2⟩:=(k (h hn).1).2 B R1 γ1 w a i1 t1;exact⟨R2,γ2,i2,t2,e1.trans e2,m1.trans hi.len m2⟩⟩
theorem jL.less {T T':Tm}{L:List Ob}(h:∀ t x,T'.lookup t=some x->T.lookup t=some x):jL N n0 T L T' L:=fun hn =>
 ⟨hn,fun _ R γ w _ hi hT=>⟨R,γ,hi,⟨hT.size,hT.defers,fun t x hx=>hT.slot t x (h t x hx)⟩,Ext.refl _ _ _,nl.of hn Mv.refl⟩⟩
theorem jL.box {T:Tm}{L:List Ob}(id:Nat){cs:List SV}{ts:List AC}(hL:L[id]?=some (.box cs))(hn:ir cs=some ts):jL N n0 T L (T.map fun p=>(p.1,unA id ts p.2)) (L.set id .dead):=fun RN =>
 ⟨by simpa using RN,fun B R γ w a hi hT=>by
  obtain⟨R',hI,hE,hM,hS⟩:=r7 hi hL hn;refine⟨R',γ,hI,⟨hT.size,hT.defers,fun t x hx=>?_⟩,hE,nl.of RN hM⟩;obtain⟨y,hy,rfl⟩:=jY hx;obtain⟨u,h1,h2⟩:=hT.slot t y hy;exact⟨u,h1,ace hS hM h2⟩⟩
theorem jL.row {T:Tm}{L:List Ob}(id:Nat){OY k:Nat}{es:List (List SV)}{cs:List (List AC)}(hL:L[id]?=some (.row OY es k))(hn:dV es=some cs):jL N n0 T L (T.map fun p=>(p.1,thA id OY cs p.2)) (L.set id .dead):=fun RN =>
 ⟨by simpa using RN,fun B R γ w a hi hT=>by
  obtain⟨R',γ',hI,hE,hM,hS⟩:=mH hi hL hn;refine⟨R',γ',hI,⟨hT.size,hT.defers,fun t x hx=>?_⟩,hE,nl.of RN hM⟩;obtain⟨y,hy,rfl⟩:=jY hx;obtain⟨u,h1,h2⟩:=hT.slot t y hy;refine⟨u,h1,?_⟩
  cases y with
  |one x=>exact A5 hS hM h2
  |agg xs =>
   obtain⟨vs,rfl,PN,hc⟩:=h2;refine⟨vs,rfl,by rw[PN,aqk],fun j u x hu hx=>?_⟩;rw[aqw]at hx
   cases hy:xs[j]? with
   |none=>rw[hy]at hx;cases hx
   |some y=>rw[hy]at hx;cases hx;exact A5 hS hM (hc j u y hu hy)
  |tup ps=>exact AV.mv (x := .tup ps) hM h2
  |tupS xs=>exact AV.mv (x := .tupS xs) hM h2
  |undef=>exact AV.mv (x := .undef) hM h2⟩
theorem Dz {c:Code}{Q:AX->Tm->List Ob->Prop}{T:Tm}{L:List Ob}(h:Aw P N n0 c (fun x T' L' =>∃ T2 L2,jL N n0 T' L' T2 L2/\Q x T2 L2) T L):Aw P N n0 c Q T L:=by
 intro hn B R γ w a hi hT;refine wp_mono (h hn B R γ w a hi hT) ?_;rintro e a1 w1 ⟨x,T1,L1,R1,γ1,rfl,⟨T2,L2,g,q⟩,i1,t1,e1,m1⟩;obtain⟨R2,γ2,i2,t2,e2,m2⟩:=(g m1.lo').2 B R1 γ1 w1 a1 i1 t1;exact⟨x,T2,L2,R2,γ2,rfl,q,i2,t2,e1.trans e2,m1.trans hi.len m2⟩
theorem tw {Q:AX->Tm->List Ob->Prop}{c:Code}{T:Tm}{L:List Ob}(t OY k:Nat)(ht:T.lookup t=some (.one .emp))(hv:65536<=OY)(h:Aw P N n0 c Q ((t,.one (.sl L.length OY 0 0))::T) (L++[.row OY [] k])):Aw P N n0 c Q T L:=by
 intro hn B R γ w a hi hT;have hm:Mv R R γ (γ++[.none]) L (L++[.row OY [] k]):=Mv.push _ _ hi.len;refine wp_mono (h m8 B R (γ++[.none]) w a (hi.rowTok OY k) ⟨hT.size,hT.defers,fun t' x hx=>?_⟩) fun _ _ _ hh=>hh.ext (Ext.refl _ _ _) hi.len (nl.of hn hm)
 rw[List.lookup_cons]at hx;by_cases e:t'=t
 ·subst e
  simp at hx;subst hx;obtain⟨u,h1,a0,rfl⟩:=hT.slot t' _ ht;refine⟨_,h1,⟨rfl,rfl⟩,m5,fun QH S1 k2 e2=>?_⟩;rw[aqf (aqo _)]at e2;simp at e2;obtain⟨q1,q2,q3⟩:=e2;subst q1 q2 q3;exact⟨aqo _,fun _=>⟨m5,.none,by rw[<- hi.len];simp,⟨a0,rfl,fun h=>by omega⟩,rfl,rfl⟩⟩
 ·have e':(t'==t)=false:=by simpa using e
  rw[e']at hx;obtain⟨u,h1,h2⟩:=hT.slot t' x hx;exact⟨u,h1,AV.mv hm h2⟩
end
open Go.RowKit Go.MapKept
theorem map_some {α β:Type}{o:Option α}{f:α->β}{r:β}(h:o.map f=some r):∃ a,o=some a/\f a=r:=by
 cases o with
 |none=>cases h
 |some a=>exact⟨a,rfl,aqG h⟩
section
variable {P:Program} {ti:TI} {ρ:Operand->Option AV} {L:List Ob}
theorem FY (z:Array Value)(n i:Nat)(h:i<n):(madeCells z n)[i]?=some z[i%z.size]! :=by
 simp[madeCells,h]
theorem sg (O6:TIok P ti){l c:Operand}{t:TypeId}{E k by_:Nat}{m:Int}{kl kc:IntKind}{zs:List SV}{zv:AV}(hl:ρ l=some (.one (.c (.int kl m))))(hc:ρ c=some (.one (.c (.int kc m))))(ht:ti.elem t=some E)(hE:E<65536)(PN:ti.size E=some k)(Vx:ti.zok E=true)(hzv:ti.zero E=some zv)(hcz:zv.cells=some zs)(SA:ti.bytes E=some by_)
  (hk:0<k) (h0:0<=m) (OU:(by_:Int)*m<=281474976710656) (Pz:m<=9223372036854775807) :
  pZ P ρ L (.makeSlice t l c) (.one (.sl L.length (E+65536) 0 m.toNat)) (L++[.row (E+65536) (List.replicate m.toNat zs) k]):=by
 intro B R γ w ev o ho hi hρ Q1;obtain⟨dst,op,type,pos,after,guard⟩:=o;simp only at ho;subst ho;obtain⟨inf,z,PS,Rz,QF,UB⟩:=O6.zok _ Vx _ (O6.size _ _ PN);have Qb:inf.bytes=by_:=by have Q5:=O6.bytes _ _ SA;unfold kf at Q5;rw[PS]at Q5;simpa using Q5
 have hzo':AV.ofVal z=some zv:=by have:=O6.zero _ _ hzv;unfold zeroOf at this;rw[PS]at this;simpa[Rz]using this
 have W4:=(hρ _ (by simp[Op.operands,Call.operands]) _ hl);have RO:=(hρ _ (by simp[Op.operands,Call.operands]) _ hc);generalize hle:ev l=lv at W4;generalize UM:ev c=cv at RO
 cases W4;cases RO;have O8:=run_make (P:=P) w t E inf z (jK O6 ht) PS Rz kl kc m m h0 (Int.le_refl _) (by rw[Qb];exact OU) Pz;have hm:Mv R R γ (γ++[.arr w.heap.size m.toNat]) L (L++[.row (E+65536) (List.replicate m.toNat zs) k]):=Mv.push _ _ hi.len;have hcr:=cells_rep (R:=R) (γ:=γ++[.arr w.heap.size m.toNat]) (L:=L++[.row (E+65536) (List.replicate m.toNat zs) k]) (AV.ofVal_rep hzo') hcz;have hzl:zs.length=k:=by have:=hcr.1;rw[UB]at this;omega
 refine⟨w.alloc (.cells (madeCells z.cells (m.toNat*inf.size)) E),R,_,.inl ⟨.slice (some ⟨w.heap.size,0,none⟩) m.toNat m.toNat,by simp[execOp,hle,UM,O8],⟨rfl,rfl⟩,m5,fun QH S1 k2 e2=>?_⟩,?_,⟨Kept.alloc hi.bsz _,PH.sub_refl _,fun _ _ _=>rfl⟩,hm⟩
 ·rw[aqf m0]at e2
  simp at e2;obtain⟨q1,q2,q3⟩:=e2;subst q1 q2 q3;refine⟨aqo _,fun _=>⟨m5,.arr w.heap.size m.toNat,by rw[<- hi.len];simp,.inl ?_⟩⟩;simp
 ·refine hi.push _ _ _ rfl ⟨⟨_,E,⟨dt w _,by show(E:Nat)=(E+65536)%65536;omega,by show 65536<=(E:Nat)+65536;omega⟩,by rw[size_madeCells,QF],fun i e j u x he hu hx=>?_⟩,m5,hk,fun e he=>?_,fun o=>hi.none_at o⟩
  ·rw[List.getElem?_replicate]at he
   split at he
   ·rename_i him
    obtain rfl:=aqG he;have hj:j<k:=by rw[<- hzl];exact(ap_.1 hx).1
    have O0:i*k+j<m.toNat*inf.size:=by rw[QF];exact pp him hj
    rw[FY _ _ _ O0,UB,Nat.add_comm,Nat.add_mul_mod_self_right,Nat.mod_eq_of_lt hj]at hu;have V_:j<z.cells.size:=by rw[UB];exact hj
    refine hcr.2 j u x ?_ hx;rw[<- hu,aqy V_,getElem!_pos z.cells j V_]
   ·cases he
  ·rw[List.eq_of_mem_replicate he];exact hzl
end
def bytesOf:List (List SV)->Option (List UInt8)
 |[]=>some []
 |[.c (.int .u8 n)]::es=>match bytesOf es with
  |some bs=>if n=(UInt8.ofNat n.toNat).toNat then some (UInt8.ofNat n.toNat::bs)else none
  |none=>none
 |_=>none
def qb (a b:ByteArray):Int:=Extern.BytealgCompare.cmp a b
theorem DV {P : Program} {ρ : Operand -> Option AV} {L : List Ob} {f : FuncId} {fn : Func} {x y : Operand} {ts : Array TypeId} {a b : ByteArray} (hx : ρ x = some (.one (.c (.str a)))) (hy : ρ y = some (.one (.c (.str b)))) (hf : P.funcs[f]? = some fn) (PW : (fn.name == "runtime.NumGoroutine") = false)
  (hb:fn.body.isNone=true) (hn:Extern.findNext fn=none) (he:Extern.find fn=some Extern.BytealgCompare.compare) :
  pZ P ρ L (.call { callee := .value (.func f),args :=#[x,y],argTypes:=ts }) (.one (.c (.int .i64 (qb a b)))) L:=by
 intro B R γ w ev o ho hi hρ Q1;obtain⟨dst,op,type,pos,after,guard⟩:=o;simp only at ho;subst ho;have h1:=hρ x (by simp[Op.operands,Call.operands]) _ hx;have h2:=hρ y (by simp[Op.operands,Call.operands]) _ hy;generalize hex:ev x=ux at h1;generalize Wj:ev y=uy at h2
 cases h1;cases h2;refine⟨w,R,γ,.inl ⟨.int .i64 (qb a b),?_,.int _ _⟩,hi,Ext.refl _ _ _,Mv.refl⟩;have:=run_callFunc_extern hf PW hb hn he #[.string a,.string b] w;have h3:(Extern.BytealgCompare.compare #[.string a,.string b]).run P w = .ok (.int .i64 (qb a b)) w:=rfl;rw[h3]at this;simp[execOp,resolve,Deferred.ofValue,Q1.1,hex,Wj,invoke,this,Result.andThen]
structure abX where
 noEsc:FuncId
 cmpS:FuncId
def alk (P : Program) (f : FuncId) : Prop := ∃ fn, P.funcs[f]? = some fn /\ (fn.name == "runtime.NumGoroutine") = false /\ fn.body.isNone = true /\ Extern.findNext fn = none /\ Extern.find fn = some Extern.AbiNoEscape.same
def anz (P : Program) (f : FuncId) : Prop := ∃ fn, P.funcs[f]? = some fn /\ (fn.name == "runtime.NumGoroutine") = false /\ fn.body.isNone = true /\ Extern.findNext fn = none /\ Extern.find fn = some Extern.BytealgCompare.compare
structure yI (P:Program)(xs:abX):Prop where
 noEsc:alk P xs.noEsc
 cmpS:anz P xs.cmpS
theorem rK {P:Program}{N n0:Nat}{Q:AX->Tm->List Ob->Prop}{c:Code}{T:Tm}{L:List Ob}(h:Aw P N n0 c Q T L):Aw P N n0 (.scope c) Q T L:=fun hn B R γ w a hi hT =>
 wp_scope_straight (wp_mono (h hn B R γ w a hi hT) fun e a1 w1 hp=>by
  obtain⟨x,T1,L1,R1,γ1,rfl,q⟩:=hp
  cases x with
  |normal=>exact⟨.normal,T1,L1,R1,γ1,rfl,q⟩
  |exit id=>exact⟨.exit id,T1,L1,R1,γ1,rfl,q⟩
  |ret=>exact⟨.ret,T1,L1,R1,γ1,rfl,q⟩)
structure Cx where
 P:Program
 ti:TI
 xs:abX
 row:FuncId->Nat->Bool
 frz:FuncId->Nat->List Nat
 flg:FuncId->Nat->Bool×Bool
 orc:FuncId->List PV->Option CV
 bad:FuncId->Bool
 fz:FuncId->Nat->List Nat:=fun _ _=>[]
 sw:FuncId->Nat->Option (Nat×List Nat):=fun _ _=>none
def als (n:Nat):Cap->Bool
 |.ptr id _=>Nat.blt id n
 |.c _=>true
def I7 (n:Nat):List Cap->Bool
 |[]=>true
 |x::xs=>als n x&&I7 n xs
def amy (n:Nat):SV->Bool
 |.own _ t=>Nat.blt t n
 |.ptr id _=>Nat.blt id n
 |.sl id _ _ _=>Nat.blt id n
 |.ep id _ _ _=>Nat.blt id n
 |.mp id=>Nat.blt id n
 |.clo _ caps=>I7 n caps
 |.c _=>true
 |.emp=>true
def CS (n:Nat):List SV->Bool
 |[]=>true
 |x::xs=>amy n x&&CS n xs
def IU (n:Nat):List (List SV)->Bool
 |[]=>true
 |x::xs=>CS n x&&IU n xs
def agw (n:Nat):AV->Bool
 |.one x=>amy n x
 |.agg xs=>CS n xs
 |.tup _=>true
 |.tupS xs=>CS n xs
 |.undef=>true
def Cd (n:Nat):List AV->Bool
 |[]=>true
 |x::xs=>agw n x&&Cd n xs
def ac2 (n:Nat):List (AC×AV)->Bool
 |[]=>true
 |x::xs=>agw n x.2&&ac2 n xs
def aov (n:Nat):Ob->Bool
 |.box cs=>CS n cs
 |.row _ es _=>IU n es
 |.map P5=>ac2 n P5
 |.spare _ _=>true
 |.dead=>true
def Gz (n:Nat):List Ob->Bool
 |[]=>true
 |x::xs=>aov n x&&Gz n xs
theorem aiP {n:Nat}{x:Cap}(h:als n x=true):x.below n:=by
 cases x with
 |c _=>trivial
 |ptr id _=>exact aqi h
theorem Gw {n:Nat}:∀ {xs:List Cap},I7 n xs=true ->∀ x∈xs,x.below n
 |[],_,x,hx=>by cases hx
 |y::xs,h,x,hx=>by
  rw[I7,aqr]at h;rcases aqp.1 hx with rfl|hx
  ·exact aiP h.1
  ·exact Gw h.2 x hx
theorem ac7 {n:Nat}{x:SV}(h:amy n x=true):x.below n:=by
 cases x with
 |c _=>trivial
 |emp=>trivial
 |own _ t=>exact aqi h
 |ptr id _=>exact aqi h
 |sl id _ _ _=>exact aqi h
 |ep id _ _ _=>exact aqi h
 |mp id=>exact aqi h
 |clo f caps=>exact Gw h
theorem rR {n:Nat}:∀ {xs:List SV},CS n xs=true ->∀ x∈xs,x.below n
 |[],_,x,hx=>by cases hx
 |y::xs,h,x,hx=>by
  rw[CS,aqr]at h;rcases aqp.1 hx with rfl|hx
  ·exact ac7 h.1
  ·exact rR h.2 x hx
theorem HK {n:Nat}:∀ {xs:List (List SV)},IU n xs=true ->∀ e∈xs,∀ x∈e,x.below n
 |[],_,x,hx=>by cases hx
 |y::xs,h,x,hx=>by
  rw[IU,aqr]at h;rcases aqp.1 hx with rfl|hx
  ·exact rR h.1
  ·exact HK h.2 x hx
theorem gN {n:Nat}{x:AV}(h:agw n x=true):x.below n:=by
 cases x with
 |one x=>exact ac7 h
 |agg xs=>exact rR h
 |tup _=>trivial
 |tupS xs=>exact rR h
 |undef=>trivial
theorem ny {n:Nat}:∀ {xs:List AV},Cd n xs=true ->∀ x∈xs,x.below n
 |[],_,x,hx=>by cases hx
 |y::xs,h,x,hx=>by
  rw[Cd,aqr]at h;rcases aqp.1 hx with rfl|hx
  ·exact gN h.1
  ·exact ny h.2 x hx
theorem KD {n:Nat}:∀ {xs:List (AC×AV)},ac2 n xs=true ->∀ p∈xs,p.2.below n
 |[],_,x,hx=>by cases hx
 |y::xs,h,x,hx=>by
  rw[ac2,aqr]at h;rcases aqp.1 hx with rfl|hx
  ·exact gN h.1
  ·exact KD h.2 x hx
theorem akK {n:Nat}{x:Ob}(h:aov n x=true):x.below n:=by
 cases x with
 |box cs=>exact rR h
 |row _ es _=>exact HK h
 |map P5=>exact KD h
 |spare _ _=>trivial
 |dead=>trivial
theorem eW {n:Nat}:∀ {xs:List Ob},Gz n xs=true ->∀ x∈xs,x.below n
 |[],_,x,hx=>by cases hx
 |y::xs,h,x,hx=>by
  rw[Gz,aqr]at h;rcases aqp.1 hx with rfl|hx
  ·exact akK h.1
  ·exact eW h.2 x hx
theorem iv {n i:Nat}(h:i<n):je (List.range n) i=i:=by
 unfold je;rw[aq1,List.getElem?_range h];rfl
theorem Cap.ren_range {n:Nat}{x:Cap}(h:x.below n):x.ren (List.range n)=x:=by
 cases x with
 |c _=>rfl
 |ptr id off=>show Cap.ptr (je _ id) off=_;rw[iv h]
theorem ee {α:Type}{f:α->α}:∀ {l:List α},(∀ x∈l,f x=x)->l.map f=l
 |[],_=>rfl
 |x::l,h=>by rw[aqj,h x (aqW ..),ee fun y hy=>h y (aqx _ hy)]
theorem SV.ren_range {n:Nat}{x:SV}(h:x.below n):x.ren (List.range n)=x:=by
 cases x with
 |c _=>rfl
 |emp=>rfl
 |own es t=>show SV.own es (je _ t)=_;rw[iv h]
 |ptr id off=>show SV.ptr (je _ id) off=_;rw[iv h]
 |sl id v l m=>show SV.sl (je _ id) v l m=_;rw[iv h]
 |ep id v i o=>show SV.ep (je _ id) v i o=_;rw[iv h]
 |mp id=>show SV.mp (je _ id)=_;rw[iv h]
 |clo f caps=>show SV.clo f (caps.map _)=_;rw[ee fun x hx=>Cap.ren_range (h x hx)]
theorem AV.ren_range {n:Nat}{x:AV}(h:x.below n):x.ren (List.range n)=x:=by
 cases x with
 |one x=>show AV.one (x.ren _)=_;rw[SV.ren_range h]
 |agg xs=>show AV.agg (xs.map _)=_;rw[ee fun x hx=>SV.ren_range (h x hx)]
 |tup _=>rfl
 |tupS xs=>show AV.tupS (xs.map _)=_;rw[ee fun x hx=>SV.ren_range (h x hx)]
 |undef=>rfl
theorem Ob.ren_range {n:Nat}{x:Ob}(h:x.below n):x.ren (List.range n)=x:=by
 cases x with
 |box cs=>show Ob.box (cs.map _)=_;rw[ee fun x hx=>SV.ren_range (h x hx)]
 |row v es k=>show Ob.row v (es.map (List.map _)) k=_;rw[ee fun e he=>ee fun x hx=>SV.ren_range (h e he x hx)]
 |map P5=>show Ob.map (P5.map fun p=>(p.1,p.2.ren (List.range n)))=_;rw[ee (f:=fun p:AC×AV=>(p.1,p.2.ren (List.range n))) fun p hp=>by show(p.1,p.2.ren _)=p;rw[AV.ren_range (h p hp)]]
 |spare _ _=>rfl
 |dead=>rfl
abbrev CP:=FuncId->List PV->Option CV
abbrev CR:=FuncId->List Ob->List AV->Option (List Ob×AV)
def abD (cx:Cx)(f:FuncId)(id:Nat):Bool->TI
 |false =>{ cx.ti with dyn:=true,soft:=false }
 |true =>{ cx.ti with dyn:=(cx.flg f id).1,soft:=(cx.flg f id).2 }
def h_ (cx:Cx)(f:FuncId):Code->Bool
 |.seq x y=>h_ cx f x&&h_ cx f y
 |.cond _ x y=>h_ cx f x&&h_ cx f y
 |.block _ c=>h_ cx f c
 |.loop c=>h_ cx f c
 |.scope c=>h_ cx f c
 |.region id ops true=>match cx.sw f id with
  |some (p,_)=>(decide (p+1<ops.toList.length)&&ops.toList.all fun o=>o.guard.isNone)&&(fu (cx.fz f id) (abD cx f id true) (l1E p ops.toList)&&fu (cx.fz f id) (abD cx f id true) (l2E p ops.toList))
  |none=>fu (cx.fz f id) (abD cx f id true) ops.toList
 |_=>true
structure Jo (cx:Cx):Prop where
 ti:TIok cx.P cx.ti
 ne:yI cx.P cx.xs
 mix:cx.P.follows .mixedOrders=true
 name : ∀ (f : FuncId) fn, cx.P.funcs[f]? = some fn -> (fn.name == "runtime.NumGoroutine") = false
 code:∀ (f:FuncId) fn c,cx.P.funcs[f]?=some fn->fn.body=some c->cx.bad f=false->h_ cx f c=true
 orc:∀ g ps r,cx.orc g ps=some r->Pure cx.P g ps r
def xU (cx:Cx):List Func->Nat->Bool
 |[],_=>true
 |fn::fs,i=>(match fn.body with
  |some c=>cx.bad i||h_ cx i c
  |none=>true)&&xU cx fs (i+1)
theorem HW {cx:Cx}:∀ {fs:List Func} {i:Nat},xU cx fs i=true ->∀ (j:Nat) fn c,fs[j]?=some fn->fn.body=some c->cx.bad (i+j)=false->h_ cx (i+j) c=true
 |[],i,h,j,fn,c,hj,_,_=>by simp at hj
 |f0::fs,i,h,0,fn,c,hj,hb,Wn=>by
  rw[xU,aqr]at h;simp at hj;subst hj;have h1:=h.1;rw[hb]at h1;rw[Nat.add_zero]at Wn ⊢;simp only[Wn,Bool.false_or]at h1;exact h1
 |f0::fs,i,h,j+1,fn,c,hj,hb,Wn=>by
  rw[xU,aqr]at h;have:=HW h.2 j fn c (by simpa using hj) hb (by rwa[show i+1+j=i+(j+1)by omega]);rwa[show i+1+j=i+(j+1)by omega]at this
def ya:List Func->Bool
 |[]=>true
 | fn :: fs => !(fn.name == "runtime.NumGoroutine") && ya fs
theorem Ig : ∀ {fs : List Func}, ya fs = true -> ∀ (j : Nat) fn, fs[j]? = some fn -> (fn.name == "runtime.NumGoroutine") = false
 |[],h,j,fn,hj=>by simp at hj
 |f0::fs,h,0,fn,hj=>by
  rw[ya,aqr]at h;simp at hj;subst hj;simpa using h.1
 |f0::fs,h,j+1,fn,hj=>by
  rw[ya,aqr]at h;exact Ig h.2 j fn (by simpa using hj)
theorem Jo.of {cx:Cx}(ti:TIok cx.P cx.ti)(ne:yI cx.P cx.xs)(mix:cx.P.follows .mixedOrders=true)(name:ya cx.P.funcs.toList=true)(code:xU cx cx.P.funcs.toList 0=true)(orc:∀ g ps r,cx.orc g ps=some r->Pure cx.P g ps r):Jo cx :=
 ⟨ti,ne,mix,fun f fn h=>Ig name f fn (by simpa using h),fun f fn c h hb Wn=>by have:=HW code f fn c (by simpa using h) hb (by rwa[aqR]);rwa[aqR]at this,orc⟩
theorem wx {α:Type}:∀ (A A' G:List α) (i:Nat) (pre:List α),A.length=A'.length->pre.length=i->db (pre++A++G) ((List.range A.length).map (i + ·)) A'=pre++A'++G
 |[],[],G,i,pre,_,_=>by simp[db]
 |[],_::_,_,_,_,h,_=>by simp at h
 |_::_,[],_,_,_,h,_=>by simp at h
 |x::A,y::A',G,i,pre,h,hp=>by
  have hr:(List.range (x::A).length).map (i + ·)=i::(List.range A.length).map (i+1 + ·):=by
   rw[aqv,List.range_succ_eq_map,aqj,List.map_map];simp only[Nat.add_zero,List.cons.injEq,true_and];refine List.map_congr_left fun j _=>?_
   show i+(j+1)=i+1+j;omega
  rw[hr,db];have e1:(pre++x::A++G).set i y=(pre++[y])++A++G:=by
   subst hp;rw[aqA,List.set_append_right _ _ (aqo _),Nat.sub_self];simp
  rw[e1,wx A A' G (i+1) (pre++[y]) (by simpa using h) (by simp[hp])];simp
theorem aaW {A A' G:List Ob}{m:Nat}(hA:A.length=m)(Yp:A'.length=m)(hb:∀ x∈A',x.below m):joinL (List.range m) (A++G) A'=A'++G:=by
 have ho:b6 (List.range m) (A++G).length A'.length=List.range m:=by
  unfold b6 fo;rw[List.length_range,Yp,Nat.sub_self];simp
 unfold joinL;rw[ho,ee fun x hx=>Ob.ren_range (hb x hx)];unfold join;have h1:=wx A A' G 0 [] (by rw[hA,Yp]) rfl;have h2:(List.range A.length).map (0 + ·)=List.range m:=by rw[hA];exact ee fun i _=>aqR i
 rw[h2]at h1;rw[List.length_range,<- Yp,aq4,aqI];simpa[Yp]using h1
section
variable {P:Program} {ti:TI} {N n0:Nat} {ds:List (Option Tmp)} {K:Tm->List Ob->Prop} {rest:List Oper} {o:Oper} {T:Tm} {L:List Ob} {ρ:Operand->Option AV}
theorem yp (m:Nat)(A A' G:List Ob){g:FuncId}{args:List AV}{d:Nat}(hd:o.dst=some d)(hN:Nat.blt d N=true)(hg:fR ds T o.guard=some true)(hp:dd ti (look T) o.op=some (g,args))(hL:L=A++G)(hc:Run P g A args A' (.tup []))(hA:A.length=m)(Yp:A'.length=m)(hb:∀ x∈A,x.below m)(Qa:∀ x∈A',x.below m)(ha:∀ x∈args,x.below m)
  (h:aI P ti N ds K rest ((d,.tup [])::T) (A'++G)):aI P ti N ds K (o::rest) T L:=by
 subst hL;refine cI (List.range m) hd hN hg hp hc (ee fun x hx=>AV.ren_range (ha x hx)).symm ⟨by rw[List.length_range,hA],List.nodup_range,fun i x hx=>?_,fun x hx=>by rw[hA];exact hb x hx,fun x hx=>by rw[hA];exact ha x hx⟩ rfl (aaW hA Yp Qa) h;have hi:i<m:=by rw[<- hA];exact(ap_.1 hx).1
 rw[iv hi,Ob.ren_range (hb x (aqe hx)),aqm (by rw[hA];exact hi)];exact hx
theorem afH {K K':AV->List Ob->Prop}{op:Op}(h:gp P ti ρ L K op)(hk:∀ v L,K v L->K' v L):gp P ti ρ L K' op:=by
 rcases h with⟨v,φ,h1,h2,h3⟩|⟨v,φ,h1,h2,h3⟩|⟨v,L',φ,h1,h2,h3⟩|⟨g,ps,r,h1,h2,h3⟩|⟨g,es,t,k,ps,Pv,h1,h2,h3,h4⟩|⟨g,k,ps,Pv,h1,h2,h3⟩|⟨σ,g,L0,as',L1,r,h1,h2,h3,h4⟩|⟨v,L',h1,h2,h3⟩
 ·exact .inl ⟨v,φ,h1,h2,hk _ _ h3⟩
 ·exact .inr (.inl ⟨v,φ,h1,h2,hk _ _ h3⟩)
 ·exact .inr (.inr (.inl ⟨v,L',φ,h1,h2,hk _ _ h3⟩))
 ·exact .inr (.inr (.inr (.inl ⟨g,ps,r,h1,h2,hk _ _ h3⟩)))
 ·exact .inr (.inr (.inr (.inr (.inl ⟨g,es,t,k,ps,Pv,h1,h2,h3,hk _ _ h4⟩))))
 ·exact .inr (.inr (.inr (.inr (.inr (.inl ⟨g,k,ps,Pv,h1,h2,hk _ _ h3⟩)))))
 ·exact .inr (.inr (.inr (.inr (.inr (.inr (.inl ⟨σ,g,L0,as',L1,r,h1,h2,h3,hk _ _ h4⟩))))))
 ·exact .inr (.inr (.inr (.inr (.inr (.inr (.inr ⟨v,L',h1,h2,hk _ _ h3⟩))))))
theorem ajF {A A' B B':Prop}{g:Option (Nat×Bool)}(h:gd ds T A B g)(ha:A->A')(hb:B->B'):gd ds T A' B' g:=by
 unfold gd at h ⊢;split
 ·exact ha h
 ·rename_i j want
  dsimp only at h;split at h
  ·rename_i d hd
   split at h
   ·exact⟨fun e=>ha (h.1 e),fun e=>hb (h.2 e)⟩
   ·exact hb h
   ·cases h
  ·cases h
theorem jq {K K':Tm->List Ob->Prop}(hk:∀ T L,K T L->K' T L):∀ (l:List Oper) (T:Tm) (L:List Ob),aI P ti N ds K l T L->aI P ti N ds K' l T L
 |[],T,L,h=>hk T L h
 |o::l,T,L,h=>⟨h.1,ajF h.2 (fun h=>afH h fun v L' h=>jq hk l _ _ h) (fun h=>jq hk l _ _ h)⟩
theorem alr (F:List Nat)(O6:TIok P ti){Q:AX->Tm->List Ob->Prop}{T:Tm}{L:List Ob}{id:Nat}{l:List Oper}{c:Code}(Tc:Tm)(Lc:List Ob)(p:Nat)(hp:p+1<l.length)(hg:l.all (fun o=>o.guard.isNone)=true)(T8:P.follows .mixedOrders=true)(Y5:fu F ti (l1E p l)=true)(TQ:fu F ti (l2E p l)=true)(hF:fzB F T=true)
  (h1:aI P ti N ((l1E p l).map (·.dst)) (jL N n0 · · Tc Lc) (l1E p l) T L) (h2:aI P ti N ((l2E p l).map (·.dst)) (jL N n0 · · Tc Lc) (l2E p l) T L) (h:Aw P N n0 c Q Tc Lc):Aw P N n0 (.seq (.region id l.toArray true) c) Q T L:=by
 refine aw_seq (Dz (xZ F O6 p hp hg T8 Y5 TQ hF (jq ?_ _ _ _ h1) (jq ?_ _ _ _ h2)))
 ·intro T' L' hG
  exact⟨Tc,Lc,hG,h⟩
 ·intro T' L' hG
  exact⟨Tc,Lc,hG,h⟩
theorem yz {Q:AX->Tm->List Ob->Prop}{c:Code}(k:Nat):∀ (m:Nat) (L:List Ob),Aw P N n0 c Q T (L++List.replicate m (.spare 0 k))->Aw P N n0 c Q T L
 |0,L,h=>by simpa using h
 |m+1,L,h=>by
  intro hn B R γ w a hi hT;have hm:Mv R R γ (γ++[.none]) L (L++[.spare 0 k]):=Mv.push _ _ hi.len;have h':Aw P N n0 c Q T ((L++[.spare 0 k])++List.replicate m (.spare 0 k)):=by rw[aqA];exact h
  exact wp_mono (yz k m _ h' m8 B R (γ++[.none]) w a (hi.tok k) (hT.mv hm)) fun _ _ _ hh=>hh.ext (Ext.refl _ _ _) hi.len (nl.of hn hm)
theorem D5 {Q:AX->Tm->List Ob->Prop}{c:Code}(t t':Nat){n k:Nat}(T1:Tm)(RN:n0<=t)(WW:t<=t')(hL:L[t']?=some (.spare n k))(hb:∀ x∈L.take t,x.below t)(hT1:∀ p∈T1,(T.lookup p.1=some p.2/\p.2.below t) \/ ∃ es,T.lookup p.1=some (.one (.own es t'))/\p.2 = .one (.own es t))
  (h:Aw P N n0 c Q T1 (L.take t++[.spare n k])):Aw P N n0 c Q T L:=by
 intro hn B R γ w a hi hT;have Xw:t'<L.length:=(ap_.1 hL).1;have O0:(L.take t).length=t:=by rw[aq0];omega
 have T9:L=L.take t++L.drop t:=(aqU t L).symm;have Rh:Fits ([]:Tm) L [] (L.take t):=⟨fun p hp=>(by cases hp),⟨_,T9⟩,fun p hp=>(by cases hp),fun x hx=>by rw[O0];exact hb x hx⟩;have Qe:eZ N R γ L ([]:Tm) a:=⟨hT.size,hT.defers,fun s x hx=>by simp at hx⟩;obtain⟨j1,_⟩:=Rh.sound hi Qe;rw[O0]at j1;obtain⟨g,hg⟩:∃ g,γ[t']?=some g:=⟨γ[t']'(by rw[hi.len];exact Xw),aqh _⟩;have Qz:=hi.obj t' _ _ hL hg;have Vg:(γ.take t).length=t:=by rw[aq0,hi.len];omega
 have hmp:Mv R R (γ.take t) (γ.take t++[g]) (L.take t) (L.take t++[.spare n k]):=Mv.push _ _ j1.len;have hm:nl n0 R R γ (γ.take t++[g]) L (L.take t++[.spare n k]):=by
  have h1:=Rh.mvn hi (by rw[O0];exact RN);rw[O0]at h1;exact h1.trans hi.len (nl.of (by rw[O0];exact RN) hmp)
 have Y_:(γ.take t++[g])[t]?=some g:=by
  rw[aqf m0];rw[Vg,Nat.sub_self];rfl
 have R4:(L.take t++[Ob.spare n k])[t]?=some (.spare n k):=by
  rw[aqf m0];rw[O0,Nat.sub_self];rfl
 have Pj:∀ j h,(γ.take t++[g])[j]?=some h->(j=t/\h=g)\/(j<t/\(γ.take t)[j]?=some h):=by
  intro j h hh;by_cases hid:j<t
  ·rw[aqm (by rw[Vg];exact hid)]at hh;exact .inr ⟨hid,hh⟩
  ·have:j=t:=by have:=(ap_.1 hh).1;rw[aqg,Vg]at this;simp at this;omega
   subst this;rw[Y_]at hh;injection hh with hh
   exact .inl ⟨rfl,hh.symm⟩
 have hold:∀ j h,j<t->(γ.take t)[j]?=some h->γ[j]?=some h:=fun j h hj hh=>by rwa[List.getElem?_take_of_lt hj]at hh
 have hI:Inv B R (γ.take t++[g]) (L.take t++[.spare n k]) w:=by
  refine⟨by rw[aqg,aqg,j1.len];rfl,hi.val,fun j y q hy hq=>?_,fun i j gi gj h1 h2 Pn b Qa=>?_,fun i q b hq Qa=>?_,hi.bsz⟩
  ·rcases Pj j q hq with⟨rfl,rfl⟩|⟨hj,W8⟩
   ·rw[R4]at hy
    injection hy with hy;subst hy
    match q,Qz with
    |.arr b c,ho=>exact ho
    |.none,ho=>exact ho
   ·rw[aqm (by rw[O0];exact hj)]at hy
    exact(j1.obj j y q hy W8).mv hmp (fun _ _=>rfl) (fun _ _ _ h=>h)
  ·rcases Pj i gi h1 with⟨rfl,rfl⟩|⟨QZ,Ye⟩<;>rcases Pj j gj h2 with⟨rfl,rfl⟩|⟨Vj,WY⟩
   ·exact absurd rfl Pn
   ·exact hi.inj _ j _ gj hg (hold _ _ Vj WY) m0 b Qa
   ·exact hi.inj i _ gi _ (hold _ _ QZ Ye) hg m0 b Qa
   ·exact j1.inj i j gi gj Ye WY Pn b Qa
  ·rcases Pj i q hq with⟨rfl,rfl⟩|⟨QZ,W8⟩
   ·exact hi.new _ _ b hg Qa
   ·exact j1.new i q b W8 Qa
 refine wp_mono (h m8 B R _ w a hI ⟨hT.size,hT.defers,fun s x hx=>?_⟩) fun _ _ _ hh=>hh.ext (Ext.refl _ _ _) hi.len hm
 rcases hT1 _ (kQ hx)with⟨h1,h2⟩|⟨es,h1,h2⟩
 ·obtain⟨u,hu,hr⟩:=hT.slot s x h1
  refine⟨u,hu,?_⟩;have hc:=AV.cut (R:=R) (γ:=γ) (L:=L.take t) (G:=L.drop t) (by rw[<- T9];exact hi.len) (x:=x) (v:=u) (by rw[<- T9];exact hr) (by rw[O0];exact h2);rw[O0]at hc;exact AV.mv hmp hc
 ·obtain⟨u,hu,hr⟩:=hT.slot s _ h1
  dsimp only at h2;subst h2;refine⟨u,hu,?_⟩;obtain⟨r1,r2,r3⟩:=hr;refine⟨r1,by simp;omega,fun n' k' e=>?_⟩;rw[R4]at e;injection e with e
  injection e with e1 e2
  subst e1 e2;obtain⟨q1,q2,q3⟩:=r3 _ _ hL;refine⟨q1,q2,fun e=>?_⟩;obtain⟨g',Q0,hl⟩:=q3 e;rw[hg]at Q0;injection Q0 with Q0;subst Q0
  exact⟨_,Y_,hl⟩
end
def zX {σ:Type}(O:Nat->σ->Ob)(s:σ):List Ob:=[O 0 s,O 1 s,O 2 s,O 3 s,O 4 s,O 5 s,O 6 s,O 7 s,O 8 s,O 9 s,O 10 s,O 11 s,O 12 s,O 13 s,O 14 s,O 15 s,O 16 s]
theorem ff {σ:Type}{O:Nat->σ->Ob}{s:σ}{n:Nat}(h:∀ i,i<17->(O i s).below n):∀ x∈zX O s,x.below n:=by
 intro x hx;unfold zX at hx;simp only[aqp,List.not_mem_nil,or_false]at hx;rcases hx with h1|h1|h1|h1|h1|h1|h1|h1|h1|h1|h1|h1|h1|h1|h1|h1|h1<;>rw[h1]<;>exact h _ m0
open Go.RowKit Go.Shelf Go.Lib Go.Sort
set_option linter.unusedSectionVars false
structure Flat (α:Type) where
 k:Nat
 nums:α->List Int
 len:∀ x,(nums x).length=k
 pos:0<k
namespace Flat
variable {α:Type} (F:Flat α)
def enc (x:α):List Value:=(F.nums x).map (Value.int .i64)
def tr (x:α):List SV:=(F.nums x).map fun n => .c (.int .i64 n)
theorem enc_len (x:α):(F.enc x).length=F.k:=by simp[enc,F.len]
theorem tr_len (x:α):(F.tr x).length=F.k:=by simp[tr,F.len]
theorem rep_iff {R:PH}{γ:List Gh}{L:List Ob}{x:α}{j:Nat}{t:SV}(ht:(F.tr x)[j]?=some t){u:Value}:t.rep R γ L u↔(F.enc x)[j]?=some u:=by
 unfold tr at ht;unfold enc;rw[aqw]at ht ⊢
 cases hn:(F.nums x)[j]? with
 |none=>rw[hn]at ht;cases ht
 |some n =>
  rw[hn]at ht
  cases ht;constructor
  ·intro h;cases h;rfl
  ·intro h;cases h;exact .int _ _
theorem flat_get {l:List α}{i j:Nat}{x:α}(hi:l[i]?=some x)(hj:j<F.k):(l.flatMap F.enc)[i*F.k+j]?=(F.enc x)[j]?:=by
 induction l generalizing i with
 |nil=>cases hi
 |cons y l ih =>
  rw[aqM]
  cases i with
  |zero =>
   cases hi;rw[Nat.zero_mul,aqR,aqm (by rw[F.enc_len];exact hj)]
  |succ i =>
   rw[aqf (by rw[F.enc_len,Nat.succ_mul];omega),F.enc_len,show(i+1)*F.k+j-F.k=i*F.k+j by rw[Nat.succ_mul];omega];exact ih hi
theorem flat_len (l:List α):(l.flatMap F.enc).length=l.length*F.k:=by
 induction l with
 |nil=>simp
 |cons y l ih=>rw[aqM,aqg,ih,F.enc_len,aqv,Nat.succ_mul];omega
end Flat
section
variable {P:Program} {α:Type} {F:Flat α} {B:Nat->Prop} {R:PH} {γ:List Gh} {w:World}
theorem CJ {k c OY:Nat}{l:List α}{vs:Array Value}(hk:k=F.k)(hc:l.length<=c)(hs:vs.size=c*k)
  (hr:∀ (i:Nat) e (j:Nat) u x,(l.map F.tr)[i]?=some e->vs[i*k+j]?=some u->e[j]?=some x->x.rep R γ [.row OY (l.map F.tr) k] u) (j:Nat) (hj:j<l.length*k):vs[j]?=(l.flatMap F.enc)[j]?:=by
 subst hk;have h0:=F.pos;have hi:j/F.k<l.length:=Nat.div_lt_of_lt_mul (by rw[Nat.mul_comm];exact hj);have hm:j%F.k<F.k:=Nat.mod_lt _ h0;have e:=Nat.div_add_mod' j F.k;have Yk:j<vs.size:=by rw[hs];exact aqN hj (aqL _ hc)
 have h1:=aqh hi;have ht:(F.tr l[j/F.k])[j%F.k]?=some ((F.tr l[j/F.k])[j%F.k]'(by rw[F.tr_len];exact hm)):=aqh _;have h2:=hr (j/F.k) (F.tr l[j/F.k]) (j%F.k) vs[j] _ (by rw[aqw,h1];rfl) (by rw[e];exact aqy Yk) ht;rw[F.rep_iff ht]at h2;have h3:=F.flat_get h1 hm;rw[e]at h3;rw[h3,h2,aqy Yk]
theorem agG {OY k b c:Nat}{pre d post d':List α}(hk:k=F.k)(hd:d'.length=d.length){W:World}(hi:Inv B R γ [.row OY ((pre++d++post).map F.tr) k] w)(hg:γ[0]?=some (.arr b c))
  (ho:W.heap.size=w.heap.size) (XF:W.os=w.os/\W.tape=w.tape/\W.output=w.output) (Pn:∀ b',b'≠b->W.heap[b']?=w.heap[b']?)
  (hb:∀ vs E,w.heap[b]?=some (.cells vs E (0,0)) ->∃ Yq:Array Value,W.heap[b]?=some (.cells Yq E (0,0))/\Yq.size=vs.size /\ ∀ j,j<vs.size->Yq[j]?=if pre.length*k<=j/\j<(pre.length+d.length)*k then(d'.flatMap F.enc)[j-pre.length*k]? else vs[j]?) :
  Inv B R γ [.row OY ((pre++d'++post).map F.tr) k] W/\Ext B R R w W/\Mv R R γ γ [.row OY ((pre++d++post).map F.tr) k] [.row OY ((pre++d'++post).map F.tr) k]:=by
 subst hk;have hL:([.row OY ((pre++d++post).map F.tr) F.k]:List Ob)[0]?=some (.row OY ((pre++d++post).map F.tr) F.k):=rfl;obtain⟨⟨vs,E,⟨h1,hE⟩,PN,hr⟩,hc,Vd,VR,hR⟩:=hi.obj 0 _ _ hL hg;obtain⟨Yq,g1,g2,g3⟩:=hb vs E h1;have SY:=CJ (F:=F) rfl (by simpa using hc) PN hr;have hm:Mv R R γ γ [.row OY ((pre++d++post).map F.tr) F.k] (([.row OY ((pre++d++post).map F.tr) F.k]:List Ob).set 0 (.row OY ((pre++d'++post).map F.tr) F.k)):=by
  refine⟨PH.sub_refl _,aqo _,fun t' n k O0 h=>?_,fun t' Pl es k O0 h=>?_,fun _ _ h=>h⟩
  ·obtain rfl:t'=0:=by simpa using O0
   cases h
  ·obtain rfl:t'=0:=by simpa using O0
   cases h;exact⟨OY,_,rfl,aqo _,fun _=>⟨by simp[hd],rfl⟩⟩
 have Rw:=hi.turn (R':=R) (w':=W) hL hg rfl hm Pn ho (fun _ _ _=>rfl) (fun o u e=>by rw[hR o]at e;cases e) (by
  refine⟨⟨Yq,E,⟨g1,hE⟩,by rw[g2,PN],fun i e j u x he hu hx=>?_⟩,by simpa[hd]using hc,Vd,?_,hR⟩
  ·rw[aqw]at he
   cases hq:(pre++d'++post)[i]? with
   |none=>rw[hq]at he;cases he
   |some y =>
    rw[hq]at he
    cases he;rw[F.rep_iff hx];have hj:j<F.k:=by rw[<- F.tr_len y];exact(ap_.1 hx).1
    have O0:i*F.k+j<Yq.size:=(aqT.1 hu).1;rw[g3 _ m0]at hu;have Ve:i<(pre++d'++post).length:=(ap_.1 hq).1;have Wp:∀ a,i*F.k+j<a*F.k↔i<a:=fun a=>⟨fun h=>by
      rcases Nat.lt_or_ge i a with h'|h'
      ·exact h'
      ·have:=aqL F.k h';omega,fun h=>by
      have:=aqL F.k (show i+1<=a from h);rw[Nat.succ_mul]at this;omega⟩
    by_cases SD:pre.length*F.k<=i*F.k+j/\i*F.k+j<(pre.length+d.length)*F.k
    ·rw[if_pos SD]at hu
     have a1:¬ i<pre.length:=fun h=>by have:=(Wp _).2 h;omega
     have a2:=(Wp _).1 SD.2;have W8:d'[i-pre.length]?=some y:=by
      rw[aqA,aqf m0,aqm m0]at hq;exact hq
     have:=F.flat_get W8 hj;rw[<- this,<- hu];congr 1;rw[Nat.sub_mul];have:=aqL F.k (show pre.length<=i by omega);omega
    ·rw[if_neg SD]at hu
     have W8:(pre++d++post)[i]?=some y:=by
      by_cases a1:i<pre.length
      ·rw[aqA,aqm a1]at hq ⊢;exact hq
      ·have a2:¬ i<pre.length+d.length:=fun h=>SD ⟨by have:=aqL F.k (show pre.length<=i by omega);omega,(Wp _).2 h⟩
       rw[aqf (by simp[hd];omega)]at hq;rw[aqf m8,<- hq];simp[hd]
     have hil':i<(pre++d++post).length:=(ap_.1 W8).1;rw[SY _ ((Wp _).2 hil'),F.flat_get W8 hj]at hu;exact hu
  ·intro e he
   obtain⟨y,_,rfl⟩:=aqJ.1 he;exact F.tr_len y)
 refine⟨Rw,⟨⟨XF.1,XF.2.1,XF.2.2,m0,fun b' Qa=>Pn b' fun e=>(hi.new 0 _ b hg rfl).1 (by rw[<- e];exact Qa)⟩,PH.sub_refl _,fun _ _ _=>rfl⟩,hm⟩
end
section
variable {P:Program} {ρ:Ren} {α:Type} [Inhabited α] {F:Flat α}
theorem Bf (l:List α)(j:Nat)(hj:j<l.length*F.k):(flatK F.enc F.k l.toArray)[j]?=(l.flatMap F.enc)[j]?:=by
 have Vd:=F.pos;have hi:j/F.k<l.length:=Nat.div_lt_of_lt_mul (by rw[Nat.mul_comm];exact hj);have hr:j%F.k<F.k:=Nat.mod_lt _ Vd;have h1:=F.flat_get (aqh hi) hr;rw[Nat.div_add_mod' j F.k]at h1;rw[h1];have hs:j<(flatK F.enc F.k l.toArray).size:=by simp;exact hj
 rw[aqy hs,<- getElem!_pos _ j hs,get_flatK _ _ _ _ (by simpa using hj)];have h2:l.toArray[j/F.k]! =l[j/F.k]:=by simp[hi]
 rw[h2,aqh (by rw[F.enc_len];exact hr)];simp[F.enc_len,hr]
def NC (P:Program)(F:Flat α)(g:Nat)(cs:List AC)(arg:α->Value)(cf:α->α->Int):Prop :=
 ∀ (R:PH) (W:World) (cb:Array Value),(∀ b o u,R b o=some u->W.cell? ⟨b,o,none⟩=some u)->cb.size=cs.length->(∀ (j:Nat) v x,cb[j]?=some v->cs[j]?=some x->bD R v x) ->
  ∀ x y,Calls P g (#[arg x,arg y]++cb) W fun e w'=>e = .returned (.int .i64 (cf x y)) /\ ∃ q XG,w'=grow (W.drewN q) XG
def bE (cf:α->α->Int)(d:List α):List α:=(pdq (ltOf cf) d.toArray 0 d.toArray.size (Lib.bitLen d.toArray.size) true true).toList
theorem kz {cf:α->α->Int}(hO:SWO (ltOf cf))(d:List α):(bE cf d).Perm d:=by
 have h:=(pdq_sorts (ltOf cf) hO d.toArray 0 d.toArray.size (Lib.bitLen d.toArray.size) true true (aqu _) (aqo _) (Or.inl rfl)).1;obtain⟨p1,_,p2⟩:=h;unfold bE;generalize pdq (ltOf cf) d.toArray 0 d.toArray.size (Lib.bitLen d.toArray.size) true true=d' at p1 p2 ⊢;have p1':d'.toList.length=d.length:=by simpa using p1
 have a1:(d'.extract 0 d.toArray.size).toList=d'.toList:=by simp[<- p1']
 have a2:(d.toArray.extract 0 d.toArray.size).toList=d:=by simp
 rw[a1,a2]at p2;exact p2
theorem fC {cf:α->α->Int}(hO:SWO (ltOf cf))(d:List α):(bE cf d).length=d.length:=(kz hO d).length_eq
theorem rG {cf:α->α->Int}(hO:SWO (ltOf cf))(d:List α):(bE cf d).Pairwise fun x y =>¬ cf y x<0:=by
 have h:=(pdq_sorts (ltOf cf) hO d.toArray 0 d.toArray.size (Lib.bitLen d.toArray.size) true true (aqu _) (aqo _) (Or.inl rfl));have hl:=fC hO d;obtain⟨_,hs⟩:=h;unfold bE at hl ⊢;generalize pdq (ltOf cf) d.toArray 0 d.toArray.size (Lib.bitLen d.toArray.size) true true=d' at hs hl ⊢;rw[List.pairwise_iff_getElem];intro i j hi hj S3;have:=hs i j (aqu _) S3 (by rw[hl]at hj;simpa using hj);unfold ltOf at this;have h2:=of_decide_eq_false this;have Rw:i<d'.size:=by simpa using hi
 have hj':j<d'.size:=by simpa using hj
 rw[getElem!_pos d' i Rw,getElem!_pos d' j hj']at h2;simpa using h2
theorem NP {B:Nat->Prop}{R:PH}{γ:List Gh}{w:World}{OY b c n0:Nat}{pre d post d':List α}(hd:d'.length=d.length)(hi:Inv B R γ [.row OY ((pre++d++post).map F.tr) F.k] w)(hg:γ[0]?=some (.arr b c))(cells:Array Value)(S4:cells.size=d.length*F.k)
  (UM:∀ j,j<d.length*F.k->cells[j]?=(d'.flatMap F.enc)[j]?) (os:Array Obj) :
  Inv B R γ [.row OY ((pre++d'++post).map F.tr) F.k] (grow (putRow id (Sort.ahead w n0) b (pre.length*F.k) cells) os)/\Ext B R R w (grow (putRow id (Sort.ahead w n0) b (pre.length*F.k) cells) os) /\
   Mv R R γ γ [.row OY ((pre++d++post).map F.tr) F.k] [.row OY ((pre++d'++post).map F.tr) F.k]:=by
 obtain⟨i1,e1,m1⟩:=agG (F:=F) (d':=d') (W:=putRow id (Sort.ahead w n0) b (pre.length*F.k) cells) rfl hd hi hg (by simp[putRow,mapBlock,Sort.ahead]) ⟨rfl,rfl,rfl⟩
  (fun b' Qa=>by simp[putRow,mapBlock,Sort.ahead,Array.getElem?_modify,Ne.symm Qa])
  (fun vs E hv=>⟨putCells id (pre.length*F.k) cells vs,by simp[putRow,mapBlock,Sort.ahead,Array.getElem?_modify,hv,onCells],by simp[putCells],fun j hj=>by
   have hx:(putCells id (pre.length*F.k) cells vs)[j]?=some (if pre.length*F.k<=j/\j<pre.length*F.k+cells.size then cells[j-pre.length*F.k]! else vs[j]):=by
    simp[putCells,hj]
   rw[hx,S4,Nat.add_mul];by_cases h:pre.length*F.k<=j/\j<pre.length*F.k+d.length*F.k
   ·rw[if_pos h,if_pos h,<- UM _ m0]
    have:j-pre.length*F.k<cells.size:=m0
    rw[getElem!_pos cells _ this,aqy this]
   ·rw[if_neg h,if_neg h,aqy hj]⟩)
 have e2:Ext (· <(putRow id (Sort.ahead w n0) b (pre.length*F.k) cells).heap.size) R R (putRow id (Sort.ahead w n0) b (pre.length*F.k) cells) (grow (putRow id (Sort.ahead w n0) b (pre.length*F.k) cells) os) :=
  ⟨⟨rfl,rfl,rfl,m5,fun b' Qa=>heap_grow_old _ _ Qa⟩,PH.sub_refl _,fun _ _ _=>rfl⟩
 obtain⟨i2,e3⟩:=i1.later e2 (fun b' o u h=>by
  have:=i1.val b' o u h;rw[cell?_grow _ _ _ (lt_of_cell this)];exact this)
 exact⟨i2,e1.trans e3,m1⟩
theorem air {B:Nat->Prop}{R:PH}{γ:List Gh}{w:World}{OY b c:Nat}{pre d post:List α}(hi:Inv B R γ [.row OY ((pre++d++post).map F.tr) F.k] w)(hg:γ[0]?=some (.arr b c))(cells:Array Value)(S4:cells.size=d.length*F.k)
  (UM:∀ j,j<d.length*F.k->cells[j]?=(d.flatMap F.enc)[j]?):Holds id w b (pre.length*F.k) cells/\b<w.heap.size/\(∀ o,R b o=none):=by
 obtain⟨⟨vs,E,⟨h1,hE⟩,PN,hr⟩,hc,Vd,VR,hR⟩:=hi.obj 0 _ _ rfl hg;have SY:=CJ (F:=F) rfl (by simpa using hc) PN hr;refine⟨fun j hj=>?_,(aqT.1 h1).1,hR⟩;have O0:pre.length*F.k+j<(pre++d++post).length*F.k:=by
  simp only[aqg,Nat.add_mul];omega
 refine⟨?_,by simp[World.frozen?,h1]⟩;rw[cob_ h1,SY _ O0,aqA,List.flatMap_append,aqf (by rw[F.flat_len];omega),F.flat_len,List.flatMap_append,aqm (by rw[F.flat_len];omega),show pre.length*F.k+j-pre.length*F.k=j by omega,<- UM j m0,aqy hj,getElem!_pos cells j hj];rfl
theorem aly {B:Nat->Prop}{R:PH}{γ:List Gh}{w:World}{OY:Nat}{pre d post:List α}{v:Value}(hi:Inv B R γ [.row OY ((pre++d++post).map F.tr) F.k] w)
  (hv:(SV.sl 0 OY pre.length d.length).rep R γ [.row OY ((pre++d++post).map F.tr) F.k] v) :
  (∃ a c,v = .slice a 0 c/\d=[]) \/ ∃ b c c',γ[0]?=some (.arr b c)/\v = .slice (some ⟨b,pre.length*F.k,none⟩) d.length c':=by
 obtain⟨_,_,h⟩:=hv;obtain⟨_,h⟩:=h OY _ _ rfl;obtain⟨hle,g,hg,hs⟩:=h rfl
 cases g with
 |none=>obtain⟨⟨a,rfl,_⟩,hn,_⟩:=hs;exact .inl ⟨a,0,rfl,aqz hn⟩
 |box b=>exact absurd hs id
 |arr b c =>
  rcases hs with rfl|⟨_,hn,a,rfl⟩
  ·exact .inr ⟨b,c,_,hg,rfl⟩
  ·exact .inl ⟨a,0,rfl,aqz hn⟩
theorem Gf (L:SlLaysF0.n6 P ρ)(aE:∀ w,(isAgg (ρ.t 24)).run P w = .ok true w)(zE:∀ w,(Go.sizeOf (ρ.t 24)).run P w = .ok F.k w)(cf:α->α->Int)(hO:SWO (ltOf cf))(g:Nat)(cs:List AC){pre d post:List α}
  (eg : ∀ args w, (callFunc g args).run P w = .ok (.enter g args) w) (XH : d ≠ [] -> NC P F g cs (fun x => .agg (F.enc x).toArray) cf) (hf : ∃ fn, P.funcs[ρ.f 6]? = some fn /\ fn.body.isSome = true /\ (fn.name == "runtime.NumGoroutine") = false)
  (OY lo n:Nat) (Po:pre.length=lo) (hn:d.length=n) (PN:n<4611686018427387904) :
  Run P (ρ.f 6) [.row OY ((pre++d++post).map F.tr) F.k] [.one (.sl 0 OY lo n),.one (.c (.fn g cs))] [.row OY ((pre++bE cf d++post).map F.tr) F.k] (.tup []):=by
 subst Po hn;refine⟨hf,fun B R γ w vs hi hs hv=>?_⟩;have Zb:vs.size=2:=hs;have Zc:=hv 0 vs[0] _ (aqy m0) rfl;have QY:=hv 1 vs[1] _ (aqy m0) rfl;have XI:vs=#[vs[0],vs[1]]:=by
  apply Array.ext
  ·simp[Zb]
  ·intro i h1 h2
   have:i=0\/i=1:=m0
   rcases this with rfl|rfl<;>rfl
 generalize vs[0]=v0 at Zc XI;generalize vs[1]=v1 at QY XI;subst XI;have T_:∀ (cb:Value) W,Inv B R γ [.row OY ((pre++bE cf d++post).map F.tr) F.k] W->Ext B R R w W->Mv R R γ γ [.row OY ((pre++d++post).map F.tr) F.k] [.row OY ((pre++bE cf d++post).map F.tr) F.k] ->
   ∃ v R' γ',Ending.returned (.tuple #[]) = .returned v/\Inv B R' γ' [.row OY ((pre++bE cf d++post).map F.tr) F.k] W/\Ext B R R' w W/\Mv R R' γ γ' [.row OY ((pre++d++post).map F.tr) F.k] [.row OY ((pre++bE cf d++post).map F.tr) F.k]/\(AV.tup []).rep R' γ' [.row OY ((pre++bE cf d++post).map F.tr) F.k] v :=
  fun _ W h1 h2 h3=>⟨_,R,γ,rfl,h1,h2,h3,#[],rfl,rfl,fun j u p hu _=>by simp at hu⟩
 rcases aly hi Zc with⟨a,c,rfl,hd⟩|⟨b,c,c',hg,rfl⟩
 ·subst hd
  refine(AnyF.slices_SortFunc_none { L with } a c v1 w).mono fun e w' ⟨he,hw⟩=>?_
  subst he hw;have Qe:bE cf ([]:List α)=[]:=aqz (fC hO []);exact T_ v1 w' (by rw[Qe];exact hi) (Ext.refl _ _ _) (by rw[Qe];exact Mv.refl)
 ·cases QY with
  |fn _ cb _ S4 UM =>
   by_cases Pn:d=[]
   ·subst Pn
    refine(AnyF.slices_SortFunc_none { L with } _ _ _ w).mono fun e w' ⟨he,hw⟩=>?_
    subst he hw;have Qe:bE cf ([]:List α)=[]:=aqz (fC hO []);exact T_ (.int .i64 0) w' (by rw[Qe];exact hi) (Ext.refl _ _ _) (by rw[Qe];exact Mv.refl)
   obtain⟨hH,hb,hR⟩:=air (F:=F) hi hg (flatK F.enc F.k d.toArray) m5 (fun j hj=>Bf d j hj);have RA:=AnyQ.slices_SortFunc_eq L F.k aE zE F.enc F.enc_len (fun x v hv=>by simp only[Flat.enc,aqJ]at hv;obtain⟨_,_,rfl⟩:=hv;rfl) cf hO g cb b (pre.length*F.k) c' d.toArray w eg
    (fun m os dk R5 x y=>XH Pn R _ cb (fun b' o u h=>by
     have h':=hi.val b' o u h;have O0:=lt_of_cell h';have Pn:b'≠b:=fun e=>by rw[e,hR o]at h;cases h
     unfold sortWorldK putRowK;rw[cell?_grow _ _ _ (by simpa[putRow,mapBlock,Sort.ahead]using O0)];have:=cell?_putRow_other id (Sort.ahead w m) b (pre.length*F.k) (flatK F.enc F.k dk) ⟨b',o,none⟩ (Or.inl Pn);rw[this];exact h') S4 UM x y) hH hb (by simpa using PN)
   simp only[List.size_toArray]at RA;refine RA.mono fun e w' ⟨he,n',os,hw⟩=>?_
   subst he;have Zd:w'=grow (putRow id (Sort.ahead w n') b (pre.length*F.k) (flatK F.enc F.k (bE cf d).toArray)) os:=by
    rw[hw];unfold sortWorldK putRowK bE;simp
   subst Zd;have hl:=fC hO d;obtain⟨h1,h2,h3⟩:=NP (F:=F) (d':=bE cf d) (n0:=n') hl hi hg (flatK F.enc F.k (bE cf d).toArray) (by simp[hl]) (fun j hj=>Bf _ j (by rw[hl];exact hj)) os;exact T_ (.int .i64 0) _ h1 h2 h3
def Flat.one (F:Flat α)(x:α):Value := .int .i64 ((F.nums x).headD 0)
theorem Flat.one_eq (hk:F.k=1)(x:α):F.enc x=[F.one x]:=by
 have h:=F.len x;rw[hk]at h;unfold Flat.enc Flat.one
 match F.nums x,h with
 |[n],_=>rfl
theorem alx (hk:F.k=1):∀ d:List α,d.flatMap F.enc=d.map F.one
 |[]=>rfl
 |x::d=>by rw[aqM,alx hk d,F.one_eq hk];rfl
theorem alh (W:World)(b off:Nat)(d:Array α):putRow F.one W b off d=putRow id W b off (d.map F.one):=by
 unfold putRow;refine mapBlock_congr _ _ _ _ fun c _ _ _=>?_
 apply Array.ext_getElem?;intro k;simp only[putCells,Array.getElem?_mapIdx,Array.size_map]
 cases c[k]? with
 |none=>rfl
 |some y =>
  simp only[Option.map_some];by_cases h:off<=k/\k<off+d.size
  ·rw[if_pos h,if_pos h]
   have h1:k-off<d.size:=m0
   rw[getElem!_pos d _ h1,getElem!_pos (d.map F.one) _ (by simpa using h1)];simp
  ·rw[if_neg h,if_neg h]
theorem aeC (hk:F.k=1)(L:SlLaysF.n6 P ρ)(cf:α->α->Int)(hO:SWO (ltOf cf))(g:Nat)(cs:List AC){pre d post:List α}
  (eg : ∀ args w, (callFunc g args).run P w = .ok (.enter g args) w) (XH : d ≠ [] -> NC P F g cs F.one cf) (hf : ∃ fn, P.funcs[ρ.f 6]? = some fn /\ fn.body.isSome = true /\ (fn.name == "runtime.NumGoroutine") = false)
  (OY lo n:Nat) (Po:pre.length=lo) (hn:d.length=n) (PN:n<4611686018427387904) :
  Run P (ρ.f 6) [.row OY ((pre++d++post).map F.tr) F.k] [.one (.sl 0 OY lo n),.one (.c (.fn g cs))] [.row OY ((pre++bE cf d++post).map F.tr) F.k] (.tup []):=by
 subst Po hn;refine⟨hf,fun B R γ w vs hi hs hv=>?_⟩;have Zb:vs.size=2:=hs;have Zc:=hv 0 vs[0] _ (aqy m0) rfl;have QY:=hv 1 vs[1] _ (aqy m0) rfl;have XI:vs=#[vs[0],vs[1]]:=by
  apply Array.ext
  ·simp[Zb]
  ·intro i h1 h2
   have:i=0\/i=1:=m0
   rcases this with rfl|rfl<;>rfl
 generalize vs[0]=v0 at Zc XI;generalize vs[1]=v1 at QY XI;subst XI;have T_:∀ W,Inv B R γ [.row OY ((pre++bE cf d++post).map F.tr) F.k] W->Ext B R R w W->Mv R R γ γ [.row OY ((pre++d++post).map F.tr) F.k] [.row OY ((pre++bE cf d++post).map F.tr) F.k] ->
   ∃ v R' γ',Ending.returned (.tuple #[]) = .returned v/\Inv B R' γ' [.row OY ((pre++bE cf d++post).map F.tr) F.k] W/\Ext B R R' w W/\Mv R R' γ γ' [.row OY ((pre++d++post).map F.tr) F.k] [.row OY ((pre++bE cf d++post).map F.tr) F.k]/\(AV.tup []).rep R' γ' [.row OY ((pre++bE cf d++post).map F.tr) F.k] v :=
  fun W h1 h2 h3=>⟨_,R,γ,rfl,h1,h2,h3,#[],rfl,rfl,fun j u p hu _=>by simp at hu⟩
 have hi:Inv B R γ [.row OY ((pre++d++post).map F.tr) F.k] w:=hi;rcases aly (F:=F) hi Zc with⟨a,c,rfl,hd⟩|⟨b,c,c',hg,rfl⟩
 ·subst hd
  refine(AnyF.slices_SortFunc_none { L with } a c v1 w).mono fun e w' ⟨he,hw⟩=>?_
  subst he hw;have Qe:bE cf ([]:List α)=[]:=aqz (fC hO []);exact T_ w' (by rw[Qe];exact hi) (Ext.refl _ _ _) (by rw[Qe];exact Mv.refl)
 ·cases QY with
  |fn _ cb _ S4 UM =>
   by_cases Pn:d=[]
   ·subst Pn
    refine(AnyF.slices_SortFunc_none { L with } _ _ _ w).mono fun e w' ⟨he,hw⟩=>?_
    subst he hw;have Qe:bE cf ([]:List α)=[]:=aqz (fC hO []);exact T_ w' (by rw[Qe];exact hi) (Ext.refl _ _ _) (by rw[Qe];exact Mv.refl)
   have SY:∀ l:List α,∀ j,j<l.length*F.k->(l.toArray.map F.one)[j]?=(l.flatMap F.enc)[j]?:=fun l j _=>by rw[alx hk];simp
   obtain⟨hH,hb,hR⟩:=air (F:=F) hi hg (d.toArray.map F.one) (by simp[hk]) (SY d);have hH':Holds F.one w b (pre.length*F.k) d.toArray:=fun j hj=>by
    have h:=hH j (by simpa using hj);rw[getElem!_pos (d.toArray.map F.one) j (by simpa using hj)]at h;rw[getElem!_pos d.toArray j hj];simpa using h
   have RA:=Any.slices_SortFunc_eq L F.one (fun _=>rfl) cf hO g cb b (pre.length*F.k) c' d.toArray w eg
    (fun m os dk R5 x y=>XH Pn R _ cb (fun b' o u h=>by
     have h':=hi.val b' o u h;have O0:=lt_of_cell h';have Pn:b'≠b:=fun e=>by rw[e,hR o]at h;cases h
     unfold sortWorld;rw[cell?_grow _ _ _ (by simpa[putRow,mapBlock,Sort.ahead]using O0)];have:=cell?_putRow_other F.one (Sort.ahead w m) b (pre.length*F.k) dk ⟨b',o,none⟩ (Or.inl Pn);rw[this];exact h') S4 UM x y) hH' hb (by simpa using PN)
   simp only[List.size_toArray]at RA;refine RA.mono fun e w' ⟨he,n',os,hw⟩=>?_
   subst he;have Zd:w'=grow (putRow id (Sort.ahead w n') b (pre.length*F.k) ((bE cf d).toArray.map F.one)) os:=by
    rw[hw];unfold sortWorld bE;rw[alh];simp
   subst Zd;have hl:=fC hO d;obtain⟨h1,h2,h3⟩:=NP (F:=F) (d':=bE cf d) (n0:=n') hl hi hg ((bE cf d).toArray.map F.one) (by simp[hl,hk]) (fun j hj=>SY _ j (by rw[hl];exact hj)) os;exact T_ _ h1 h2 h3
end
open Go.RowKit Go.MapKept
theorem kM {P:Program}{w:World}{t:TypeId}{d:TypeDesc}(ht:P.underlying t=some d)(hd:(match d with |.struct _=>true |.array _ _=>true|_=>false)=false){xs:Array Value}{i:Nat}{v:Value}(hx:xs[i]?=some v):(part t xs i).run P w = .ok v w:=by
 cases d<;>first|(cases hd;done)|simp[part,isAgg,run_underlying ht,hx]
def alM:TypeDesc->Option Sc
 |.int k=>some (.int k)
 |.bool=>some .bool
 |.string=>some .str
 |_=>none
def alE (s:Sc):Option TypeDesc->Bool
 |some d=>match alM d with
  |some s'=>decide (s'=s)
  |none=>false
 |none=>false
def akY (d:Option TypeDesc):Sc->Prop
 |.int k=>d=some (.int k)
 |.bool=>d=some .bool
 |.str=>d=some .string
theorem ajH {s:Sc}{d:Option TypeDesc}(h:alE s d=true):akY d s:=by
 unfold alE at h
 cases d with
 |none=>cases h
 |some d =>
  dsimp only at h
  cases hs:alM d with
  |none=>rw[hs]at h;cases h
  |some s' =>
   rw[hs]at h;obtain rfl:s'=s:=aqC h;unfold alM at hs;split at hs<;>first|(cases hs;rfl)|(cases hs;done)
def aci (P:Program):List Field->List Sc->Nat->Bool
 |[],[],_=>true
 | f :: fs, s :: sh, i => (!(f.name == "_")) && (Nat.beq f.offset i && (alE s (P.underlying f.type) && aci P fs sh (i + 1)))
 |_,_,_=>false
theorem E1 {x:SV}{xs:List SV}{vs:List Value}(h:fN (x::xs)=some vs):∃ c v r,x = .c c/\FZ c=some v/\fN xs=some r/\vs=v::r:=by
 unfold fN at h;split at h
 ·rename_i e;cases e
 ·rename_i y ys e
  cases e;split at h
  ·rename_i v r h1 h2;cases h;exact⟨_,v,r,rfl,h1,h2,rfl⟩
  ·cases h
 ·cases h
theorem Fj {P:Program}{w:World}(d:Nat){A B:Array Value}:∀ (fs:List Field) (sh:List Sc) (i:Nat) (xs ys:List SV) (vs us:List Value),aci P fs sh i=true->eF sh xs=true->eF sh ys=true->fN xs=some vs->fN ys=some us ->
  (∀ (j:Nat) v,vs[j]?=some v->A[i+j]?=some v)->(∀ (j:Nat) v,us[j]?=some v->B[i+j]?=some v)->(Op.eqFields (d+1) A B fs).run P w = .ok (cg xs ys) w:=by
 intro fs
 induction fs with
 |nil =>
  intro sh i xs ys vs us hf hx hy _ _ _ _
  cases sh with
  |nil =>
   cases xs with
   |nil=>cases ys with
    |nil=>rfl
    |cons _ _=>cases hy
   |cons _ _=>cases hx
  |cons _ _=>cases hf
 |cons f fs ih =>
  intro sh i xs ys vs us hf hx hy hv hu hA hB
  cases sh with
  |nil=>cases hf
  |cons s sh =>
   rw[aci,aqr,aqr,aqr]at hf;obtain⟨h1,h2,h3,h4⟩:=hf;have h2:=Nat.eq_of_beq_eq_true h2
   have h1 : f.name ≠ "_" := by simpa using h1
   have h3:=ajH h3
   cases xs with
   |nil=>cases s<;>cases hx
   |cons x xs =>
    cases ys with
    |nil=>cases s<;>cases hy
    |cons y ys =>
     obtain⟨cx,v,vr,rfl,QY,TO,rfl⟩:=E1 hv;obtain⟨cy,u,ur,rfl,V3,TN,rfl⟩:=E1 hu;have a0:=hA 0 v rfl;have b0:=hB 0 u rfl;rw[Nat.add_zero]at a0 b0;have rest:∀ (R3:eF sh xs=true) (hy':eF sh ys=true),(Op.eqFields (d+1) A B fs).run P w = .ok (cg xs ys) w:=fun R3 hy' =>
      ih sh (i+1) xs ys vr ur h4 R3 hy' TO TN (fun j v hj=>by have:=hA (j+1) v (by simpa using hj);rwa[show i+1+j=i+(j+1)by omega]) (fun j v hj=>by have:=hB (j+1) v (by simpa using hj);rwa[show i+1+j=i+(j+1)by omega])
     cases s with
     |int k =>
      unfold akY at h3
      cases cx<;>first|(cases hx;done)|skip
      cases cy<;>first|(cases hy;done)|skip
      rename_i k1 a k2 b;simp only[eF,aqr,decide_eq_true_eq]at hx hy;obtain⟨rfl,R3⟩:=hx;obtain⟨rfl,hy'⟩:=hy
      cases QY;cases V3;have p1:=kM (P:=P) (w:=w) h3 rfl a0;have p2:=kM (P:=P) (w:=w) h3 rfl b0;simp only[Op.eqFields,h1,h2,ne_eq,not_false_eq_true,if_true,Sem.run_bind,p1,p2,Result.andThen_ok,run_equalIn_int (P:=P) w d _ k k a b h3,Sem.run_ite,Sem.run_pure,rest R3 hy']
      cases e:(a==b)
      ·have:a≠b:=by simpa using e
       simp[cg,this]
      ·have:a=b:=by simpa using e
       simp[cg,this]
     |bool =>
      unfold akY at h3
      cases cx<;>first|(cases hx;done)|skip
      cases cy<;>first|(cases hy;done)|skip
      rename_i a b;simp only[eF]at hx hy
      cases QY;cases V3;have p1:=kM (P:=P) (w:=w) h3 rfl a0;have p2:=kM (P:=P) (w:=w) h3 rfl b0;simp only[Op.eqFields,h1,h2,ne_eq,not_false_eq_true,if_true,Sem.run_bind,p1,p2,Result.andThen_ok,run_equalIn_bool (P:=P) w d _ a b h3,Sem.run_ite,Sem.run_pure,rest hx hy]
      cases e:(a==b)<;>simp[cg,e]
     |str =>
      unfold akY at h3
      cases cx<;>first|(cases hx;done)|skip
      cases cy<;>first|(cases hy;done)|skip
      rename_i a b;simp only[eF]at hx hy
      cases QY;cases V3;have p1:=kM (P:=P) (w:=w) h3 rfl a0;have p2:=kM (P:=P) (w:=w) h3 rfl b0;simp only[Op.eqFields,h1,h2,ne_eq,not_false_eq_true,if_true,Sem.run_bind,p1,p2,Result.andThen_ok,run_equalIn_string (P:=P) w d _ a b h3,Sem.run_ite,Sem.run_pure,rest hx hy]
      cases e:(a.toList==b.toList)<;>simp[cg,e]
def acU (P:Program)(t:TypeId)(sh:List Sc):Bool :=
 (match P.underlying t with
 |some (.struct fs)=>aci P fs.toList sh 0
 |_=>false)&&(!P.stoodInHeld t && !P.eqGuardType P.depth t)
theorem ae7 {P:Program}{t:TypeId}{sh:List Sc}(h:acU P t sh=true):P.eqGuardType P.depth t=false /\ ∀ xs ys,eF sh xs=true->eF sh ys=true->OQ P t xs ys:=by
 rw[acU,aqr,aqr]at h;obtain⟨h1,h2,h3⟩:=h;refine⟨by simpa using h3,fun xs ys hx hy vs us hv hu w=>?_⟩;split at h1
 ·rename_i fs ht
  have W5:P.fieldsOf t=fs:=by unfold Program.fieldsOf;rw[ht]
  have hm:Op.equal t (.agg vs.toArray) (.agg us.toArray)=Op.equalIn (9999+1) t (.agg vs.toArray) (.agg us.toArray):=rfl;rw[hm,run_equalIn_struct w 9999 t _ _ (by rw[W5];exact ht) (by simpa using h2),W5];exact Fj 9998 _ sh 0 xs ys vs us h1 hx hy hv hu (fun j v hj=>by simpa using hj) (fun j v hj=>by simpa using hj)
 ·cases h1
