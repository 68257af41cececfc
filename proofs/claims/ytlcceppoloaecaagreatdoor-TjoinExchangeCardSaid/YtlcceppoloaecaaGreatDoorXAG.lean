/- Parts. No condition. -/
import Derived.Test.YtlcceppoloaecaaGreatDoorXAF
import Derived.Scope
import Derived.Shelf.SlSortCmp.NoneTotal
import Derived.Laws.StructEq
import Derived.Test.YtlcceppoloaecaaGreatDoorProg
set_option maxHeartbeats 8000000
set_option maxRecDepth 100000
set_option linter.unusedSimpArgs false
set_option linter.unusedVariables false
namespace Go.Proofs.YtlcceppoloaecaaGreatDoor
open Go.RowKit
section
variable {P:Program} {Q:Exit->Act->World->Prop} {md:Region.Mode}
def nU (md:Region.Mode)(ops:Array Oper):Nat->Array Bool->List Nat->Prop
 |0,_,s=>s=[]
 |fuel+1,listed,s=>(Region.ready md ops listed=[]/\s=[]) \/ ∃ i s',i∈Region.ready md ops listed/\s=i::s'/\nU md ops fuel (listed.setIfInBounds i true) s'
theorem alf (ops:Array Oper):∀ (fuel t:Nat) (listed:Array Bool),nU md ops fuel listed (Region.linearise.go md ops fuel t listed []):=by
 intro fuel
 induction fuel with
 |zero=>intro t listed;simp[Region.linearise.go,nU]
 |succ fuel ih =>
  intro t listed;simp only[Region.linearise.go];change nU md ops (fuel+1) listed (match (Region.ready md ops listed)[t%(Region.ready md ops listed).length]? with
   |some i=>Region.linearise.go md ops fuel (t/(Region.ready md ops listed).length) (listed.setIfInBounds i true) [i]
   |none=>[].reverse)
  cases hi:(Region.ready md ops listed)[t%(Region.ready md ops listed).length]? with
  |none =>
   have P6:Region.ready md ops listed=[]:=by
    cases hr:Region.ready md ops listed with
    |nil=>rfl
    |cons x xs =>
     rw[hr]at hi;have OZ:t%(x::xs).length<(x::xs).length:=Nat.mod_lt _ m5;simp at hi;simp at OZ;omega
   exact .inl ⟨P6,rfl⟩
  |some i =>
   simp only[];rw[linearise_go_acc,List.reverse_singleton,List.singleton_append];exact .inr ⟨i,_,arb hi,rfl,ih _ _⟩
theorem yF {ops:Array Oper}:∀ (fuel:Nat) (listed:Array Bool) (s:List Nat) (a:Act) (w:World),wpAny P md ops Q fuel listed a w->nU md ops fuel listed s->wpOps P ops Q s a w
 |0,_,s,a,w,h,hs=>by cases hs;exact h.2
 |fuel+1,listed,s,a,w,h,hs=>by
  rcases hs with⟨h0,rfl⟩|⟨i,s',hi,rfl,hs⟩
  ·exact h.1 h0
  ·rw[wpOps_cons]
   exact wpOp_mono (fun a w hh=>yF fuel _ s' a w hh hs) (h.2 i hi)
theorem mem_ready {ops:Array Oper}{listed:Array Bool}{i:Nat}:i∈Region.ready md ops listed ↔ ∃ o,ops[i]?=some o/\listed.getD i true=false /\ ∀ e∈o.after.toList,Region.binds md e=true->listed.getD e.on false=true:=by
 unfold Region.ready;rw[List.mem_filter,List.mem_range,arq,Bool.not_eq_true'];constructor
 ·rintro⟨hi,h1,h2⟩
  have ho:ops[i]?=some ops[i]:=ary hi;rw[ho,Option.map_some,Option.getD_some]at h2;refine⟨_,ho,h1,fun e he hb=>?_⟩;have:=Array.all_eq_true'.1 h2 e (by simpa using he);rw[hb]at this;simpa using this
 ·rintro⟨o,ho,h1,h2⟩
  refine⟨(arU.1 ho).1,h1,?_⟩;rw[ho,Option.map_some,Option.getD_some,Array.all_eq_true'];intro e he;by_cases hb:Region.binds md e=true
  ·rw[hb,h2 e (by simpa using he) hb];rfl
  ·simp[hb]
structure vY (π:Nat->Nat)(u v:Nat)(l m:List Oper):Prop where
 inv:∀ i,π (π i)=i
 get:∀ i,∃ f:Oper->Array Edge,m[π i]?=(l[i]?).map (fun o =>{ o with after:=f o }) /\
  ∀ o,l[i]?=some o->(∀ e∈o.after.toList,{ e with on:=π e.on }∈(f o).toList) /\ ∀ e∈(f o).toList,(∃ e'∈o.after.toList,e={ e' with on:=π e'.on })\/(i=v/\e.on=π u)
 len:m.length=l.length
structure Sw (π:Nat->Nat)(listed VY:Array Bool):Prop where
 get:∀ i,VY[π i]?=listed[i]?
theorem vY.inj {π:Nat->Nat}{u v:Nat}{l m:List Oper}(h:vY π u v l m){i j:Nat}(e:π i=π j):i=j:=by rw[<- h.inv i,e,h.inv]
theorem Sw.set {π:Nat->Nat}{u v:Nat}{l m:List Oper}(hL:vY π u v l m){a b:Array Bool}(h:Sw π a b)(i:Nat):Sw π (a.setIfInBounds i true) (b.setIfInBounds (π i) true):=by
 refine⟨fun j=>?_⟩;rw[Array.getElem?_setIfInBounds,Array.getElem?_setIfInBounds];by_cases e:i=j
 ·subst e
  rw[if_pos rfl,if_pos rfl];have:=h.get i;by_cases hi:i<a.size
  ·rw[ary hi]at this
   rw[if_pos hi,if_pos (arU.1 this).1]
  ·have hn:a[i]?=none:=Array.getElem?_eq_none m0
   rw[hn]at this;rw[if_neg hi,if_neg (by have:=Array.getElem?_eq_none_iff.1 this;omega)]
 ·rw[if_neg e,if_neg (fun e'=>e (hL.inj e'))]
  exact h.get j
theorem Sw.getD {π:Nat->Nat}{a b:Array Bool}(h:Sw π a b)(i:Nat)(d:Bool):b.getD (π i) d=a.getD i d:=by
 rw[Array.getD_eq_getD_getElem?,Array.getD_eq_getD_getElem?,h.get]
theorem vY.fwd {π:Nat->Nat}{u v:Nat}{l m:List Oper}(hL:vY π u v l m){a b:Array Bool}(h:Sw π a b){i:Nat}(hi:i∈Region.ready md l.toArray a)(hv:i=v->a.getD u false=true):π i∈Region.ready md m.toArray b:=by
 obtain⟨o,ho,h1,h2⟩:=mem_ready.1 hi;rw[List.getElem?_toArray]at ho;obtain⟨f,hm,hf⟩:=hL.get i;rw[ho,Option.map_some]at hm;refine mem_ready.2 ⟨_,by rw[List.getElem?_toArray];exact hm,by rw[h.getD];exact h1,fun e he hb=>?_⟩;rcases(hf o ho).2 e he with⟨e',QB,rfl⟩|⟨hiv,X_⟩
 ·rw[h.getD];exact h2 e' QB hb
 ·rw[X_,h.getD];exact hv hiv
theorem vY.bwd {π:Nat->Nat}{u v:Nat}{l m:List Oper}(hL:vY π u v l m){a b:Array Bool}(h:Sw π a b){j:Nat}(hj:j∈Region.ready md m.toArray b):π j∈Region.ready md l.toArray a:=by
 obtain⟨o',R8,h1,h2⟩:=mem_ready.1 hj;rw[List.getElem?_toArray]at R8;obtain⟨f,hm,hf⟩:=hL.get (π j);rw[hL.inv,R8]at hm
 cases ho:l[π j]? with
 |none=>rw[ho]at hm;cases hm
 |some o =>
  rw[ho,Option.map_some]at hm;injection hm with hm
  subst hm;refine mem_ready.2 ⟨o,by rw[List.getElem?_toArray];exact ho,by rw[<- h.getD,hL.inv];exact h1,fun e he hb=>?_⟩;have:=h2 _ ((hf o ho).1 e he) hb;rw[<- h.getD];exact this
theorem vY.seq {π:Nat->Nat}{u v:Nat}{l m:List Oper}(hL:vY π u v l m):∀ (fuel:Nat) (a b:Array Bool) (s:List Nat),Sw π a b->a.getD u false=true->nU md l.toArray fuel a s->nU md m.toArray fuel b (s.map π)
 |0,_,_,s,_,_,hs=>by cases hs;rfl
 |fuel+1,a,b,s,h,hu,hs=>by
  rcases hs with⟨h0,rfl⟩|⟨i,s',hi,rfl,hs⟩
  ·refine .inl ⟨?_,rfl⟩
   apply List.eq_nil_iff_forall_not_mem.2;intro j hj;have:=hL.bwd h hj;rw[h0]at this;cases this
  ·refine .inr ⟨π i,s'.map π,hL.fwd h hi (fun _=>hu),rfl,vY.seq hL fuel _ _ s' (h.set hL i) ?_ hs⟩
   rw[Array.getD_eq_getD_getElem?]at hu ⊢;rw[Array.getElem?_setIfInBounds];by_cases e:i=u
   ·subst e
    rw[if_pos rfl];by_cases OZ:i<a.size
    ·rw[if_pos OZ];rfl
    ·rw[Array.getElem?_eq_none m0]at hu;cases hu
   ·rw[if_neg e];exact hu
theorem Hq {π1 π2:Nat->Nat}{u v:Nat}{l m1 m2:List Oper}(h1:vY π1 u v l m1)(h2:vY π2 v u l m2)(Ph:u≠v):∀ (fuel:Nat) (a b1 b2:Array Bool) (s:List Nat),Sw π1 a b1->Sw π2 a b2->nU md l.toArray fuel a s ->
  nU md m1.toArray fuel b1 (s.map π1)\/nU md m2.toArray fuel b2 (s.map π2)
 |0,_,_,_,s,_,_,hs=>by cases hs;exact .inl rfl
 |fuel+1,a,b1,b2,s,k1,k2,hs=>by
  rcases hs with⟨h0,rfl⟩|⟨i,s',hi,rfl,hs⟩
  ·refine .inl (.inl ⟨?_,rfl⟩)
   apply List.eq_nil_iff_forall_not_mem.2;intro j hj;have:=h1.bwd k1 hj;rw[h0]at this;cases this
  ·have S0:∀ x,i=x->(a.setIfInBounds i true).getD x false=true:=fun x e=>by
    subst e;obtain⟨o,_,hl,_⟩:=mem_ready.1 hi;rw[Array.getD_eq_getD_getElem?,Array.getElem?_setIfInBounds,if_pos rfl];by_cases OZ:i<a.size
    ·rw[if_pos OZ];rfl
    ·rw[Array.getD_eq_getD_getElem?,Array.getElem?_eq_none m0]at hl;cases hl
   by_cases eu:i=u
   ·exact .inl (.inr ⟨_,_,h1.fwd k1 hi (fun e=>absurd (eu.symm.trans e) Ph),rfl,h1.seq fuel _ _ s' (k1.set h1 i) (S0 u eu) hs⟩)
   ·by_cases ev:i=v
    ·exact .inr (.inr ⟨_,_,h2.fwd k2 hi (fun e=>absurd e eu),rfl,h2.seq fuel _ _ s' (k2.set h2 i) (S0 v ev) hs⟩)
    ·rcases Hq h1 h2 Ph fuel _ _ _ s' (k1.set h1 i) (k2.set h2 i) hs with h|h
     ·exact .inl (.inr ⟨_,_,h1.fwd k1 hi (fun e=>absurd e ev),rfl,h⟩)
     ·exact .inr (.inr ⟨_,_,h2.fwd k2 hi (fun e=>absurd e eu),rfl,h⟩)
theorem vA {π:Nat->Nat}{u v:Nat}{l m:List Oper}(hL:vY π u v l m)(hg:∀ (i:Nat) o,l[i]?=some o->o.guard=none):∀ (s:List Nat) (a:Act) (w:World),wpOps P m.toArray Q (s.map π) a w->wpOps P l.toArray Q s a w
 |[],_,_,h=>h
 |i::s,a,w,h=>by
  rw[ari,wpOps_cons]at h;rw[wpOps_cons];have ih:=vA hL hg s;obtain⟨f,hm,_⟩:=hL.get i;unfold wpOp at h ⊢;rw[List.getElem?_toArray]at h ⊢;rw[hm]at h
  cases ho:l[i]? with
  |none=>rw[ho]at h;exact ih a w h
  |some o =>
   rw[ho,Option.map_some]at h;simp only at h ⊢;have hgo:=hg i o ho;have e1:∀ y,Region.wanted o y=true:=fun y=>by unfold Region.wanted;rw[hgo]
   have e2:∀ y,Region.wanted { o with after:=f o } y=true:=fun y=>by unfold Region.wanted;show(match o.guard with|none=>true|some (j,b)=>_)=true;rw[hgo]
   rw[e2,if_pos rfl]at h;rw[e1,if_pos rfl];rcases h with h|h
   ·exact .inl (Oper.wp_mono (fun a w=>ih a w) h)
   ·exact .inr h
end
def swp (p i:Nat):Nat:=if i=p then p+1 else if i=p+1 then p else i
theorem adb (p i:Nat):swp p (swp p i)=i:=by
 unfold swp;by_cases h1:i=p
 ·rw[if_pos h1,if_neg m0,if_pos rfl];exact h1.symm
 ·rw[if_neg h1]
  by_cases h2:i=p+1
  ·rw[if_pos h2,if_pos rfl];exact h2.symm
  ·rw[if_neg h2,if_neg h1,if_neg h2]
def ami (p i:Nat)(o:Oper):Oper :={ o with after:=if i=p+1 then o.after.push ⟨p,.data⟩else o.after }
def l1E (p:Nat)(l:List Oper):List Oper:=l.mapIdx (ami p)
def ang (p:Nat)(o:Oper):Oper :={ o with after:=o.after.map fun e =>{ e with on:=swp p e.on } }
def Ln (p:Nat)(l:List Oper):List Oper:=match l[p]?,l[p+1]? with
 |some a,some b=>(l.set p b).set (p+1) a
 |_,_=>l
def l2E (p:Nat)(l:List Oper):List Oper:=(Ln p l).mapIdx fun i o=>ami p i (ang p o)
theorem af3 {p:Nat}{l:List Oper}(hp:p+1<l.length)(i:Nat):(Ln p l)[swp p i]?=l[i]?:=by
 have h1:l[p]?=some l[p]:=arf m0;have h2:l[p+1]?=some l[p+1]:=arf hp;unfold Ln;rw[h1,h2];simp only;unfold swp;by_cases e1:i=p
 ·subst e1
  rw[if_pos rfl,ars (by simpa using hp),h1]
 ·rw[if_neg e1]
  by_cases e2:i=p+1
  ·subst e2
   rw[if_pos rfl,art m0,ars m0,h2]
  ·rw[if_neg e2,art m0,art m0]
theorem agx (p:Nat)(l:List Oper):(Ln p l).length=l.length:=by unfold Ln;split<;>simp
theorem aoo (p:Nat)(l:List Oper):vY (fun i=>i) p (p+1) l (l1E p l):=by
 refine⟨fun _=>rfl,fun i=>⟨fun o=>if i=p+1 then o.after.push ⟨p,.data⟩else o.after,?_,fun o ho=>⟨fun e he=>?_,fun e he=>?_⟩⟩,by simp[l1E]⟩
 ·unfold l1E
  rw[List.getElem?_mapIdx];rfl
 ·show e∈_
  split
  ·simp[he]
  ·exact he
 ·split at he
  ·rename_i hi
   rw[Array.toList_push,arB,arQ]at he;rcases he with he|rfl
   ·exact .inl ⟨e,he,rfl⟩
   ·exact .inr ⟨hi,rfl⟩
  ·exact .inl ⟨e,he,rfl⟩
theorem ao9 {p:Nat}{l:List Oper}(hp:p+1<l.length):vY (swp p) (p+1) p l (l2E p l):=by
 refine⟨adb p,fun i=>⟨fun o=>if swp p i=p+1 then(o.after.map fun e =>{ e with on:=swp p e.on }).push ⟨p,.data⟩else o.after.map fun e =>{ e with on:=swp p e.on },?_,fun o ho=>⟨fun e he=>?_,fun e he=>?_⟩⟩,by unfold l2E;rw[List.length_mapIdx,agx]⟩
 ·unfold l2E
  rw[List.getElem?_mapIdx,af3 hp];rfl
 ·have hm:({ e with on:=swp p e.on }:Edge)∈(o.after.map fun e =>{ e with on:=swp p e.on }).toList:=by
   rw[Array.toList_map];exact arK.2 ⟨e,he,rfl⟩
  split
  ·rw[Array.toList_push];exact List.mem_append_left _ hm
  ·exact hm
 ·have T_:∀ e:Edge,e∈(o.after.map fun e =>{ e with on:=swp p e.on }).toList ->∃ e'∈o.after.toList,e={ e' with on:=swp p e'.on } :=fun e h=>by
   rw[Array.toList_map]at h;obtain⟨e',h1,h2⟩:=arK.1 h;exact⟨e',h1,h2.symm⟩
  split at he
  ·rename_i hi
   rw[Array.toList_push,arB,arQ]at he;rcases he with he|rfl
   ·exact .inl (T_ e he)
   ·refine .inr ⟨?_,?_⟩
    ·rw[<- adb p i,hi];unfold swp;rw[if_neg m0,if_pos rfl]
    ·show p=swp p (p+1);unfold swp;rw[if_neg m0,if_pos rfl]
  ·exact .inl (T_ e he)
section
variable {P:Program} {ti:TI} {N n0:Nat}
theorem Ib (F:List Nat)(O2:TIok P ti){Q:AX->Tm->List Ob->Prop}{T:Tm}{L:List Ob}{l:List Oper}(ds:List (Option Tmp))(RJ:l.map (·.dst)=ds)(hc:fE F ti l=true)(hF:fzB F T=true)(h:aI P ti N ds (Q .normal) l T L)
  (hn:n0<=L.length) {B:Nat->Prop} {R:PH} {γ:List Gh} {w:World} {a:Act} (hi:Inv B R γ L w) (hT:fg N R γ L T a):wpAny P .any l.toArray (ve N n0 B Q R w γ L) l.length (Array.replicate l.length false) a { w with drawn:=w.drawn+1 } :=by
 have hD:=OQ hc;obtain⟨vs,Ls,h1,h0,h2,h3⟩:=abu l T L h;subst h0;have hiD:Inv B R γ (Ls 0) { w with drawn:=w.drawn+1 } :=⟨hi.len,hi.val,fun id x g hx hg=>(hi.obj id x g hx hg).mv Mv.refl (fun _ _=>rfl) (fun _ _ _ h=>h),hi.inj,hi.new,hi.bsz⟩;have heD:Ext B R R w { w with drawn:=w.drawn+1 } :=⟨⟨rfl,rfl,rfl,aro _,fun _ _=>rfl⟩,PH.sub_refl _,fun _ _ _=>rfl⟩;refine aoS O2 RJ (B:=B) hD h1 (ahD hF) h2 h3 (R0:=R) (γ0:=γ) (w0:=w) ?_ l.length (Array.replicate l.length false) 0 R γ a { w with drawn:=w.drawn+1 } ?_ ?_
 ·intro T' L' R' γ' w' a' q1 q2 q3 q4 q5
  exact⟨.normal,T',L',R',γ',rfl,q1,q2,q3,q4,nZ.of hn q5⟩
 ·unfold ry
  exact Nat.le_trans List.countP_le_length m5
 ·have hf:∀ i:Nat,i<l.length->(Array.replicate l.length false)[i]?=some false:=fun i hi=>by simp[hi]
  have ht:∀ i:Nat,(Array.replicate l.length false)[i]?≠some true:=by
   intro i e;by_cases hi:i<l.length
   ·rw[hf i hi]at e;cases e
   ·rw[Array.getElem?_eq_none m8]at e;cases e
  exact⟨hiD,hT.size,hT.defers,⟨m5,fun i o _ e=>absurd e (ht i)⟩,m0,fun c _ hc=>by omega,fun c o _ QC _=>hf c (aq6.1 QC).1,fun i o d v e=>absurd e (ht i),fun t x hx _=>hT.slot t x hx,heD,Mv.refl⟩
theorem yM (F:List Nat)(O2:TIok P ti){Q:AX->Tm->List Ob->Prop}{T:Tm}{L:List Ob}{id:Nat}{l:List Oper}(p:Nat)(hp:p+1<l.length)(hg:l.all (fun o=>o.guard.isNone)=true)(TF:P.follows .mixedOrders=true)(YM:fE F ti (l1E p l)=true)(Tj:fE F ti (l2E p l)=true)(hF:fzB F T=true)
  (h1:aI P ti N ((l1E p l).map (·.dst)) (Q .normal) (l1E p l) T L) (h2:aI P ti N ((l2E p l).map (·.dst)) (Q .normal) (l2E p l) T L):Aw P N n0 (.region id l.toArray true) Q T L:=by
 intro hn B R γ w a hi hT;refine wp_region_draw fun t=>?_
 have hs:Region.schedule (P.follows .mixedOrders) l.toArray t=Region.linearise.go .any l.toArray l.length t (Array.replicate l.length false) []:=by
  simp only[Region.schedule,TF,Bool.true_or,if_true,Region.linearise,List.size_toArray]
 rw[hs];have YP:=alf (md := .any) l.toArray l.length t (Array.replicate l.length false);generalize Region.linearise.go .any l.toArray l.length t (Array.replicate l.length false) []=s at YP;have WM:∀ (i:Nat) o,l[i]?=some o->o.guard=none:=fun i o ho=>by
  have:=arZ.1 hg o (arb ho);simpa using this
 have VZ:Sw (swp p) (Array.replicate l.length false) (Array.replicate l.length false):=⟨fun i=>by
  by_cases hi:i<l.length
  ·have:swp p i<l.length:=by
    unfold swp;by_cases e1:i=p
    ·rw[if_pos e1];exact hp
    ·rw[if_neg e1]
     by_cases e2:i=p+1
     ·rw[if_pos e2];omega
     ·rw[if_neg e2];exact hi
   simp[hi,this]
  ·have:¬ swp p i<l.length:=by unfold swp;rw[if_neg m0,if_neg m0];exact hi
   simp[hi,this]⟩
 have L1:=aoo p l;have L2:=ao9 hp;rcases Hq L1 L2 m0 l.length _ _ _ s ⟨fun _=>rfl⟩ VZ YP with h|h
 ·refine vA L1 WM s a _ (yF l.length (Array.replicate l.length false) _ a _ ?_ h)
  have:=Ib F O2 _ rfl YM hF h1 hn hi hT;rw[L1.len]at this;exact this
 ·refine vA L2 WM s a _ (yF l.length (Array.replicate l.length false) _ a _ ?_ h)
  have:=Ib F O2 _ rfl Tj hF h2 hn hi hT;rw[L2.len]at this;exact this
def kr (N n0:Nat)(T:Tm)(L:List Ob)(T':Tm)(L':List Ob):Prop :=
 n0<=L.length->n0<=L'.length /\ ∀ (B:Nat->Prop) (R:PH) (γ:List Gh) (w:World) (a:Act),Inv B R γ L w->fg N R γ L T a ->∃ R' γ',Inv B R' γ' L' w/\fg N R' γ' L' T' a/\Ext B R R' w w/\nZ n0 R R' γ γ' L L'
theorem kr.refl {T:Tm}{L:List Ob}:kr N n0 T L T L:=fun hn=>⟨hn,fun _ R γ w _ hi hT=>⟨R,γ,hi,hT,Ext.refl _ _ _,nZ.of hn Mv.refl⟩⟩
theorem kr.trans {T T1 T2:Tm}{L L1 L2:List Ob}(h:kr N n0 T L T1 L1)(k:kr N n0 T1 L1 T2 L2):kr N n0 T L T2 L2:=fun hn =>
 ⟨(k (h hn).1).1,fun B R γ w a hi hT=>by
  obtain⟨R1,γ1,i1,t1,e1,m1⟩:=(h hn).2 B R γ w a hi hT;obtain⟨R2,γ2,i2,t2,e2,m2⟩:=(k (h hn).1).2 B R1 γ1 w a i1 t1;exact⟨R2,γ2,i2,t2,e1.trans e2,m1.trans hi.len m2⟩⟩
theorem kr.less {T T':Tm}{L:List Ob}(h:∀ t x,T'.lookup t=some x->T.lookup t=some x):kr N n0 T L T' L:=fun hn =>
 ⟨hn,fun _ R γ w _ hi hT=>⟨R,γ,hi,⟨hT.size,hT.defers,fun t x hx=>hT.slot t x (h t x hx)⟩,Ext.refl _ _ _,nZ.of hn Mv.refl⟩⟩
theorem kr.box {T:Tm}{L:List Ob}(id:Nat){cs:List SV}{ts:List AC}(hL:L[id]?=some (.box cs))(hn:iM cs=some ts):kr N n0 T L (T.map fun p=>(p.1,unA id ts p.2)) (L.set id .dead):=fun RO =>
 ⟨by simpa using RO,fun B R γ w a hi hT=>by
  obtain⟨R',hI,hE,hM,hS⟩:=sa hi hL hn;refine⟨R',γ,hI,⟨hT.size,hT.defers,fun t x hx=>?_⟩,hE,nZ.of RO hM⟩;obtain⟨y,hy,rfl⟩:=kp hx;obtain⟨u,h1,h2⟩:=hT.slot t y hy;exact⟨u,h1,aeg hS hM h2⟩⟩
theorem kr.row {T:Tm}{L:List Ob}(id:Nat){OY k:Nat}{es:List (List SV)}{cs:List (List AC)}(hL:L[id]?=some (.row OY es k))(hn:ee es=some cs):kr N n0 T L (T.map fun p=>(p.1,thA id OY cs p.2)) (L.set id .dead):=fun RO =>
 ⟨by simpa using RO,fun B R γ w a hi hT=>by
  obtain⟨R',γ',hI,hE,hM,hS⟩:=nB hi hL hn;refine⟨R',γ',hI,⟨hT.size,hT.defers,fun t x hx=>?_⟩,hE,nZ.of RO hM⟩;obtain⟨y,hy,rfl⟩:=kp hx;obtain⟨u,h1,h2⟩:=hT.slot t y hy;refine⟨u,h1,?_⟩
  cases y with
  |one x=>exact A_ hS hM h2
  |agg xs =>
   obtain⟨vs,rfl,Py,hc⟩:=h2;refine⟨vs,rfl,by rw[Py,arj],fun j u x hu hx=>?_⟩;rw[arw]at hx
   cases hy:xs[j]? with
   |none=>rw[hy]at hx;cases hx
   |some y=>rw[hy]at hx;cases hx;exact A_ hS hM (hc j u y hu hy)
  |tup ps=>exact AV.mv (x := .tup ps) hM h2
  |tupS xs=>exact AV.mv (x := .tupS xs) hM h2
  |undef=>exact AV.mv (x := .undef) hM h2⟩
theorem EP {c:Code}{Q:AX->Tm->List Ob->Prop}{T:Tm}{L:List Ob}(h:Aw P N n0 c (fun x T' L' =>∃ T2 L2,kr N n0 T' L' T2 L2/\Q x T2 L2) T L):Aw P N n0 c Q T L:=by
 intro hn B R γ w a hi hT;refine wp_mono (h hn B R γ w a hi hT) ?_;rintro e a1 w1 ⟨x,T1,L1,R1,γ1,rfl,⟨T2,L2,g,q⟩,i1,t1,e1,m1⟩;obtain⟨R2,γ2,i2,t2,e2,m2⟩:=(g m1.lo').2 B R1 γ1 w1 a1 i1 t1;exact⟨x,T2,L2,R2,γ2,rfl,q,i2,t2,e1.trans e2,m1.trans hi.len m2⟩
theorem tU {Q:AX->Tm->List Ob->Prop}{c:Code}{T:Tm}{L:List Ob}(t OY k:Nat)(ht:T.lookup t=some (.one .emp))(hv:65536<=OY)(h:Aw P N n0 c Q ((t,.one (.sl L.length OY 0 0))::T) (L++[.row OY [] k])):Aw P N n0 c Q T L:=by
 intro hn B R γ w a hi hT;have hm:Mv R R γ (γ++[.none]) L (L++[.row OY [] k]):=Mv.push _ _ hi.len;refine wp_mono (h m8 B R (γ++[.none]) w a (hi.rowTok OY k) ⟨hT.size,hT.defers,fun t' x hx=>?_⟩) fun _ _ _ hh=>hh.ext (Ext.refl _ _ _) hi.len (nZ.of hn hm)
 rw[List.lookup_cons]at hx;by_cases e:t'=t
 ·subst e
  simp at hx;subst hx;obtain⟨u,h1,a0,rfl⟩:=hT.slot t' _ ht;refine⟨_,h1,⟨rfl,rfl⟩,m5,fun Qr SG k2 e2=>?_⟩;rw[arc (aro _)]at e2;simp at e2;obtain⟨q1,q2,q3⟩:=e2;subst q1 q2 q3;exact⟨aro _,fun _=>⟨m5,.none,by rw[<- hi.len];simp,⟨a0,rfl,fun h=>by omega⟩,rfl,rfl⟩⟩
 ·have e':(t'==t)=false:=by simpa using e
  rw[e']at hx;obtain⟨u,h1,h2⟩:=hT.slot t' x hx;exact⟨u,h1,AV.mv hm h2⟩
end
open Go.RowKit Go.MapKept
theorem map_some {α β:Type}{o:Option α}{f:α->β}{r:β}(h:o.map f=some r):∃ a,o=some a/\f a=r:=by
 cases o with
 |none=>cases h
 |some a=>exact⟨a,rfl,arH h⟩
section
variable {P:Program} {ti:TI} {ρ:Operand->Option AV} {L:List Ob}
theorem Gu (z:Array Value)(n i:Nat)(h:i<n):(madeCells z n)[i]?=some z[i%z.size]! :=by
 simp[madeCells,h]
theorem tK (O2:TIok P ti){l c:Operand}{t:TypeId}{E k by_:Nat}{m:Int}{kl kc:IntKind}{zs:List SV}{zv:AV}(hl:ρ l=some (.one (.c (.int kl m))))(hc:ρ c=some (.one (.c (.int kc m))))(ht:ti.elem t=some E)(hE:E<65536)(Py:ti.size E=some k)(U8:ti.zok E=true)(hzv:ti.zero E=some zv)(hcz:zv.cells=some zs)(R7:ti.bytes E=some by_)
  (hk:0<k) (h0:0<=m) (OU:(by_:Int)*m<=281474976710656) (Pl:m<=9223372036854775807) :
  qW P ρ L (.makeSlice t l c) (.one (.sl L.length (E+65536) 0 m.toNat)) (L++[.row (E+65536) (List.replicate m.toNat zs) k]):=by
 intro B R γ w ev o ho hi hρ QM;obtain⟨dst,op,type,pos,after,guard⟩:=o;simp only at ho;subst ho;obtain⟨inf,z,PE,Rk,Qq,Uj⟩:=O2.zok _ U8 _ (O2.size _ _ Py);have PX:inf.bytes=by_:=by have QV:=O2.bytes _ _ R7;unfold kB at QV;rw[PE]at QV;simpa using QV
 have hzo':AV.ofVal z=some zv:=by have:=O2.zero _ _ hzv;unfold zeroOf at this;rw[PE]at this;simpa[Rk]using this
 have WH:=(hρ _ (by simp[Op.operands,Call.operands]) _ hl);have Rw:=(hρ _ (by simp[Op.operands,Call.operands]) _ hc);generalize hle:ev l=lv at WH;generalize Ur:ev c=cv at Rw
 cases WH;cases Rw;have O4:=run_make (P:=P) w t E inf z (jZ O2 ht) PE Rk kl kc m m h0 (Int.le_refl _) (by rw[PX];exact OU) Pl;have hm:Mv R R γ (γ++[.arr w.heap.size m.toNat]) L (L++[.row (E+65536) (List.replicate m.toNat zs) k]):=Mv.push _ _ hi.len;have hcr:=cells_rep (R:=R) (γ:=γ++[.arr w.heap.size m.toNat]) (L:=L++[.row (E+65536) (List.replicate m.toNat zs) k]) (AV.ofVal_rep hzo') hcz;have hzl:zs.length=k:=by have:=hcr.1;rw[Uj]at this;omega
 refine⟨w.alloc (.cells (madeCells z.cells (m.toNat*inf.size)) E),R,_,.inl ⟨.slice (some ⟨w.heap.size,0,none⟩) m.toNat m.toNat,by simp[execOp,hle,Ur,O4],⟨rfl,rfl⟩,m5,fun Qr SG k2 e2=>?_⟩,?_,⟨Kept.alloc hi.bsz _,PH.sub_refl _,fun _ _ _=>rfl⟩,hm⟩
 ·rw[arc m0]at e2
  simp at e2;obtain⟨q1,q2,q3⟩:=e2;subst q1 q2 q3;refine⟨aro _,fun _=>⟨m5,.arr w.heap.size m.toNat,by rw[<- hi.len];simp,.inl ?_⟩⟩;simp
 ·refine hi.push _ _ _ rfl ⟨⟨_,E,⟨dy w _,by show(E:Nat)=(E+65536)%65536;omega,by show 65536<=(E:Nat)+65536;omega⟩,by rw[size_madeCells,Qq],fun i e j u x he hu hx=>?_⟩,m5,hk,fun e he=>?_,fun o=>hi.none_at o⟩
  ·rw[List.getElem?_replicate]at he
   split at he
   ·rename_i him
    obtain rfl:=arH he;have hj:j<k:=by rw[<- hzl];exact(aq6.1 hx).1
    have OZ:i*k+j<m.toNat*inf.size:=by rw[Qq];exact qm him hj
    rw[Gu _ _ _ OZ,Uj,Nat.add_comm,Nat.add_mul_mod_self_right,Nat.mod_eq_of_lt hj]at hu;have VM:j<z.cells.size:=by rw[Uj];exact hj
    refine hcr.2 j u x ?_ hx;rw[<- hu,ary VM,getElem!_pos z.cells j VM]
   ·cases he
  ·rw[List.eq_of_mem_replicate he];exact hzl
end
def bytesOf:List (List SV)->Option (List UInt8)
 |[]=>some []
 |[.c (.int .u8 n)]::es=>match bytesOf es with
  |some bs=>if n=(UInt8.ofNat n.toNat).toNat then some (UInt8.ofNat n.toNat::bs)else none
  |none=>none
 |_=>none
def ql (a b:ByteArray):Int:=Extern.BytealgCompare.cmp a b
theorem D_ {P : Program} {ρ : Operand -> Option AV} {L : List Ob} {f : FuncId} {fn : Func} {x y : Operand} {ts : Array TypeId} {a b : ByteArray} (hx : ρ x = some (.one (.c (.str a)))) (hy : ρ y = some (.one (.c (.str b)))) (hf : P.funcs[f]? = some fn) (PP : (fn.name == "runtime.NumGoroutine") = false)
  (hb:fn.body.isNone=true) (hn:Extern.findNext fn=none) (he:Extern.find fn=some Extern.BytealgCompare.compare) :
  qW P ρ L (.call { callee := .value (.func f),args :=#[x,y],argTypes:=ts }) (.one (.c (.int .i64 (ql a b)))) L:=by
 intro B R γ w ev o ho hi hρ QM;obtain⟨dst,op,type,pos,after,guard⟩:=o;simp only at ho;subst ho;have h1:=hρ x (by simp[Op.operands,Call.operands]) _ hx;have h2:=hρ y (by simp[Op.operands,Call.operands]) _ hy;generalize hex:ev x=ux at h1;generalize VX:ev y=uy at h2
 cases h1;cases h2;refine⟨w,R,γ,.inl ⟨.int .i64 (ql a b),?_,.int _ _⟩,hi,Ext.refl _ _ _,Mv.refl⟩;have:=run_callFunc_extern hf PP hb hn he #[.string a,.string b] w;have h3:(Extern.BytealgCompare.compare #[.string a,.string b]).run P w = .ok (.int .i64 (ql a b)) w:=rfl;rw[h3]at this;simp[execOp,resolve,Deferred.ofValue,QM.1,hex,VX,invoke,this,Result.andThen]
structure acM where
 noEsc:FuncId
 cmpS:FuncId
def amo (P : Program) (f : FuncId) : Prop := ∃ fn, P.funcs[f]? = some fn /\ (fn.name == "runtime.NumGoroutine") = false /\ fn.body.isNone = true /\ Extern.findNext fn = none /\ Extern.find fn = some Extern.AbiNoEscape.same
def apv (P : Program) (f : FuncId) : Prop := ∃ fn, P.funcs[f]? = some fn /\ (fn.name == "runtime.NumGoroutine") = false /\ fn.body.isNone = true /\ Extern.findNext fn = none /\ Extern.find fn = some Extern.BytealgCompare.compare
structure zg (P:Program)(xs:acM):Prop where
 noEsc:amo P xs.noEsc
 cmpS:apv P xs.cmpS
theorem sW {P:Program}{N n0:Nat}{Q:AX->Tm->List Ob->Prop}{c:Code}{T:Tm}{L:List Ob}(h:Aw P N n0 c Q T L):Aw P N n0 (.scope c) Q T L:=fun hn B R γ w a hi hT =>
 wp_scope_straight (wp_mono (h hn B R γ w a hi hT) fun e a1 w1 hp=>by
  obtain⟨x,T1,L1,R1,γ1,rfl,q⟩:=hp
  cases x with
  |normal=>exact⟨.normal,T1,L1,R1,γ1,rfl,q⟩
  |exit id=>exact⟨.exit id,T1,L1,R1,γ1,rfl,q⟩
  |ret=>exact⟨.ret,T1,L1,R1,γ1,rfl,q⟩)
structure Cx where
 P:Program
 ti:TI
 xs:acM
 row:FuncId->Nat->Bool
 frz:FuncId->Nat->List Nat
 flg:FuncId->Nat->Bool×Bool
 orc:FuncId->List PV->Option CV
 bad:FuncId->Bool
 fz:FuncId->Nat->List Nat:=fun _ _=>[]
 sw:FuncId->Nat->Option (Nat×List Nat):=fun _ _=>none
def aml (n:Nat):Cap->Bool
 |.ptr id _=>Nat.blt id n
 |.c _=>true
def Jt (n:Nat):List Cap->Bool
 |[]=>true
 |x::xs=>aml n x&&Jt n xs
def amA (n:Nat):SV->Bool
 |.own _ t=>Nat.blt t n
 |.ptr id _=>Nat.blt id n
 |.sl id _ _ _=>Nat.blt id n
 |.ep id _ _ _=>Nat.blt id n
 |.mp id=>Nat.blt id n
 |.clo _ caps=>Jt n caps
 |.c _=>true
 |.emp=>true
def Ff (n:Nat):List SV->Bool
 |[]=>true
 |x::xs=>amA n x&&Ff n xs
def KO (n:Nat):List (List SV)->Bool
 |[]=>true
 |x::xs=>Ff n x&&KO n xs
def aiG (n:Nat):AV->Bool
 |.one x=>amA n x
 |.agg xs=>Ff n xs
 |.tup _=>true
 |.tupS xs=>Ff n xs
 |.undef=>true
def D9 (n:Nat):List AV->Bool
 |[]=>true
 |x::xs=>aiG n x&&D9 n xs
def ad7 (n:Nat):List (AC×AV)->Bool
 |[]=>true
 |x::xs=>aiG n x.2&&ad7 n xs
def ao0 (n:Nat):Ob->Bool
 |.box cs=>Ff n cs
 |.row _ es _=>KO n es
 |.map PT=>ad7 n PT
 |.spare _ _=>true
 |.dead=>true
def I1 (n:Nat):List Ob->Bool
 |[]=>true
 |x::xs=>ao0 n x&&I1 n xs
theorem ajQ {n:Nat}{x:Cap}(h:aml n x=true):x.below n:=by
 cases x with
 |c _=>trivial
 |ptr id _=>exact arh h
theorem Hw {n:Nat}:∀ {xs:List Cap},Jt n xs=true ->∀ x∈xs,x.below n
 |[],_,x,hx=>by cases hx
 |y::xs,h,x,hx=>by
  rw[Jt,arq]at h;rcases arp.1 hx with rfl|hx
  ·exact ajQ h.1
  ·exact Hw h.2 x hx
theorem adx {n:Nat}{x:SV}(h:amA n x=true):x.below n:=by
 cases x with
 |c _=>trivial
 |emp=>trivial
 |own _ t=>exact arh h
 |ptr id _=>exact arh h
 |sl id _ _ _=>exact arh h
 |ep id _ _ _=>exact arh h
 |mp id=>exact arh h
 |clo f caps=>exact Hw h
theorem rT {n:Nat}:∀ {xs:List SV},Ff n xs=true ->∀ x∈xs,x.below n
 |[],_,x,hx=>by cases hx
 |y::xs,h,x,hx=>by
  rw[Ff,arq]at h;rcases arp.1 hx with rfl|hx
  ·exact adx h.1
  ·exact rT h.2 x hx
theorem IV {n:Nat}:∀ {xs:List (List SV)},KO n xs=true ->∀ e∈xs,∀ x∈e,x.below n
 |[],_,x,hx=>by cases hx
 |y::xs,h,x,hx=>by
  rw[KO,arq]at h;rcases arp.1 hx with rfl|hx
  ·exact rT h.1
  ·exact IV h.2 x hx
theorem hY {n:Nat}{x:AV}(h:aiG n x=true):x.below n:=by
 cases x with
 |one x=>exact adx h
 |agg xs=>exact rT h
 |tup _=>trivial
 |tupS xs=>exact rT h
 |undef=>trivial
theorem oH {n:Nat}:∀ {xs:List AV},D9 n xs=true ->∀ x∈xs,x.below n
 |[],_,x,hx=>by cases hx
 |y::xs,h,x,hx=>by
  rw[D9,arq]at h;rcases arp.1 hx with rfl|hx
  ·exact hY h.1
  ·exact oH h.2 x hx
theorem Md {n:Nat}:∀ {xs:List (AC×AV)},ad7 n xs=true ->∀ p∈xs,p.2.below n
 |[],_,x,hx=>by cases hx
 |y::xs,h,x,hx=>by
  rw[ad7,arq]at h;rcases arp.1 hx with rfl|hx
  ·exact hY h.1
  ·exact Md h.2 x hx
theorem akP {n:Nat}{x:Ob}(h:ao0 n x=true):x.below n:=by
 cases x with
 |box cs=>exact rT h
 |row _ es _=>exact IV h
 |map PT=>exact Md h
 |spare _ _=>trivial
 |dead=>trivial
theorem fi {n:Nat}:∀ {xs:List Ob},I1 n xs=true ->∀ x∈xs,x.below n
 |[],_,x,hx=>by cases hx
 |y::xs,h,x,hx=>by
  rw[I1,arq]at h;rcases arp.1 hx with rfl|hx
  ·exact akP h.1
  ·exact fi h.2 x hx
theorem iE {n i:Nat}(h:i<n):jH (List.range n) i=i:=by
 unfold jH;rw[ar_,List.getElem?_range h];rfl
theorem Cap.ren_range {n:Nat}{x:Cap}(h:x.below n):x.ren (List.range n)=x:=by
 cases x with
 |c _=>rfl
 |ptr id off=>show Cap.ptr (jH _ id) off=_;rw[iE h]
theorem en {α:Type}{f:α->α}:∀ {l:List α},(∀ x∈l,f x=x)->l.map f=l
 |[],_=>rfl
 |x::l,h=>by rw[ari,h x (arX ..),en fun y hy=>h y (arx _ hy)]
theorem SV.ren_range {n:Nat}{x:SV}(h:x.below n):x.ren (List.range n)=x:=by
 cases x with
 |c _=>rfl
 |emp=>rfl
 |own es t=>show SV.own es (jH _ t)=_;rw[iE h]
 |ptr id off=>show SV.ptr (jH _ id) off=_;rw[iE h]
 |sl id v l m=>show SV.sl (jH _ id) v l m=_;rw[iE h]
 |ep id v i o=>show SV.ep (jH _ id) v i o=_;rw[iE h]
 |mp id=>show SV.mp (jH _ id)=_;rw[iE h]
 |clo f caps=>show SV.clo f (caps.map _)=_;rw[en fun x hx=>Cap.ren_range (h x hx)]
theorem AV.ren_range {n:Nat}{x:AV}(h:x.below n):x.ren (List.range n)=x:=by
 cases x with
 |one x=>show AV.one (x.ren _)=_;rw[SV.ren_range h]
 |agg xs=>show AV.agg (xs.map _)=_;rw[en fun x hx=>SV.ren_range (h x hx)]
 |tup _=>rfl
 |tupS xs=>show AV.tupS (xs.map _)=_;rw[en fun x hx=>SV.ren_range (h x hx)]
 |undef=>rfl
theorem Ob.ren_range {n:Nat}{x:Ob}(h:x.below n):x.ren (List.range n)=x:=by
 cases x with
 |box cs=>show Ob.box (cs.map _)=_;rw[en fun x hx=>SV.ren_range (h x hx)]
 |row v es k=>show Ob.row v (es.map (List.map _)) k=_;rw[en fun e he=>en fun x hx=>SV.ren_range (h e he x hx)]
 |map PT=>show Ob.map (PT.map fun p=>(p.1,p.2.ren (List.range n)))=_;rw[en (f:=fun p:AC×AV=>(p.1,p.2.ren (List.range n))) fun p hp=>by show(p.1,p.2.ren _)=p;rw[AV.ren_range (h p hp)]]
 |spare _ _=>rfl
 |dead=>rfl
abbrev CP:=FuncId->List PV->Option CV
abbrev CR:=FuncId->List Ob->List AV->Option (List Ob×AV)
def aaM (cx:Cx)(f:FuncId)(id:Nat):Bool->TI
 |false =>{ cx.ti with dyn:=true,soft:=false }
 |true =>{ cx.ti with dyn:=(cx.flg f id).1,soft:=(cx.flg f id).2 }
def ie (cx:Cx)(f:FuncId):Code->Bool
 |.seq x y=>ie cx f x&&ie cx f y
 |.cond _ x y=>ie cx f x&&ie cx f y
 |.block _ c=>ie cx f c
 |.loop c=>ie cx f c
 |.scope c=>ie cx f c
 |.region id ops true=>match cx.sw f id with
  |some (p,_)=>(decide (p+1<ops.toList.length)&&ops.toList.all fun o=>o.guard.isNone)&&(fE (cx.fz f id) (aaM cx f id true) (l1E p ops.toList)&&fE (cx.fz f id) (aaM cx f id true) (l2E p ops.toList))
  |none=>fE (cx.fz f id) (aaM cx f id true) ops.toList
 |_=>true
structure JR (cx:Cx):Prop where
 ti:TIok cx.P cx.ti
 ne:zg cx.P cx.xs
 mix:cx.P.follows .mixedOrders=true
 name : ∀ (f : FuncId) fn, cx.P.funcs[f]? = some fn -> (fn.name == "runtime.NumGoroutine") = false
 code:∀ (f:FuncId) fn c,cx.P.funcs[f]?=some fn->fn.body=some c->cx.bad f=false->ie cx f c=true
 orc:∀ g ps r,cx.orc g ps=some r->Pure cx.P g ps r
def yr (cx:Cx):List Func->Nat->Bool
 |[],_=>true
 |fn::fs,i=>(match fn.body with
  |some c=>cx.bad i||ie cx i c
  |none=>true)&&yr cx fs (i+1)
theorem G6 {cx:Cx}:∀ {fs:List Func} {i:Nat},yr cx fs i=true ->∀ (j:Nat) fn c,fs[j]?=some fn->fn.body=some c->cx.bad (i+j)=false->ie cx (i+j) c=true
 |[],i,h,j,fn,c,hj,_,_=>by simp at hj
 |f0::fs,i,h,0,fn,c,hj,hb,V0=>by
  rw[yr,arq]at h;simp at hj;subst hj;have h1:=h.1;rw[hb]at h1;rw[Nat.add_zero]at V0 ⊢;simp only[V0,Bool.false_or]at h1;exact h1
 |f0::fs,i,h,j+1,fn,c,hj,hb,V0=>by
  rw[yr,arq]at h;have:=G6 h.2 j fn c (by simpa using hj) hb (by rwa[show i+1+j=i+(j+1)by omega]);rwa[show i+1+j=i+(j+1)by omega]at this
def yP:List Func->Bool
 |[]=>true
 | fn :: fs => !(fn.name == "runtime.NumGoroutine") && yP fs
theorem Hn : ∀ {fs : List Func}, yP fs = true -> ∀ (j : Nat) fn, fs[j]? = some fn -> (fn.name == "runtime.NumGoroutine") = false
 |[],h,j,fn,hj=>by simp at hj
 |f0::fs,h,0,fn,hj=>by
  rw[yP,arq]at h;simp at hj;subst hj;simpa using h.1
 |f0::fs,h,j+1,fn,hj=>by
  rw[yP,arq]at h;exact Hn h.2 j fn (by simpa using hj)
theorem JR.of {cx:Cx}(ti:TIok cx.P cx.ti)(ne:zg cx.P cx.xs)(mix:cx.P.follows .mixedOrders=true)(name:yP cx.P.funcs.toList=true)(code:yr cx cx.P.funcs.toList 0=true)(orc:∀ g ps r,cx.orc g ps=some r->Pure cx.P g ps r):JR cx :=
 ⟨ti,ne,mix,fun f fn h=>Hn name f fn (by simpa using h),fun f fn c h hb V0=>by have:=G6 code f fn c (by simpa using h) hb (by rwa[arS]);rwa[arS]at this,orc⟩
theorem wZ {α:Type}:∀ (A A' G:List α) (i:Nat) (pre:List α),A.length=A'.length->pre.length=i->dr (pre++A++G) ((List.range A.length).map (i + ·)) A'=pre++A'++G
 |[],[],G,i,pre,_,_=>by simp[dr]
 |[],_::_,_,_,_,h,_=>by simp at h
 |_::_,[],_,_,_,h,_=>by simp at h
 |x::A,y::A',G,i,pre,h,hp=>by
  have hr:(List.range (x::A).length).map (i + ·)=i::(List.range A.length).map (i+1 + ·):=by
   rw[arv,List.range_succ_eq_map,ari,List.map_map];simp only[Nat.add_zero,List.cons.injEq,true_and];refine List.map_congr_left fun j _=>?_
   show i+(j+1)=i+1+j;omega
  rw[hr,dr];have e1:(pre++x::A++G).set i y=(pre++[y])++A++G:=by
   subst hp;rw[arA,List.set_append_right _ _ (aro _),Nat.sub_self];simp
  rw[e1,wZ A A' G (i+1) (pre++[y]) (by simpa using h) (by simp[hp])];simp
theorem abY {A A' G:List Ob}{m:Nat}(hA:A.length=m)(Ya:A'.length=m)(hb:∀ x∈A',x.below m):joinL (List.range m) (A++G) A'=A'++G:=by
 have ho:ce (List.range m) (A++G).length A'.length=List.range m:=by
  unfold ce ft;rw[List.length_range,Ya,Nat.sub_self];simp
 unfold joinL;rw[ho,en fun x hx=>Ob.ren_range (hb x hx)];unfold join;have h1:=wZ A A' G 0 [] (by rw[hA,Ya]) rfl;have h2:(List.range A.length).map (0 + ·)=List.range m:=by rw[hA];exact en fun i _=>arS i
 rw[h2]at h1;rw[List.length_range,<- Ya,asb,arJ];simpa[Ya]using h1
section
variable {P:Program} {ti:TI} {N n0:Nat} {ds:List (Option Tmp)} {K:Tm->List Ob->Prop} {rest:List Oper} {o:Oper} {T:Tm} {L:List Ob} {ρ:Operand->Option AV}
theorem ye (m:Nat)(A A' G:List Ob){g:FuncId}{args:List AV}{d:Nat}(hd:o.dst=some d)(hN:Nat.blt d N=true)(hg:ge ds T o.guard=some true)(hp:dj ti (look T) o.op=some (g,args))(hL:L=A++G)(hc:Run P g A args A' (.tup []))(hA:A.length=m)(Ya:A'.length=m)(hb:∀ x∈A,x.below m)(P3:∀ x∈A',x.below m)(ha:∀ x∈args,x.below m)
  (h:aI P ti N ds K rest ((d,.tup [])::T) (A'++G)):aI P ti N ds K (o::rest) T L:=by
 subst hL;refine cK (List.range m) hd hN hg hp hc (en fun x hx=>AV.ren_range (ha x hx)).symm ⟨by rw[List.length_range,hA],List.nodup_range,fun i x hx=>?_,fun x hx=>by rw[hA];exact hb x hx,fun x hx=>by rw[hA];exact ha x hx⟩ rfl (abY hA Ya P3) h;have hi:i<m:=by rw[<- hA];exact(aq6.1 hx).1
 rw[iE hi,Ob.ren_range (hb x (arb hx)),arl (by rw[hA];exact hi)];exact hx
theorem afD {K K':AV->List Ob->Prop}{op:Op}(h:gO P ti ρ L K op)(hk:∀ v L,K v L->K' v L):gO P ti ρ L K' op:=by
 rcases h with⟨v,φ,h1,h2,h3⟩|⟨v,φ,h1,h2,h3⟩|⟨v,L',φ,h1,h2,h3⟩|⟨g,ps,r,h1,h2,h3⟩|⟨g,es,t,k,ps,Pz,h1,h2,h3,h4⟩|⟨g,k,ps,Pz,h1,h2,h3⟩|⟨σ,g,L0,as',L1,r,h1,h2,h3,h4⟩|⟨v,L',h1,h2,h3⟩
 ·exact .inl ⟨v,φ,h1,h2,hk _ _ h3⟩
 ·exact .inr (.inl ⟨v,φ,h1,h2,hk _ _ h3⟩)
 ·exact .inr (.inr (.inl ⟨v,L',φ,h1,h2,hk _ _ h3⟩))
 ·exact .inr (.inr (.inr (.inl ⟨g,ps,r,h1,h2,hk _ _ h3⟩)))
 ·exact .inr (.inr (.inr (.inr (.inl ⟨g,es,t,k,ps,Pz,h1,h2,h3,hk _ _ h4⟩))))
 ·exact .inr (.inr (.inr (.inr (.inr (.inl ⟨g,k,ps,Pz,h1,h2,hk _ _ h3⟩)))))
 ·exact .inr (.inr (.inr (.inr (.inr (.inr (.inl ⟨σ,g,L0,as',L1,r,h1,h2,h3,hk _ _ h4⟩))))))
 ·exact .inr (.inr (.inr (.inr (.inr (.inr (.inr ⟨v,L',h1,h2,hk _ _ h3⟩))))))
theorem amb {A A' B B':Prop}{g:Option (Nat×Bool)}(h:gd ds T A B g)(ha:A->A')(hb:B->B'):gd ds T A' B' g:=by
 unfold gd at h ⊢;split
 ·exact ha h
 ·rename_i j want
  dsimp only at h;split at h
  ·rename_i d hd
   split at h
   ·exact⟨fun e=>ha (h.1 e),fun e=>hb (h.2 e)⟩
   ·exact hb h
   ·cases h
  ·cases h
theorem jG {K K':Tm->List Ob->Prop}(hk:∀ T L,K T L->K' T L):∀ (l:List Oper) (T:Tm) (L:List Ob),aI P ti N ds K l T L->aI P ti N ds K' l T L
 |[],T,L,h=>hk T L h
 |o::l,T,L,h=>⟨h.1,amb h.2 (fun h=>afD h fun v L' h=>jG hk l _ _ h) (fun h=>jG hk l _ _ h)⟩
theorem amt (F:List Nat)(O2:TIok P ti){Q:AX->Tm->List Ob->Prop}{T:Tm}{L:List Ob}{id:Nat}{l:List Oper}{c:Code}(Tc:Tm)(Lc:List Ob)(p:Nat)(hp:p+1<l.length)(hg:l.all (fun o=>o.guard.isNone)=true)(TF:P.follows .mixedOrders=true)(YM:fE F ti (l1E p l)=true)(Tj:fE F ti (l2E p l)=true)(hF:fzB F T=true)
  (h1:aI P ti N ((l1E p l).map (·.dst)) (kr N n0 · · Tc Lc) (l1E p l) T L) (h2:aI P ti N ((l2E p l).map (·.dst)) (kr N n0 · · Tc Lc) (l2E p l) T L) (h:Aw P N n0 c Q Tc Lc):Aw P N n0 (.seq (.region id l.toArray true) c) Q T L:=by
 refine aw_seq (EP (yM F O2 p hp hg TF YM Tj hF (jG ?_ _ _ _ h1) (jG ?_ _ _ _ h2)))
 ·intro T' L' hG
  exact⟨Tc,Lc,hG,h⟩
 ·intro T' L' hG
  exact⟨Tc,Lc,hG,h⟩
theorem zf {Q:AX->Tm->List Ob->Prop}{c:Code}(k:Nat):∀ (m:Nat) (L:List Ob),Aw P N n0 c Q T (L++List.replicate m (.spare 0 k))->Aw P N n0 c Q T L
 |0,L,h=>by simpa using h
 |m+1,L,h=>by
  intro hn B R γ w a hi hT;have hm:Mv R R γ (γ++[.none]) L (L++[.spare 0 k]):=Mv.push _ _ hi.len;have h':Aw P N n0 c Q T ((L++[.spare 0 k])++List.replicate m (.spare 0 k)):=by rw[arA];exact h
  exact wp_mono (zf k m _ h' m8 B R (γ++[.none]) w a (hi.tok k) (hT.mv hm)) fun _ _ _ hh=>hh.ext (Ext.refl _ _ _) hi.len (nZ.of hn hm)
end
def Ar {σ:Type}(O:Nat->σ->Ob)(s:σ):List Ob:=[O 0 s,O 1 s,O 2 s,O 3 s,O 4 s,O 5 s,O 6 s,O 7 s,O 8 s,O 9 s,O 10 s,O 11 s,O 12 s,O 13 s,O 14 s,O 15 s,O 16 s]
theorem fk {σ:Type}{O:Nat->σ->Ob}{s:σ}{n:Nat}(h:∀ i,i<17->(O i s).below n):∀ x∈Ar O s,x.below n:=by
 intro x hx;unfold Ar at hx;simp only[arp,List.not_mem_nil,or_false]at hx;rcases hx with h1|h1|h1|h1|h1|h1|h1|h1|h1|h1|h1|h1|h1|h1|h1|h1|h1<;>rw[h1]<;>exact h _ m0
open Go.RowKit Go.Shelf Go.Lib Go.Sort
set_option linter.unusedSectionVars false
structure Flat (α:Type) where
 k:Nat
 nums:α->List Int
 len:∀ x,(nums x).length=k
 pos:0<k
namespace Flat
variable {α:Type} (F:Flat α)
def enc (x:α):List Value:=(F.nums x).map (Value.int .i64)
def tr (x:α):List SV:=(F.nums x).map fun n => .c (.int .i64 n)
theorem enc_len (x:α):(F.enc x).length=F.k:=by simp[enc,F.len]
theorem tr_len (x:α):(F.tr x).length=F.k:=by simp[tr,F.len]
theorem rep_iff {R:PH}{γ:List Gh}{L:List Ob}{x:α}{j:Nat}{t:SV}(ht:(F.tr x)[j]?=some t){u:Value}:t.rep R γ L u↔(F.enc x)[j]?=some u:=by
 unfold tr at ht;unfold enc;rw[arw]at ht ⊢
 cases hn:(F.nums x)[j]? with
 |none=>rw[hn]at ht;cases ht
 |some n =>
  rw[hn]at ht
  cases ht;constructor
  ·intro h;cases h;rfl
  ·intro h;cases h;exact .int _ _
theorem flat_get {l:List α}{i j:Nat}{x:α}(hi:l[i]?=some x)(hj:j<F.k):(l.flatMap F.enc)[i*F.k+j]?=(F.enc x)[j]?:=by
 induction l generalizing i with
 |nil=>cases hi
 |cons y l ih =>
  rw[arN]
  cases i with
  |zero =>
   cases hi;rw[Nat.zero_mul,arS,arl (by rw[F.enc_len];exact hj)]
  |succ i =>
   rw[arc (by rw[F.enc_len,Nat.succ_mul];omega),F.enc_len,show(i+1)*F.k+j-F.k=i*F.k+j by rw[Nat.succ_mul];omega];exact ih hi
theorem flat_len (l:List α):(l.flatMap F.enc).length=l.length*F.k:=by
 induction l with
 |nil=>simp
 |cons y l ih=>rw[arN,ard,ih,F.enc_len,arv,Nat.succ_mul];omega
end Flat
section
variable {P:Program} {α:Type} {F:Flat α} {B:Nat->Prop} {R:PH} {γ:List Gh} {w:World}
theorem B7 {k c OY:Nat}{l:List α}{vs:Array Value}(hk:k=F.k)(hc:l.length<=c)(hs:vs.size=c*k)
  (hr:∀ (i:Nat) e (j:Nat) u x,(l.map F.tr)[i]?=some e->vs[i*k+j]?=some u->e[j]?=some x->x.rep R γ [.row OY (l.map F.tr) k] u) (j:Nat) (hj:j<l.length*k):vs[j]?=(l.flatMap F.enc)[j]?:=by
 subst hk;have h0:=F.pos;have hi:j/F.k<l.length:=Nat.div_lt_of_lt_mul (by rw[Nat.mul_comm];exact hj);have hm:j%F.k<F.k:=Nat.mod_lt _ h0;have e:=Nat.div_add_mod' j F.k;have X6:j<vs.size:=by rw[hs];exact arO hj (arM _ hc)
 have h1:=arf hi;have ht:(F.tr l[j/F.k])[j%F.k]?=some ((F.tr l[j/F.k])[j%F.k]'(by rw[F.tr_len];exact hm)):=arf _;have h2:=hr (j/F.k) (F.tr l[j/F.k]) (j%F.k) vs[j] _ (by rw[arw,h1];rfl) (by rw[e];exact ary X6) ht;rw[F.rep_iff ht]at h2;have h3:=F.flat_get h1 hm;rw[e]at h3;rw[h3,h2,ary X6]
theorem ajr {OY k b c:Nat}{pre d post d':List α}(hk:k=F.k)(hd:d'.length=d.length){W:World}(hi:Inv B R γ [.row OY ((pre++d++post).map F.tr) k] w)(hg:γ[0]?=some (.arr b c))
  (ho:W.heap.size=w.heap.size) (Xm:W.os=w.os/\W.tape=w.tape/\W.output=w.output) (Ph:∀ b',b'≠b->W.heap[b']?=w.heap[b']?)
  (hb:∀ vs E,w.heap[b]?=some (.cells vs E (0,0)) ->∃ Yb:Array Value,W.heap[b]?=some (.cells Yb E (0,0))/\Yb.size=vs.size /\ ∀ j,j<vs.size->Yb[j]?=if pre.length*k<=j/\j<(pre.length+d.length)*k then(d'.flatMap F.enc)[j-pre.length*k]? else vs[j]?) :
  Inv B R γ [.row OY ((pre++d'++post).map F.tr) k] W/\Ext B R R w W/\Mv R R γ γ [.row OY ((pre++d++post).map F.tr) k] [.row OY ((pre++d'++post).map F.tr) k]:=by
 subst hk;have hL:([.row OY ((pre++d++post).map F.tr) F.k]:List Ob)[0]?=some (.row OY ((pre++d++post).map F.tr) F.k):=rfl;obtain⟨⟨vs,E,⟨h1,hE⟩,Py,hr⟩,hc,UQ,Vv,hR⟩:=hi.obj 0 _ _ hL hg;obtain⟨Yb,g1,g2,g3⟩:=hb vs E h1;have SB:=B7 (F:=F) rfl (by simpa using hc) Py hr;have hm:Mv R R γ γ [.row OY ((pre++d++post).map F.tr) F.k] (([.row OY ((pre++d++post).map F.tr) F.k]:List Ob).set 0 (.row OY ((pre++d'++post).map F.tr) F.k)):=by
  refine⟨PH.sub_refl _,aro _,fun t' n k OZ h=>?_,fun t' O9 es k OZ h=>?_,fun _ _ h=>h⟩
  ·obtain rfl:t'=0:=by simpa using OZ
   cases h
  ·obtain rfl:t'=0:=by simpa using OZ
   cases h;exact⟨OY,_,rfl,aro _,fun _=>⟨by simp[hd],rfl⟩⟩
 have Ri:=hi.turn (R':=R) (w':=W) hL hg rfl hm Ph ho (fun _ _ _=>rfl) (fun o u e=>by rw[hR o]at e;cases e) (by
  refine⟨⟨Yb,E,⟨g1,hE⟩,by rw[g2,Py],fun i e j u x he hu hx=>?_⟩,by simpa[hd]using hc,UQ,?_,hR⟩
  ·rw[arw]at he
   cases hq:(pre++d'++post)[i]? with
   |none=>rw[hq]at he;cases he
   |some y =>
    rw[hq]at he
    cases he;rw[F.rep_iff hx];have hj:j<F.k:=by rw[<- F.tr_len y];exact(aq6.1 hx).1
    have OZ:i*F.k+j<Yb.size:=(arU.1 hu).1;rw[g3 _ m0]at hu;have Tz:i<(pre++d'++post).length:=(aq6.1 hq).1;have V1:∀ a,i*F.k+j<a*F.k↔i<a:=fun a=>⟨fun h=>by
      rcases Nat.lt_or_ge i a with h'|h'
      ·exact h'
      ·have:=arM F.k h';omega,fun h=>by
      have:=arM F.k (show i+1<=a from h);rw[Nat.succ_mul]at this;omega⟩
    by_cases S0:pre.length*F.k<=i*F.k+j/\i*F.k+j<(pre.length+d.length)*F.k
    ·rw[if_pos S0]at hu
     have a1:¬ i<pre.length:=fun h=>by have:=(V1 _).2 h;omega
     have a2:=(V1 _).1 S0.2;have Z7:d'[i-pre.length]?=some y:=by
      rw[arA,arc m0,arl m0]at hq;exact hq
     have:=F.flat_get Z7 hj;rw[<- this,<- hu];congr 1;rw[Nat.sub_mul];have:=arM F.k (show pre.length<=i by omega);omega
    ·rw[if_neg S0]at hu
     have Z7:(pre++d++post)[i]?=some y:=by
      by_cases a1:i<pre.length
      ·rw[arA,arl a1]at hq ⊢;exact hq
      ·have a2:¬ i<pre.length+d.length:=fun h=>S0 ⟨by have:=arM F.k (show pre.length<=i by omega);omega,(V1 _).2 h⟩
       rw[arc (by simp[hd];omega)]at hq;rw[arc m8,<- hq];simp[hd]
     have hil':i<(pre++d++post).length:=(aq6.1 Z7).1;rw[SB _ ((V1 _).2 hil'),F.flat_get Z7 hj]at hu;exact hu
  ·intro e he
   obtain⟨y,_,rfl⟩:=arK.1 he;exact F.tr_len y)
 refine⟨Ri,⟨⟨Xm.1,Xm.2.1,Xm.2.2,m0,fun b' P3=>Ph b' fun e=>(hi.new 0 _ b hg rfl).1 (by rw[<- e];exact P3)⟩,PH.sub_refl _,fun _ _ _=>rfl⟩,hm⟩
end
section
variable {P:Program} {ρ:Ren} {α:Type} [Inhabited α] {F:Flat α}
theorem Eh (l:List α)(j:Nat)(hj:j<l.length*F.k):(flatK F.enc F.k l.toArray)[j]?=(l.flatMap F.enc)[j]?:=by
 have UQ:=F.pos;have hi:j/F.k<l.length:=Nat.div_lt_of_lt_mul (by rw[Nat.mul_comm];exact hj);have hr:j%F.k<F.k:=Nat.mod_lt _ UQ;have h1:=F.flat_get (arf hi) hr;rw[Nat.div_add_mod' j F.k]at h1;rw[h1];have hs:j<(flatK F.enc F.k l.toArray).size:=by simp;exact hj
 rw[ary hs,<- getElem!_pos _ j hs,get_flatK _ _ _ _ (by simpa using hj)];have h2:l.toArray[j/F.k]! =l[j/F.k]:=by simp[hi]
 rw[h2,arf (by rw[F.enc_len];exact hr)];simp[F.enc_len,hr]
def Ot (P:Program)(F:Flat α)(g:Nat)(cs:List AC)(arg:α->Value)(cf:α->α->Int):Prop :=
 ∀ (R:PH) (W:World) (cb:Array Value),(∀ b o u,R b o=some u->W.cell? ⟨b,o,none⟩=some u)->cb.size=cs.length->(∀ (j:Nat) v x,cb[j]?=some v->cs[j]?=some x->bF R v x) ->
  ∀ x y,Calls P g (#[arg x,arg y]++cb) W fun e w'=>e = .returned (.int .i64 (cf x y)) /\ ∃ q Xn,w'=grow (W.drewN q) Xn
def bH (cf:α->α->Int)(d:List α):List α:=(pdq (ltOf cf) d.toArray 0 d.toArray.size (Lib.bitLen d.toArray.size) true true).toList
theorem kZ {cf:α->α->Int}(hO:SWO (ltOf cf))(d:List α):(bH cf d).Perm d:=by
 have h:=(pdq_sorts (ltOf cf) hO d.toArray 0 d.toArray.size (Lib.bitLen d.toArray.size) true true (aru _) (aro _) (Or.inl rfl)).1;obtain⟨p1,_,p2⟩:=h;unfold bH;generalize pdq (ltOf cf) d.toArray 0 d.toArray.size (Lib.bitLen d.toArray.size) true true=d' at p1 p2 ⊢;have p1':d'.toList.length=d.length:=by simpa using p1
 have a1:(d'.extract 0 d.toArray.size).toList=d'.toList:=by simp[<- p1']
 have a2:(d.toArray.extract 0 d.toArray.size).toList=d:=by simp
 rw[a1,a2]at p2;exact p2
theorem fR {cf:α->α->Int}(hO:SWO (ltOf cf))(d:List α):(bH cf d).length=d.length:=(kZ hO d).length_eq
theorem sZ {cf:α->α->Int}(hO:SWO (ltOf cf))(d:List α):(bH cf d).Pairwise fun x y =>¬ cf y x<0:=by
 have h:=(pdq_sorts (ltOf cf) hO d.toArray 0 d.toArray.size (Lib.bitLen d.toArray.size) true true (aru _) (aro _) (Or.inl rfl));have hl:=fR hO d;obtain⟨_,hs⟩:=h;unfold bH at hl ⊢;generalize pdq (ltOf cf) d.toArray 0 d.toArray.size (Lib.bitLen d.toArray.size) true true=d' at hs hl ⊢;rw[List.pairwise_iff_getElem];intro i j hi hj S1;have:=hs i j (aru _) S1 (by rw[hl]at hj;simpa using hj);unfold ltOf at this;have h2:=of_decide_eq_false this;have Ri:i<d'.size:=by simpa using hi
 have hj':j<d'.size:=by simpa using hj
 rw[getElem!_pos d' i Ri,getElem!_pos d' j hj']at h2;simpa using h2
theorem aas {B:Nat->Prop}{R:PH}{γ:List Gh}{w:World}{OY b c n0:Nat}{pre d post d':List α}(hd:d'.length=d.length)(hi:Inv B R γ [.row OY ((pre++d++post).map F.tr) F.k] w)(hg:γ[0]?=some (.arr b c))(cells:Array Value)(SH:cells.size=d.length*F.k)
  (Ur:∀ j,j<d.length*F.k->cells[j]?=(d'.flatMap F.enc)[j]?) (os:Array Obj) :
  Inv B R γ [.row OY ((pre++d'++post).map F.tr) F.k] (grow (putRow id (Sort.ahead w n0) b (pre.length*F.k) cells) os)/\Ext B R R w (grow (putRow id (Sort.ahead w n0) b (pre.length*F.k) cells) os) /\
   Mv R R γ γ [.row OY ((pre++d++post).map F.tr) F.k] [.row OY ((pre++d'++post).map F.tr) F.k]:=by
 obtain⟨i1,e1,m1⟩:=ajr (F:=F) (d':=d') (W:=putRow id (Sort.ahead w n0) b (pre.length*F.k) cells) rfl hd hi hg (by simp[putRow,mapBlock,Sort.ahead]) ⟨rfl,rfl,rfl⟩
  (fun b' P3=>by simp[putRow,mapBlock,Sort.ahead,Array.getElem?_modify,Ne.symm P3])
  (fun vs E hv=>⟨putCells id (pre.length*F.k) cells vs,by simp[putRow,mapBlock,Sort.ahead,Array.getElem?_modify,hv,onCells],by simp[putCells],fun j hj=>by
   have hx:(putCells id (pre.length*F.k) cells vs)[j]?=some (if pre.length*F.k<=j/\j<pre.length*F.k+cells.size then cells[j-pre.length*F.k]! else vs[j]):=by
    simp[putCells,hj]
   rw[hx,SH,Nat.add_mul];by_cases h:pre.length*F.k<=j/\j<pre.length*F.k+d.length*F.k
   ·rw[if_pos h,if_pos h,<- Ur _ m0]
    have:j-pre.length*F.k<cells.size:=m0
    rw[getElem!_pos cells _ this,ary this]
   ·rw[if_neg h,if_neg h,ary hj]⟩)
 have e2:Ext (· <(putRow id (Sort.ahead w n0) b (pre.length*F.k) cells).heap.size) R R (putRow id (Sort.ahead w n0) b (pre.length*F.k) cells) (grow (putRow id (Sort.ahead w n0) b (pre.length*F.k) cells) os) :=
  ⟨⟨rfl,rfl,rfl,m5,fun b' P3=>heap_grow_old _ _ P3⟩,PH.sub_refl _,fun _ _ _=>rfl⟩
 obtain⟨i2,e3⟩:=i1.later e2 (fun b' o u h=>by
  have:=i1.val b' o u h;rw[cell?_grow _ _ _ (lt_of_cell this)];exact this)
 exact⟨i2,e1.trans e3,m1⟩
theorem aiC {B:Nat->Prop}{R:PH}{γ:List Gh}{w:World}{OY b c:Nat}{pre d post:List α}(hi:Inv B R γ [.row OY ((pre++d++post).map F.tr) F.k] w)(hg:γ[0]?=some (.arr b c))(cells:Array Value)(SH:cells.size=d.length*F.k)
  (Ur:∀ j,j<d.length*F.k->cells[j]?=(d.flatMap F.enc)[j]?):Holds id w b (pre.length*F.k) cells/\b<w.heap.size/\(∀ o,R b o=none):=by
 obtain⟨⟨vs,E,⟨h1,hE⟩,Py,hr⟩,hc,UQ,Vv,hR⟩:=hi.obj 0 _ _ rfl hg;have SB:=B7 (F:=F) rfl (by simpa using hc) Py hr;refine⟨fun j hj=>?_,(arU.1 h1).1,hR⟩;have OZ:pre.length*F.k+j<(pre++d++post).length*F.k:=by
  simp only[ard,Nat.add_mul];omega
 refine⟨?_,by simp[World.frozen?,h1]⟩;rw[cob_ h1,SB _ OZ,arA,List.flatMap_append,arc (by rw[F.flat_len];omega),F.flat_len,List.flatMap_append,arl (by rw[F.flat_len];omega),show pre.length*F.k+j-pre.length*F.k=j by omega,<- Ur j m0,ary hj,getElem!_pos cells j hj];rfl
theorem amm {B:Nat->Prop}{R:PH}{γ:List Gh}{w:World}{OY:Nat}{pre d post:List α}{v:Value}(hi:Inv B R γ [.row OY ((pre++d++post).map F.tr) F.k] w)
  (hv:(SV.sl 0 OY pre.length d.length).rep R γ [.row OY ((pre++d++post).map F.tr) F.k] v) :
  (∃ a c,v = .slice a 0 c/\d=[]) \/ ∃ b c c',γ[0]?=some (.arr b c)/\v = .slice (some ⟨b,pre.length*F.k,none⟩) d.length c':=by
 obtain⟨_,_,h⟩:=hv;obtain⟨_,h⟩:=h OY _ _ rfl;obtain⟨hle,g,hg,hs⟩:=h rfl
 cases g with
 |none=>obtain⟨⟨a,rfl,_⟩,hn,_⟩:=hs;exact .inl ⟨a,0,rfl,arz hn⟩
 |box b=>exact absurd hs id
 |arr b c =>
  rcases hs with rfl|⟨_,hn,a,rfl⟩
  ·exact .inr ⟨b,c,_,hg,rfl⟩
  ·exact .inl ⟨a,0,rfl,arz hn⟩
theorem Hg (L:SlLaysF0.n6 P ρ)(aE:∀ w,(isAgg (ρ.t 24)).run P w = .ok true w)(zE:∀ w,(Go.sizeOf (ρ.t 24)).run P w = .ok F.k w)(cf:α->α->Int)(hO:SWO (ltOf cf))(g:Nat)(cs:List AC){pre d post:List α}
  (eg : ∀ args w, (callFunc g args).run P w = .ok (.enter g args) w) (Xo : d ≠ [] -> Ot P F g cs (fun x => .agg (F.enc x).toArray) cf) (hf : ∃ fn, P.funcs[ρ.f 6]? = some fn /\ fn.body.isSome = true /\ (fn.name == "runtime.NumGoroutine") = false)
  (OY lo n:Nat) (Pj:pre.length=lo) (hn:d.length=n) (Py:n<4611686018427387904) :
  Run P (ρ.f 6) [.row OY ((pre++d++post).map F.tr) F.k] [.one (.sl 0 OY lo n),.one (.c (.fn g cs))] [.row OY ((pre++bH cf d++post).map F.tr) F.k] (.tup []):=by
 subst Pj hn;refine⟨hf,fun B R γ w vs hi hs hv=>?_⟩;have Xp:vs.size=2:=hs;have YQ:=hv 0 vs[0] _ (ary m0) rfl;have QJ:=hv 1 vs[1] _ (ary m0) rfl;have Xq:vs=#[vs[0],vs[1]]:=by
  apply Array.ext
  ·simp[Xp]
  ·intro i h1 h2
   have:i=0\/i=1:=m0
   rcases this with rfl|rfl<;>rfl
 generalize vs[0]=v0 at YQ Xq;generalize vs[1]=v1 at QJ Xq;subst Xq;have TG:∀ (cb:Value) W,Inv B R γ [.row OY ((pre++bH cf d++post).map F.tr) F.k] W->Ext B R R w W->Mv R R γ γ [.row OY ((pre++d++post).map F.tr) F.k] [.row OY ((pre++bH cf d++post).map F.tr) F.k] ->
   ∃ v R' γ',Ending.returned (.tuple #[]) = .returned v/\Inv B R' γ' [.row OY ((pre++bH cf d++post).map F.tr) F.k] W/\Ext B R R' w W/\Mv R R' γ γ' [.row OY ((pre++d++post).map F.tr) F.k] [.row OY ((pre++bH cf d++post).map F.tr) F.k]/\(AV.tup []).rep R' γ' [.row OY ((pre++bH cf d++post).map F.tr) F.k] v :=
  fun _ W h1 h2 h3=>⟨_,R,γ,rfl,h1,h2,h3,#[],rfl,rfl,fun j u p hu _=>by simp at hu⟩
 rcases amm hi YQ with⟨a,c,rfl,hd⟩|⟨b,c,c',hg,rfl⟩
 ·subst hd
  refine(AnyF.slices_SortFunc_none { L with } a c v1 w).mono fun e w' ⟨he,hw⟩=>?_
  subst he hw;have P6:bH cf ([]:List α)=[]:=arz (fR hO []);exact TG v1 w' (by rw[P6];exact hi) (Ext.refl _ _ _) (by rw[P6];exact Mv.refl)
 ·cases QJ with
  |fn _ cb _ SH Ur =>
   by_cases Ph:d=[]
   ·subst Ph
    refine(AnyF.slices_SortFunc_none { L with } _ _ _ w).mono fun e w' ⟨he,hw⟩=>?_
    subst he hw;have P6:bH cf ([]:List α)=[]:=arz (fR hO []);exact TG (.int .i64 0) w' (by rw[P6];exact hi) (Ext.refl _ _ _) (by rw[P6];exact Mv.refl)
   obtain⟨hH,hb,hR⟩:=aiC (F:=F) hi hg (flatK F.enc F.k d.toArray) m5 (fun j hj=>Eh d j hj);have Rm:=AnyQ.slices_SortFunc_eq L F.k aE zE F.enc F.enc_len (fun x v hv=>by simp only[Flat.enc,arK]at hv;obtain⟨_,_,rfl⟩:=hv;rfl) cf hO g cb b (pre.length*F.k) c' d.toArray w eg
    (fun m os dk RJ x y=>Xo Ph R _ cb (fun b' o u h=>by
     have h':=hi.val b' o u h;have OZ:=lt_of_cell h';have Ph:b'≠b:=fun e=>by rw[e,hR o]at h;cases h
     unfold sortWorldK putRowK;rw[cell?_grow _ _ _ (by simpa[putRow,mapBlock,Sort.ahead]using OZ)];have:=cell?_putRow_other id (Sort.ahead w m) b (pre.length*F.k) (flatK F.enc F.k dk) ⟨b',o,none⟩ (Or.inl Ph);rw[this];exact h') SH Ur x y) hH hb (by simpa using Py)
   simp only[List.size_toArray]at Rm;refine Rm.mono fun e w' ⟨he,n',os,hw⟩=>?_
   subst he;have YR:w'=grow (putRow id (Sort.ahead w n') b (pre.length*F.k) (flatK F.enc F.k (bH cf d).toArray)) os:=by
    rw[hw];unfold sortWorldK putRowK bH;simp
   subst YR;have hl:=fR hO d;obtain⟨h1,h2,h3⟩:=aas (F:=F) (d':=bH cf d) (n0:=n') hl hi hg (flatK F.enc F.k (bH cf d).toArray) (by simp[hl]) (fun j hj=>Eh _ j (by rw[hl];exact hj)) os;exact TG (.int .i64 0) _ h1 h2 h3
def Flat.one (F:Flat α)(x:α):Value := .int .i64 ((F.nums x).headD 0)
theorem Flat.one_eq (hk:F.k=1)(x:α):F.enc x=[F.one x]:=by
 have h:=F.len x;rw[hk]at h;unfold Flat.enc Flat.one
 match F.nums x,h with
 |[n],_=>rfl
theorem amx (hk:F.k=1):∀ d:List α,d.flatMap F.enc=d.map F.one
 |[]=>rfl
 |x::d=>by rw[arN,amx hk d,F.one_eq hk];rfl
theorem alg (W:World)(b off:Nat)(d:Array α):putRow F.one W b off d=putRow id W b off (d.map F.one):=by
 unfold putRow;refine mapBlock_congr _ _ _ _ fun c _ _ _=>?_
 apply Array.ext_getElem?;intro k;simp only[putCells,Array.getElem?_mapIdx,Array.size_map]
 cases c[k]? with
 |none=>rfl
 |some y =>
  simp only[Option.map_some];by_cases h:off<=k/\k<off+d.size
  ·rw[if_pos h,if_pos h]
   have h1:k-off<d.size:=m0
   rw[getElem!_pos d _ h1,getElem!_pos (d.map F.one) _ (by simpa using h1)];simp
  ·rw[if_neg h,if_neg h]
theorem agr (hk:F.k=1)(L:SlLaysF.n6 P ρ)(cf:α->α->Int)(hO:SWO (ltOf cf))(g:Nat)(cs:List AC){pre d post:List α}
  (eg : ∀ args w, (callFunc g args).run P w = .ok (.enter g args) w) (Xo : d ≠ [] -> Ot P F g cs F.one cf) (hf : ∃ fn, P.funcs[ρ.f 6]? = some fn /\ fn.body.isSome = true /\ (fn.name == "runtime.NumGoroutine") = false)
  (OY lo n:Nat) (Pj:pre.length=lo) (hn:d.length=n) (Py:n<4611686018427387904) :
  Run P (ρ.f 6) [.row OY ((pre++d++post).map F.tr) F.k] [.one (.sl 0 OY lo n),.one (.c (.fn g cs))] [.row OY ((pre++bH cf d++post).map F.tr) F.k] (.tup []):=by
 subst Pj hn;refine⟨hf,fun B R γ w vs hi hs hv=>?_⟩;have Xp:vs.size=2:=hs;have YQ:=hv 0 vs[0] _ (ary m0) rfl;have QJ:=hv 1 vs[1] _ (ary m0) rfl;have Xq:vs=#[vs[0],vs[1]]:=by
  apply Array.ext
  ·simp[Xp]
  ·intro i h1 h2
   have:i=0\/i=1:=m0
   rcases this with rfl|rfl<;>rfl
 generalize vs[0]=v0 at YQ Xq;generalize vs[1]=v1 at QJ Xq;subst Xq;have TG:∀ W,Inv B R γ [.row OY ((pre++bH cf d++post).map F.tr) F.k] W->Ext B R R w W->Mv R R γ γ [.row OY ((pre++d++post).map F.tr) F.k] [.row OY ((pre++bH cf d++post).map F.tr) F.k] ->
   ∃ v R' γ',Ending.returned (.tuple #[]) = .returned v/\Inv B R' γ' [.row OY ((pre++bH cf d++post).map F.tr) F.k] W/\Ext B R R' w W/\Mv R R' γ γ' [.row OY ((pre++d++post).map F.tr) F.k] [.row OY ((pre++bH cf d++post).map F.tr) F.k]/\(AV.tup []).rep R' γ' [.row OY ((pre++bH cf d++post).map F.tr) F.k] v :=
  fun W h1 h2 h3=>⟨_,R,γ,rfl,h1,h2,h3,#[],rfl,rfl,fun j u p hu _=>by simp at hu⟩
 have hi:Inv B R γ [.row OY ((pre++d++post).map F.tr) F.k] w:=hi;rcases amm (F:=F) hi YQ with⟨a,c,rfl,hd⟩|⟨b,c,c',hg,rfl⟩
 ·subst hd
  refine(AnyF.slices_SortFunc_none { L with } a c v1 w).mono fun e w' ⟨he,hw⟩=>?_
  subst he hw;have P6:bH cf ([]:List α)=[]:=arz (fR hO []);exact TG w' (by rw[P6];exact hi) (Ext.refl _ _ _) (by rw[P6];exact Mv.refl)
 ·cases QJ with
  |fn _ cb _ SH Ur =>
   by_cases Ph:d=[]
   ·subst Ph
    refine(AnyF.slices_SortFunc_none { L with } _ _ _ w).mono fun e w' ⟨he,hw⟩=>?_
    subst he hw;have P6:bH cf ([]:List α)=[]:=arz (fR hO []);exact TG w' (by rw[P6];exact hi) (Ext.refl _ _ _) (by rw[P6];exact Mv.refl)
   have SB:∀ l:List α,∀ j,j<l.length*F.k->(l.toArray.map F.one)[j]?=(l.flatMap F.enc)[j]?:=fun l j _=>by rw[amx hk];simp
   obtain⟨hH,hb,hR⟩:=aiC (F:=F) hi hg (d.toArray.map F.one) (by simp[hk]) (SB d);have hH':Holds F.one w b (pre.length*F.k) d.toArray:=fun j hj=>by
    have h:=hH j (by simpa using hj);rw[getElem!_pos (d.toArray.map F.one) j (by simpa using hj)]at h;rw[getElem!_pos d.toArray j hj];simpa using h
   have Rm:=Any.slices_SortFunc_eq L F.one (fun _=>rfl) cf hO g cb b (pre.length*F.k) c' d.toArray w eg
    (fun m os dk RJ x y=>Xo Ph R _ cb (fun b' o u h=>by
     have h':=hi.val b' o u h;have OZ:=lt_of_cell h';have Ph:b'≠b:=fun e=>by rw[e,hR o]at h;cases h
     unfold sortWorld;rw[cell?_grow _ _ _ (by simpa[putRow,mapBlock,Sort.ahead]using OZ)];have:=cell?_putRow_other F.one (Sort.ahead w m) b (pre.length*F.k) dk ⟨b',o,none⟩ (Or.inl Ph);rw[this];exact h') SH Ur x y) hH' hb (by simpa using Py)
   simp only[List.size_toArray]at Rm;refine Rm.mono fun e w' ⟨he,n',os,hw⟩=>?_
   subst he;have YR:w'=grow (putRow id (Sort.ahead w n') b (pre.length*F.k) ((bH cf d).toArray.map F.one)) os:=by
    rw[hw];unfold sortWorld bH;rw[alg];simp
   subst YR;have hl:=fR hO d;obtain⟨h1,h2,h3⟩:=aas (F:=F) (d':=bH cf d) (n0:=n') hl hi hg ((bH cf d).toArray.map F.one) (by simp[hl,hk]) (fun j hj=>SB _ j (by rw[hl];exact hj)) os;exact TG _ h1 h2 h3
end
open Go.RowKit Go.MapKept
theorem lB {P:Program}{w:World}{t:TypeId}{d:TypeDesc}(ht:P.underlying t=some d)(hd:(match d with |.struct _=>true |.array _ _=>true|_=>false)=false){xs:Array Value}{i:Nat}{v:Value}(hx:xs[i]?=some v):(part t xs i).run P w = .ok v w:=by
 cases d<;>first|(cases hd;done)|simp[part,isAgg,run_underlying ht,hx]
def anr:TypeDesc->Option Sc
 |.int k=>some (.int k)
 |.bool=>some .bool
 |.string=>some .str
 |_=>none
def amV (s:Sc):Option TypeDesc->Bool
 |some d=>match anr d with
  |some s'=>decide (s'=s)
  |none=>false
 |none=>false
def alU (d:Option TypeDesc):Sc->Prop
 |.int k=>d=some (.int k)
 |.bool=>d=some .bool
 |.str=>d=some .string
theorem akY {s:Sc}{d:Option TypeDesc}(h:amV s d=true):alU d s:=by
 unfold amV at h
 cases d with
 |none=>cases h
 |some d =>
  dsimp only at h
  cases hs:anr d with
  |none=>rw[hs]at h;cases h
  |some s' =>
   rw[hs]at h;obtain rfl:s'=s:=arC h;unfold anr at hs;split at hs<;>first|(cases hs;rfl)|(cases hs;done)
def adp (P:Program):List Field->List Sc->Nat->Bool
 |[],[],_=>true
 | f :: fs, s :: sh, i => (!(f.name == "_")) && (Nat.beq f.offset i && (amV s (P.underlying f.type) && adp P fs sh (i + 1)))
 |_,_,_=>false
theorem Ea {x:SV}{xs:List SV}{vs:List Value}(h:fK (x::xs)=some vs):∃ c v r,x = .c c/\GN c=some v/\fK xs=some r/\vs=v::r:=by
 unfold fK at h;split at h
 ·rename_i e;cases e
 ·rename_i y ys e
  cases e;split at h
  ·rename_i v r h1 h2;cases h;exact⟨_,v,r,rfl,h1,h2,rfl⟩
  ·cases h
 ·cases h
theorem Gg {P:Program}{w:World}(d:Nat){A B:Array Value}:∀ (fs:List Field) (sh:List Sc) (i:Nat) (xs ys:List SV) (vs us:List Value),adp P fs sh i=true->eK sh xs=true->eK sh ys=true->fK xs=some vs->fK ys=some us ->
  (∀ (j:Nat) v,vs[j]?=some v->A[i+j]?=some v)->(∀ (j:Nat) v,us[j]?=some v->B[i+j]?=some v)->(Op.eqFields (d+1) A B fs).run P w = .ok (b8 xs ys) w:=by
 intro fs
 induction fs with
 |nil =>
  intro sh i xs ys vs us hf hx hy _ _ _ _
  cases sh with
  |nil =>
   cases xs with
   |nil=>cases ys with
    |nil=>rfl
    |cons _ _=>cases hy
   |cons _ _=>cases hx
  |cons _ _=>cases hf
 |cons f fs ih =>
  intro sh i xs ys vs us hf hx hy hv hu hA hB
  cases sh with
  |nil=>cases hf
  |cons s sh =>
   rw[adp,arq,arq,arq]at hf;obtain⟨h1,h2,h3,h4⟩:=hf;have h2:=Nat.eq_of_beq_eq_true h2
   have h1 : f.name ≠ "_" := by simpa using h1
   have h3:=akY h3
   cases xs with
   |nil=>cases s<;>cases hx
   |cons x xs =>
    cases ys with
    |nil=>cases s<;>cases hy
    |cons y ys =>
     obtain⟨cx,v,vr,rfl,QJ,Tf,rfl⟩:=Ea hv;obtain⟨cy,u,ur,rfl,VG,TY,rfl⟩:=Ea hu;have a0:=hA 0 v rfl;have b0:=hB 0 u rfl;rw[Nat.add_zero]at a0 b0;have rest:∀ (Q2:eK sh xs=true) (Z8:eK sh ys=true),(Op.eqFields (d+1) A B fs).run P w = .ok (b8 xs ys) w:=fun Q2 Z8 =>
      ih sh (i+1) xs ys vr ur h4 Q2 Z8 Tf TY (fun j v hj=>by have:=hA (j+1) v (by simpa using hj);rwa[show i+1+j=i+(j+1)by omega]) (fun j v hj=>by have:=hB (j+1) v (by simpa using hj);rwa[show i+1+j=i+(j+1)by omega])
     cases s with
     |int k =>
      unfold alU at h3
      cases cx<;>first|(cases hx;done)|skip
      cases cy<;>first|(cases hy;done)|skip
      rename_i k1 a k2 b;simp only[eK,arq,decide_eq_true_eq]at hx hy;obtain⟨rfl,Q2⟩:=hx;obtain⟨rfl,Z8⟩:=hy
      cases QJ;cases VG;have p1:=lB (P:=P) (w:=w) h3 rfl a0;have p2:=lB (P:=P) (w:=w) h3 rfl b0;simp only[Op.eqFields,h1,h2,ne_eq,not_false_eq_true,if_true,Sem.run_bind,p1,p2,Result.andThen_ok,run_equalIn_int (P:=P) w d _ k k a b h3,Sem.run_ite,Sem.run_pure,rest Q2 Z8]
      cases e:(a==b)
      ·have:a≠b:=by simpa using e
       simp[b8,this]
      ·have:a=b:=by simpa using e
       simp[b8,this]
     |bool =>
      unfold alU at h3
      cases cx<;>first|(cases hx;done)|skip
      cases cy<;>first|(cases hy;done)|skip
      rename_i a b;simp only[eK]at hx hy
      cases QJ;cases VG;have p1:=lB (P:=P) (w:=w) h3 rfl a0;have p2:=lB (P:=P) (w:=w) h3 rfl b0;simp only[Op.eqFields,h1,h2,ne_eq,not_false_eq_true,if_true,Sem.run_bind,p1,p2,Result.andThen_ok,run_equalIn_bool (P:=P) w d _ a b h3,Sem.run_ite,Sem.run_pure,rest hx hy]
      cases e:(a==b)<;>simp[b8,e]
     |str =>
      unfold alU at h3
      cases cx<;>first|(cases hx;done)|skip
      cases cy<;>first|(cases hy;done)|skip
      rename_i a b;simp only[eK]at hx hy
      cases QJ;cases VG;have p1:=lB (P:=P) (w:=w) h3 rfl a0;have p2:=lB (P:=P) (w:=w) h3 rfl b0;simp only[Op.eqFields,h1,h2,ne_eq,not_false_eq_true,if_true,Sem.run_bind,p1,p2,Result.andThen_ok,run_equalIn_string (P:=P) w d _ a b h3,Sem.run_ite,Sem.run_pure,rest hx hy]
      cases e:(a.toList==b.toList)<;>simp[b8,e]
def adW (P:Program)(t:TypeId)(sh:List Sc):Bool :=
 (match P.underlying t with
 |some (.struct fs)=>adp P fs.toList sh 0
 |_=>false)&&(!P.stoodInHeld t && !P.eqGuardType P.depth t)
theorem ae5 {P:Program}{t:TypeId}{sh:List Sc}(h:adW P t sh=true):P.eqGuardType P.depth t=false /\ ∀ xs ys,eK sh xs=true->eK sh ys=true->aaQ P t xs ys:=by
 rw[adW,arq,arq]at h;obtain⟨h1,h2,h3⟩:=h;refine⟨by simpa using h3,fun xs ys hx hy vs us hv hu w=>?_⟩;split at h1
 ·rename_i fs ht
  have WJ:P.fieldsOf t=fs:=by unfold Program.fieldsOf;rw[ht]
  have hm:Op.equal t (.agg vs.toArray) (.agg us.toArray)=Op.equalIn (9999+1) t (.agg vs.toArray) (.agg us.toArray):=rfl;rw[hm,run_equalIn_struct w 9999 t _ _ (by rw[WJ];exact ht) (by simpa using h2),WJ];exact Gg 9998 _ sh 0 xs ys vs us h1 hx hy hv hu (fun j v hj=>by simpa using hj) (fun j v hj=>by simpa using hj)
 ·cases h1
open Go.RowKit
def zeL:List (Nat×AV):=[(2,.one (.c (.int .i64 0))),(3,.one (.c (.int .i64 0))),(4,.one (.c (.bool false))),(5,.one (.c (.int .u8 0))),(9,.one (.c (.str ⟨#[]⟩))),(22,.one (.emp)),(25,.one (.emp)),(29,.one (.emp)),(31,.agg [.emp,.emp]),(33,.agg [.c (.int .i64 0),.c (.int .i64 0),.c (.str ⟨#[]⟩)]),(34,.one (.emp)),(36,.agg [.c (.int .i64 0),.c (.int .i64 0),.c (.int .i64 0),.c (.int .i64 0),.c (.str ⟨#[]⟩),.c (.str ⟨#[]⟩),.emp]),(41,.agg [.emp,.emp,.emp,.emp]),(42,.one (.emp)),(44,.agg [.emp,.emp]),(50,.one (.emp)),(53,.agg [.c (.int .i64 0),.c (.int .i64 0)]),(55,.agg [.emp,.c (.int .i64 0),.c (.int .i64 0)]),(63,.agg [.c (.int .i64 0),.c (.int .i64 0)]),(65,.one (.c (.nul .func))),(67,.one (.c (.nul .func))),(72,.one (.c (.int .i64 0))),(77,.one (.c (.nul .func))),(81,.one (.emp)),(83,.one (.emp)),(85,.one (.c (.nul .func))),(99,.one (.c (.nul .func))),(103,.one (.c (.int .u64 0))),(113,.one (.emp)),(115,.one (.emp)),(117,.agg [.emp,.emp]),(121,.one (.c (.nul .func))),(134,.one (.c (.nul .func))),(136,.one (.c (.int .i64 0))),(143,.one (.c (.int .u32 0))),(145,.one (.c (.int .u64 0))),(159,.one (.emp)),(162,.agg [.c (.int .i64 0),.c (.int .i64 0),.c (.int .i64 0)]),(169,.one (.emp)),(179,.one (.c (.int .u64 0))),(183,.one (.c (.nul .ptr))),(191,.one (.emp)),(194,.agg [.emp,.emp]),(195,.one (.emp)),(197,.agg [.c (.int .i64 0),.c (.int .i64 0)]),(201,.agg [.c (.int .i64 0),.c (.int .i64 0)]),(204,.one (.c (.nul .func))),(205,.one (.emp)),(207,.agg [.c (.int .i64 0),.c (.int .i64 0),.c (.int .i64 0)]),(211,.one (.c (.nul .func))),(222,.one (.c (.nul .map))),(225,.one (.c (.nul .func))),(228,.one (.c (.nul .func))),(232,.agg [.c (.int .i64 0),.c (.bool false)]),(235,.one (.c (.nul .ptr))),(236,.one (.emp)),(238,.agg [.c (.nul .ptr),.emp]),(259,.one (.c (.nul .ptr))),(271,.one (.c (.nul .ptr)))]
def kiL:List (Nat×TypeDesc):=[(2,.int .i64),(3,.int .i64),(4,.bool),(5,.int .u8),(9,.string),(22,.slice 55),(25,.slice 63),(29,.slice 3),(34,.slice 36),(42,.slice 50),(50,.slice 33),(72,.int .i64),(81,.slice 83),(83,.slice 53),(103,.int .u64),(113,.slice 117),(115,.slice 201),(136,.int .i64),(143,.int .u32),(145,.int .u64),(159,.slice 162),(169,.slice 232),(179,.int .u64),(183,.pointer 3),(191,.slice 194),(195,.slice 197),(205,.slice 207),(222,.map 9 3),(235,.pointer 238),(236,.slice 5),(259,.pointer 5),(271,.unsafePointer)]
def eqL:List (Nat×List Sc):=[(33,[.int .i64,.int .i64,.str]),(53,[.int .i64,.int .i64]),(63,[.int .i64,.int .i64]),(162,[.int .i64,.int .i64,.int .i64]),(197,[.int .i64,.int .i64]),(201,[.int .i64,.int .i64]),(232,[.int .i64,.bool])]
def tab:TI:=TI.of [(2,1),(3,1),(4,1),(5,1),(9,1),(22,1),(25,1),(29,1),(31,2),(33,3),(34,1),(36,7),(41,4),(42,1),(44,2),(50,1),(53,2),(55,3),(63,2),(65,1),(67,1),(72,1),(77,1),(81,1),(83,1),(85,1),(99,1),(103,1),(113,1),(115,1),(117,2),(121,1),(134,1),(136,1),(143,1),(145,1),(159,1),(162,3),(169,1),(179,1),(183,1),(191,1),(194,2),(195,1),(197,2),(201,2),(204,1),(205,1),(207,3),(211,1),(222,1),(225,1),(228,1),(232,2),(235,1),(236,1),(238,2),(259,1),(271,1)] [(2,false),(3,false),(4,false),(5,false),(9,false),(22,false),(25,false),(29,false),(31,true),(33,true),(34,false),(36,true),(41,true),(42,false),(44,true),(50,false),(53,true),(55,true),(63,true),(65,false),(67,false),(72,false),(77,false),(81,false),(83,false),(85,false),(99,false),(103,false),(113,false),(115,false),(117,true),(121,false),(134,false),(136,false),(143,false),(145,false),(159,false),(162,true),(169,false),(179,false),(183,false),(191,false),(194,true),(195,false),(197,true),(201,true),(204,false),(205,false),(207,true),(211,false),(222,false),(225,false),(228,false),(232,true),(235,false),(236,false),(238,true),(259,false),(271,false)] [(22,55),(25,63),(29,3),(34,36),(42,50),(50,33),(81,83),(83,53),(113,117),(115,201),(159,162),(169,232),(191,194),(195,197),(205,207),(236,5)] [(31,[(0,29),(1,22)]),(33,[(0,3),(1,3),(2,9)]),(36,[(0,3),(1,3),(2,33),(5,9),(6,34)]),(41,[(0,31),(2,31)]),(44,[(0,29),(1,42)]),(53,[(0,3),(1,3)]),(55,[(0,50),(1,53)]),(63,[(0,3),(1,3)]),(117,[(0,50),(1,115)]),(162,[(0,3),(1,3),(2,3)]),(194,[(0,50),(1,83)]),(197,[(0,3),(1,3)]),(201,[(0,3),(1,3)]),(207,[(0,53),(2,3)]),(232,[(0,3),(1,4)]),(238,[(0,235),(1,236)])] zeL [(2,8),(3,8),(4,1),(5,1),(9,16),(22,24),(25,24),(29,24),(31,48),(33,32),(34,24),(36,88),(41,96),(42,24),(44,48),(50,24),(53,16),(55,40),(63,16),(65,8),(67,8),(72,8),(77,8),(81,24),(83,24),(85,8),(99,8),(103,8),(113,24),(115,24),(117,48),(121,8),(134,8),(136,8),(143,4),(145,8),(159,24),(162,24),(169,24),(179,8),(183,8),(191,24),(194,48),(195,24),(197,16),(201,16),(204,8),(205,24),(207,24),(211,8),(222,8),(225,8),(228,8),(232,16),(235,8),(236,24),(238,32),(259,8),(271,8)] kiL [31,33,36,41,44,53,55,63,117,162,194,197,201,207,232,238] [2,3,4,5,9,22,25,29,31,33,34,36,41,42,44,50,53,55,63,65,67,72,77,81,83,85,99,103,113,115,117,121,134,136,143,145,159,162,169,179,183,191,194,195,197,201,204,205,207,211,222,225,228,232,235,236,238,259,271] eqL [0]
theorem tab_ok:TIok Tryz.prog tab:=by
 refine TI.of_ok k7 k7 k7 k7 ?_ k7 ?_ k7 k7 ?_
 ·intro p hp
  simp only[zeL,arp,List.not_mem_nil,or_false]at hp;rcases hp with rfl|rfl|rfl|rfl|rfl|rfl|rfl|rfl|rfl|rfl|rfl|rfl|rfl|rfl|rfl|rfl|rfl|rfl|rfl|rfl|rfl|rfl|rfl|rfl|rfl|rfl|rfl|rfl|rfl|rfl|rfl|rfl|rfl|rfl|rfl|rfl|rfl|rfl|rfl|rfl|rfl|rfl|rfl|rfl|rfl|rfl|rfl|rfl|rfl|rfl|rfl|rfl|rfl|rfl|rfl|rfl|rfl|rfl|rfl<;>kernel_rfl
 ·intro p hp
  simp only[kiL,arp,List.not_mem_nil,or_false]at hp;rcases hp with rfl|rfl|rfl|rfl|rfl|rfl|rfl|rfl|rfl|rfl|rfl|rfl|rfl|rfl|rfl|rfl|rfl|rfl|rfl|rfl|rfl|rfl|rfl|rfl|rfl|rfl|rfl|rfl|rfl|rfl|rfl|rfl<;>kernel_rfl
 ·intro p hp
  simp only[eqL,arp,List.not_mem_nil,or_false]at hp;rcases hp with rfl|rfl|rfl|rfl|rfl|rfl|rfl<;>exact ae5 k7
def aqm:TI :={ tab with soft:=true }
theorem tabS_ok:TIok Tryz.prog aqm:=⟨tab_ok.size,tab_ok.agg,tab_ok.elem,tab_ok.field,tab_ok.zero,tab_ok.bytes,tab_ok.kind,tab_ok.struct,tab_ok.zok,tab_ok.eqs⟩
theorem mixed:Tryz.prog.follows .mixedOrders=true:=k7
structure Val where
 kind:Int
 int:Int
 text:ByteArray
def cV (x:Val):List AC:=[.int .i64 x.kind,.int .i64 x.int,.str x.text]
structure ax where
 lo:Int
 hi:Int
def aO (x:ax):List AC:=[.int .i64 x.lo,.int .i64 x.hi]
structure ap where
 row:(List Val)
 valid:ax
def aH (x:ap):List AC:=[.lst (x.row.map cV),.int .i64 x.valid.lo,.int .i64 x.valid.hi]
structure aW where
 kinds:(List Int)
 facts:(List ap)
def aV (x:aW):List AC:=[.lst (x.kinds.map (fun x=>[AC.int .i64 x])),.lst (x.facts.map aH)]
inductive Ex where
 |mk (op:Int) (int:Int) (v:Val) (nm:ByteArray) (args:(List Ex))
mutual
def tE:Ex->List AC
 |.mk op int v nm args=>[.int .i64 op,.int .i64 int,.int .i64 v.kind,.int .i64 v.int,.str v.text,.str nm,.lst (tEs args)]
def tEs:List Ex->List (List AC)
 |[]=>[]
 |e::l=>tE e::tEs l
end
theorem adn:∀ (l:List Ex),tEs l=l.map tE
 |[]=>by simp[tEs]
 |e::l=>by simp[tEs,adn l]
def Ex.op:Ex->Int |.mk a _ _ _ _=>a
def Ex.int:Ex->Int |.mk _ a _ _ _=>a
def Ex.v:Ex->Val |.mk _ _ a _ _=>a
def Ex.nm:Ex->ByteArray |.mk _ _ _ a _=>a
def Ex.args:Ex->(List Ex) |.mk _ _ _ _ a=>a
theorem ay (e:Ex):tE e=[.int .i64 e.op,.int .i64 e.int,.int .i64 e.v.kind,.int .i64 e.v.int,.str e.v.text,.str e.nm,.lst (e.args.map tE)]:=by
 obtain⟨_,_,_,_,_⟩:=e;rw[tE,adn];rfl
theorem J0 (e:Ex):(tE e).length=7:=by rw[ay];rfl
structure cA where
 a:Int
 b:Int
def iq (x:cA):List AC:=[.int .i64 x.a,.int .i64 x.b]
structure Stp where
 lo:Int
 n:Int
def li (x:Stp):List AC:=[.int .i64 x.lo,.int .i64 x.n]
structure ac where
 row:(List Val)
 periods:(List ax)
def af (x:ac):List AC:=[.lst (x.row.map cV),.lst (x.periods.map aO)]
structure yV where
 period:ax
 n:Int
def F_ (x:yV):List AC:=[.int .i64 x.period.lo,.int .i64 x.period.hi,.int .i64 x.n]
structure F2 where
 column:Int
 desc:Bool
def Aq (x:F2):List AC:=[.int .i64 x.column,.bool x.desc]
abbrev PTz:=Pure Tryz.prog
abbrev RTz:=Run Tryz.prog
theorem sl9:(∀(h:Decidable False),@decide False h=false)/\(∀(h:Decidable True),@decide True h=true)/\(∀{α:Type}(a b:α),(bif true then a else b)=a)/\(∀{α:Type}(a b:α),(bif false then a else b)=b):=⟨fun h=>decide_false h,fun h=>decide_true h,fun _ _=>rfl,fun _ _=>rfl⟩
