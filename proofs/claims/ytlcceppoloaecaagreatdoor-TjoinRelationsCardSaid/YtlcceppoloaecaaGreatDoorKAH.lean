/- Parts of the proof, joined. No condition. -/
import Derived.Test.YtlcceppoloaecaaGreatDoorKAA
import Derived.Test.YtlcceppoloaecaaGreatDoorKAG
import Derived.Scope
import Derived.Test.YtlcceppoloaecaaGreatDoorKAF
import Derived.Laws.StructEq
import Derived.Test.YtlcceppoloaecaaGreatDoorProg
set_option linter.unusedSimpArgs false
set_option linter.unusedVariables false
namespace Go.Proofs.YtlcceppoloaecaaGreatDoor
open Go.RowKit
def swp (p i:Nat):Nat:=if i=p then p+1 else if i=p+1 then p else i
theorem Hg (p i:Nat):swp p (swp p i)=i:=by
 unfold swp
 by_cases h1:i=p
 ·rw [if_pos h1,if_neg (by omega),if_pos rfl];exact h1.symm
 ·rw [if_neg h1]
  by_cases h2:i=p+1
  ·rw [if_pos h2,if_pos rfl];exact h2.symm
  ·rw [if_neg h2,if_neg h1,if_neg h2]
def OW (p i:Nat) (o:Oper):Oper := { o with after:=if i=p+1 then o.after.push ⟨p, .data⟩ else o.after }
def Ou (p:Nat) (l:List Oper):List Oper:=l.mapIdx (OW p)
def Qn (p:Nat) (o:Oper):Oper := { o with after:=o.after.map fun e => { e with on:=swp p e.on } }
def DY (p:Nat) (l:List Oper):List Oper:=match l[p]?,l[p+1]? with
 | some a,some b=>(l.set p b).set (p+1) a
 | _,_=>l
def OA (p:Nat) (l:List Oper):List Oper:=(DY p l).mapIdx fun i o=>OW p i (Qn p o)
theorem Iq {p:Nat} {l:List Oper} (hp:p+1<l.length) (i:Nat):(DY p l)[swp p i]?=l[i]?:=by
 have h1:l[p]?=some l[p]:=Vl (by omega)
 have h2:l[p+1]?=some l[p+1]:=Vl hp
 unfold DY
 rw [h1,h2]
 simp only
 unfold swp
 by_cases e1:i=p
 ·subst e1
  rw [if_pos rfl,Vv (by simpa using hp),h1]
 ·rw [if_neg e1]
  by_cases e2:i=p+1
  ·subst e2
   rw [if_pos rfl,Vw (by omega),Vv (by omega),h2]
  ·rw [if_neg e2,Vw (by omega),Vw (by omega)]
theorem Im (p:Nat) (l:List Oper):(DY p l).length=l.length:=by unfold DY;split<;>simp
theorem RU (p:Nat) (l:List Oper):qi (fun i=>i) p (p+1) l (Ou p l):=by
 refine ⟨fun _=>rfl,fun i=>⟨fun o=>if i=p+1 then o.after.push ⟨p, .data⟩ else o.after,?_,fun o ho=>⟨fun e he=>?_,fun e he=>?_⟩⟩,by simp [Ou]⟩
 ·unfold Ou
  rw [List.getElem?_mapIdx]
  rfl
 ·show e∈_
  split
  ·simp [he]
  ·exact he
 ·split at he
  ·rename_i hi
   rw [Array.toList_push,VE,List.mem_singleton] at he
   rcases he with he|rfl
   ·exact .inl ⟨e,he,rfl⟩
   ·exact .inr ⟨hi,rfl⟩
  ·exact .inl ⟨e,he,rfl⟩
theorem Rk {p:Nat} {l:List Oper} (hp:p+1<l.length):qi (swp p) (p+1) p l (OA p l):=by
 refine ⟨Hg p,fun i=>⟨fun o=>if swp p i=p+1 then (o.after.map fun e => { e with on:=swp p e.on }).push ⟨p, .data⟩ else o.after.map fun e => { e with on:=swp p e.on }, ?_,fun o ho=>⟨fun e he=>?_,fun e he=>?_⟩⟩,by unfold OA;rw [List.length_mapIdx,Im]⟩
 ·unfold OA
  rw [List.getElem?_mapIdx,Iq hp]
  rfl
 ·have hm:({ e with on:=swp p e.on } : Edge)∈(o.after.map fun e => { e with on:=swp p e.on }).toList:=by
   rw [Array.toList_map];exact VK.2 ⟨e,he,rfl⟩
  split
  ·rw [Array.toList_push];exact List.mem_append_left _ hm
  ·exact hm
 ·have hback : ∀ e:Edge,e∈(o.after.map fun e => { e with on:=swp p e.on }).toList -> ∃ e'∈o.after.toList,e = { e' with on:=swp p e'.on } := fun e h=>by
   rw [Array.toList_map] at h
   obtain ⟨e',h1,h2⟩:=VK.1 h
   exact ⟨e',h1,h2.symm⟩
  split at he
  ·rename_i hi
   rw [Array.toList_push,VE,List.mem_singleton] at he
   rcases he with he|rfl
   ·exact .inl (hback e he)
   ·refine .inr ⟨?_,?_⟩
    ·rw [<- Hg p i,hi];unfold swp;rw [if_neg (by omega),if_pos rfl]
    ·show p=swp p (p+1);unfold swp;rw [if_neg (by omega),if_pos rfl]
  ·exact .inl (hback e he)
section
variable {P:Program} {ti:TI} {N n0:Nat}
theorem zJ (F:List Nat) (hti:TIok P ti) {Q:AX->Tm->List Ob->Prop} {T:Tm} {L:List Ob} {l:List Oper} (ds:List (Option Tmp)) (hds:l.map (·.dst)=ds) (hc:gX F ti l=true) (hF:Sv F T=true) (h:aj P ti N ds (Q .normal) l T L)
  (hn:n0<=L.length) {B:Nat->Prop} {R:PH} {γ:List Gh} {w:World} {a:Act} (hi:Inv B R γ L w) (hT:dJ N R γ L T a):wpAny P .any l.toArray (qG N n0 B Q R w γ L) l.length (Array.replicate l.length false) a { w with drawn:=w.drawn+1 } := by
 have hD:=Dp hc
 obtain ⟨vs,Ls,h1,h0,h2,h3⟩:=FV l T L h
 subst h0
 have hiD:Inv B R γ (Ls 0) { w with drawn:=w.drawn+1 } := ⟨hi.len,hi.val,fun id x g hx hg=>(hi.obj id x g hx hg).mv Mv.refl (fun _ _=>rfl) (fun _ _ _ h=>h),hi.inj,hi.new,hi.bsz⟩
 have heD:Ext B R R w { w with drawn:=w.drawn+1 } := ⟨⟨rfl,rfl,rfl,Vs _,fun _ _=>rfl⟩,PH.sub_refl _,fun _ _ _=>rfl⟩
 refine Sd hti hds (B:=B) hD h1 (Kv hF) h2 h3 (R0:=R) (γ0:=γ) (w0:=w) ?_ l.length (Array.replicate l.length false) 0 R γ a { w with drawn:=w.drawn+1 } ?_ ?_
 ·intro T' L' R' γ' w' a' q1 q2 q3 q4 q5
  exact ⟨.normal,T',L',R',γ',rfl,q1,q2,q3,q4,mQ.of hn q5⟩
 ·unfold mO
  exact Nat.le_trans List.countP_le_length (by simp)
 ·have hf : ∀ i:Nat,i<l.length->(Array.replicate l.length false)[i]?=some false:=fun i hi=>by simp [hi]
  have ht : ∀ i:Nat,(Array.replicate l.length false)[i]?≠some true:=by
   intro i e
   by_cases hi:i<l.length
   ·rw [hf i hi] at e;cases e
   ·rw [Array.getElem?_eq_none (by simp;omega)] at e;cases e
  exact ⟨hiD,hT.size,hT.defers,⟨by simp,fun i o _ e=>absurd e (ht i)⟩,by omega,fun c _ hc=>by omega,fun c o _ hoc _=>hf c (Vb.1 hoc).1,fun i o d v e=>absurd e (ht i),fun t x hx _=>hT.slot t x hx,heD,Mv.refl⟩
theorem Ji (F:List Nat) (hti:TIok P ti) {Q:AX->Tm->List Ob->Prop} {T:Tm} {L:List Ob} {id:Nat} {l:List Oper} (p:Nat) (hp:p+1<l.length) (hg:l.all (fun o=>o.guard.isNone)=true) (hmix:P.follows .mixedOrders=true) (hc1:gX F ti (Ou p l)=true) (hc2:gX F ti (OA p l)=true) (hF:Sv F T=true)
  (h1:aj P ti N ((Ou p l).map (·.dst)) (Q .normal) (Ou p l) T L) (h2:aj P ti N ((OA p l).map (·.dst)) (Q .normal) (OA p l) T L):Aw P N n0 (.region id l.toArray true) Q T L:=by
 intro hn B R γ w a hi hT
 refine wp_region_draw fun t=>?_
 have hs:Region.schedule (P.follows .mixedOrders) l.toArray t=Region.linearise.go .any l.toArray l.length t (Array.replicate l.length false) []:=by
  simp only [Region.schedule,hmix,Bool.true_or,if_true,Region.linearise,List.size_toArray]
 rw [hs]
 have hseq:=Oq (md := .any) l.toArray l.length t (Array.replicate l.length false)
 generalize Region.linearise.go .any l.toArray l.length t (Array.replicate l.length false) []=s at hseq
 have hgn : ∀ (i:Nat) o,l[i]?=some o->o.guard=none:=fun i o ho=>by
  have:=VW.1 hg o (Vi ho)
  simpa using this
 have hsw:Sw (swp p) (Array.replicate l.length false) (Array.replicate l.length false):=⟨fun i=>by
  by_cases hi:i<l.length
  ·have:swp p i<l.length:=by
    unfold swp
    by_cases e1:i=p
    ·rw [if_pos e1];exact hp
    ·rw [if_neg e1]
     by_cases e2:i=p+1
     ·rw [if_pos e2];omega
     ·rw [if_neg e2];exact hi
   simp [hi,this]
  ·have : ¬ swp p i<l.length:=by unfold swp;rw [if_neg (by omega),if_neg (by omega)];exact hi
   simp [hi,this]⟩
 have L1:=RU p l
 have L2:=Rk hp
 rcases Aj L1 L2 (by omega) l.length _ _ _ s ⟨fun _=>rfl⟩ hsw hseq with h|h
 ·refine qy L1 hgn s a _ (tT l.length (Array.replicate l.length false) _ a _ ?_ h)
  have:=zJ F hti _ rfl hc1 hF h1 hn hi hT
  rw [L1.len] at this
  exact this
 ·refine qy L2 hgn s a _ (tT l.length (Array.replicate l.length false) _ a _ ?_ h)
  have:=zJ F hti _ rfl hc2 hF h2 hn hi hT
  rw [L2.len] at this
  exact this
def r9 (N n0:Nat) (T:Tm) (L:List Ob) (T':Tm) (L':List Ob):Prop :=
 n0<=L.length->n0<=L'.length /\ ∀ (B:Nat->Prop) (R:PH) (γ:List Gh) (w:World) (a:Act),Inv B R γ L w->dJ N R γ L T a -> ∃ R' γ',Inv B R' γ' L' w/\dJ N R' γ' L' T' a/\Ext B R R' w w/\mQ n0 R R' γ γ' L L'
theorem r9.refl {T:Tm} {L:List Ob} : r9 N n0 T L T L:=fun hn=>⟨hn,fun _ R γ w _ hi hT=>⟨R,γ,hi,hT,Ext.refl _ _ _,mQ.of hn Mv.refl⟩⟩
theorem r9.trans {T T1 T2:Tm} {L L1 L2:List Ob} (h:r9 N n0 T L T1 L1) (k:r9 N n0 T1 L1 T2 L2):r9 N n0 T L T2 L2:=fun hn =>
 ⟨(k (h hn).1).1,fun B R γ w a hi hT=>by
  obtain ⟨R1,γ1,i1,t1,e1,m1⟩:=(h hn).2 B R γ w a hi hT
  obtain ⟨R2,γ2,i2,t2,e2,m2⟩:=(k (h hn).1).2 B R1 γ1 w a i1 t1
  exact ⟨R2,γ2,i2,t2,e1.trans e2,m1.trans hi.len m2⟩⟩
theorem r9.less {T T':Tm} {L:List Ob} (h : ∀ t x,T'.lookup t=some x->T.lookup t=some x):r9 N n0 T L T' L:=fun hn =>
 ⟨hn,fun _ R γ w _ hi hT=>⟨R,γ,hi,⟨hT.size,hT.defers,fun t x hx=>hT.slot t x (h t x hx)⟩,Ext.refl _ _ _,mQ.of hn Mv.refl⟩⟩
theorem r9.box {T:Tm} {L:List Ob} (id:Nat) {cs:List SV} {ts:List AC} (hL:L[id]?=some (.box cs)) (hn:gY cs=some ts):r9 N n0 T L (T.map fun p=>(p.1,Tj id ts p.2)) (L.set id .dead):=fun hn0 =>
 ⟨by simpa using hn0,fun B R γ w a hi hT=>by
  obtain ⟨R',hI,hE,hM,hS⟩:=nE hi hL hn
  refine ⟨R',γ,hI,⟨hT.size,hT.defers,fun t x hx=>?_⟩,hE,mQ.of hn0 hM⟩
  obtain ⟨y,hy,rfl⟩:=g_ hx
  obtain ⟨u,h1,h2⟩:=hT.slot t y hy
  exact ⟨u,h1,Gb hS hM h2⟩⟩
theorem r9.row {T:Tm} {L:List Ob} (id:Nat) {ver k:Nat} {es:List (List SV)} {cs:List (List AC)} (hL:L[id]?=some (.row ver es k)) (hn:iE es=some cs):r9 N n0 T L (T.map fun p=>(p.1,UH id ver cs p.2)) (L.set id .dead):=fun hn0 =>
 ⟨by simpa using hn0,fun B R γ w a hi hT=>by
  obtain ⟨R',γ',hI,hE,hM,hS⟩:=nT hi hL hn
  refine ⟨R',γ',hI,⟨hT.size,hT.defers,fun t x hx=>?_⟩,hE,mQ.of hn0 hM⟩
  obtain ⟨y,hy,rfl⟩:=g_ hx
  obtain ⟨u,h1,h2⟩:=hT.slot t y hy
  refine ⟨u,h1,?_⟩
  cases y with
  | one x=>exact vv hS hM h2
  | agg xs =>
   obtain ⟨vs,rfl,hsz,hc⟩:=h2
   refine ⟨vs,rfl,by rw [hsz,Vo],fun j u x hu hx=>?_⟩
   rw [Vz] at hx
   cases hy:xs[j]? with
   | none=>rw [hy] at hx;cases hx
   | some y=>rw [hy] at hx;cases hx;exact vv hS hM (hc j u y hu hy)
  | tup ps=>exact AV.mv (x := .tup ps) hM h2
  | tupS xs=>exact AV.mv (x := .tupS xs) hM h2
  | undef=>exact AV.mv (x := .undef) hM h2⟩
theorem L6 {c:Code} {Q:AX->Tm->List Ob->Prop} {T:Tm} {L:List Ob} (h:Aw P N n0 c (fun x T' L' => ∃ T2 L2,r9 N n0 T' L' T2 L2/\Q x T2 L2) T L):Aw P N n0 c Q T L:=by
 intro hn B R γ w a hi hT
 refine wp_mono (h hn B R γ w a hi hT) ?_
 rintro e a1 w1 ⟨x,T1,L1,R1,γ1,rfl,⟨T2,L2,g,q⟩,i1,t1,e1,m1⟩
 obtain ⟨R2,γ2,i2,t2,e2,m2⟩:=(g m1.lo').2 B R1 γ1 w1 a1 i1 t1
 exact ⟨x,T2,L2,R2,γ2,rfl,q,i2,t2,e1.trans e2,m1.trans hi.len m2⟩
theorem Ba {Q:AX->Tm->List Ob->Prop} {c:Code} {T:Tm} {L:List Ob} (t ver k:Nat) (ht:T.lookup t=some (.one .emp)) (hv:65536<=ver) (h:Aw P N n0 c Q ((t, .one (.sl L.length ver 0 0))::T) (L++[.row ver [] k])):Aw P N n0 c Q T L:=by
 intro hn B R γ w a hi hT
 have hm:Mv R R γ (γ++[.none]) L (L++[.row ver [] k]):=Mv.push _ _ hi.len
 refine wp_mono (h (by simp;omega) B R (γ++[.none]) w a (hi.rowTok ver k) ⟨hT.size,hT.defers,fun t' x hx=>?_⟩) fun _ _ _ hh=>hh.ext (Ext.refl _ _ _) hi.len (mQ.of hn hm)
 rw [List.lookup_cons] at hx
 by_cases e:t'=t
 ·subst e
  simp at hx;subst hx
  obtain ⟨u,h1,a0,rfl⟩:=hT.slot t' _ ht
  refine ⟨_,h1,⟨rfl,rfl⟩,by simp,fun ver2 es2 k2 e2=>?_⟩
  rw [Vj (Vs _)] at e2
  simp at e2
  obtain ⟨q1,q2,q3⟩:=e2
  subst q1 q2 q3
  exact ⟨Vs _,fun _=>⟨by simp, .none,by rw [<- hi.len];simp,⟨a0,rfl,fun h=>by omega⟩,rfl,rfl⟩⟩
 ·have e':(t'==t)=false:=by simpa using e
  rw [e'] at hx
  obtain ⟨u,h1,h2⟩:=hT.slot t' x hx
  exact ⟨u,h1,AV.mv hm h2⟩
end
mutual
def lh:AC->AC->Bool
 | .nul k, .nul k'=>decide (k=k')
 | .bool b, .bool b'=>decide (b=b')
 | .int k n, .int k' n'=>decide (k=k')&&decide (n=n')
 | .str s, .str s'=>decide (s=s')
 | .lst es, .lst es'=>xE es es'
 | .ref cs, .ref cs'=>Cr cs cs'
 | .fn f cs, .fn f' cs'=>decide (f=f')&&Cr cs cs'
 | _,_=>false
def Cr:List AC->List AC->Bool
 | [],[]=>true
 | x::l,y::m=>lh x y&&Cr l m
 | _,_=>false
def xE:List (List AC)->List (List AC)->Bool
 | [],[]=>true
 | x::l,y::m=>Cr x y&&xE l m
 | _,_=>false
end
mutual
theorem vG : ∀ (x y:AC),lh x y=true->x=y
 | .nul k,y,h=>by cases y<;>first|(simp [lh] at h;done)|(simp [lh] at h;rw [h])
 | .bool k,y,h=>by cases y<;>first|(simp [lh] at h;done)|(simp [lh] at h;rw [h])
 | .int k n,y,h=>by cases y<;>first|(simp [lh] at h;done)|(simp [lh] at h;rw [h.1,h.2])
 | .str k,y,h=>by cases y<;>first|(simp [lh] at h;done)|(simp [lh] at h;rw [h])
 | .lst k,y,h=>by cases y<;>first|(simp [lh] at h;done)|(simp [lh] at h;rw [yz _ _ h])
 | .ref k,y,h=>by cases y<;>first|(simp [lh] at h;done)|(simp [lh] at h;rw [rO _ _ h])
 | .fn k n,y,h=>by cases y<;>first|(simp [lh] at h;done)|(simp [lh] at h;rw [h.1,rO _ _ h.2])
theorem rO : ∀ (x y:List AC),Cr x y=true->x=y
 | [],y,h=>by cases y<;>first|rfl|(simp [Cr] at h;done)
 | x::l,y,h=>by
  cases y with
  | nil=>simp [Cr] at h
  | cons y m=>simp [Cr] at h;rw [vG _ _ h.1,rO _ _ h.2]
theorem yz : ∀ (x y:List (List AC)),xE x y=true->x=y
 | [],y,h=>by cases y<;>first|rfl|(simp [xE] at h;done)
 | x::l,y,h=>by
  cases y with
  | nil=>simp [xE] at h
  | cons y m=>simp [xE] at h;rw [rO _ _ h.1,yz _ _ h.2]
end
def qF {α:Type} (e:α->α->Bool):List α->List α->Bool
 | [],[]=>true
 | x::l,y::m=>e x y&&qF e l m
 | _,_=>false
theorem fZ {α:Type} {e:α->α->Bool} (he : ∀ x y,e x y=true->x=y) : ∀ (l m:List α),qF e l m=true->l=m
 | [],m,h=>by cases m<;>first|rfl|(simp [qF] at h;done)
 | x::l,m,h=>by
  cases m with
  | nil=>simp [qF] at h
  | cons y m=>simp [qF] at h;rw [he _ _ h.1,fZ he _ _ h.2]
def zB:Cap->Cap->Bool
 | .c x, .c y=>lh x y
 | .ptr a b, .ptr c d=>decide (a=c)&&decide (b=d)
 | _,_=>false
theorem La : ∀ (x y:Cap),zB x y=true->x=y
 | .c x,y,h=>by cases y<;>first|(simp [zB] at h;done)|(simp [zB] at h;rw [vG _ _ h])
 | .ptr a b,y,h=>by cases y<;>first|(simp [zB] at h;done)|(simp [zB] at h;rw [h.1,h.2])
def jS:SV->SV->Bool
 | .c x, .c y=>lh x y
 | .emp, .emp=>true
 | .own es t, .own es' t'=>xE es es'&&decide (t=t')
 | .ptr a b, .ptr c d=>decide (a=c)&&decide (b=d)
 | .sl a b c d, .sl a' b' c' d'=>decide (a=a')&&(decide (b=b')&&(decide (c=c')&&decide (d=d')))
 | .ep a b c d, .ep a' b' c' d'=>decide (a=a')&&(decide (b=b')&&(decide (c=c')&&decide (d=d')))
 | .mp a, .mp b=>decide (a=b)
 | .clo f cs, .clo g ds=>decide (f=g)&&qF zB cs ds
 | _,_=>false
theorem rR : ∀ (x y:SV),jS x y=true->x=y
 | .c x,y,h=>by cases y<;>first|(simp [jS] at h;done)|(simp [jS] at h;rw [vG _ _ h])
 | .emp,y,h=>by cases y<;>first|rfl|(simp [jS] at h;done)
 | .own a b,y,h=>by cases y<;>first|(simp [jS] at h;done)|(simp [jS] at h;rw [yz _ _ h.1,h.2])
 | .ptr a b,y,h=>by cases y<;>first|(simp [jS] at h;done)|(simp [jS] at h;rw [h.1,h.2])
 | .sl a b c d,y,h=>by cases y<;>first|(simp [jS] at h;done)|(simp [jS] at h;rw [h.1,h.2.1,h.2.2.1,h.2.2.2])
 | .ep a b c d,y,h=>by cases y<;>first|(simp [jS] at h;done)|(simp [jS] at h;rw [h.1,h.2.1,h.2.2.1,h.2.2.2])
 | .mp a,y,h=>by cases y<;>first|(simp [jS] at h;done)|(simp [jS] at h;rw [h])
 | .clo f cs,y,h=>by cases y<;>first|(simp [jS] at h;done)|(simp [jS] at h;rw [h.1,fZ La _ _ h.2])
def Fz:PV->PV->Bool
 | .one x, .one y=>lh x y
 | .agg x, .agg y=>Cr x y
 | _,_=>false
theorem Hu : ∀ (x y:PV),Fz x y=true->x=y
 | .one x,y,h=>by cases y<;>first|(simp [Fz] at h;done)|(simp [Fz] at h;rw [vG _ _ h])
 | .agg x,y,h=>by cases y<;>first|(simp [Fz] at h;done)|(simp [Fz] at h;rw [rO _ _ h])
def xR:AV->AV->Bool
 | .one x, .one y=>jS x y
 | .agg x, .agg y=>qF jS x y
 | .tup x, .tup y=>qF Fz x y
 | .tupS x, .tupS y=>qF jS x y
 | .undef, .undef=>true
 | _,_=>false
theorem NR : ∀ (x y:AV),xR x y=true->x=y
 | .one x,y,h=>by cases y<;>first|(simp [xR] at h;done)|(simp [xR] at h;rw [rR _ _ h])
 | .agg x,y,h=>by cases y<;>first|(simp [xR] at h;done)|(simp [xR] at h;rw [fZ rR _ _ h])
 | .tup x,y,h=>by cases y<;>first|(simp [xR] at h;done)|(simp [xR] at h;rw [fZ Hu _ _ h])
 | .tupS x,y,h=>by cases y<;>first|(simp [xR] at h;done)|(simp [xR] at h;rw [fZ rR _ _ h])
 | .undef,y,h=>by cases y<;>first|rfl|(simp [xR] at h;done)
def zl:Ob->Ob->Bool
 | .box x, .box y=>qF jS x y
 | .spare a b, .spare c d=>decide (a=c)&&decide (b=d)
 | .row v es k, .row v' es' k'=>decide (v=v')&&(qF (qF jS) es es'&&decide (k=k'))
 | .dead, .dead=>true
 | _,_=>false
theorem MV : ∀ (x y:Ob),zl x y=true->x=y
 | .box x,y,h=>by cases y<;>first|(simp [zl] at h;done)|(simp [zl] at h;rw [fZ rR _ _ h])
 | .spare a b,y,h=>by cases y<;>first|(simp [zl] at h;done)|(simp [zl] at h;rw [h.1,h.2])
 | .row v es k,y,h=>by cases y<;>first|(simp [zl] at h;done)|(simp [zl] at h;rw [h.1,fZ (fZ rR) _ _ h.2.1,h.2.2])
 | .map kvs,y,h=>by cases y<;>(simp [zl] at h;done)
 | .dead,y,h=>by cases y<;>first|rfl|(simp [zl] at h;done)
def Ro:Tm->Tm->Bool:=qF fun p q=>decide (p.1=q.1)&&xR p.2 q.2
theorem ML (x y:Tm) (h:Ro x y=true):x=y:=fZ (fun p q hh=>by
 rw [Vu] at hh
 obtain ⟨a,b⟩:=p
 obtain ⟨c,d⟩:=q
 rw [show a=c from VF hh.1,show b=d from NR _ _ hh.2]) x y h
open Go.RowKit Go.MapKept
theorem TIok.flags {P:Program} {ti:TI} (h:TIok P ti) (d s:Bool):TIok P { ti with dyn:=d,soft:=s } := ⟨h.size,h.agg,h.elem,h.field,h.zero,h.bytes,h.kind,h.struct,h.zok,h.eqs⟩
theorem nz {P:Program} {N n0:Nat} {Q:AX->Tm->List Ob->Prop} {c:Code} {T:Tm} {L:List Ob} (h:Aw P N n0 c Q T L):Aw P N n0 (.scope c) Q T L:=fun hn B R γ w a hi hT =>
 wp_scope_straight (wp_mono (h hn B R γ w a hi hT) fun e a1 w1 hp=>by
  obtain ⟨x,T1,L1,R1,γ1,rfl,q⟩:=hp
  cases x with
  | normal=>exact ⟨.normal,T1,L1,R1,γ1,rfl,q⟩
  | exit id=>exact ⟨.exit id,T1,L1,R1,γ1,rfl,q⟩
  | ret=>exact ⟨.ret,T1,L1,R1,γ1,rfl,q⟩)
structure Cx where
 P:Program
 ti:TI
 xs:ER
 row:FuncId->Nat->Bool
 frz:FuncId->Nat->List Nat
 flg:FuncId->Nat->Bool × Bool
 orc:FuncId->List PV->Option CV
 bad:FuncId->Bool
 fz:FuncId->Nat->List Nat:=fun _ _=>[]
 sw:FuncId->Nat->Option (Nat × List Nat):=fun _ _=>none
def OX (n:Nat):Cap->Bool
 | .ptr id _=>Nat.blt id n
 | .c _=>true
def BL (n:Nat):List Cap->Bool
 | []=>true
 | x::xs=>OX n x&&BL n xs
def Pk (n:Nat):SV->Bool
 | .own _ t=>Nat.blt t n
 | .ptr id _=>Nat.blt id n
 | .sl id _ _ _=>Nat.blt id n
 | .ep id _ _ _=>Nat.blt id n
 | .mp id=>Nat.blt id n
 | .clo _ caps=>BL n caps
 | .c _=>true
 | .emp=>true
def wU (n:Nat):List SV->Bool
 | []=>true
 | x::xs=>Pk n x&&wU n xs
def Bl (n:Nat):List (List SV)->Bool
 | []=>true
 | x::xs=>wU n x&&Bl n xs
def KL (n:Nat):AV->Bool
 | .one x=>Pk n x
 | .agg xs=>wU n xs
 | .tup _=>true
 | .tupS xs=>wU n xs
 | .undef=>true
def Gj (n:Nat):List AV->Bool
 | []=>true
 | x::xs=>KL n x&&Gj n xs
def Gx (n:Nat):List (AC × AV)->Bool
 | []=>true
 | x::xs=>KL n x.2&&Gx n xs
def Ry (n:Nat):Ob->Bool
 | .box cs=>wU n cs
 | .row _ es _=>Bl n es
 | .map kvs=>Gx n kvs
 | .spare _ _=>true
 | .dead=>true
def zw (n:Nat):List Ob->Bool
 | []=>true
 | x::xs=>Ry n x&&zw n xs
theorem Ld {n:Nat} {x:Cap} (h:OX n x=true):x.below n:=by
 cases x with
 | c _=>trivial
 | ptr id _=>exact Vm h
theorem z8 {n:Nat} : ∀ {xs:List Cap}, BL n xs=true -> ∀ x∈xs,x.below n
 | [],_,x,hx=>by cases hx
 | y::xs,h,x,hx=>by
  rw [BL,Vu] at h
  rcases Vt.1 hx with rfl|hx
  ·exact Ld h.1
  ·exact z8 h.2 x hx
theorem Gw {n:Nat} {x:SV} (h:Pk n x=true):x.below n:=by
 cases x with
 | c _=>trivial
 | emp=>trivial
 | own _ t=>exact Vm h
 | ptr id _=>exact Vm h
 | sl id _ _ _=>exact Vm h
 | ep id _ _ _=>exact Vm h
 | mp id=>exact Vm h
 | clo f caps=>exact z8 h
theorem nQ {n:Nat} : ∀ {xs:List SV}, wU n xs=true -> ∀ x∈xs,x.below n
 | [],_,x,hx=>by cases hx
 | y::xs,h,x,hx=>by
  rw [wU,Vu] at h
  rcases Vt.1 hx with rfl|hx
  ·exact Gw h.1
  ·exact nQ h.2 x hx
theorem Am {n:Nat} : ∀ {xs:List (List SV)}, Bl n xs=true -> ∀ e∈xs, ∀ x∈e,x.below n
 | [],_,x,hx=>by cases hx
 | y::xs,h,x,hx=>by
  rw [Bl,Vu] at h
  rcases Vt.1 hx with rfl|hx
  ·exact nQ h.1
  ·exact Am h.2 x hx
theorem u7 {n:Nat} {x:AV} (h:KL n x=true):x.below n:=by
 cases x with
 | one x=>exact Gw h
 | agg xs=>exact nQ h
 | tup _=>trivial
 | tupS xs=>exact nQ h
 | undef=>trivial
theorem Eg {n:Nat} : ∀ {xs:List AV}, Gj n xs=true -> ∀ x∈xs,x.below n
 | [],_,x,hx=>by cases hx
 | y::xs,h,x,hx=>by
  rw [Gj,Vu] at h
  rcases Vt.1 hx with rfl|hx
  ·exact u7 h.1
  ·exact Eg h.2 x hx
theorem EF {n:Nat} : ∀ {xs:List (AC × AV)}, Gx n xs=true -> ∀ p∈xs,p.2.below n
 | [],_,x,hx=>by cases hx
 | y::xs,h,x,hx=>by
  rw [Gx,Vu] at h
  rcases Vt.1 hx with rfl|hx
  ·exact u7 h.1
  ·exact EF h.2 x hx
theorem Nn {n:Nat} {x:Ob} (h:Ry n x=true):x.below n:=by
 cases x with
 | box cs=>exact nQ h
 | row _ es _=>exact Am h
 | map kvs=>exact EF h
 | spare _ _=>trivial
 | dead=>trivial
theorem qZ {n:Nat} : ∀ {xs:List Ob}, zw n xs=true -> ∀ x∈xs,x.below n
 | [],_,x,hx=>by cases hx
 | y::xs,h,x,hx=>by
  rw [zw,Vu] at h
  rcases Vt.1 hx with rfl|hx
  ·exact Nn h.1
  ·exact qZ h.2 x hx
theorem gQ {n i:Nat} (h:i<n):il (List.range n) i=i:=by
 unfold il
 rw [VY,List.getElem?_range h];rfl
theorem Cap.ren_range {n:Nat} {x:Cap} (h:x.below n):x.ren (List.range n)=x:=by
 cases x with
 | c _=>rfl
 | ptr id off=>show Cap.ptr (il _ id) off=_;rw [gQ h]
theorem eP {α:Type} {f:α->α} : ∀ {l:List α}, (∀ x∈l,f x=x)->l.map f=l
 | [],_=>rfl
 | x::l,h=>by rw [Vn,h x (VU ..),eP fun y hy=>h y (VA _ hy)]
theorem SV.ren_range {n:Nat} {x:SV} (h:x.below n):x.ren (List.range n)=x:=by
 cases x with
 | c _=>rfl
 | emp=>rfl
 | own es t=>show SV.own es (il _ t)=_;rw [gQ h]
 | ptr id off=>show SV.ptr (il _ id) off=_;rw [gQ h]
 | sl id v l m=>show SV.sl (il _ id) v l m=_;rw [gQ h]
 | ep id v i o=>show SV.ep (il _ id) v i o=_;rw [gQ h]
 | mp id=>show SV.mp (il _ id)=_;rw [gQ h]
 | clo f caps=>show SV.clo f (caps.map _)=_;rw [eP fun x hx=>Cap.ren_range (h x hx)]
theorem AV.ren_range {n:Nat} {x:AV} (h:x.below n):x.ren (List.range n)=x:=by
 cases x with
 | one x=>show AV.one (x.ren _)=_;rw [SV.ren_range h]
 | agg xs=>show AV.agg (xs.map _)=_;rw [eP fun x hx=>SV.ren_range (h x hx)]
 | tup _=>rfl
 | tupS xs=>show AV.tupS (xs.map _)=_;rw [eP fun x hx=>SV.ren_range (h x hx)]
 | undef=>rfl
theorem Ob.ren_range {n:Nat} {x:Ob} (h:x.below n):x.ren (List.range n)=x:=by
 cases x with
 | box cs=>show Ob.box (cs.map _)=_;rw [eP fun x hx=>SV.ren_range (h x hx)]
 | row v es k=>show Ob.row v (es.map (List.map _)) k=_;rw [eP fun e he=>eP fun x hx=>SV.ren_range (h e he x hx)]
 | map kvs=>show Ob.map (kvs.map fun p=>(p.1,p.2.ren (List.range n)))=_;rw [eP (f:=fun p:AC × AV=>(p.1,p.2.ren (List.range n))) fun p hp=>by show (p.1,p.2.ren _)=p;rw [AV.ren_range (h p hp)]]
 | spare _ _=>rfl
 | dead=>rfl
theorem rP {n m:Nat} (h:n<=m):cz (List.range n) n m=List.range m:=by
 unfold cz qB
 rw [List.length_range, <- List.range_add,Nat.add_sub_cancel' h]
theorem Df {L L1:List Ob} (h:L.length<=L1.length) (hb : ∀ x∈L1,x.below L1.length):joinL (List.range L.length) L L1=L1:=by
 unfold joinL join
 rw [rP h,eP fun x hx=>Ob.ren_range (hb x hx),List.length_range]
 have:gF L (List.range L.length) L1=L1.take L.length:=by
  apply List.ext_getElem?
  intro i
  by_cases hi:i<L.length
  ·rw [tQ _ L L1 i i List.nodup_range (fun k hk=>List.mem_range.1 hk) (List.getElem?_range hi) (by omega),VG,if_pos hi]
  ·rw [VV (by rw [bV];omega),VV (by rw [VX];omega)]
 rw [this,List.take_append_drop]
structure iV (P:Program) (g:FuncId) (L:List Ob) (asx:List AV) (L1:List Ob) (r:AV):Prop where
 run:Run P g L asx L1 r
 obb : ∀ x∈L,x.below L.length
 argb : ∀ x∈asx,x.below L.length
 le:L.length<=L1.length
 ob1 : ∀ x∈L1,x.below L1.length
 val:r.below L1.length
theorem iV.fits {P:Program} {g:FuncId} {L:List Ob} {asx:List AV} {L1:List Ob} {r:AV} (h:iV P g L asx L1 r):iI (List.range L.length) L asx L:=by
 refine ⟨List.length_range,List.nodup_range,fun i x hx=>?_,h.obb,h.argb⟩
 have hi:i<L.length:=(Vb.1 hx).1
 rw [gQ hi,hx,Ob.ren_range (h.obb x (Vi hx))]
abbrev CP:=FuncId->List PV->Option CV
abbrev CR:=FuncId->List Ob->List AV->Option (List Ob × AV)
def yl:Op->Option (Operand × List Operand)
 | .call { callee := .value f,args, .. } => some (f,args.toList)
 | _=>none
def LD (ti:TI) (cp:CP) (cr:CR) (ρ:Operand->Option AV) (L:List Ob) (f:Operand) (args:List Operand):Option (AV × List Ob) :=
 match ρ f with
 | some (.one (.c (.fn g cs)))=>match ti.owns g with
  | false=>match bT ρ args with
   | some ps=>match cp g (ps++cs.map .one) with
    | some r=>some (r.av,L)
    | none=>none
   | none=>none
  | true=>match GV ti f,JP ρ args with
   | true,some vs=>match cr g L (vs++cs.map fun x => .one (.c x)) with
    | some (L1,r)=>some (r,L1)
    | none=>none
   | _,_=>none
 | some (.one (.clo g caps))=>match GV ti f,JP ρ args with
  | true,some vs=>match cr g L (vs++caps.map Cap.av) with
   | some (L1,r)=>some (r,L1)
   | none=>none
  | _,_=>none
 | _=>none
def LQ (P:Program) (ti:TI) (xs:ER) (rowB:Bool) (ρ:Operand->Option AV) (L:List Ob) (op:Op):Option (AV × List Ob) :=
 match aR ti op&&(!ti.soft||(Nat.beq (sk op) 0||Nat.beq (sk op) 4)) with
 | true=>Dy P ti xs rowB ρ L op
 | false=>none
def O8 (cx:Cx) (ti:TI) (cp:CP) (cr:CR) (rowB:Bool) (ρ:Operand->Option AV) (L:List Ob) (op:Op):Option (AV × List Ob) :=
 match JU ti ρ L op with
 | some v=>some (v,L)
 | none=>match yl op with
  | some (f,args)=>match LD ti cp cr ρ L f args with
   | some r=>some r
   | none=>LQ cx.P ti cx.xs rowB ρ L op
  | none=>match (match rowB with|true=>none|false=>NY ti ρ op) with
   | some v=>some (v,L)
   | none=>match rowB with
    | true=>match LQ cx.P ti cx.xs rowB ρ L op with
     | some r=>some r
     | none=>match NY ti ρ op with
      | some v=>some (v,L)
      | none=>NL ti ρ L op
    | false=>match NL ti ρ L op with
     | some r=>some r
     | none=>LQ cx.P ti cx.xs rowB ρ L op
theorem F3 {P:Program} {ti:TI} {xs:ER} {rowB:Bool} {ρ:Operand->Option AV} {L L':List Ob} {op:Op} {v:AV} (hk:sk op=4) (h:Dy P ti xs rowB ρ L op=some (v,L')):L'=L:=by
 unfold Dy at h
 split at h
 all_goals first|(exfalso;cases hk;done)|skip
 all_goals repeat' (first|(cases h;done)|(cases h;rfl)|(obtain ⟨e,_⟩:=aC h;cases e;rfl)|split at h)
theorem Jy {op:Op} {f:Operand} {args:List Operand} (h:yl op=some (f,args)) : ∃ asx ts,op = .call { callee := .value f,args:=asx,argTypes:=ts } /\ args=asx.toList:=by
 unfold yl at h
 split at h
 ·cases h;exact ⟨_,_,rfl,rfl⟩
 ·cases h
theorem CJ {P:Program} {ti:TI} {xs:ER} {rowB:Bool} {ρ:Operand->Option AV} {L L':List Ob} {op:Op} {v:AV} {K:AV->List Ob->Prop} (hti:TIok P ti) (hne:sZ P xs) (h:LQ P ti xs rowB ρ L op=some (v,L')) (hK:K v L'):fA P ti ρ L K op:=by
 unfold LQ at h
 split at h
 ·rename_i h1
  rw [Vu] at h1
  refine .inr (.inr (.inr (.inr (.inr (.inr (.inr ⟨v,L',⟨h1.1,fun hs=>?_⟩,LZ hti hne h,hK⟩))))))
  have h2:=h1.2
  rw [hs,Bool.not_true,Bool.false_or,Bool.or_eq_true] at h2
  rcases h2 with h2|h2
  ·exact .inl (Nat.eq_of_beq_eq_true h2)
  ·exact .inr ⟨Nat.eq_of_beq_eq_true h2,F3 (Nat.eq_of_beq_eq_true h2) h⟩
 ·cases h
theorem zQ {P:Program} {ti:TI} {ρ:Operand->Option AV} {L L1:List Ob} {op:Op} {g:FuncId} {asx:List AV} {r:AV} {K:AV->List Ob->Prop} (hp:dN ti ρ op=some (g,asx)) (h:iV P g L asx L1 r) (hK:K r L1):fA P ti ρ L K op:=by
 refine .inr (.inr (.inr (.inr (.inr (.inr (.inl ⟨List.range L.length,g,L,asx,L1,r,?_,h.fits,h.run,?_⟩))))))
 ·rw [hp,eP fun x hx=>AV.ren_range (h.argb x hx)]
 ·rw [rP h.le,AV.ren_range h.val,Df h.le h.ob1];exact hK
theorem MO {cx:Cx} {ti:TI} {cp:CP} {cr:CR} {rowB:Bool} {ρ:Operand->Option AV} {L L':List Ob} {op:Op} {v:AV} {K:AV->List Ob->Prop} (hti:TIok cx.P ti) (hne:sZ cx.P cx.xs)
  (hcp : ∀ g ps r,cp g ps=some r->Pure cx.P g ps r) (hcr : ∀ g L asx L1 r,cr g L asx=some (L1,r)->iV cx.P g L asx L1 r)
  (h:O8 cx ti cp cr rowB ρ L op=some (v,L')) (hK:K v L'):fA cx.P ti ρ L K op:=by
 unfold O8 at h
 split at h
 ·rename_i v' h1
  cases h
  obtain ⟨φ,h2,h3⟩:=K5 h1
  exact .inl ⟨_,φ,h2,h3,hK⟩
 ·split at h
  ·rename_i f args hc
   obtain ⟨asx,ts,rfl,rfl⟩:=Jy hc
   split at h
   ·rename_i r h1
    cases h
    unfold LD at h1
    split at h1
    ·rename_i g cs hf
     split at h1
     ·split at h1
      ·rename_i ps hps
       split at h1
       ·rename_i r hr
        cases h1
        exact .inr (.inr (.inr (.inl ⟨g,_,r,by simp only [lH,hf,hps,Option.map_some],hcp _ _ _ hr,hK⟩)))
       ·cases h1
      ·cases h1
     ·split at h1
      ·rename_i vs hR hvs
       split at h1
       ·rename_i L1 r hr
        cases h1
        exact zQ (by simp only [dN,hf,hvs,hR]) (hcr _ _ _ _ _ hr) hK
       ·cases h1
      ·cases h1
    ·rename_i g caps hf
     split at h1
     ·rename_i vs hR hvs
      split at h1
      ·rename_i L1 r hr
       cases h1
       exact zQ (by simp only [dN,hf,hvs,hR]) (hcr _ _ _ _ _ hr) hK
      ·cases h1
     ·cases h1
    ·cases h1
   ·exact CJ hti hne h hK
  ·split at h
   ·rename_i v' h1
    cases h
    cases rowB with
    | true=>cases h1
    | false =>
     obtain ⟨φ,h2,h3⟩:=GK h1
     exact .inr (.inl ⟨_,φ,h2,h3,hK⟩)
   ·split at h
    ·split at h
     ·rename_i r h1
      cases h
      exact CJ hti hne h1 hK
     ·split at h
      ·rename_i v' h1
       cases h
       obtain ⟨φ,h2,h3⟩:=GK h1
       exact .inr (.inl ⟨_,φ,h2,h3,hK⟩)
      ·obtain ⟨φ,h2,h3⟩:=GU h
       exact .inr (.inr (.inl ⟨_,_,φ,h2,h3,hK⟩))
    ·split at h
     ·rename_i r h1
      cases h
      obtain ⟨φ,h2,h3⟩:=GU h1
      exact .inr (.inr (.inl ⟨_,_,φ,h2,h3,hK⟩))
     ·exact CJ hti hne h hK
def rowOf (cx:Cx) (f:FuncId):Option Tmp->Bool
 | some d=>cx.row f d
 | none=>false
def Q4 (N:Nat):Option Tmp->Bool
 | some d=>Nat.blt d N
 | none=>true
theorem Gu {N:Nat} {d:Option Tmp} (h:Q4 N d=true):MB N d:=by
 cases d with
 | none=>trivial
 | some d=>exact Vm h
def xC (cx:Cx) (ti:TI) (cp:CP) (cr:CR) (f:FuncId) (N:Nat) (ds:List (Option Tmp)):List Oper->Tm->List Ob->Option (Tm × List Ob)
 | [],T,L=>some (T,L)
 | o::rest,T,L=>match Q4 N o.dst,fT ds T o.guard with
  | true,some true=>match O8 cx ti cp cr (rowOf cx f o.dst) (look T) L o.op with
   | some (v,L')=>xC cx ti cp cr f N ds rest (o7 T o.dst v) L'
   | none=>none
  | true,some false=>xC cx ti cp cr f N ds rest (o7 T o.dst .undef) L
  | _,_=>none
theorem ko {cx:Cx} {ti:TI} {cp:CP} {cr:CR} {f:FuncId} {N:Nat} {ds:List (Option Tmp)} (hti:TIok cx.P ti) (hne:sZ cx.P cx.xs)
  (hcp : ∀ g ps r,cp g ps=some r->Pure cx.P g ps r) (hcr : ∀ g L asx L1 r,cr g L asx=some (L1,r)->iV cx.P g L asx L1 r) {K:Tm->List Ob->Prop} :
  ∀ {l:List Oper} {T T':Tm} {L L':List Ob}, xC cx ti cp cr f N ds l T L=some (T',L')->K T' L'->aj cx.P ti N ds K l T L
 | [],T,T',L,L',h,hK=>by cases h;exact hK
 | o::rest,T,T',L,L',h,hK=>by
  unfold xC at h
  split at h
  ·rename_i hd hg
   split at h
   ·rename_i v L1 h1
    exact ⟨Gu hd,dA hg (MO hti hne hcp hcr h1 (ko hti hne hcp hcr h hK))⟩
   ·cases h
  ·rename_i hd hg
   exact ⟨Gu hd,vW hg (ko hti hne hcp hcr h hK)⟩
  ·cases h
def PL:List Cap->List Nat
 | []=>[]
 | .ptr id _::l=>id::PL l
 | .c _::l=>PL l
def Q5:SV->List Nat
 | .ptr id _=>[id]
 | .sl id _ _ _=>[id]
 | .clo _ caps=>PL caps
 | _=>[]
def OG:List SV->List Nat
 | []=>[]
 | x::l=>Q5 x++OG l
def TE:AV->List Nat
 | .one x=>Q5 x
 | .agg xs=>OG xs
 | _=>[]
def vQ (T:Tm) (L:List Ob) (id:Nat):Tm × List Ob :=
 match L[id]? with
 | some (.row ver es _)=>match iE es with
  | some cs=>(T.map (fun p=>(p.1,UH id ver cs p.2)),L.set id .dead)
  | none=>(T,L)
 | some (.box cs)=>match gY cs with
  | some ts=>(T.map (fun p=>(p.1,Tj id ts p.2)),L.set id .dead)
  | none=>(T,L)
 | _=>(T,L)
def tL:List Nat->Tm->List Ob->Tm × List Ob
 | [],T,L=>(T,L)
 | id::l,T,L=>match vQ T L id with
  | (T',L')=>tL l T' L'
def JW (T:Tm) (L:List Ob) (t:Nat):Tm × List Ob :=
 match T.lookup t with
 | some v=>tL (TE v) T L
 | none=>(T,L)
def Cg:List Nat->Tm->List Ob->Option (Tm × List Ob)
 | [],T,L=>some (T,L)
 | t::ts,T,L=>match JW T L t with
  | (T',L')=>Cg ts T' L'
section
variable {P:Program} {N n0:Nat} {Q:AX->Tm->List Ob->Prop} {c:Code}
theorem KV {T:Tm} {L:List Ob} {id:Nat} (k:Aw P N n0 c Q (vQ T L id).1 (vQ T L id).2):Aw P N n0 c Q T L:=by
 unfold vQ at k
 split at k
 ·rename_i hL
  split at k
  ·rename_i hn;exact Cb _ hL hn k
  ·exact k
 ·rename_i hL
  split at k
  ·rename_i hn;exact qY _ hL hn k
  ·exact k
 ·exact k
theorem zT : ∀ {l:List Nat} {T:Tm} {L:List Ob}, Aw P N n0 c Q (tL l T L).1 (tL l T L).2->Aw P N n0 c Q T L
 | [],_,_,k=>k
 | id::l,T,L,k=>KV (zT (l:=l) k)
theorem BC : ∀ {ts:List Nat} {T T':Tm} {L L':List Ob}, Cg ts T L=some (T',L')->Aw P N n0 c Q T' L'->Aw P N n0 c Q T L
 | [],_,_,_,_,h,k=>by cases h;exact k
 | t::ts,T,T',L,L',h,k=>by
  unfold Cg at h
  have h2:=BC (ts:=ts) h k
  unfold JW at h2
  split at h2
  ·exact zT h2
  ·exact h2
end
def clean (N:Nat) (T:Tm):Tm:=(List.range N).filterMap fun t=>(T.lookup t).map fun x=>(t,x)
theorem oG {N:Nat} {T:Tm} {t:Nat} {x:AV} (h:(clean N T).lookup t=some x):T.lookup t=some x:=by
 have h1:=pO h
 unfold clean at h1
 rw [List.mem_filterMap] at h1
 obtain ⟨i,_,h2⟩:=h1
 obtain ⟨y,h3,h4⟩:=map_some h2
 cases h4
 exact h3
theorem KJ {N n0:Nat} (T:Tm) (L:List Ob) (id:Nat):r9 N n0 T L (vQ T L id).1 (vQ T L id).2:=by
 unfold vQ
 split
 ·rename_i hL
  split
  ·rename_i hn;exact r9.row _ hL hn
  ·exact r9.refl
 ·rename_i hL
  split
  ·rename_i hn;exact r9.box _ hL hn
  ·exact r9.refl
 ·exact r9.refl
theorem zZ {N n0:Nat} : ∀ (l:List Nat) (T:Tm) (L:List Ob),r9 N n0 T L (tL l T L).1 (tL l T L).2
 | [],_,_=>r9.refl
 | id::l,T,L=>(KJ T L id).trans (zZ l _ _)
theorem BQ {N n0:Nat} : ∀ {ts:List Nat} {T T':Tm} {L L':List Ob}, Cg ts T L=some (T',L')->r9 N n0 T L T' L'
 | [],_,_,_,_,h=>by cases h;exact r9.refl
 | t::ts,T,T',L,L',h=>by
  unfold Cg at h
  refine r9.trans ?_ (BQ (ts:=ts) h)
  show r9 N n0 T L (JW T L t).1 (JW T L t).2
  unfold JW
  split
  ·exact zZ _ _ _
  ·exact r9.refl
def En (body:Tm->List Ob->Option (AX × Tm × List Ob)) (N:Nat):Nat->Tm->List Ob->Option (AX × Tm × List Ob)
 | 0,_,_=>none
 | n+1,T,L=>match body (clean N T) L with
  | some (.normal,T',L')=>En body N n T' L'
  | r=>r
def EO (cx:Cx) (f:FuncId) (id:Nat):Bool->TI
 | false => { cx.ti with dyn:=true,soft:=false }
 | true => { cx.ti with dyn:=(cx.flg f id).1,soft:=(cx.flg f id).2 }
def CL (cx:Cx) (cp:CP) (cr:CR) (f:FuncId) (N:Nat) (rs:List Nat):Code->Tm->List Ob->Option (AX × Tm × List Ob)
 | .skip,T,L=>some (.normal,T,L)
 | .label _,T,L=>some (.normal,T,L)
 | .ret,T,L=>match Cg rs T L with
  | some (T',L')=>some (.ret,T',L')
  | none=>none
 | .exit id,T,L=>some (.exit id,T,L)
 | .seq x y,T,L=>match CL cx cp cr f N rs x T L with
  | some (.normal,T',L')=>CL cx cp cr f N rs y T' L'
  | r=>r
 | .cond c x y,T,L=>match look T c with
  | some (.one (.c (.bool b)))=>match b with
   | true=>CL cx cp cr f N rs x T L
   | false=>CL cx cp cr f N rs y T L
  | _=>none
 | .block id c,T,L=>match CL cx cp cr f N rs c T L with
  | some (.exit j,T',L')=>match decide (j=id) with
   | true=>some (.normal,T',L')
   | false=>some (.exit j,T',L')
  | r=>r
 | .region id ops d,T,L=>match Cg (cx.frz f id) T L with
  | some (T1,L1)=>match Sv (cx.fz f id) T1 with
   | true=>match d,cx.sw f id with
    | true,some (p,post)=>match xC cx (EO cx f id true) cp cr f N ((Ou p ops.toList).map (·.dst)) (Ou p ops.toList) T1 L1,xC cx (EO cx f id true) cp cr f N ((OA p ops.toList).map (·.dst)) (OA p ops.toList) T1 L1 with
     | some (T2,L2),some (T3,L3)=>match Cg post (clean N T2) L2,Cg post (clean N T3) L3 with
      | some (T4,L4),some (T5,L5)=>match Ro T4 T5&&qF zl L4 L5 with
       | true=>some (.normal,T4,L4)
       | false=>none
      | _,_=>none
     | _,_=>none
    | d,_=>match xC cx (EO cx f id d) cp cr f N (ops.toList.map (·.dst)) ops.toList T1 L1 with
     | some (T2,L2)=>some (.normal,T2,L2)
     | none=>none
   | false=>none
  | none=>none
 | .loop c,T,L=>En (CL cx cp cr f N rs c) N 1048576 T L
 | .scope c,T,L=>CL cx cp cr f N rs c T L
 | _,_,_=>none
def fu (cx:Cx) (f:FuncId):Code->Bool
 | .seq x y=>fu cx f x&&fu cx f y
 | .cond _ x y=>fu cx f x&&fu cx f y
 | .block _ c=>fu cx f c
 | .loop c=>fu cx f c
 | .scope c=>fu cx f c
 | .region id ops true=>match cx.sw f id with
  | some (p,_)=>(decide (p+1<ops.toList.length)&&ops.toList.all fun o=>o.guard.isNone)&&(gX (cx.fz f id) (EO cx f id true) (Ou p ops.toList)&&gX (cx.fz f id) (EO cx f id true) (OA p ops.toList))
  | none=>gX (cx.fz f id) (EO cx f id true) ops.toList
 | _=>true
structure sO (cx:Cx):Prop where
 ti:TIok cx.P cx.ti
 ne:sZ cx.P cx.xs
 mix:cx.P.follows .mixedOrders=true
 name : ∀ (f : FuncId) fn, cx.P.funcs[f]? = some fn -> (fn.name == "runtime.NumGoroutine") = false
 code : ∀ (f:FuncId) fn c,cx.P.funcs[f]?=some fn->fn.body=some c->cx.bad f=false->fu cx f c=true
 orc : ∀ g ps r,cx.orc g ps=some r->Pure cx.P g ps r
def mX (cx:Cx):List Func->Nat->Bool
 | [],_=>true
 | fn::fs,i=>(match fn.body with
  | some c=>cx.bad i||fu cx i c
  | none=>true)&&mX cx fs (i+1)
theorem zR {cx:Cx} : ∀ {fs:List Func} {i:Nat}, mX cx fs i=true -> ∀ (j:Nat) fn c,fs[j]?=some fn->fn.body=some c->cx.bad (i+j)=false->fu cx (i+j) c=true
 | [],i,h,j,fn,c,hj,_,_=>by simp at hj
 | f0::fs,i,h,0,fn,c,hj,hb,hbad=>by
  rw [mX,Vu] at h
  simp at hj;subst hj
  have h1:=h.1
  rw [hb] at h1
  rw [Nat.add_zero] at hbad ⊢
  simp only [hbad,Bool.false_or] at h1
  exact h1
 | f0::fs,i,h,j+1,fn,c,hj,hb,hbad=>by
  rw [mX,Vu] at h
  have:=zR h.2 j fn c (by simpa using hj) hb (by rwa [show i+1+j=i+(j+1) by omega])
  rwa [show i+1+j=i+(j+1) by omega] at this
def pY:List Func->Bool
 | []=>true
 | fn :: fs => !(fn.name == "runtime.NumGoroutine") && pY fs
theorem AP : ∀ {fs : List Func}, pY fs = true -> ∀ (j : Nat) fn, fs[j]? = some fn -> (fn.name == "runtime.NumGoroutine") = false
 | [],h,j,fn,hj=>by simp at hj
 | f0::fs,h,0,fn,hj=>by
  rw [pY,Vu] at h
  simp at hj;subst hj
  simpa using h.1
 | f0::fs,h,j+1,fn,hj=>by
  rw [pY,Vu] at h
  exact AP h.2 j fn (by simpa using hj)
theorem sO.of {cx:Cx} (ti:TIok cx.P cx.ti) (ne:sZ cx.P cx.xs) (mix:cx.P.follows .mixedOrders=true) (name:pY cx.P.funcs.toList=true) (code:mX cx cx.P.funcs.toList 0=true) (orc : ∀ g ps r,cx.orc g ps=some r->Pure cx.P g ps r):sO cx :=
 ⟨ti,ne,mix,fun f fn h=>AP name f fn (by simpa using h),fun f fn c h hb hbad=>by have:=zR code f fn c (by simpa using h) hb (by rwa [VQ]);rwa [VQ] at this,orc⟩
theorem lM {cx:Cx} (h:sO cx) (f:FuncId) (id:Nat) (d:Bool):TIok cx.P (EO cx f id d):=by
 cases d
 ·exact h.ti.flags _ _
 ·exact h.ti.flags _ _
section
variable {cx:Cx} {cp:CP} {cr:CR} {f:FuncId} {N n0:Nat} {rs:List Nat}
def SN (x:AX) (T':Tm) (L':List Ob):AX->Tm->List Ob->Prop:=fun y S M=>y=x/\S=T'/\M=L'
theorem Mw {c:Code} {body:Tm->List Ob->Option (AX × Tm × List Ob)} (hb : ∀ T L x T' L',body T L=some (x,T',L')->Aw cx.P N n0 c (SN x T' L') T L) :
  ∀ {n:Nat} {T:Tm} {L:List Ob} {x:AX} {T':Tm} {L':List Ob}, En body N n T L=some (x,T',L')->Aw cx.P N n0 (.loop c) (SN x T' L') T L:=by
 intro n0' T L x T' L' h
 intro hn B R0 γ0 w0 a0 hi hT
 have key : ∀ n T L0 R γ a w,n0<=L0.length->En body N n T L0=some (x,T',L')->Inv B R γ L0 w->dJ N R γ L0 T a->Ext B R0 R w0 w->mQ n0 R0 R γ0 γ L L0->Code.rounds cx.P c (qG N n0 B (SN x T' L') R0 w0 γ0 L) n a w:=by
  intro n
  induction n with
  | zero=>intro T L0 R γ a w _ hl;cases hl
  | succ n ih =>
   intro T L0 R γ a w hlo hl hI ht he hmv
   rw [rounds_succ]
   unfold En at hl
   have htc:dJ N R γ L0 (clean N T) a:=⟨ht.size,ht.defers,fun t x hx=>ht.slot t x (oG hx)⟩
   split at hl
   ·rename_i T1 L1 hb1
    refine wp_mono (hb _ _ _ _ _ hb1 hlo B R γ w a hI htc) ?_
    rintro e a1 w1 ⟨y,T2,L2,R1,γ2,rfl,⟨rfl,rfl,rfl⟩,j1,k1,e1,m1⟩
    exact ih _ _ R1 _ a1 w1 m1.lo' hl j1 k1 (he.trans e1) (hmv.trans hi.len m1)
   ·rename_i hne
    refine wp_mono (hb _ _ _ _ _ hl hlo B R γ w a hI htc) ?_
    rintro e a1 w1 ⟨y,T2,L2,R1,γ2,rfl,⟨rfl,rfl,rfl⟩,j1,k1,e1,m1⟩
    cases y with
    | normal=>exact absurd hl (hne _ _)
    | exit id=>exact ⟨.exit id,_,_,R1,γ2,rfl,⟨rfl,rfl,rfl⟩,j1,k1,he.trans e1,hmv.trans hi.len m1⟩
    | ret=>exact ⟨.ret,_,_,R1,γ2,rfl,⟨rfl,rfl,rfl⟩,j1,k1,he.trans e1,hmv.trans hi.len m1⟩
 exact wp_loop_rounds n0' (key n0' T L R0 γ0 a0 w0 hn h hi hT (Ext.refl _ _ _) (mQ.of hn Mv.refl))
theorem Fe (hx:sO cx) (hcp : ∀ g ps r,cp g ps=some r->Pure cx.P g ps r) (hcr : ∀ g L asx L1 r,cr g L asx=some (L1,r)->iV cx.P g L asx L1 r) :
  ∀ {c:Code} {T:Tm} {L:List Ob} {x:AX} {T':Tm} {L':List Ob}, fu cx f c=true->CL cx cp cr f N rs c T L=some (x,T',L')->Aw cx.P N n0 c (SN x T' L') T L:=by
 intro c
 induction c with
 | skip=>intro T L x T' L' _ h;cases h;exact aw_skip ⟨rfl,rfl,rfl⟩
 | label l=>intro T L x T' L' _ h;cases h;exact nG ⟨rfl,rfl,rfl⟩
 | ret =>
  intro T L x T' L' _ h
  unfold CL at h
  split at h
  ·rename_i h1
   cases h
   exact BC h1 (aw_ret ⟨rfl,rfl,rfl⟩)
  ·cases h
 | exit id=>intro T L x T' L' _ h;cases h;exact aw_exit ⟨rfl,rfl,rfl⟩
 | seq a b iha ihb =>
  intro T L x T' L' hc h
  rw [fu,Vu] at hc
  unfold CL at h
  refine aw_seq ?_
  split at h
  ·rename_i T1 L1 h1
   refine Aw.mono (iha hc.1 h1) ?_
   rintro y S M ⟨rfl,rfl,rfl⟩
   exact ihb hc.2 h
  ·rename_i hne
   refine Aw.mono (iha hc.1 h) ?_
   rintro y S M ⟨rfl,rfl,rfl⟩
   cases y with
   | normal=>exact absurd h (hne _ _)
   | exit id=>exact ⟨rfl,rfl,rfl⟩
   | ret=>exact ⟨rfl,rfl,rfl⟩
 | cond c a b iha ihb =>
  intro T L x T' L' hc h
  rw [fu,Vu] at hc
  unfold CL at h
  split at h
  ·rename_i b' hl
   refine aA hl (fun e=>?_) (fun e=>?_)
   ·subst e;exact iha hc.1 h
   ·subst e;exact ihb hc.2 h
  ·cases h
 | block id c ih =>
  intro T L x T' L' hc h
  unfold CL at h
  refine aw_block ?_
  split at h
  ·rename_i j T1 L1 h1
   refine Aw.mono (ih hc h1) ?_
   rintro y S M ⟨rfl,rfl,rfl⟩
   show if j=id then _ else _
   split at h
   ·rename_i e;rw [if_pos (VF e)];cases h;exact ⟨rfl,rfl,rfl⟩
   ·rename_i e;rw [if_neg (of_decide_eq_false e)];cases h;exact ⟨rfl,rfl,rfl⟩
  ·rename_i hne
   refine Aw.mono (ih hc h) ?_
   rintro y S M ⟨rfl,rfl,rfl⟩
   cases y with
   | normal=>exact ⟨rfl,rfl,rfl⟩
   | exit id=>exact absurd h (hne _ _ _)
   | ret=>exact ⟨rfl,rfl,rfl⟩
 | region id ops d =>
  intro T L x T' L' hc h
  unfold CL at h
  split at h
  ·rename_i T1 L1 h1
   refine BC h1 ?_
   split at h
   ·rename_i hz
    have hr:ops=ops.toList.toArray:=rfl
    have hd:d=false\/d=true:=by cases d<;>simp
    rw [hr]
    split at h
    ·rename_i p post hsw
     rw [fu,hsw] at hc
     simp only [Vu,decide_eq_true_eq] at hc
     obtain ⟨⟨hp,hg⟩,hc1,hc2⟩:=hc
     split at h
     ·rename_i T2 L2 T3 L3 h2 h3
      split at h
      ·rename_i T4 L4 T5 L5 h4 h5
       split at h
       ·rename_i he
        cases h
        rw [Vu] at he
        have e1:=ML _ _ he.1
        have e2:=fZ MV _ _ he.2
        subst e1 e2
        refine L6 (Ji _ (lM hx f id true) p hp hg hx.mix hc1 hc2 hz (ko (lM hx f id true) hx.ne hcp hcr h2 ⟨_,_,(r9.less fun t x h=>oG h).trans (BQ h4),rfl,rfl,rfl⟩) (ko (lM hx f id true) hx.ne hcp hcr h3 ⟨_,_,(r9.less fun t x h=>oG h).trans (BQ h5),rfl,rfl,rfl⟩))
       ·cases h
      ·cases h
     ·cases h
    ·rename_i hno
     split at h
     ·rename_i T2 L2 h2
      cases h
      rcases hd with hd|hd
      ·subst hd
       exact aw_region (lM hx f id false) _ rfl (ko (lM hx f id false) hx.ne hcp hcr h2 ⟨rfl,rfl,rfl⟩)
      ·subst hd
       rw [fu] at hc
       split at hc
       ·rename_i p q hsw
        exact absurd hsw (hno p q rfl)
       ·exact zO _ (lM hx f id true) _ rfl hx.mix hc hz (ko (lM hx f id true) hx.ne hcp hcr h2 ⟨rfl,rfl,rfl⟩)
     ·cases h
   ·cases h
  ·cases h
 | loop c ih =>
  intro T L x T' L' hc h
  unfold CL at h
  exact Mw (fun T L x T' L' hb=>ih hc hb) h
 | scope c ih =>
  intro T L x T' L' hc h
  unfold CL at h
  exact nz (ih hc h)
 | _=>intro T L x T' L' _ h;unfold CL at h;cases h
end
def Cj (ti:TI) (T:Tm) (L:List Ob):ResultVar->Option PV
 | .tmp t=>(T.lookup t).bind AV.norm
 | .cell a t=>match T.lookup a with
  | some (.one (.ptr id off))=>match EG ti L t (.one (.ptr id off)) with
   | some v=>v.norm
   | none=>none
  | _=>none
def qU (ti:TI) (T:Tm) (L:List Ob):List ResultVar->Option (List PV)
 | []=>some []
 | r::rs=>match Cj ti T L r,qU ti T L rs with
  | some p,some ps=>some (p::ps)
  | _,_=>none
theorem Fv {ti:TI} {T:Tm} {L:List Ob} {r:ResultVar} {p:PV} (h:Cj ti T L r=some p):yP (uj ti T L r) p:=by
 unfold Cj at h
 split at h
 ·rename_i t
  exact ⟨True,by show (Option.map _ _)=_;rw [h];rfl,trivial⟩
 ·unfold uj
  dsimp only
  split at h
  ·rename_i h1
   rw [h1]
   dsimp only
   split at h
   ·rename_i v h2
    obtain ⟨φ,h3,h4⟩:=yD h2
    rw [h3]
    exact ⟨φ,by dsimp only;rw [h];rfl,h4⟩
   ·cases h
  ·cases h
theorem qa {ti:TI} {T:Tm} {L:List Ob} : ∀ {rs:List ResultVar} {ps:List PV}, qU ti T L rs=some ps->yP (nk ti T L rs) ps
 | [],ps,h=>by cases h;exact ⟨_,rfl,trivial⟩
 | r::rs,ps,h=>by
  unfold qU at h
  split at h
  ·rename_i h1 h2
   cases h
   obtain ⟨φ,h3,h4⟩:=Fv h1
   obtain ⟨ψ,h5,h6⟩:=qa h2
   exact ⟨φ/\ψ,by unfold nk;rw [h3,h5],h4,h6⟩
  ·cases h
def vY:List ResultVar->List Nat
 | []=>[]
 | .tmp t::rs=>t::vY rs
 | .cell _ _::rs=>vY rs
def Lb:AX->Bool
 | .exit _=>false
 | _=>true
theorem vO {x:AX} (h:Lb x=true):x = .normal\/x = .ret:=by
 cases x with
 | normal=>exact .inl rfl
 | ret=>exact .inr rfl
 | exit _=>cases h
def Kb (cx:Cx) (cp:CP) (cr:CR):CP:=fun g ps =>
 match cx.orc g ps with
 | some r=>some r
 | none=>match cx.P.funcs[g]? with
  | some fn=>match fn.body,cx.bad g,Nat.ble ps.length fn.ntmps with
   | some c,false,true=>match CL cx cp cr g fn.ntmps (vY fn.results.toList) c (argT 0 ps) [] with
    | some (x,T,L)=>match Lb x,qU cx.ti T L fn.results.toList with
     | true,some rs=>some (LM rs)
     | _,_=>none
    | none=>none
   | _,_,_=>none
  | none=>none
def Cu (T:Tm):List ResultVar->Option AV
 | [.tmp s, .tmp t]=>match T.lookup s,T.lookup t with
  | some (.one x),some (.one y)=>some (.tupS [x,y])
  | _,_=>none
 | _=>none
theorem Fa {T:Tm} {rs:List ResultVar} {r:AV} (h:Cu T rs=some r):oU rs T r:=by
 unfold Cu at h
 split at h
 ·split at h
  ·rename_i h1 h2
   cases h
   exact ⟨_,_,_,_,rfl,h1,h2,rfl⟩
  ·cases h
 ·cases h
def BH (ti:TI) (T:Tm) (L:List Ob):List ResultVar->Option AV
 | [.tmp t]=>T.lookup t
 | [.cell a t]=>match T.lookup a with
  | some (.one (.ptr id off))=>EG ti L t (.one (.ptr id off))
  | _=>none
 | rs=>match qU ti T L rs with
  | some ps=>some (LM ps).av
  | none=>none
theorem EU {ti:TI} {T:Tm} {L:List Ob} {rs:List ResultVar} {r:AV} (h:BH ti T L rs=some r):oQ ti rs T L r:=by
 unfold BH at h
 split at h
 ·exact .inl (.inl ⟨_,rfl,h⟩)
 ·split at h
  ·rename_i h1
   obtain ⟨φ,h2,h3⟩:=yD h
   exact .inr ⟨_,_,_,_,φ,rfl,h1,h2,h3⟩
  ·cases h
 ·split at h
  ·rename_i ps h1
   cases h
   obtain ⟨φ,h2,h3⟩:=qa h1
   exact .inl (.inr ⟨LM ps,bf h2 h3 rfl,rfl⟩)
  ·cases h
def F4 (ti:TI) (T:Tm) (L:List Ob) (rs:List ResultVar):Option AV :=
 match Cu T rs with
 | some r=>some r
 | none=>BH ti T L rs
theorem Jr {ti:TI} {T:Tm} {L:List Ob} {rs:List ResultVar} {r:AV} (h:F4 ti T L rs=some r):oQ ti rs T L r\/oU rs T r:=by
 unfold F4 at h
 split at h
 ·rename_i h1
  cases h
  exact .inr (Fa h1)
 ·exact .inl (EU h)
def Pe (cx:Cx) (cp:CP) (cr:CR):CR:=fun g L asx =>
 match cx.P.funcs[g]? with
 | some fn=>match fn.body,cx.bad g,Nat.ble asx.length fn.ntmps,(zw L.length L&&Gj L.length asx) with
  | some c,false,true,true=>match CL cx cp cr g fn.ntmps [] c (lW 0 asx) L with
   | some (x,T,L1)=>match Lb x,F4 cx.ti T L1 fn.results.toList,Nat.ble L.length L1.length with
    | true,some r,true=>match KL L.length r&&zw L.length (L1.take L.length) with
     | true=>some (L1.take L.length,r)
     | false=>match KL L1.length r&&zw L1.length L1 with
      | true=>some (L1,r)
      | false=>none
    | _,_,_=>none
   | none=>none
  | _,_,_,_=>none
 | none=>none
theorem KR {cx:Cx} {cp:CP} {cr:CR} (hx:sO cx) (hcp : ∀ g ps r,cp g ps=some r->Pure cx.P g ps r) (hcr : ∀ g L asx L1 r,cr g L asx=some (L1,r)->iV cx.P g L asx L1 r)
  {g:FuncId} {ps:List PV} {r:CV} (h:Kb cx cp cr g ps=some r):Pure cx.P g ps r:=by
 unfold Kb at h
 split at h
 ·rename_i r' h1
  cases h
  exact hx.orc _ _ _ h1
 ·split at h
  ·rename_i fn hf
   split at h
   ·rename_i c hb hbad hle
    split at h
    ·rename_i x T L he
     split at h
     ·rename_i rs hend hres
      cases h
      obtain ⟨φ,h2,h3⟩:=qa hres
      refine pa_ hx.ti hf hb (hx.name _ _ hf) rfl (Vm hle) ?_
      refine Aw.mono (Fe hx hcp hcr (hx.code _ _ _ hf hb hbad) he) ?_
      rintro y S M ⟨rfl,rfl,rfl⟩
      exact ⟨vO hend,bf h2 h3 rfl⟩
     ·cases h
    ·cases h
   ·cases h
  ·cases h
theorem Nk {cx:Cx} {cp:CP} {cr:CR} (hx:sO cx) (hcp : ∀ g ps r,cp g ps=some r->Pure cx.P g ps r) (hcr : ∀ g L asx L1 r,cr g L asx=some (L1,r)->iV cx.P g L asx L1 r)
  {g:FuncId} {L:List Ob} {asx:List AV} {L1:List Ob} {r:AV} (h:Pe cx cp cr g L asx=some (L1,r)):iV cx.P g L asx L1 r:=by
 unfold Pe at h
 split at h
 ·rename_i fn hf
  split at h
  ·rename_i c hb hbad hle hbel
   rw [Vu] at hbel
   split at h
   ·rename_i x T L2 he
    split at h
    ·rename_i r' hend hval hlen
     have hlen:=Vm hlen
     have main : ∀ m,L.length<=m->m<=L2.length->(∀ x∈L2.take m,x.below m)->r'.below m->iV cx.P g L asx (L2.take m) r':=by
      intro m hm1 hm2 hob hr
      have hl:(L2.take m).length=m:=by rw [VX];omega
      refine ⟨?_,qZ hbel.1,Eg hbel.2,by omega,by rw [hl];exact hob,by rw [hl];exact hr⟩
      rcases Jr hval with hv|hv
      ·refine F8 hx.ti hf hb (hx.name _ _ hf) rfl (Vm hle) ?_
       refine Aw.mono (Fe hx hcp hcr (hx.code _ _ _ hf hb hbad) he) ?_
       rintro y S M ⟨rfl,rfl,rfl⟩
       exact ⟨vO hend,⟨hv,⟨_,(List.take_append_drop m _).symm⟩,by rw [hl];exact hm1,by rw [hl];exact hob,by rw [hl];exact hr⟩⟩
      ·refine Fb hx.ti hf hb (hx.name _ _ hf) rfl (Vm hle) ?_
       refine Aw.mono (Fe hx hcp hcr (hx.code _ _ _ hf hb hbad) he) ?_
       rintro y S M ⟨rfl,rfl,rfl⟩
       exact ⟨vO hend,⟨hv,⟨_,(List.take_append_drop m _).symm⟩,by rw [hl];exact hm1,by rw [hl];exact hob,by rw [hl];exact hr⟩⟩
     split at h
     ·rename_i hc
      rw [Vu] at hc
      cases h
      exact main _ (Vs _) hlen (qZ hc.2) (u7 hc.1)
     ·split at h
      ·rename_i hc
       rw [Vu] at hc
       cases h
       have:=main _ hlen (Vs _) (by rw [List.take_length];exact qZ hc.2) (u7 hc.1)
       rw [List.take_length] at this
       exact this
      ·cases h
    ·cases h
   ·cases h
  ·cases h
 ·cases h
def Jw (cx:Cx):Nat->CP × CR
 | 0=>(fun _ _=>none,fun _ _ _=>none)
 | n+1=>(Kb cx (Jw cx n).1 (Jw cx n).2,Pe cx (Jw cx n).1 (Jw cx n).2)
theorem iw {cx:Cx} (hx:sO cx) : ∀ n,(∀ g ps r,(Jw cx n).1 g ps=some r->Pure cx.P g ps r)/\(∀ g L asx L1 r,(Jw cx n).2 g L asx=some (L1,r)->iV cx.P g L asx L1 r)
 | 0=>⟨fun g ps r h=>(by cases h),fun g L asx L1 r h=>(by cases h)⟩
 | n+1=>⟨fun g ps r h=>KR hx (iw hx n).1 (iw hx n).2 h,fun g L asx L1 r h=>Nk hx (iw hx n).1 (iw hx n).2 h⟩
open Go.RowKit Go.MapKept
theorem iM {P:Program} {w:World} {t:TypeId} {d:TypeDesc} (ht:P.underlying t=some d) (hd:(match d with | .struct _=>true | .array _ _=>true|_=>false)=false) {xs:Array Value} {i:Nat} {v:Value} (hx:xs[i]?=some v):(part t xs i).run P w = .ok v w:=by
 cases d<;>first|(cases hd;done)|simp [part,isAgg,run_underlying ht,hx]
def O5:TypeDesc->Option Sc
 | .int k=>some (.int k)
 | .bool=>some .bool
 | .string=>some .str
 | _=>none
def PZ (s:Sc):Option TypeDesc->Bool
 | some d=>match O5 d with
  | some s'=>decide (s'=s)
  | none=>false
 | none=>false
def NJ (d:Option TypeDesc):Sc->Prop
 | .int k=>d=some (.int k)
 | .bool=>d=some .bool
 | .str=>d=some .string
theorem N7 {s:Sc} {d:Option TypeDesc} (h:PZ s d=true):NJ d s:=by
 unfold PZ at h
 cases d with
 | none=>cases h
 | some d =>
  dsimp only at h
  cases hs:O5 d with
  | none=>rw [hs] at h;cases h
  | some s' =>
   rw [hs] at h
   obtain rfl:s'=s:=VF h
   unfold O5 at hs
   split at hs<;>first|(cases hs;rfl)|(cases hs;done)
def Ie (P:Program):List Field->List Sc->Nat->Bool
 | [],[],_=>true
 | f :: fs, s :: sh, i => (!(f.name == "_")) && (Nat.beq f.offset i && (PZ s (P.underlying f.type) && Ie P fs sh (i + 1)))
 | _,_,_=>false
theorem yB {x:SV} {xs:List SV} {vs:List Value} (h:dX (x::xs)=some vs) : ∃ c v r,x = .c c/\yO c=some v/\dX xs=some r/\vs=v::r:=by
 unfold dX at h
 split at h
 ·rename_i e;cases e
 ·rename_i y ys e
  cases e
  split at h
  ·rename_i v r h1 h2;cases h;exact ⟨_,v,r,rfl,h1,h2,rfl⟩
  ·cases h
 ·cases h
theorem yJ {P:Program} {w:World} (d:Nat) {A B:Array Value} : ∀ (fs:List Field) (sh:List Sc) (i:Nat) (xs ys:List SV) (vs us:List Value),Ie P fs sh i=true->df sh xs=true->df sh ys=true->dX xs=some vs->dX ys=some us ->
  (∀ (j:Nat) v,vs[j]?=some v->A[i+j]?=some v)->(∀ (j:Nat) v,us[j]?=some v->B[i+j]?=some v)->(Op.eqFields (d+1) A B fs).run P w = .ok (bz xs ys) w:=by
 intro fs
 induction fs with
 | nil =>
  intro sh i xs ys vs us hf hx hy _ _ _ _
  cases sh with
  | nil =>
   cases xs with
   | nil=>cases ys with
    | nil=>rfl
    | cons _ _=>cases hy
   | cons _ _=>cases hx
  | cons _ _=>cases hf
 | cons f fs ih =>
  intro sh i xs ys vs us hf hx hy hv hu hA hB
  cases sh with
  | nil=>cases hf
  | cons s sh =>
   rw [Ie,Vu,Vu,Vu] at hf
   obtain ⟨h1,h2,h3,h4⟩:=hf
   have h2:=Nat.eq_of_beq_eq_true h2
   have h1 : f.name ≠ "_" := by simpa using h1
   have h3:=N7 h3
   cases xs with
   | nil=>cases s<;>cases hx
   | cons x xs =>
    cases ys with
    | nil=>cases s<;>cases hy
    | cons y ys =>
     obtain ⟨cx,v,vr,rfl,hv1,hv2,rfl⟩:=yB hv
     obtain ⟨cy,u,ur,rfl,hu1,hu2,rfl⟩:=yB hu
     have a0:=hA 0 v rfl
     have b0:=hB 0 u rfl
     rw [Nat.add_zero] at a0 b0
     have rest : ∀ (hx':df sh xs=true) (hy':df sh ys=true),(Op.eqFields (d+1) A B fs).run P w = .ok (bz xs ys) w:=fun hx' hy' =>
      ih sh (i+1) xs ys vr ur h4 hx' hy' hv2 hu2 (fun j v hj=>by have:=hA (j+1) v (by simpa using hj);rwa [show i+1+j=i+(j+1) by omega]) (fun j v hj=>by have:=hB (j+1) v (by simpa using hj);rwa [show i+1+j=i+(j+1) by omega])
     cases s with
     | int k =>
      unfold NJ at h3
      cases cx<;>first|(cases hx;done)|skip
      cases cy<;>first|(cases hy;done)|skip
      rename_i k1 a k2 b
      simp only [df,Vu,decide_eq_true_eq] at hx hy
      obtain ⟨rfl,hx'⟩:=hx
      obtain ⟨rfl,hy'⟩:=hy
      cases hv1;cases hu1
      have p1:=iM (P:=P) (w:=w) h3 rfl a0
      have p2:=iM (P:=P) (w:=w) h3 rfl b0
      simp only [Op.eqFields,h1,h2,ne_eq,not_false_eq_true,if_true,Sem.run_bind,p1,p2,Result.andThen_ok,run_equalIn_int (P:=P) w d _ k k a b h3,Sem.run_ite,Sem.run_pure,rest hx' hy']
      cases e:(a==b)
      ·have:a≠b:=by simpa using e
       simp [bz,this]
      ·have:a=b:=by simpa using e
       simp [bz,this]
     | bool =>
      unfold NJ at h3
      cases cx<;>first|(cases hx;done)|skip
      cases cy<;>first|(cases hy;done)|skip
      rename_i a b
      simp only [df] at hx hy
      cases hv1;cases hu1
      have p1:=iM (P:=P) (w:=w) h3 rfl a0
      have p2:=iM (P:=P) (w:=w) h3 rfl b0
      simp only [Op.eqFields,h1,h2,ne_eq,not_false_eq_true,if_true,Sem.run_bind,p1,p2,Result.andThen_ok,run_equalIn_bool (P:=P) w d _ a b h3,Sem.run_ite,Sem.run_pure,rest hx hy]
      cases e:(a==b)<;>simp [bz,e]
     | str =>
      unfold NJ at h3
      cases cx<;>first|(cases hx;done)|skip
      cases cy<;>first|(cases hy;done)|skip
      rename_i a b
      simp only [df] at hx hy
      cases hv1;cases hu1
      have p1:=iM (P:=P) (w:=w) h3 rfl a0
      have p2:=iM (P:=P) (w:=w) h3 rfl b0
      simp only [Op.eqFields,h1,h2,ne_eq,not_false_eq_true,if_true,Sem.run_bind,p1,p2,Result.andThen_ok,run_equalIn_string (P:=P) w d _ a b h3,Sem.run_ite,Sem.run_pure,rest hx hy]
      cases e:(a.toList==b.toList)<;>simp [bz,e]
def Gg (P:Program) (t:TypeId) (sh:List Sc):Bool :=
 (match P.underlying t with
 | some (.struct fs)=>Ie P fs.toList sh 0
 | _=>false)&&(!P.stoodInHeld t && !P.eqGuardType P.depth t)
theorem Iy {P:Program} {t:TypeId} {sh:List Sc} (h:Gg P t sh=true):P.eqGuardType P.depth t=false /\ ∀ xs ys,df sh xs=true->df sh ys=true->ET P t xs ys:=by
 rw [Gg,Vu,Vu] at h
 obtain ⟨h1,h2,h3⟩:=h
 refine ⟨by simpa using h3,fun xs ys hx hy vs us hv hu w=>?_⟩
 split at h1
 ·rename_i fs ht
  have hfs:P.fieldsOf t=fs:=by unfold Program.fieldsOf;rw [ht]
  have hm:Op.equal t (.agg vs.toArray) (.agg us.toArray)=Op.equalIn (9999+1) t (.agg vs.toArray) (.agg us.toArray):=rfl
  rw [hm,run_equalIn_struct w 9999 t _ _ (by rw [hfs];exact ht) (by simpa using h2),hfs]
  exact yJ 9998 _ sh 0 xs ys vs us h1 hx hy hv hu (fun j v hj=>by simpa using hj) (fun j v hj=>by simpa using hj)
 ·cases h1
open Go.RowKit
def UM:List (Nat × AV):=[(2, .one (.c (.int .i64 0))),(3, .one (.c (.int .i64 0))),(4, .one (.c (.bool false))),(5, .one (.c (.int .u8 0))),(9, .one (.c (.str ⟨#[]⟩))),(22, .one (.emp)),(25, .one (.emp)),(29, .one (.emp)),(31, .agg [.emp, .emp]),(33, .agg [.c (.int .i64 0), .c (.int .i64 0), .c (.str ⟨#[]⟩)]),(34, .one (.emp)),(36, .agg [.c (.int .i64 0), .c (.int .i64 0), .c (.int .i64 0), .c (.int .i64 0), .c (.str ⟨#[]⟩), .c (.str ⟨#[]⟩), .emp]),(41, .agg [.emp, .emp, .emp, .emp]),(42, .one (.emp)),(44, .agg [.emp, .emp]),(50, .one (.emp)),(53, .agg [.c (.int .i64 0), .c (.int .i64 0)]),(55, .agg [.emp, .c (.int .i64 0), .c (.int .i64 0)]),(63, .agg [.c (.int .i64 0), .c (.int .i64 0)]),(65, .one (.c (.nul .func))),(67, .one (.c (.nul .func))),(72, .one (.c (.int .i64 0))),(77, .one (.c (.nul .func))),(81, .one (.emp)),(83, .one (.emp)),(85, .one (.c (.nul .func))),(99, .one (.c (.nul .func))),(103, .one (.c (.int .u64 0))),(113, .one (.emp)),(115, .one (.emp)),(117, .agg [.emp, .emp]),(121, .one (.c (.nul .func))),(134, .one (.c (.nul .func))),(136, .one (.c (.int .i64 0))),(143, .one (.c (.int .u32 0))),(145, .one (.c (.int .u64 0))),(159, .one (.emp)),(162, .agg [.c (.int .i64 0), .c (.int .i64 0), .c (.int .i64 0)]),(169, .one (.emp)),(179, .one (.c (.int .u64 0))),(183, .one (.c (.nul .ptr))),(191, .one (.emp)),(194, .agg [.emp, .emp]),(195, .one (.emp)),(197, .agg [.c (.int .i64 0), .c (.int .i64 0)]),(201, .agg [.c (.int .i64 0), .c (.int .i64 0)]),(204, .one (.c (.nul .func))),(205, .one (.emp)),(207, .agg [.c (.int .i64 0), .c (.int .i64 0), .c (.int .i64 0)]),(211, .one (.c (.nul .func))),(222, .one (.c (.nul .map))),(225, .one (.c (.nul .func))),(228, .one (.c (.nul .func))),(232, .agg [.c (.int .i64 0), .c (.bool false)]),(235, .one (.c (.nul .ptr))),(236, .one (.emp)),(238, .agg [.c (.nul .ptr), .emp]),(259, .one (.c (.nul .ptr))),(271, .one (.c (.nul .ptr)))]
def UU:List (Nat × TypeDesc):=[(2, .int .i64),(3, .int .i64),(4, .bool),(5, .int .u8),(9, .string),(22, .slice 55),(25, .slice 63),(29, .slice 3),(34, .slice 36),(42, .slice 50),(50, .slice 33),(72, .int .i64),(81, .slice 83),(83, .slice 53),(103, .int .u64),(113, .slice 117),(115, .slice 201),(136, .int .i64),(143, .int .u32),(145, .int .u64),(159, .slice 162),(169, .slice 232),(179, .int .u64),(183, .pointer 3),(191, .slice 194),(195, .slice 197),(205, .slice 207),(222, .map 9 3),(235, .pointer 238),(236, .slice 5),(259, .pointer 5),(271, .unsafePointer)]
def U0:List (Nat × List Sc):=[(33,[.int .i64, .int .i64, .str]),(53,[.int .i64, .int .i64]),(63,[.int .i64, .int .i64]),(162,[.int .i64, .int .i64, .int .i64]),(197,[.int .i64, .int .i64]),(201,[.int .i64, .int .i64]),(232,[.int .i64, .bool])]
def tab:TI:=TI.of [(2,1),(3,1),(4,1),(5,1),(9,1),(22,1),(25,1),(29,1),(31,2),(33,3),(34,1),(36,7),(41,4),(42,1),(44,2),(50,1),(53,2),(55,3),(63,2),(65,1),(67,1),(72,1),(77,1),(81,1),(83,1),(85,1),(99,1),(103,1),(113,1),(115,1),(117,2),(121,1),(134,1),(136,1),(143,1),(145,1),(159,1),(162,3),(169,1),(179,1),(183,1),(191,1),(194,2),(195,1),(197,2),(201,2),(204,1),(205,1),(207,3),(211,1),(222,1),(225,1),(228,1),(232,2),(235,1),(236,1),(238,2),(259,1),(271,1)] [(2,false),(3,false),(4,false),(5,false),(9,false),(22,false),(25,false),(29,false),(31,true),(33,true),(34,false),(36,true),(41,true),(42,false),(44,true),(50,false),(53,true),(55,true),(63,true),(65,false),(67,false),(72,false),(77,false),(81,false),(83,false),(85,false),(99,false),(103,false),(113,false),(115,false),(117,true),(121,false),(134,false),(136,false),(143,false),(145,false),(159,false),(162,true),(169,false),(179,false),(183,false),(191,false),(194,true),(195,false),(197,true),(201,true),(204,false),(205,false),(207,true),(211,false),(222,false),(225,false),(228,false),(232,true),(235,false),(236,false),(238,true),(259,false),(271,false)] [(22,55),(25,63),(29,3),(34,36),(42,50),(50,33),(81,83),(83,53),(113,117),(115,201),(159,162),(169,232),(191,194),(195,197),(205,207),(236,5)] [(31,[(0,29),(1,22)]),(33,[(0,3),(1,3),(2,9)]),(36,[(0,3),(1,3),(2,33),(5,9),(6,34)]),(41,[(0,31),(2,31)]),(44,[(0,29),(1,42)]),(53,[(0,3),(1,3)]),(55,[(0,50),(1,53)]),(63,[(0,3),(1,3)]),(117,[(0,50),(1,115)]),(162,[(0,3),(1,3),(2,3)]),(194,[(0,50),(1,83)]),(197,[(0,3),(1,3)]),(201,[(0,3),(1,3)]),(207,[(0,53),(2,3)]),(232,[(0,3),(1,4)]),(238,[(0,235),(1,236)])] UM [(2,8),(3,8),(4,1),(5,1),(9,16),(22,24),(25,24),(29,24),(31,48),(33,32),(34,24),(36,88),(41,96),(42,24),(44,48),(50,24),(53,16),(55,40),(63,16),(65,8),(67,8),(72,8),(77,8),(81,24),(83,24),(85,8),(99,8),(103,8),(113,24),(115,24),(117,48),(121,8),(134,8),(136,8),(143,4),(145,8),(159,24),(162,24),(169,24),(179,8),(183,8),(191,24),(194,48),(195,24),(197,16),(201,16),(204,8),(205,24),(207,24),(211,8),(222,8),(225,8),(228,8),(232,16),(235,8),(236,24),(238,32),(259,8),(271,8)] UU [31,33,36,41,44,53,55,63,117,162,194,197,201,207,232,238] [2,3,4,5,9,22,25,29,31,33,34,36,41,42,44,50,53,55,63,65,67,72,77,81,83,85,99,103,113,115,117,121,134,136,143,145,159,162,169,179,183,191,194,195,197,201,204,205,207,211,222,225,228,232,235,236,238,259,271] U0 [0]
set_option maxRecDepth 100000 in
theorem tab_ok:TIok Tryz.prog tab:=by
 refine TI.of_ok (by kernel_rfl) (by kernel_rfl) (by kernel_rfl) (by kernel_rfl) ?_ (by kernel_rfl) ?_ (by kernel_rfl) (by kernel_rfl) ?_
 ·intro p hp
  simp only [UM,Vt,List.not_mem_nil,or_false] at hp
  rcases hp with rfl|rfl|rfl|rfl|rfl|rfl|rfl|rfl|rfl|rfl|rfl|rfl|rfl|rfl|rfl|rfl|rfl|rfl|rfl|rfl|rfl|rfl|rfl|rfl|rfl|rfl|rfl|rfl|rfl|rfl|rfl|rfl|rfl|rfl|rfl|rfl|rfl|rfl|rfl|rfl|rfl|rfl|rfl|rfl|rfl|rfl|rfl|rfl|rfl|rfl|rfl|rfl|rfl|rfl|rfl|rfl|rfl|rfl|rfl<;>kernel_rfl
 ·intro p hp
  simp only [UU,Vt,List.not_mem_nil,or_false] at hp
  rcases hp with rfl|rfl|rfl|rfl|rfl|rfl|rfl|rfl|rfl|rfl|rfl|rfl|rfl|rfl|rfl|rfl|rfl|rfl|rfl|rfl|rfl|rfl|rfl|rfl|rfl|rfl|rfl|rfl|rfl|rfl|rfl|rfl<;>kernel_rfl
 ·intro p hp
  simp only [U0,Vt,List.not_mem_nil,or_false] at hp
  rcases hp with rfl|rfl|rfl|rfl|rfl|rfl|rfl<;>exact Iy (by kernel_rfl)
def TY:TI := { tab with soft:=true }
theorem tabS_ok:TIok Tryz.prog TY:=⟨tab_ok.size,tab_ok.agg,tab_ok.elem,tab_ok.field,tab_ok.zero,tab_ok.bytes,tab_ok.kind,tab_ok.struct,tab_ok.zok,tab_ok.eqs⟩
theorem mixed:Tryz.prog.follows .mixedOrders=true:=by kernel_rfl
open Go.RowKit Go.MapKept
def Ue (f:FuncId):Bool:=Nat.beq f 248||Nat.beq f 250||Nat.beq f 252||Nat.beq f 253||Nat.beq f 274||Nat.beq f 293||Nat.beq f 292||Nat.beq f 179||Nat.beq f 244||Nat.beq f 238||Nat.beq f 254||Nat.beq f 204||Nat.beq f 242||Nat.beq f 193||Nat.beq f 276||Nat.beq f 277||Nat.beq f 295||Nat.beq f 305||Nat.beq f 241||Nat.beq f 256||Nat.beq f 257||Nat.beq f 258||Nat.beq f 259||Nat.beq f 260||Nat.beq f 261||Nat.beq f 262||Nat.beq f 263||Nat.beq f 278||Nat.beq f 279||Nat.beq f 280||Nat.beq f 264||Nat.beq f 281||Nat.beq f 282||Nat.beq f 283||Nat.beq f 284||Nat.beq f 285||Nat.beq f 286||Nat.beq f 287||Nat.beq f 288||Nat.beq f 297||Nat.beq f 298||Nat.beq f 299||Nat.beq f 92||Nat.beq f 145||Nat.beq f 54||Nat.beq f 18||Nat.beq f 52||Nat.beq f 53||Nat.beq f 99||Nat.beq f 62||Nat.beq f 58||Nat.beq f 156||Nat.beq f 39||Nat.beq f 42||Nat.beq f 212||Nat.beq f 80||Nat.beq f 121||Nat.beq f 122||Nat.beq f 123||Nat.beq f 124||Nat.beq f 125||Nat.beq f 126||Nat.beq f 127||Nat.beq f 128||Nat.beq f 191||Nat.beq f 194||Nat.beq f 195||Nat.beq f 83||Nat.beq f 131||Nat.beq f 132||Nat.beq f 133||Nat.beq f 134||Nat.beq f 135||Nat.beq f 136||Nat.beq f 137||Nat.beq f 138||Nat.beq f 196||Nat.beq f 197||Nat.beq f 198||Nat.beq f 246||Nat.beq f 265||Nat.beq f 266||Nat.beq f 267||Nat.beq f 268||Nat.beq f 269||Nat.beq f 270||Nat.beq f 271||Nat.beq f 272||Nat.beq f 289||Nat.beq f 290||Nat.beq f 291
def RI (f:FuncId) (d:Nat):Bool:=Nat.beq f 74||Nat.beq f 207||Nat.beq f 237||Nat.beq f 250||Nat.beq f 252||Nat.beq f 100||Nat.beq f 60||Nat.beq f 12||Nat.beq f 156||Nat.beq f 62||(Nat.beq f 202&&Nat.beq d 41)||(Nat.beq f 202&&Nat.beq d 42)
def SE (f:FuncId) (id:Nat):List Nat :=
 if (Nat.beq f 12&&Nat.beq id 8)=true then [3] else
 if (Nat.beq f 35&&Nat.beq id 1)=true then [3] else
 if (Nat.beq f 74&&Nat.beq id 18)=true then [5] else
 if (Nat.beq f 52&&Nat.beq id 4)=true then [4,5,9] else
 []
def R_ (f:FuncId) (id:Nat):Bool × Bool :=
 (false,true)
def UN (f:FuncId) (id:Nat):List Nat :=
 if (Nat.beq f 52&&Nat.beq id 4)=true then [4,5,9] else
 []
def UX (f:FuncId) (id:Nat):Option (Nat × List Nat) :=
 if (Nat.beq f 52&&Nat.beq id 4)=true then some (12,[10,11]) else
 none
def RB (f:FuncId):Bool:=Nat.beq f 183||Nat.beq f 4||Nat.beq f 6||Nat.beq f 9
def Lf:TI := { tab with owns:=Ue }
theorem ae:TIok Tryz.prog Lf:=⟨tab_ok.size,tab_ok.agg,tab_ok.elem,tab_ok.field,tab_ok.zero,tab_ok.bytes,tab_ok.kind,tab_ok.struct,tab_ok.zok,tab_ok.eqs⟩
def JA:FuncId->List PV->Option CV:=fun _ _=>none
noncomputable def cx:Cx := { P:=Tryz.prog,ti:=Lf,xs:=⟨293,292⟩,row:=RI,frz:=SE,flg:=R_,orc:=JA,bad:=RB,fz:=UN,sw:=UX }
theorem H_:L_ Tryz.prog 293:=⟨_,Tryz.func293,by kernel_rfl,by kernel_rfl,by kernel_rfl,by kernel_rfl⟩
theorem Ig:PX Tryz.prog 292:=⟨_,Tryz.func292,by kernel_rfl,by kernel_rfl,by kernel_rfl,by kernel_rfl⟩
theorem rJ:pY Tryz.prog.funcs.toList=true:=by kernel_rfl
theorem wJ:mX cx Tryz.prog.funcs.toList 0=true:=by kernel_rfl
theorem uT:sO cx:=sO.of ae ⟨H_,Ig⟩ mixed rJ wJ (fun g ps r h=>by cases h)
open Go.RowKit Go.MapKept
structure Val where
 kind:Int
 int:Int
 text:ByteArray
def cV (x:Val):List AC:=[.int .i64 x.kind, .int .i64 x.int, .str x.text]
structure bD where
 lo:Int
 hi:Int
def gm (x:bD):List AC:=[.int .i64 x.lo, .int .i64 x.hi]
structure aV where
 row:(List Val)
 valid:bD
def a_ (x:aV):List AC:=[.lst (x.row.map cV), .int .i64 x.valid.lo, .int .i64 x.valid.hi]
inductive Ex where
 | mk (op:Int) (int:Int) (v:Val) (nm:ByteArray) (args:(List Ex))
mutual
def tE:Ex->List AC
 | .mk op int v nm args=>[.int .i64 op, .int .i64 int, .int .i64 v.kind, .int .i64 v.int, .str v.text, .str nm, .lst (Rz args)]
def Rz:List Ex->List (List AC)
 | []=>[]
 | e::l=>tE e::Rz l
end
theorem GZ : ∀ (l:List Ex),Rz l=l.map tE
 | []=>by simp [Rz]
 | e::l=>by simp [Rz,GZ l]
def Ex.op:Ex->Int | .mk a _ _ _ _=>a
def Ex.int:Ex->Int | .mk _ a _ _ _=>a
def Ex.v:Ex->Val | .mk _ _ a _ _=>a
def Ex.nm:Ex->ByteArray | .mk _ _ _ a _=>a
def Ex.args:Ex->(List Ex) | .mk _ _ _ _ a=>a
theorem fD (e:Ex):tE e=[.int .i64 e.op, .int .i64 e.int, .int .i64 e.v.kind, .int .i64 e.v.int, .str e.v.text, .str e.nm, .lst (e.args.map tE)]:=by
 obtain ⟨_,_,_,_,_⟩:=e
 rw [tE,GZ];rfl
theorem Cc (e:Ex):(tE e).length=7:=by rw [fD];rfl
structure bA where
 a:Int
 b:Int
def jb (x:bA):List AC:=[.int .i64 x.a, .int .i64 x.b]
structure Stp where
 lo:Int
 n:Int
def xQ (x:Stp):List AC:=[.int .i64 x.lo, .int .i64 x.n]
end Go.Proofs.YtlcceppoloaecaaGreatDoor
