/- Parts of the proof, joined. No condition. -/
import Derived.Test.YtlcceppoloaecaaGreatDoorKAA
import Derived.Test.YtlcceppoloaecaaGreatDoorKAF
import Derived.Test.YtlcceppoloaecaaGreatDoorKAE
set_option linter.unusedSimpArgs false
set_option linter.unusedVariables false
namespace Go.Proofs.YtlcceppoloaecaaGreatDoor
open Go.RowKit Go.MapKept
def unC (id:Nat) (ts:List AC):Cap->Cap
 | .ptr i off=>if i=id then .c (.ref (ts.drop off)) else .ptr i off
 | .c x => .c x
def unS (id:Nat) (ts:List AC):SV->SV
 | .ptr i off=>if i=id then .c (.ref (ts.drop off)) else .ptr i off
 | .clo f caps=>match xI (caps.map (unC id ts)) with
  | some cs => .c (.fn f cs)
  | none => .clo f (caps.map (unC id ts))
 | x=>x
def unA (id:Nat) (ts:List AC):AV->AV
 | .one x => .one (unS id ts x)
 | .agg xs => .agg (xs.map (unS id ts))
 | v=>v
section
variable {P:Program} {ti:TI} {B:Nat->Prop} {N n0:Nat} {R:PH} {γ:List Gh} {L:List Ob} {T:Tm} {w:World} {Q:AX->Tm->List Ob->Prop}
theorem AY (hi:Inv B R γ L w) {id:Nat} {cs:List SV} {ts:List AC} (hL:L[id]?=some (.box cs)) (hn:mV cs=some ts) :
  ∃ R',Inv B R' γ (L.set id .dead) w/\Ext B R R' w w/\Mv R R' γ γ L (L.set id .dead) /\ ∀ off u,(SV.ptr id off).rep R γ L u->bX R' u (.ref (ts.drop off)):=by
 have hlt:id<L.length:=(ap0.1 hL).1
 obtain ⟨g,hg⟩ : ∃ g,γ[id]?=some g:=⟨_,ap9 (by rw [hi.len];exact hlt)⟩
 have hob:=hi.obj id _ _ hL hg
 match g,hg,hob with
 | .box b,hg,hob =>
  obtain ⟨⟨vs,E,hb,hsz,hrep⟩,hRn⟩:=hob
  have hsub0 : ∀ b' o u,R b' o=some u->(if b'=b then vs[o]? else R b' o)=some u:=by
   intro b' o u h
   by_cases hc:b'=b
   ·exfalso;rw [hc,hRn] at h;cases h
   ·rw [if_neg hc];exact h
  let R':PH:=R.put (fun b' o=>if b'=b then vs[o]? else R b' o) hsub0
  have hsub:PH.sub R R':=hsub0
  have hR' : ∀ o,R' b o=vs[o]?:=fun o=>by show (if b=b then vs[o]? else R b o)=_;rw [if_pos rfl]
  have hRo : ∀ b' o,b'≠b->R' b' o=R b' o:=fun b' o h=>by show (if b'=b then vs[o]? else R b' o)=_;rw [if_neg h]
  have hkeep : ∀ (t:Nat) x,(L.set id .dead)[t]?=some x->x ≠ .dead->L[t]?=some x:=by
   intro t x hx hne
   by_cases ht:t=id
   ·subst ht;rw [aqh hlt] at hx;injection hx with hx;exact absurd hx.symm hne
   ·rwa [aqi (Ne.symm ht)] at hx
  have hm:Mv R R' γ γ L (L.set id .dead):=⟨hsub0,by simp,fun t n' k _ h=>⟨n',hkeep t _ h (fun e=>by cases e),aqe _,fun _=>rfl⟩,fun t ver es k _ h=>⟨ver,es,hkeep t _ h (fun e=>by cases e),aqe _,fun _=>⟨rfl,rfl⟩⟩,fun _ _ h=>h⟩
  have hnb:=(hi.new id _ b hg rfl).1
  refine ⟨R',⟨by simp [hi.len],fun b' o u h=>?_,fun j y h hy hh=>?_,hi.inj,hi.new,hi.bsz⟩,⟨Kept.refl _ _,hsub0,fun b' o hb'=>hRo b' o (fun e=>hnb (e▸hb'))⟩,hm,fun off u hu=>?_⟩
  ·by_cases hc:b'=b
   ·subst hc;rw [hR'] at h;rw [cob_ hb];exact h
   ·rw [hRo _ _ hc] at h;exact hi.val _ _ _ h
  ·by_cases hj:j=id
   ·subst hj
    rw [aqh hlt] at hy;injection hy with hy;subst hy
    rw [hg] at hh;injection hh with hh;subst hh
    trivial
   ·rw [aqi (Ne.symm hj)] at hy
    exact (hi.obj j y h hy hh).mv hm (fun _ _=>rfl) (fun b' o hb' e=>by rw [hRo b' o (fun e'=>hi.inj j id h _ hh hg hj b' hb' (by rw [e'];rfl))];exact e)
  ·obtain ⟨b2,rfl,hb2⟩:=hu
   rw [hg] at hb2;injection hb2 with hb2;injection hb2 with hb2;subst hb2
   have hlen:=iO hn
   refine .ref b off (ts.drop off) (fun j=>(vs[off+j]?).getD Go.undef) (fun j hj=>?_) (fun j x hx=>?_)
   ·have hlt2:off+j<vs.size:=by rw [List.length_drop] at hj;omega
    rw [hR',aqn hlt2];rfl
   ·rw [aqL] at hx
    have hlt3:off+j<ts.length:=(ap0.1 hx).1
    have hlt2:off+j<vs.size:=by omega
    have hcj:off+j<cs.length:=by omega
    show bX R' ((vs[off+j]?).getD Go.undef) x
    rw [aqn hlt2]
    exact bX.mono hsub (SV.norm_rep (hrep (off+j) _ _ (aqn hlt2) (ap9 hcj)) (oK hn (off+j) _ _ (ap9 hcj) hx))
theorem ajI {R':PH} {L':List Ob} {id:Nat} {ts:List AC} (hS : ∀ off u,(SV.ptr id off).rep R γ L u->bX R' u (.ref (ts.drop off))) (hM:Mv R R' γ γ L L') {x:Cap} {u:Value} (h:x.rep R γ u):(unC id ts x).rep R' γ u:=by
 cases x with
 | c x=>exact Cap.mv hM.sub hM.ptr h
 | ptr i off =>
  unfold unC
  dsimp only
  split
  ·rename_i e;subst e;exact hS off u h
  ·exact Cap.mv hM.sub hM.ptr h
theorem abM {R':PH} {L':List Ob} {id:Nat} {ts:List AC} (hS : ∀ off u,(SV.ptr id off).rep R γ L u->bX R' u (.ref (ts.drop off))) (hM:Mv R R' γ γ L L') {x:SV} {u:Value} (h:x.rep R γ L u):(unS id ts x).rep R' γ L' u:=by
 cases x with
 | ptr i off =>
  unfold unS
  dsimp only
  split
  ·rename_i e;subst e;exact hS off u h
  ·exact SV.mv hM h
 | clo f caps =>
  obtain ⟨vs,rfl,hsz,hc⟩:=h
  have hc' : ∀ (j:Nat) u x,vs[j]?=some u->(caps.map (unC id ts))[j]?=some x->x.rep R' γ u:=by
   intro j u x hu hx
   rw [aql] at hx
   cases hy:caps[j]? with
   | none=>rw [hy] at hx;cases hx
   | some y=>rw [hy] at hx;cases hx;exact ajI hS hM (hc j u y hu hy)
  unfold unS
  dsimp only
  split
  ·rename_i cs hcs
   have hl:=JS hcs
   rw [aqa] at hl
   exact .fn f vs cs (by rw [hsz,hl]) (fun j v x hv hx=>hc' j v (.c x) hv (IE hcs j x hx))
  ·exact ⟨vs,rfl,by rw [hsz,aqa],hc'⟩
 | c x=>exact SV.mv hM h
 | emp=>exact SV.mv (x := .emp) hM h
 | own es t=>exact SV.mv (x := .own es t) hM h
 | sl i v l n=>exact SV.mv (x := .sl i v l n) hM h
 | ep i v j o=>exact SV.mv (x := .ep i v j o) hM h
 | mp i=>exact SV.mv (x := .mp i) hM h
theorem aci {R':PH} {L':List Ob} {id:Nat} {ts:List AC} (hS : ∀ off u,(SV.ptr id off).rep R γ L u->bX R' u (.ref (ts.drop off))) (hM:Mv R R' γ γ L L') {x:AV} {u:Value} (h:x.rep R γ L u):(unA id ts x).rep R' γ L' u:=by
 cases x with
 | one x=>exact abM hS hM h
 | agg xs =>
  obtain ⟨vs,rfl,hsz,hc⟩:=h
  refine ⟨vs,rfl,by rw [hsz,aqa],fun j u x hu hx=>?_⟩
  rw [aql] at hx
  cases hy:xs[j]? with
  | none=>rw [hy] at hx;cases hx
  | some y=>rw [hy] at hx;cases hx;exact abM hS hM (hc j u y hu hy)
 | tup ps=>exact AV.mv (x := .tup ps) hM h
 | tupS xs=>exact AV.mv (x := .tupS xs) hM h
 | undef=>exact AV.mv (x := .undef) hM h
theorem pV {f:AV->AV} : ∀ {T:Tm} {t:Nat} {x:AV}, (T.map fun p=>(p.1,f p.2)).lookup t=some x -> ∃ y,T.lookup t=some y/\x=f y
 | [],t,x,h=>by cases h
 | p::T,t,x,h=>by
  rw [ap',List.lookup_cons] at h
  rw [List.lookup_cons]
  by_cases e:t=p.1
  ·subst e;simp at h;exact ⟨p.2,by simp,h.symm⟩
  ·have e':(t==p.1)=false:=by simpa using e
   rw [e'] at h ⊢
   exact pV h
theorem bu {c:Code} (id:Nat) {cs:List SV} {ts:List AC} (hL:L[id]?=some (.box cs)) (hn:mV cs=some ts) (h:Aw P N n0 c Q (T.map fun p=>(p.1,unA id ts p.2)) (L.set id .dead)):Aw P N n0 c Q T L:=by
 intro hn0 B R γ w a hi hT
 obtain ⟨R',hI,hE,hM,hS⟩:=AY hi hL hn
 refine wp_mono (h (by simpa using hn0) B R' γ w a hI ?_) fun _ _ _ hh=>hh.ext hE hi.len (vR.of hn0 hM)
 refine ⟨hT.size,hT.defers,fun t x hx=>?_⟩
 obtain ⟨y,hy,rfl⟩:=pV hx
 obtain ⟨u,h1,h2⟩:=hT.slot t y hy
 exact ⟨u,h1,aci hS hM h2⟩
def thS (id ver:Nat) (cs:List (List AC)):SV->SV
 | .sl id' ver' lo n=>if id'=id/\ver'=ver then .c (.lst ((cs.drop lo).take n)) else .sl id' ver' lo n
 | x=>x
def thA (id ver:Nat) (cs:List (List AC)):AV->AV
 | .one x => .one (thS id ver cs x)
 | .agg xs => .agg (xs.map (thS id ver cs))
 | v=>v
theorem LY {R':PH} {γ':List Gh} {L':List Ob} {id ver:Nat} {cs:List (List AC)} (hS : ∀ lo n u,(SV.sl id ver lo n).rep R γ L u->bX R' u (.lst ((cs.drop lo).take n))) (hM:Mv R R' γ γ' L L') {x:SV} {u:Value} (h:x.rep R γ L u):(thS id ver cs x).rep R' γ' L' u:=by
 cases x with
 | sl i v l n =>
  unfold thS
  dsimp only
  split
  ·rename_i e;obtain ⟨rfl,rfl⟩:=e;exact hS l n u h
  ·exact SV.mv hM h
 | c x=>exact SV.mv hM h
 | emp=>exact SV.mv (x := .emp) hM h
 | own es t=>exact SV.mv (x := .own es t) hM h
 | ptr i o=>exact SV.mv (x := .ptr i o) hM h
 | ep i v j o=>exact SV.mv (x := .ep i v j o) hM h
 | mp i=>exact SV.mv (x := .mp i) hM h
 | clo f caps=>exact SV.mv (x := .clo f caps) hM h
theorem yL {c:Code} (id:Nat) {ver k:Nat} {es:List (List SV)} {cs:List (List AC)} (hL:L[id]?=some (.row ver es k)) (hn:iC es=some cs) (h:Aw P N n0 c Q (T.map fun p=>(p.1,thA id ver cs p.2)) (L.set id .dead)):Aw P N n0 c Q T L:=by
 intro hn0 B R γ w a hi hT
 obtain ⟨R',γ',hI,hE,hM,hS⟩:=uE hi hL hn
 refine wp_mono (h (by simpa using hn0) B R' γ' w a hI ?_) fun _ _ _ hh=>hh.ext hE hi.len (vR.of hn0 hM)
 refine ⟨hT.size,hT.defers,fun t x hx=>?_⟩
 obtain ⟨y,hy,rfl⟩:=pV hx
 obtain ⟨u,h1,h2⟩:=hT.slot t y hy
 refine ⟨u,h1,?_⟩
 cases y with
 | one x=>exact LY hS hM h2
 | agg xs =>
  obtain ⟨vs,rfl,hsz,hc⟩:=h2
  refine ⟨vs,rfl,by rw [hsz,aqa],fun j u x hu hx=>?_⟩
  rw [aql] at hx
  cases hy:xs[j]? with
  | none=>rw [hy] at hx;cases hx
  | some y=>rw [hy] at hx;cases hx;exact LY hS hM (hc j u y hu hy)
 | tup ps=>exact AV.mv (x := .tup ps) hM h2
 | tupS xs=>exact AV.mv (x := .tupS xs) hM h2
 | undef=>exact AV.mv (x := .undef) hM h2
end
open Go.RowKit
section
variable {P:Program} {Q:Exit->Act->World->Prop} {md:Region.Mode}
def vD (md:Region.Mode) (ops:Array Oper):Nat->Array Bool->List Nat->Prop
 | 0,_,s=>s=[]
 | fuel+1,listed,s=>(Region.ready md ops listed=[]/\s=[]) \/ ∃ i s',i∈Region.ready md ops listed/\s=i::s'/\vD md ops fuel (listed.setIfInBounds i true) s'
theorem aku (ops:Array Oper) : ∀ (fuel t:Nat) (listed:Array Bool),vD md ops fuel listed (Region.linearise.go md ops fuel t listed []):=by
 intro fuel
 induction fuel with
 | zero=>intro t listed;simp [Region.linearise.go,vD]
 | succ fuel ih =>
  intro t listed
  simp only [Region.linearise.go]
  change vD md ops (fuel+1) listed (match (Region.ready md ops listed)[t%(Region.ready md ops listed).length]? with
   | some i=>Region.linearise.go md ops fuel (t/(Region.ready md ops listed).length) (listed.setIfInBounds i true) [i]
   | none=>[].reverse)
  cases hi:(Region.ready md ops listed)[t%(Region.ready md ops listed).length]? with
  | none =>
   have hnil:Region.ready md ops listed=[]:=by
    cases hr:Region.ready md ops listed with
    | nil=>rfl
    | cons x xs =>
     rw [hr] at hi
     have hlt:t%(x::xs).length<(x::xs).length:=Nat.mod_lt _ (by simp)
     simp at hi
     simp at hlt
     omega
   exact .inl ⟨hnil,rfl⟩
  | some i =>
   simp only []
   rw [linearise_go_acc,List.reverse_singleton,List.singleton_append]
   exact .inr ⟨i,_,ap6 hi,rfl,ih _ _⟩
theorem JI {ops:Array Oper} : ∀ (fuel:Nat) (listed:Array Bool) (s:List Nat) (a:Act) (w:World),wpAny P md ops Q fuel listed a w->vD md ops fuel listed s->wpOps P ops Q s a w
 | 0,_,s,a,w,h,hs=>by cases hs;exact h.2
 | fuel+1,listed,s,a,w,h,hs=>by
  rcases hs with ⟨h0,rfl⟩|⟨i,s',hi,rfl,hs⟩
  ·exact h.1 h0
  ·rw [wpOps_cons]
   exact wpOp_mono (fun a w hh=>JI fuel _ s' a w hh hs) (h.2 i hi)
theorem mem_ready {ops:Array Oper} {listed:Array Bool} {i:Nat} : i∈Region.ready md ops listed ↔ ∃ o,ops[i]?=some o/\listed.getD i true=false /\ ∀ e∈o.after.toList,Region.binds md e=true->listed.getD e.on false=true:=by
 unfold Region.ready
 rw [List.mem_filter,List.mem_range,aqg,Bool.not_eq_true']
 constructor
 ·rintro ⟨hi,h1,h2⟩
  have ho:ops[i]?=some ops[i]:=aqn hi
  rw [ho,Option.map_some,Option.getD_some] at h2
  refine ⟨_,ho,h1,fun e he hb=>?_⟩
  have:=Array.all_eq_true'.1 h2 e (by simpa using he)
  rw [hb] at this
  simpa using this
 ·rintro ⟨o,ho,h1,h2⟩
  refine ⟨(aqJ.1 ho).1,h1,?_⟩
  rw [ho,Option.map_some,Option.getD_some,Array.all_eq_true']
  intro e he
  by_cases hb:Region.binds md e=true
  ·rw [hb,h2 e (by simpa using he) hb];rfl
  ·simp [hb]
structure Fe (π:Nat->Nat) (u v:Nat) (l m:List Oper):Prop where
 inv : ∀ i,π (π i)=i
 get : ∀ i, ∃ f:Oper->Array Edge,m[π i]?=(l[i]?).map (fun o => { o with after:=f o }) /\
  ∀ o,l[i]?=some o->(∀ e∈o.after.toList, { e with on:=π e.on } ∈ (f o).toList) /\ ∀ e∈(f o).toList,(∃ e'∈o.after.toList,e = { e' with on:=π e'.on })\/(i=v/\e.on=π u)
 len:m.length=l.length
structure Sw (π:Nat->Nat) (listed listed':Array Bool):Prop where
 get : ∀ i,listed'[π i]?=listed[i]?
theorem Fe.inj {π:Nat->Nat} {u v:Nat} {l m:List Oper} (h:Fe π u v l m) {i j:Nat} (e:π i=π j):i=j:=by rw [<- h.inv i,e,h.inv]
theorem Sw.set {π:Nat->Nat} {u v:Nat} {l m:List Oper} (hL:Fe π u v l m) {a b:Array Bool} (h:Sw π a b) (i:Nat):Sw π (a.setIfInBounds i true) (b.setIfInBounds (π i) true):=by
 refine ⟨fun j=>?_⟩
 rw [Array.getElem?_setIfInBounds,Array.getElem?_setIfInBounds]
 by_cases e:i=j
 ·subst e
  rw [if_pos rfl,if_pos rfl]
  have:=h.get i
  by_cases hi:i<a.size
  ·rw [aqn hi] at this
   rw [if_pos hi,if_pos (aqJ.1 this).1]
  ·have hn:a[i]?=none:=Array.getElem?_eq_none (by omega)
   rw [hn] at this
   rw [if_neg hi,if_neg (by have:=Array.getElem?_eq_none_iff.1 this;omega)]
 ·rw [if_neg e,if_neg (fun e'=>e (hL.inj e'))]
  exact h.get j
theorem Sw.getD {π:Nat->Nat} {a b:Array Bool} (h:Sw π a b) (i:Nat) (d:Bool):b.getD (π i) d=a.getD i d:=by
 rw [Array.getD_eq_getD_getElem?,Array.getD_eq_getD_getElem?,h.get]
theorem Fe.fwd {π:Nat->Nat} {u v:Nat} {l m:List Oper} (hL:Fe π u v l m) {a b:Array Bool} (h:Sw π a b) {i:Nat} (hi:i∈Region.ready md l.toArray a) (hv:i=v->a.getD u false=true):π i∈Region.ready md m.toArray b:=by
 obtain ⟨o,ho,h1,h2⟩:=mem_ready.1 hi
 rw [List.getElem?_toArray] at ho
 obtain ⟨f,hm,hf⟩:=hL.get i
 rw [ho,Option.map_some] at hm
 refine mem_ready.2 ⟨_,by rw [List.getElem?_toArray];exact hm,by rw [h.getD];exact h1,fun e he hb=>?_⟩
 rcases (hf o ho).2 e he with ⟨e',he',rfl⟩|⟨hiv,hon⟩
 ·rw [h.getD];exact h2 e' he' hb
 ·rw [hon,h.getD];exact hv hiv
theorem Fe.bwd {π:Nat->Nat} {u v:Nat} {l m:List Oper} (hL:Fe π u v l m) {a b:Array Bool} (h:Sw π a b) {j:Nat} (hj:j∈Region.ready md m.toArray b):π j∈Region.ready md l.toArray a:=by
 obtain ⟨o',ho',h1,h2⟩:=mem_ready.1 hj
 rw [List.getElem?_toArray] at ho'
 obtain ⟨f,hm,hf⟩:=hL.get (π j)
 rw [hL.inv,ho'] at hm
 cases ho:l[π j]? with
 | none=>rw [ho] at hm;cases hm
 | some o =>
  rw [ho,Option.map_some] at hm
  injection hm with hm
  subst hm
  refine mem_ready.2 ⟨o,by rw [List.getElem?_toArray];exact ho,by rw [<- h.getD,hL.inv];exact h1,fun e he hb=>?_⟩
  have:=h2 _ ((hf o ho).1 e he) hb
  rw [<- h.getD];exact this
theorem Fe.seq {π:Nat->Nat} {u v:Nat} {l m:List Oper} (hL:Fe π u v l m) : ∀ (fuel:Nat) (a b:Array Bool) (s:List Nat),Sw π a b->a.getD u false=true->vD md l.toArray fuel a s->vD md m.toArray fuel b (s.map π)
 | 0,_,_,s,_,_,hs=>by cases hs;rfl
 | fuel+1,a,b,s,h,hu,hs=>by
  rcases hs with ⟨h0,rfl⟩|⟨i,s',hi,rfl,hs⟩
  ·refine .inl ⟨?_,rfl⟩
   apply List.eq_nil_iff_forall_not_mem.2
   intro j hj
   have:=hL.bwd h hj
   rw [h0] at this;cases this
  ·refine .inr ⟨π i,s'.map π,hL.fwd h hi (fun _=>hu),rfl,Fe.seq hL fuel _ _ s' (h.set hL i) ?_ hs⟩
   rw [Array.getD_eq_getD_getElem?] at hu ⊢
   rw [Array.getElem?_setIfInBounds]
   by_cases e:i=u
   ·subst e
    rw [if_pos rfl]
    by_cases hlt:i<a.size
    ·rw [if_pos hlt];rfl
    ·rw [Array.getElem?_eq_none (by omega)] at hu;cases hu
   ·rw [if_neg e];exact hu
theorem SK {π1 π2:Nat->Nat} {u v:Nat} {l m1 m2:List Oper} (h1:Fe π1 u v l m1) (h2:Fe π2 v u l m2) (hne:u≠v) : ∀ (fuel:Nat) (a b1 b2:Array Bool) (s:List Nat),Sw π1 a b1->Sw π2 a b2->vD md l.toArray fuel a s ->
  vD md m1.toArray fuel b1 (s.map π1)\/vD md m2.toArray fuel b2 (s.map π2)
 | 0,_,_,_,s,_,_,hs=>by cases hs;exact .inl rfl
 | fuel+1,a,b1,b2,s,k1,k2,hs=>by
  rcases hs with ⟨h0,rfl⟩|⟨i,s',hi,rfl,hs⟩
  ·refine .inl (.inl ⟨?_,rfl⟩)
   apply List.eq_nil_iff_forall_not_mem.2
   intro j hj
   have:=h1.bwd k1 hj
   rw [h0] at this;cases this
  ·have hin : ∀ x,i=x->(a.setIfInBounds i true).getD x false=true:=fun x e=>by
    subst e
    obtain ⟨o,_,hl,_⟩:=mem_ready.1 hi
    rw [Array.getD_eq_getD_getElem?,Array.getElem?_setIfInBounds,if_pos rfl]
    by_cases hlt:i<a.size
    ·rw [if_pos hlt];rfl
    ·rw [Array.getD_eq_getD_getElem?,Array.getElem?_eq_none (by omega)] at hl;cases hl
   by_cases eu:i=u
   ·exact .inl (.inr ⟨_,_,h1.fwd k1 hi (fun e=>absurd (eu.symm.trans e) hne),rfl,h1.seq fuel _ _ s' (k1.set h1 i) (hin u eu) hs⟩)
   ·by_cases ev:i=v
    ·exact .inr (.inr ⟨_,_,h2.fwd k2 hi (fun e=>absurd e eu),rfl,h2.seq fuel _ _ s' (k2.set h2 i) (hin v ev) hs⟩)
    ·rcases SK h1 h2 hne fuel _ _ _ s' (k1.set h1 i) (k2.set h2 i) hs with h|h
     ·exact .inl (.inr ⟨_,_,h1.fwd k1 hi (fun e=>absurd e ev),rfl,h⟩)
     ·exact .inr (.inr ⟨_,_,h2.fwd k2 hi (fun e=>absurd e eu),rfl,h⟩)
theorem ER {π:Nat->Nat} {u v:Nat} {l m:List Oper} (hL:Fe π u v l m) (hg : ∀ (i:Nat) o,l[i]?=some o->o.guard=none) : ∀ (s:List Nat) (a:Act) (w:World),wpOps P m.toArray Q (s.map π) a w->wpOps P l.toArray Q s a w
 | [],_,_,h=>h
 | i::s,a,w,h=>by
  rw [ap',wpOps_cons] at h
  rw [wpOps_cons]
  have ih:=ER hL hg s
  obtain ⟨f,hm,_⟩:=hL.get i
  unfold wpOp at h ⊢
  rw [List.getElem?_toArray] at h ⊢
  rw [hm] at h
  cases ho:l[i]? with
  | none=>rw [ho] at h;exact ih a w h
  | some o =>
   rw [ho,Option.map_some] at h
   simp only at h ⊢
   have hgo:=hg i o ho
   have e1 : ∀ y,Region.wanted o y=true:=fun y=>by unfold Region.wanted;rw [hgo]
   have e2 : ∀ y,Region.wanted { o with after:=f o } y=true:=fun y=>by unfold Region.wanted;show (match o.guard with|none=>true|some (j,b)=>_)=true;rw [hgo]
   rw [e2,if_pos rfl] at h
   rw [e1,if_pos rfl]
   rcases h with h|h
   ·exact .inl (Oper.wp_mono (fun a w=>ih a w) h)
   ·exact .inr h
end
def swp (p i:Nat):Nat:=if i=p then p+1 else if i=p+1 then p else i
theorem acE (p i:Nat):swp p (swp p i)=i:=by
 unfold swp
 by_cases h1:i=p
 ·rw [if_pos h1,if_neg (by omega),if_pos rfl];exact h1.symm
 ·rw [if_neg h1]
  by_cases h2:i=p+1
  ·rw [if_pos h2,if_pos rfl];exact h2.symm
  ·rw [if_neg h2,if_neg h1,if_neg h2]
def ak' (p i:Nat) (o:Oper):Oper := { o with after:=if i=p+1 then o.after.push ⟨p, .data⟩ else o.after }
def ZM (p:Nat) (l:List Oper):List Oper:=l.mapIdx (ak' p)
def amf (p:Nat) (o:Oper):Oper := { o with after:=o.after.map fun e => { e with on:=swp p e.on } }
def Yz (p:Nat) (l:List Oper):List Oper:=match l[p]?,l[p+1]? with
 | some a,some b=>(l.set p b).set (p+1) a
 | _,_=>l
def l2E (p:Nat) (l:List Oper):List Oper:=(Yz p l).mapIdx fun i o=>ak' p i (amf p o)
theorem aft {p:Nat} {l:List Oper} (hp:p+1<l.length) (i:Nat):(Yz p l)[swp p i]?=l[i]?:=by
 have h1:l[p]?=some l[p]:=ap9 (by omega)
 have h2:l[p+1]?=some l[p+1]:=ap9 hp
 unfold Yz
 rw [h1,h2]
 simp only
 unfold swp
 by_cases e1:i=p
 ·subst e1
  rw [if_pos rfl,aqh (by simpa using hp),h1]
 ·rw [if_neg e1]
  by_cases e2:i=p+1
  ·subst e2
   rw [if_pos rfl,aqi (by omega),aqh (by omega),h2]
  ·rw [if_neg e2,aqi (by omega),aqi (by omega)]
theorem adX (p:Nat) (l:List Oper):(Yz p l).length=l.length:=by unfold Yz;split<;>simp
theorem anY (p:Nat) (l:List Oper):Fe (fun i=>i) p (p+1) l (ZM p l):=by
 refine ⟨fun _=>rfl,fun i=>⟨fun o=>if i=p+1 then o.after.push ⟨p, .data⟩ else o.after,?_,fun o ho=>⟨fun e he=>?_,fun e he=>?_⟩⟩,by simp [ZM]⟩
 ·unfold ZM
  rw [List.getElem?_mapIdx]
  rfl
 ·show e∈_
  split
  ·simp [he]
  ·exact he
 ·split at he
  ·rename_i hi
   rw [Array.toList_push,aqr,aqF] at he
   rcases he with he|rfl
   ·exact .inl ⟨e,he,rfl⟩
   ·exact .inr ⟨hi,rfl⟩
  ·exact .inl ⟨e,he,rfl⟩
theorem an_ {p:Nat} {l:List Oper} (hp:p+1<l.length):Fe (swp p) (p+1) p l (l2E p l):=by
 refine ⟨acE p,fun i=>⟨fun o=>if swp p i=p+1 then (o.after.map fun e => { e with on:=swp p e.on }).push ⟨p, .data⟩ else o.after.map fun e => { e with on:=swp p e.on }, ?_,fun o ho=>⟨fun e he=>?_,fun e he=>?_⟩⟩,by unfold l2E;rw [List.length_mapIdx,adX]⟩
 ·unfold l2E
  rw [List.getElem?_mapIdx,aft hp]
  rfl
 ·have hm:({ e with on:=swp p e.on } : Edge)∈(o.after.map fun e => { e with on:=swp p e.on }).toList:=by
   rw [Array.toList_map];exact aqz.2 ⟨e,he,rfl⟩
  split
  ·rw [Array.toList_push];exact List.mem_append_left _ hm
  ·exact hm
 ·have hback : ∀ e:Edge,e∈(o.after.map fun e => { e with on:=swp p e.on }).toList -> ∃ e'∈o.after.toList,e = { e' with on:=swp p e'.on } := fun e h=>by
   rw [Array.toList_map] at h
   obtain ⟨e',h1,h2⟩:=aqz.1 h
   exact ⟨e',h1,h2.symm⟩
  split at he
  ·rename_i hi
   rw [Array.toList_push,aqr,aqF] at he
   rcases he with he|rfl
   ·exact .inl (hback e he)
   ·refine .inr ⟨?_,?_⟩
    ·rw [<- acE p i,hi];unfold swp;rw [if_neg (by omega),if_pos rfl]
    ·show p=swp p (p+1);unfold swp;rw [if_neg (by omega),if_pos rfl]
  ·exact .inl (hback e he)
section
variable {P:Program} {ti:TI} {N n0:Nat}
theorem TB (F:List Nat) (hti:TIok P ti) {Q:AX->Tm->List Ob->Prop} {T:Tm} {L:List Ob} {l:List Oper} (ds:List (Option Tmp)) (hds:l.map (·.dst)=ds) (hc:jN F ti l=true) (hF:fzB F T=true) (h:aX P ti N ds (Q .normal) l T L)
  (hn:n0<=L.length) {B:Nat->Prop} {R:PH} {γ:List Gh} {w:World} {a:Act} (hi:Inv B R γ L w) (hT:jo N R γ L T a):wpAny P .any l.toArray (Fs N n0 B Q R w γ L) l.length (Array.replicate l.length false) a { w with drawn:=w.drawn+1 } := by
 have hD:=XX hc
 obtain ⟨vs,Ls,h1,h0,h2,h3⟩:=abH l T L h
 subst h0
 have hiD:Inv B R γ (Ls 0) { w with drawn:=w.drawn+1 } := ⟨hi.len,hi.val,fun id x g hx hg=>(hi.obj id x g hx hg).mv Mv.refl (fun _ _=>rfl) (fun _ _ _ h=>h),hi.inj,hi.new,hi.bsz⟩
 have heD:Ext B R R w { w with drawn:=w.drawn+1 } := ⟨⟨rfl,rfl,rfl,aqe _,fun _ _=>rfl⟩,PH.sub_refl _,fun _ _ _=>rfl⟩
 refine aol hti hds (B:=B) hD h1 (aiH hF) h2 h3 (R0:=R) (γ0:=γ) (w0:=w) ?_ l.length (Array.replicate l.length false) 0 R γ a { w with drawn:=w.drawn+1 } ?_ ?_
 ·intro T' L' R' γ' w' a' q1 q2 q3 q4 q5
  exact ⟨.normal,T',L',R',γ',rfl,q1,q2,q3,q4,vR.of hn q5⟩
 ·unfold zZ
  exact Nat.le_trans List.countP_le_length (by simp)
 ·have hf : ∀ i:Nat,i<l.length->(Array.replicate l.length false)[i]?=some false:=fun i hi=>by simp [hi]
  have ht : ∀ i:Nat,(Array.replicate l.length false)[i]?≠some true:=by
   intro i e
   by_cases hi:i<l.length
   ·rw [hf i hi] at e;cases e
   ·rw [Array.getElem?_eq_none (by simp;omega)] at e;cases e
  exact ⟨hiD,hT.size,hT.defers,⟨by simp,fun i o _ e=>absurd e (ht i)⟩,by omega,fun c _ hc=>by omega,fun c o _ hoc _=>hf c (ap0.1 hoc).1,fun i o d v e=>absurd e (ht i),fun t x hx _=>hT.slot t x hx,heD,Mv.refl⟩
theorem II (F:List Nat) (hti:TIok P ti) {Q:AX->Tm->List Ob->Prop} {T:Tm} {L:List Ob} {id:Nat} {l:List Oper} (p:Nat) (hp:p+1<l.length) (hg:l.all (fun o=>o.guard.isNone)=true) (hmix:P.follows .mixedOrders=true) (hc1:jN F ti (ZM p l)=true) (hc2:jN F ti (l2E p l)=true) (hF:fzB F T=true)
  (h1:aX P ti N ((ZM p l).map (·.dst)) (Q .normal) (ZM p l) T L) (h2:aX P ti N ((l2E p l).map (·.dst)) (Q .normal) (l2E p l) T L):Aw P N n0 (.region id l.toArray true) Q T L:=by
 intro hn B R γ w a hi hT
 refine wp_region_draw fun t=>?_
 have hs:Region.schedule (P.follows .mixedOrders) l.toArray t=Region.linearise.go .any l.toArray l.length t (Array.replicate l.length false) []:=by
  simp only [Region.schedule,hmix,Bool.true_or,if_true,Region.linearise,List.size_toArray]
 rw [hs]
 have hseq:=aku (md := .any) l.toArray l.length t (Array.replicate l.length false)
 generalize Region.linearise.go .any l.toArray l.length t (Array.replicate l.length false) []=s at hseq
 have hgn : ∀ (i:Nat) o,l[i]?=some o->o.guard=none:=fun i o ho=>by
  have:=aqO.1 hg o (ap6 ho)
  simpa using this
 have hsw:Sw (swp p) (Array.replicate l.length false) (Array.replicate l.length false):=⟨fun i=>by
  by_cases hi:i<l.length
  ·have:swp p i<l.length:=by
    unfold swp
    by_cases e1:i=p
    ·rw [if_pos e1];exact hp
    ·rw [if_neg e1]
     by_cases e2:i=p+1
     ·rw [if_pos e2];omega
     ·rw [if_neg e2];exact hi
   simp [hi,this]
  ·have : ¬ swp p i<l.length:=by unfold swp;rw [if_neg (by omega),if_neg (by omega)];exact hi
   simp [hi,this]⟩
 have L1:=anY p l
 have L2:=an_ hp
 rcases SK L1 L2 (by omega) l.length _ _ _ s ⟨fun _=>rfl⟩ hsw hseq with h|h
 ·refine ER L1 hgn s a _ (JI l.length (Array.replicate l.length false) _ a _ ?_ h)
  have:=TB F hti _ rfl hc1 hF h1 hn hi hT
  rw [L1.len] at this
  exact this
 ·refine ER L2 hgn s a _ (JI l.length (Array.replicate l.length false) _ a _ ?_ h)
  have:=TB F hti _ rfl hc2 hF h2 hn hi hT
  rw [L2.len] at this
  exact this
def o_ (N n0:Nat) (T:Tm) (L:List Ob) (T':Tm) (L':List Ob):Prop :=
 n0<=L.length->n0<=L'.length /\ ∀ (B:Nat->Prop) (R:PH) (γ:List Gh) (w:World) (a:Act),Inv B R γ L w->jo N R γ L T a -> ∃ R' γ',Inv B R' γ' L' w/\jo N R' γ' L' T' a/\Ext B R R' w w/\vR n0 R R' γ γ' L L'
theorem o_.refl {T:Tm} {L:List Ob} : o_ N n0 T L T L:=fun hn=>⟨hn,fun _ R γ w _ hi hT=>⟨R,γ,hi,hT,Ext.refl _ _ _,vR.of hn Mv.refl⟩⟩
theorem o_.trans {T T1 T2:Tm} {L L1 L2:List Ob} (h:o_ N n0 T L T1 L1) (k:o_ N n0 T1 L1 T2 L2):o_ N n0 T L T2 L2:=fun hn =>
 ⟨(k (h hn).1).1,fun B R γ w a hi hT=>by
  obtain ⟨R1,γ1,i1,t1,e1,m1⟩:=(h hn).2 B R γ w a hi hT
  obtain ⟨R2,γ2,i2,t2,e2,m2⟩:=(k (h hn).1).2 B R1 γ1 w a i1 t1
  exact ⟨R2,γ2,i2,t2,e1.trans e2,m1.trans hi.len m2⟩⟩
theorem o_.less {T T':Tm} {L:List Ob} (h : ∀ t x,T'.lookup t=some x->T.lookup t=some x):o_ N n0 T L T' L:=fun hn =>
 ⟨hn,fun _ R γ w _ hi hT=>⟨R,γ,hi,⟨hT.size,hT.defers,fun t x hx=>hT.slot t x (h t x hx)⟩,Ext.refl _ _ _,vR.of hn Mv.refl⟩⟩
theorem o_.box {T:Tm} {L:List Ob} (id:Nat) {cs:List SV} {ts:List AC} (hL:L[id]?=some (.box cs)) (hn:mV cs=some ts):o_ N n0 T L (T.map fun p=>(p.1,unA id ts p.2)) (L.set id .dead):=fun hn0 =>
 ⟨by simpa using hn0,fun B R γ w a hi hT=>by
  obtain ⟨R',hI,hE,hM,hS⟩:=AY hi hL hn
  refine ⟨R',γ,hI,⟨hT.size,hT.defers,fun t x hx=>?_⟩,hE,vR.of hn0 hM⟩
  obtain ⟨y,hy,rfl⟩:=pV hx
  obtain ⟨u,h1,h2⟩:=hT.slot t y hy
  exact ⟨u,h1,aci hS hM h2⟩⟩
theorem o_.row {T:Tm} {L:List Ob} (id:Nat) {ver k:Nat} {es:List (List SV)} {cs:List (List AC)} (hL:L[id]?=some (.row ver es k)) (hn:iC es=some cs):o_ N n0 T L (T.map fun p=>(p.1,thA id ver cs p.2)) (L.set id .dead):=fun hn0 =>
 ⟨by simpa using hn0,fun B R γ w a hi hT=>by
  obtain ⟨R',γ',hI,hE,hM,hS⟩:=uE hi hL hn
  refine ⟨R',γ',hI,⟨hT.size,hT.defers,fun t x hx=>?_⟩,hE,vR.of hn0 hM⟩
  obtain ⟨y,hy,rfl⟩:=pV hx
  obtain ⟨u,h1,h2⟩:=hT.slot t y hy
  refine ⟨u,h1,?_⟩
  cases y with
  | one x=>exact LY hS hM h2
  | agg xs =>
   obtain ⟨vs,rfl,hsz,hc⟩:=h2
   refine ⟨vs,rfl,by rw [hsz,aqa],fun j u x hu hx=>?_⟩
   rw [aql] at hx
   cases hy:xs[j]? with
   | none=>rw [hy] at hx;cases hx
   | some y=>rw [hy] at hx;cases hx;exact LY hS hM (hc j u y hu hy)
  | tup ps=>exact AV.mv (x := .tup ps) hM h2
  | tupS xs=>exact AV.mv (x := .tupS xs) hM h2
  | undef=>exact AV.mv (x := .undef) hM h2⟩
theorem NQ {c:Code} {Q:AX->Tm->List Ob->Prop} {T:Tm} {L:List Ob} (h:Aw P N n0 c (fun x T' L' => ∃ T2 L2,o_ N n0 T' L' T2 L2/\Q x T2 L2) T L):Aw P N n0 c Q T L:=by
 intro hn B R γ w a hi hT
 refine wp_mono (h hn B R γ w a hi hT) ?_
 rintro e a1 w1 ⟨x,T1,L1,R1,γ1,rfl,⟨T2,L2,g,q⟩,i1,t1,e1,m1⟩
 obtain ⟨R2,γ2,i2,t2,e2,m2⟩:=(g m1.lo').2 B R1 γ1 w1 a1 i1 t1
 exact ⟨x,T2,L2,R2,γ2,rfl,q,i2,t2,e1.trans e2,m1.trans hi.len m2⟩
theorem Da {Q:AX->Tm->List Ob->Prop} {c:Code} {T:Tm} {L:List Ob} (t ver k:Nat) (ht:T.lookup t=some (.one .emp)) (hv:65536<=ver) (h:Aw P N n0 c Q ((t, .one (.sl L.length ver 0 0))::T) (L++[.row ver [] k])):Aw P N n0 c Q T L:=by
 intro hn B R γ w a hi hT
 have hm:Mv R R γ (γ++[.none]) L (L++[.row ver [] k]):=Mv.push _ _ hi.len
 refine wp_mono (h (by simp;omega) B R (γ++[.none]) w a (hi.rowTok ver k) ⟨hT.size,hT.defers,fun t' x hx=>?_⟩) fun _ _ _ hh=>hh.ext (Ext.refl _ _ _) hi.len (vR.of hn hm)
 rw [List.lookup_cons] at hx
 by_cases e:t'=t
 ·subst e
  simp at hx;subst hx
  obtain ⟨u,h1,a0,rfl⟩:=hT.slot t' _ ht
  refine ⟨_,h1,⟨rfl,rfl⟩,by simp,fun ver2 es2 k2 e2=>?_⟩
  rw [ap7 (aqe _)] at e2
  simp at e2
  obtain ⟨q1,q2,q3⟩:=e2
  subst q1 q2 q3
  exact ⟨aqe _,fun _=>⟨by simp, .none,by rw [<- hi.len];simp,⟨a0,rfl,fun h=>by omega⟩,rfl,rfl⟩⟩
 ·have e':(t'==t)=false:=by simpa using e
  rw [e'] at hx
  obtain ⟨u,h1,h2⟩:=hT.slot t' x hx
  exact ⟨u,h1,AV.mv hm h2⟩
end
mutual
def zI:AC->AC->Bool
 | .nul k, .nul k'=>decide (k=k')
 | .bool b, .bool b'=>decide (b=b')
 | .int k n, .int k' n'=>decide (k=k')&&decide (n=n')
 | .str s, .str s'=>decide (s=s')
 | .lst es, .lst es'=>NJ es es'
 | .ref cs, .ref cs'=>UW cs cs'
 | .fn f cs, .fn f' cs'=>decide (f=f')&&UW cs cs'
 | _,_=>false
def UW:List AC->List AC->Bool
 | [],[]=>true
 | x::l,y::m=>zI x y&&UW l m
 | _,_=>false
def NJ:List (List AC)->List (List AC)->Bool
 | [],[]=>true
 | x::l,y::m=>UW x y&&NJ l m
 | _,_=>false
end
mutual
theorem Lh : ∀ (x y:AC),zI x y=true->x=y
 | .nul k,y,h=>by cases y<;>first|(simp [zI] at h;done)|(simp [zI] at h;rw [h])
 | .bool k,y,h=>by cases y<;>first|(simp [zI] at h;done)|(simp [zI] at h;rw [h])
 | .int k n,y,h=>by cases y<;>first|(simp [zI] at h;done)|(simp [zI] at h;rw [h.1,h.2])
 | .str k,y,h=>by cases y<;>first|(simp [zI] at h;done)|(simp [zI] at h;rw [h])
 | .lst k,y,h=>by cases y<;>first|(simp [zI] at h;done)|(simp [zI] at h;rw [Pb _ _ h])
 | .ref k,y,h=>by cases y<;>first|(simp [zI] at h;done)|(simp [zI] at h;rw [Gt _ _ h])
 | .fn k n,y,h=>by cases y<;>first|(simp [zI] at h;done)|(simp [zI] at h;rw [h.1,Gt _ _ h.2])
theorem Gt : ∀ (x y:List AC),UW x y=true->x=y
 | [],y,h=>by cases y<;>first|rfl|(simp [UW] at h;done)
 | x::l,y,h=>by
  cases y with
  | nil=>simp [UW] at h
  | cons y m=>simp [UW] at h;rw [Lh _ _ h.1,Gt _ _ h.2]
theorem Pb : ∀ (x y:List (List AC)),NJ x y=true->x=y
 | [],y,h=>by cases y<;>first|rfl|(simp [NJ] at h;done)
 | x::l,y,h=>by
  cases y with
  | nil=>simp [NJ] at h
  | cons y m=>simp [NJ] at h;rw [Gt _ _ h.1,Pb _ _ h.2]
end
def Ep {α:Type} (e:α->α->Bool):List α->List α->Bool
 | [],[]=>true
 | x::l,y::m=>e x y&&Ep e l m
 | _,_=>false
theorem ng {α:Type} {e:α->α->Bool} (he : ∀ x y,e x y=true->x=y) : ∀ (l m:List α),Ep e l m=true->l=m
 | [],m,h=>by cases m<;>first|rfl|(simp [Ep] at h;done)
 | x::l,m,h=>by
  cases m with
  | nil=>simp [Ep] at h
  | cons y m=>simp [Ep] at h;rw [he _ _ h.1,ng he _ _ h.2]
def SG:Cap->Cap->Bool
 | .c x, .c y=>zI x y
 | .ptr a b, .ptr c d=>decide (a=c)&&decide (b=d)
 | _,_=>false
theorem agQ : ∀ (x y:Cap),SG x y=true->x=y
 | .c x,y,h=>by cases y<;>first|(simp [SG] at h;done)|(simp [SG] at h;rw [Lh _ _ h])
 | .ptr a b,y,h=>by cases y<;>first|(simp [SG] at h;done)|(simp [SG] at h;rw [h.1,h.2])
def vz:SV->SV->Bool
 | .c x, .c y=>zI x y
 | .emp, .emp=>true
 | .own es t, .own es' t'=>NJ es es'&&decide (t=t')
 | .ptr a b, .ptr c d=>decide (a=c)&&decide (b=d)
 | .sl a b c d, .sl a' b' c' d'=>decide (a=a')&&(decide (b=b')&&(decide (c=c')&&decide (d=d')))
 | .ep a b c d, .ep a' b' c' d'=>decide (a=a')&&(decide (b=b')&&(decide (c=c')&&decide (d=d')))
 | .mp a, .mp b=>decide (a=b)
 | .clo f cs, .clo g ds=>decide (f=g)&&Ep SG cs ds
 | _,_=>false
theorem FY : ∀ (x y:SV),vz x y=true->x=y
 | .c x,y,h=>by cases y<;>first|(simp [vz] at h;done)|(simp [vz] at h;rw [Lh _ _ h])
 | .emp,y,h=>by cases y<;>first|rfl|(simp [vz] at h;done)
 | .own a b,y,h=>by cases y<;>first|(simp [vz] at h;done)|(simp [vz] at h;rw [Pb _ _ h.1,h.2])
 | .ptr a b,y,h=>by cases y<;>first|(simp [vz] at h;done)|(simp [vz] at h;rw [h.1,h.2])
 | .sl a b c d,y,h=>by cases y<;>first|(simp [vz] at h;done)|(simp [vz] at h;rw [h.1,h.2.1,h.2.2.1,h.2.2.2])
 | .ep a b c d,y,h=>by cases y<;>first|(simp [vz] at h;done)|(simp [vz] at h;rw [h.1,h.2.1,h.2.2.1,h.2.2.2])
 | .mp a,y,h=>by cases y<;>first|(simp [vz] at h;done)|(simp [vz] at h;rw [h])
 | .clo f cs,y,h=>by cases y<;>first|(simp [vz] at h;done)|(simp [vz] at h;rw [h.1,ng agQ _ _ h.2])
def aan:PV->PV->Bool
 | .one x, .one y=>zI x y
 | .agg x, .agg y=>UW x y
 | _,_=>false
theorem ace : ∀ (x y:PV),aan x y=true->x=y
 | .one x,y,h=>by cases y<;>first|(simp [aan] at h;done)|(simp [aan] at h;rw [Lh _ _ h])
 | .agg x,y,h=>by cases y<;>first|(simp [aan] at h;done)|(simp [aan] at h;rw [Gt _ _ h])
def Mg:AV->AV->Bool
 | .one x, .one y=>vz x y
 | .agg x, .agg y=>Ep vz x y
 | .tup x, .tup y=>Ep aan x y
 | .tupS x, .tupS y=>Ep vz x y
 | .undef, .undef=>true
 | _,_=>false
theorem akE : ∀ (x y:AV),Mg x y=true->x=y
 | .one x,y,h=>by cases y<;>first|(simp [Mg] at h;done)|(simp [Mg] at h;rw [FY _ _ h])
 | .agg x,y,h=>by cases y<;>first|(simp [Mg] at h;done)|(simp [Mg] at h;rw [ng FY _ _ h])
 | .tup x,y,h=>by cases y<;>first|(simp [Mg] at h;done)|(simp [Mg] at h;rw [ng ace _ _ h])
 | .tupS x,y,h=>by cases y<;>first|(simp [Mg] at h;done)|(simp [Mg] at h;rw [ng FY _ _ h])
 | .undef,y,h=>by cases y<;>first|rfl|(simp [Mg] at h;done)
def Q7:Ob->Ob->Bool
 | .box x, .box y=>Ep vz x y
 | .spare a b, .spare c d=>decide (a=c)&&decide (b=d)
 | .row v es k, .row v' es' k'=>decide (v=v')&&(Ep (Ep vz) es es'&&decide (k=k'))
 | .dead, .dead=>true
 | _,_=>false
theorem ajv : ∀ (x y:Ob),Q7 x y=true->x=y
 | .box x,y,h=>by cases y<;>first|(simp [Q7] at h;done)|(simp [Q7] at h;rw [ng FY _ _ h])
 | .spare a b,y,h=>by cases y<;>first|(simp [Q7] at h;done)|(simp [Q7] at h;rw [h.1,h.2])
 | .row v es k,y,h=>by cases y<;>first|(simp [Q7] at h;done)|(simp [Q7] at h;rw [h.1,ng (ng FY) _ _ h.2.1,h.2.2])
 | .map kvs,y,h=>by cases y<;>(simp [Q7] at h;done)
 | .dead,y,h=>by cases y<;>first|rfl|(simp [Q7] at h;done)
def anE:Tm->Tm->Bool:=Ep fun p q=>decide (p.1=q.1)&&Mg p.2 q.2
theorem akh (x y:Tm) (h:anE x y=true):x=y:=ng (fun p q hh=>by
 rw [aqg] at hh
 obtain ⟨a,b⟩:=p
 obtain ⟨c,d⟩:=q
 rw [show a=c from aqs hh.1,show b=d from akE _ _ hh.2]) x y h
open Go.RowKit Go.MapKept
def ck {α:Type} (v:α) (φ:Prop) [Decidable φ]:Option α:=if φ then some v else none
theorem bK {α:Type} {v r:α} {φ:Prop} [Decidable φ] (h:ck v φ=some r):v=r/\φ:=by
 unfold ck at h
 split at h
 ·exact ⟨aqw h,by assumption⟩
 ·cases h
def QT {α:Type} (f:Option (α × Prop)) (r:α):Prop := ∃ φ,f=some (r,φ)/\φ
theorem nN {α:Type} {v r:α} (h:some v=some r):QT (some (v,True)) r:=by
 cases h;exact ⟨_,rfl,trivial⟩
theorem mQ {α:Type} {v r:α} {φ:Prop} [Decidable φ] (h:ck v φ=some r):QT (some (v,φ)) r:=by
 obtain ⟨rfl,hφ⟩:=bK h
 exact ⟨_,rfl,hφ⟩
def isStr:Option TypeDesc->Bool
 | some .string=>true
 | _=>false
theorem nG {d:Option TypeDesc} (h:isStr d=true):d=some .string:=by
 unfold isStr at h;split at h
 ·rfl
 ·cases h
def Lr:Option TypeDesc->Bool
 | some .bool=>true
 | _=>false
theorem Tg {d:Option TypeDesc} (h:Lr d=true):d=some .bool:=by
 unfold Lr at h;split at h
 ·rfl
 ·cases h
def Kl (k:Nat):List (List AC)->Bool
 | []=>true
 | e::es=>Nat.beq e.length k&&Kl k es
theorem wW {k:Nat} : ∀ {es:List (List AC)}, Kl k es=true -> ∀ e∈es,e.length=k
 | [],_,e,he=>by cases he
 | x::es,h,e,he=>by
  rw [Kl,aqg] at h
  rcases aqf.1 he with rfl|he
  ·exact Nat.eq_of_beq_eq_true h.1
  ·exact wW h.2 e he
def anJ (op:BinOp) (k:IntKind) (a b:Int):Option AC :=
 match op with
 | .add=>some (.int k (k.wrap (a+b)))
 | .sub=>some (.int k (k.wrap (a-b)))
 | .mul=>some (.int k (k.wrap (a*b)))
 | .quo=>ck (.int k (k.wrap (a.tdiv b))) (b≠0)
 | .rem=>ck (.int k (a.tmod b)) (b≠0)
 | .eql=>some (.bool (decide (a=b)))
 | .neq=>some (.bool (decide (a≠b)))
 | .lss=>some (.bool (decide (a<b)))
 | .leq=>some (.bool (decide (a<=b)))
 | .gtr=>some (.bool (decide (b<a)))
 | .geq=>some (.bool (decide (b<=a)))
 | .and=>some (.int k (k.wrap (BitVec.ofInt k.bits a &&& BitVec.ofInt k.bits b).toNat))
 | .or=>some (.int k (k.wrap (BitVec.ofInt k.bits a ||| BitVec.ofInt k.bits b).toNat))
 | _=>none
theorem akb {op:BinOp} {k:IntKind} {a b:Int} {r:AC} (h:anJ op k a b=some r):QT (ahz op k a b) r:=by
 cases op<;>first|exact nN h|exact mQ h|cases h
def shB (op:BinOp) (k:IntKind) (a b:Int):Option (Option AC) :=
 match op with
 | .shl=>some (ck (.int k (k.wrap (a*2 ^ (min b.toNat k.bits)))) (0<=b))
 | .shr=>some (ck (.int k (a.fdiv (2 ^ (min b.toNat k.bits)))) (0<=b))
 | _=>none
def anB (op:BinOp) (a b:ByteArray):Option AC :=
 match op with
 | .add=>ck (.str (a++b)) (a.size+b.size<=9223372036854775807)
 | .eql=>some (.bool (a.toList==b.toList))
 | .neq=>some (.bool (!(a.toList==b.toList)))
 | .lss=>some (.bool (Op.bytesLess a.toList b.toList))
 | .leq=>some (.bool (Op.bytesLess a.toList b.toList||a.toList==b.toList))
 | .gtr=>some (.bool (!(Op.bytesLess a.toList b.toList||a.toList==b.toList)))
 | .geq=>some (.bool (!Op.bytesLess a.toList b.toList))
 | _=>none
theorem aiV {op:BinOp} {a b:ByteArray} {r:AC} (h:anB op a b=some r):QT (aho op a b) r:=by
 cases op<;>first|exact nN h|exact mQ h|cases h
def alY (ti:TI) (op:BinOp) (t:TypeId):AV->AV->Option AV
 | .one (.c (.int k a)), .one (.c (.int k' b))=>match shB op k a b with
  | some r=>r.map fun r => .one (.c r)
  | none=>match decide (k=k') with
   | true=>(anJ op k a b).map fun r => .one (.c r)
   | false=>none
 | .one (.c (.str a)), .one (.c (.str b))=>(anB op a b).map fun r => .one (.c r)
 | .one (.c (.bool a)), .one (.c (.bool b))=>match op with
  | .eql=>ck (.one (.c (.bool (a==b)))) (Lr (ti.kind t)=true)
  | .neq=>ck (.one (.c (.bool (!(a==b))))) (Lr (ti.kind t)=true)
  | _=>none
 | .agg xs, .agg ys=>match ti.eqs t with
  | some sh=>match op with
   | .eql=>ck (.one (.c (.bool (dU xs ys)))) (iV sh xs=true/\iV sh ys=true)
   | .neq=>ck (.one (.c (.bool (!dU xs ys)))) (iV sh xs=true/\iV sh ys=true)
   | _=>none
  | none=>none
 | _,_=>none
theorem map_some {α β:Type} {o:Option α} {f:α->β} {r:β} (h:o.map f=some r) : ∃ a,o=some a/\f a=r:=by
 cases o with
 | none=>cases h
 | some a=>exact ⟨a,rfl,aqw h⟩
theorem aj_ {ti:TI} {op:BinOp} {t:TypeId} {x y v:AV} (h:alY ti op t x y=some v):QT (Fh ti op t x y) v:=by
 unfold alY at h
 split at h
 ·rename_i k a k' b
  unfold Fh
  cases op
  case shl=>obtain ⟨r,h1,rfl⟩:=map_some h;obtain ⟨rfl,hφ⟩:=bK h1;exact ⟨_,rfl,hφ⟩
  case shr=>obtain ⟨r,h1,rfl⟩:=map_some h;obtain ⟨rfl,hφ⟩:=bK h1;exact ⟨_,rfl,hφ⟩
  all_goals
   simp only [shB,aly] at h ⊢
   split at h
   ·rename_i hk
    obtain ⟨r,h1,rfl⟩:=map_some h
    obtain ⟨φ,h2,hφ⟩:=akb h1
    rw [hk,h2]
    exact ⟨_,rfl,hφ⟩
   ·cases h
 ·obtain ⟨r,h1,rfl⟩:=map_some h
  obtain ⟨φ,h2,hφ⟩:=aiV h1
  unfold Fh
  dsimp only
  rw [h2]
  exact ⟨_,rfl,hφ⟩
 ·split at h
  ·obtain ⟨rfl,hφ⟩:=bK h;exact ⟨_,rfl,Tg hφ⟩
  ·obtain ⟨rfl,hφ⟩:=bK h;exact ⟨_,rfl,Tg hφ⟩
  ·cases h
 ·unfold Fh
  dsimp only
  split at h
  ·rename_i sh hs
   rw [hs]
   split at h
   ·exact mQ h
   ·exact mQ h
   ·cases h
  ·cases h
 ·cases h
def WV (ti:TI) (L:List Ob) (t:TypeId):AV->Option AV
 | .one (.c (.ref cs))=>match ti.agg t,ti.size t with
  | some false,_=>match cs with
   | x::_=>some (.one (.c x))
   | []=>none
  | some true,some n=>ck (.agg ((cs.take n).map .c)) (n<=cs.length)
  | _,_=>none
 | .one (.ptr id off)=>match L[id]? with
  | some (.box cs)=>match ti.agg t,ti.size t with
   | some false,_=>match cs[off]? with
    | some x=>some (.one x)
    | none=>none
   | some true,some n=>ck (.agg ((cs.drop off).take n)) (off+n<=cs.length)
   | _,_=>none
  | _=>none
 | .one (.ep id ver i o)=>match L[id]? with
  | some (.row ver' es _)=>match es[i]?,ti.agg t,ti.size t with
   | some e,some false,_=>match e[o]? with
    | some x=>ck (.one x) (ver=ver')
    | none=>none
   | some e,some true,some n=>ck (.agg ((e.drop o).take n)) (ver=ver'/\o+n<=e.length)
   | _,_,_=>none
  | _=>none
 | _=>none
theorem OU {ti:TI} {L:List Ob} {t:TypeId} {x v:AV} (h:WV ti L t x=some v):QT (jQ ti L t x) v:=by
 unfold WV at h
 unfold jQ
 split at h
 ·dsimp only
  split at h
  ·rename_i h1
   rw [h1]
   split at h
   ·exact nN h
   ·cases h
  ·rename_i h1 h2
   rw [h1,h2]
   exact mQ h
  ·cases h
 ·dsimp only
  split at h
  ·rename_i h0
   rw [h0]
   dsimp only
   split at h
   ·rename_i h1
    rw [h1]
    dsimp only
    split at h
    ·rename_i h2
     rw [h2]
     exact nN h
    ·cases h
   ·rename_i h1 h2
    rw [h1,h2]
    exact mQ h
   ·cases h
  ·cases h
 ·dsimp only
  split at h
  ·rename_i h0
   rw [h0]
   dsimp only
   split at h
   ·rename_i h1 h2
    rw [h1,h2]
    dsimp only
    split at h
    ·rename_i h3
     rw [h3]
     exact mQ h
    ·cases h
   ·rename_i h1 h2 h3
    rw [h1,h2,h3]
    exact mQ h
   ·cases h
  ·cases h
 ·cases h
def ES (ti:TI) (s:TypeId) (i0:Nat):AV->Option AV
 | .one (.c (.ref cs))=>match ti.field s i0 with
  | some (o,t)=>match ti.size t with
   | some (_+1)=>ck (.one (.c (.ref (cs.drop o)))) (o<=cs.length)
   | _=>none
  | none=>none
 | .one (.ptr id off)=>match ti.field s i0 with
  | some (o,t)=>match ti.size t with
   | some (_+1)=>some (.one (.ptr id (off+o)))
   | _=>none
  | none=>none
 | _=>none
theorem QK {ti:TI} {s:TypeId} {i0:Nat} {x v:AV} (h:ES ti s i0 x=some v):QT (kT ti s i0 x) v:=by
 unfold ES at h
 unfold kT
 split at h
 ·dsimp only
  split at h
  ·rename_i h0
   rw [h0]
   dsimp only
   split at h
   ·rename_i h1
    rw [h1]
    exact mQ h
   ·cases h
  ·cases h
 ·dsimp only
  split at h
  ·rename_i h0
   rw [h0]
   dsimp only
   split at h
   ·rename_i h1
    rw [h1]
    exact nN h
   ·cases h
  ·cases h
 ·cases h
def aaI (ti:TI) (s:TypeId) (i:Nat):AV->Option AV
 | .agg xs=>match ti.field s i with
  | some (o,t)=>match ti.agg t,ti.size t with
   | some false,_=>match xs[o]? with
    | some x=>some (.one x)
    | none=>none
   | some true,some n=>ck (.agg ((xs.drop o).take n)) (o+n<=xs.length)
   | _,_=>none
  | none=>none
 | _=>none
theorem ae6 {ti:TI} {s:TypeId} {i:Nat} {x v:AV} (h:aaI ti s i x=some v):QT (Ad ti s i x) v:=by
 unfold aaI at h
 unfold Ad
 split at h
 ·dsimp only
  split at h
  ·rename_i h0
   rw [h0]
   dsimp only
   split at h
   ·rename_i h1
    rw [h1]
    dsimp only
    split at h
    ·rename_i h2
     rw [h2]
     exact nN h
    ·cases h
   ·rename_i h1 h2
    rw [h1,h2]
    exact mQ h
   ·cases h
  ·cases h
 ·cases h
def JO (ti:TI) (L:List Ob) (s:TypeId) (i0 id ver i off:Nat):Option AV :=
 match L[id]?,ti.field s i0 with
 | some (.row ver' _ _),some (o,t)=>match ti.size t with
  | some (_+1)=>ck (.one (.ep id ver i (off+o))) (ver=ver')
  | _=>none
 | _,_=>none
theorem VO {ti:TI} {L:List Ob} {s:TypeId} {i0 id ver i off:Nat} {v:AV} (h:JO ti L s i0 id ver i off=some v):QT (iT ti L s i0 id ver i off) v:=by
 unfold JO at h
 unfold iT
 split at h
 ·rename_i h0 h1
  rw [h0,h1]
  dsimp only
  split at h
  ·rename_i h2
   rw [h2]
   exact mQ h
  ·cases h
 ·cases h
def TY (ti:TI) (L:List Ob) (t:TypeId) (id ver n:Nat):Option AV :=
 match L[id]? with
 | some (.row ver' _ _)=>ck (.one (.c (.int .i64 n))) (ver=ver'/\(ti.elem t).isSome=true)
 | _=>none
theorem aaU {ti:TI} {L:List Ob} {t:TypeId} {id ver n:Nat} {v:AV} (h:TY ti L t id ver n=some v):QT (mH ti L t id ver n) v:=by
 unfold TY at h
 unfold mH
 split at h
 ·rename_i h0
  rw [h0]
  exact mQ h
 ·cases h
def IR (ti:TI) (L:List Ob) (t:TypeId) (id ver lo n:Nat) (ix:AV):Option AV :=
 match L[id]?,ix,(ti.elem t).bind ti.size with
 | some (.row ver' _ k'), .one (.c (.int _ i)),some k=>ck (.one (.ep id ver (lo+i.toNat) 0)) ((ver=ver'/\k=k')/\0<=i/\i<n)
 | _,_,_=>none
theorem Uh {ti:TI} {L:List Ob} {t:TypeId} {id ver lo n:Nat} {ix v:AV} (h:IR ti L t id ver lo n ix=some v):QT (iU ti L t id ver lo n ix) v:=by
 unfold IR at h
 unfold iU
 split at h
 ·rename_i h0 h1
  rw [h0,h1]
  exact mQ h
 ·cases h
def Fq (ti:TI) (t:TypeId) (x ix:AV):Option AV :=
 match gH x,ix,(ti.elem t).bind ti.size with
 | some es, .one (.c (.int _ i)),some k=>match es[i.toNat]? with
  | some e=>ck (.one (.c (.ref e))) (0<=i/\e.length=k)
  | none=>none
 | _,_,_=>none
theorem QM {ti:TI} {t:TypeId} {x ix v:AV} (h:Fq ti t x ix=some v):QT (jd ti t x ix) v:=by
 unfold Fq at h
 unfold jd
 split at h
 ·rename_i h0 h1
  rw [h0,h1]
  dsimp only
  split at h
  ·rename_i h2
   rw [h2]
   exact mQ h
  ·cases h
 ·cases h
def indexB (ti:TI) (t:TypeId) (x ix:AV):Option AV :=
 match x,ix with
 | .one (.c (.str s)), .one (.c (.int _ i))=>match s[i.toNat]? with
  | some b=>ck (.one (.c (.int .u8 b.toNat))) (0<=i/\isStr (ti.kind t)=true)
  | none=>none
 | .agg zs, .one (.c (.int _ i))=>match ti.kind t with
  | some (.array n e)=>match ti.agg e,ti.size e with
   | some false,some k=>match zs[i.toNat*k]? with
    | some x=>ck (.one x) (0<=i/\i<(n:Int))
    | none=>none
   | some true,some k=>ck (.agg ((zs.drop (i.toNat*k)).take k)) ((0<=i/\i<(n:Int))/\i.toNat*k+k<=zs.length)
   | _,_=>none
  | _=>none
 | _,_=>none
theorem aed {ti:TI} {t:TypeId} {x ix v:AV} (h:indexB ti t x ix=some v):QT (r9 ti t x ix) v:=by
 unfold indexB at h
 unfold r9
 split at h
 ·dsimp only
  split at h
  ·rename_i h2
   rw [h2]
   obtain ⟨rfl,h3,h4⟩:=bK h
   exact ⟨_,rfl,h3,nG h4⟩
  ·cases h
 ·dsimp only
  split at h
  ·rename_i hk
   rw [hk]
   dsimp only
   split at h
   ·rename_i ha hs
    rw [ha,hs]
    dsimp only
    split at h
    ·rename_i hx
     rw [hx]
     exact mQ h
    ·cases h
   ·rename_i ha hs
    rw [ha,hs]
    exact mQ h
   ·cases h
  ·cases h
 ·cases h
def sliceB (ti:TI) (L:List Ob) (t:TypeId) (x:AV) (lo hi:Option AV):Option AV :=
 match x with
 | .one (.c (.str s))=>match qy 0 lo,qy s.size hi with
  | some l,some h=>ck (.one (.c (.str (s.extract l.toNat h.toNat)))) (0<=l/\l<=h/\h<=s.size/\isStr (ti.kind t)=true)
  | _,_=>none
 | .one (.sl id ver lo0 n)=>match L[id]?,(ti.elem t).bind ti.size with
  | some (.row ver' _ k'),some k=>match qy 0 lo,qy n hi with
   | some l,some h=>ck (.one (.sl id ver (lo0+l.toNat) (h.toNat-l.toNat))) (ver=ver'/\k=k'/\0<=l/\l<=h/\h<=n)
   | _,_=>none
  | _,_=>none
 | _=>match gH x,(ti.elem t).bind ti.size with
  | some es,some k=>match qy 0 lo,qy es.length hi with
   | some l,some h=>ck (.one (.c (.lst ((es.take h.toNat).drop l.toNat)))) (0<=l/\l<=h/\h<=es.length/\Kl k es=true)
   | _,_=>none
  | _,_=>none
theorem CB {ti:TI} {L:List Ob} {t:TypeId} {x v:AV} {lo hi:Option AV} (h:sliceB ti L t x lo hi=some v):QT (iP ti L t x lo hi) v:=by
 unfold sliceB at h
 split at h
 ·unfold iP
  dsimp only
  split at h
  ·rename_i h0 h1
   rw [h0,h1]
   obtain ⟨rfl,h3,h4,h5,h6⟩:=bK h
   exact ⟨_,rfl,h3,h4,h5,nG h6⟩
  ·cases h
 ·unfold iP
  dsimp only
  split at h
  ·rename_i h0 h1
   rw [h0,h1]
   dsimp only
   split at h
   ·rename_i h2 h3
    rw [h2,h3]
    exact mQ h
   ·cases h
  ·cases h
 ·rename_i n1 n2
  unfold iP
  split
  ·rename_i s;exact absurd rfl (n1 s)
  ·rename_i a b c d;exact absurd rfl (n2 a b c d)
  ·split at h
   ·rename_i h0 h1
    rw [h0,h1]
    dsimp only
    split at h
    ·rename_i h2 h3
     rw [h2,h3]
     obtain ⟨rfl,h3,h4,h5,h6⟩:=bK h
     exact ⟨_,rfl,h3,h4,h5,wW h6⟩
    ·cases h
   ·cases h
def alN (ti:TI) (t:TypeId) (x:AV):Option AV :=
 match x with
 | .one (.c (.str s))=>ck (.one (.c (.int .i64 s.size))) (isStr (ti.kind t)=true)
 | _=>match gH x with
  | some es=>ck (.one (.c (.int .i64 es.length))) ((ti.elem t).isSome=true)
  | none=>none
theorem ajD {ti:TI} {t:TypeId} {x v:AV} (h:alN ti t x=some v):QT (MQ ti t x) v:=by
 unfold alN at h
 split at h
 ·obtain ⟨rfl,h1⟩:=bK h
  exact ⟨_,rfl,nG h1⟩
 ·rename_i n1
  unfold MQ
  split
  ·rename_i s;exact absurd rfl (n1 s)
  ·split at h
   ·rename_i h0
    rw [h0]
    exact mQ h
   ·cases h
def NS (ti:TI) (t:TypeId):List SV->List (Nat × Option AV)->Option (List SV)
 | zs,[]=>some zs
 | zs,(i,v)::ps=>match v.bind AV.cells,Jk ti t i with
  | some xs,some (o,ty)=>match NS ti t (splice zs o xs) ps with
   | some r=>ck r (ti.size ty=some xs.length/\o+xs.length<=zs.length)
   | none=>none
  | _,_=>none
theorem Td {ti:TI} {t:TypeId} : ∀ {ps:List (Nat × Option AV)} {zs r:List SV}, NS ti t zs ps=some r->QT (rQ ti t zs ps) r
 | [],zs,r,h=>nN h
 | (i,v)::ps,zs,r,h=>by
  unfold NS at h
  unfold rQ
  split at h
  ·rename_i h0 h1
   rw [h0,h1]
   dsimp only
   split at h
   ·rename_i r' h2
    obtain ⟨φ,h3,h4⟩:=Td h2
    rw [h3]
    obtain ⟨rfl,h5⟩:=bK h
    exact ⟨_,rfl,h5,h4⟩
   ·cases h
  ·cases h
def agc (ti:TI) (ρ:Operand->Option AV) (L:List Ob):Op->Option AV
 | .move x=>ρ x
 | .assign x=>ρ x
 | .pick c a b=>match ρ c,ρ a,ρ b with
  | some (.one (.c (.bool t))),some va,some vb=>some (if t=true then va else vb)
  | _,_,_=>none
 | .binOp op t x y _=>match ρ x,ρ y with
  | some va,some vb=>alY ti op t va vb
  | _,_=>none
 | .unOp op _ x=>match op,ρ x with
  | .not,some (.one (.c (.bool b)))=>some (.one (.c (.bool !b)))
  | .neg,some (.one (.c (.int k n)))=>some (.one (.c (.int k (k.wrap (0-n)))))
  | _,_=>none
 | .convert src dst x=>match ρ x with
  | some (.one (.c (.int _ n)))=>match ti.kind dst with
   | some (.int k)=>ck (.one (.c (.int k (k.wrap n)))) ((ti.kind src).isSome=true)
   | _=>none
  | some (.one (.c (.str s)))=>ck (.one (.c (.str s))) (isStr (ti.kind dst)=true/\(ti.kind src).isSome=true)
  | _=>none
 | .load t p=>(ρ p).bind (WV ti L t)
 | .fieldAddr s x i=>match ρ x with
  | some (.one (.ep id ver i0 off))=>JO ti L s i id ver i0 off
  | some vx=>ES ti s i vx
  | none=>none
 | .field s x i=>(ρ x).bind (aaI ti s i)
 | .indexAddr t x ix=>match ρ x,ρ ix with
  | some (.one (.sl id ver lo n)),some vi=>IR ti L t id ver lo n vi
  | some vx,some vi=>Fq ti t vx vi
  | _,_=>none
 | .index t x ix=>match ρ x,ρ ix with
  | some vx,some vi=>indexB ti t vx vi
  | _,_=>none
 | .extract t i=>match ρ t with
  | some (.tup ps)=>match ps[i]? with
   | some p=>some p.av
   | none=>none
  | some (.tupS xs)=>match xs[i]? with
   | some x=>some (.one x)
   | none=>none
  | _=>none
 | .nilCheck x=>match ρ x with
  | some (.one (.c (.ref cs)))=>some (.one (.c (.ref cs)))
  | some (.one (.ptr id off))=>some (.one (.ptr id off))
  | some (.one (.ep id ver i o))=>match L[id]? with
   | some (.row ver' _ _)=>ck (.one (.ep id ver i o)) (ver=ver')
   | _=>none
  | some (.one (.clo f cs))=>some (.one (.clo f cs))
  | some (.one (.c (.fn f cs)))=>some (.one (.c (.fn f cs)))
  | _=>none
 | .slice t x lo hi none=>match ρ x,lo.map ρ,hi.map ρ with
  | some v,none,none=>sliceB ti L t v none none
  | some v,some (some l),none=>sliceB ti L t v (some l) none
  | some v,none,some (some h)=>sliceB ti L t v none (some h)
  | some v,some (some l),some (some h)=>sliceB ti L t v (some l) (some h)
  | _,_,_=>none
 | .call { callee := .builtin .len,args,argTypes } => match args.toList,argTypes.toList with
  | [x],[t]=>match ρ x with
   | some (.one (.sl id ver _ n))=>TY ti L t id ver n
   | some vx=>alN ti t vx
   | none=>none
  | _,_=>none
 | .call { callee := .builtin .min,args, .. } => match args.toList.map ρ with
  | [some (.one (.c (.int k a))),some (.one (.c (.int _ b)))]=>some (.one (.c (.int k (if b<a then b else a))))
  | _=>none
 | .call { callee := .builtin .max,args, .. } => match args.toList.map ρ with
  | [some (.one (.c (.int k a))),some (.one (.c (.int _ b)))]=>some (.one (.c (.int k (if b > a then b else a))))
  | _=>none
 | .build t parts=>match ti.zero t with
  | some (.agg zs)=>((NS ti t zs (parts.toList.map fun p=>(p.1,ρ p.2))).bind fun r=>ck (AV.agg r) (bok ti t=true))
  | _=>none
 | .makeFunc (.func f) first captured=>match first.toList,Ot (captured.toList.map ρ) with
  | [],some cs=>some (.one (.c (.fn f cs)))
  | _,_=>none
 | _=>none
theorem ahp {ti:TI} {ρ:Operand->Option AV} {L:List Ob} {op:Op} {v:AV} (h:agc ti ρ L op=some v):QT (pop ti ρ L op) v:=by
 unfold agc at h
 split at h
 ·unfold pop;dsimp only;rw [h];exact ⟨_,rfl,trivial⟩
 ·unfold pop;dsimp only;rw [h];exact ⟨_,rfl,trivial⟩
 ·unfold pop
  dsimp only
  split at h
  ·rename_i h0 h1 h2
   rw [h0,h1,h2]
   exact nN h
  ·cases h
 ·unfold pop
  dsimp only
  split at h
  ·rename_i h0 h1
   rw [h0,h1]
   exact aj_ h
  ·cases h
 ·unfold pop
  dsimp only
  split at h
  ·rename_i h0
   rw [h0]
   exact nN h
  ·rename_i h0
   rw [h0]
   exact nN h
  ·cases h
 ·unfold pop
  dsimp only
  split at h
  ·rename_i h0
   rw [h0]
   dsimp only
   split at h
   ·rename_i h1
    rw [h1]
    exact mQ h
   ·cases h
  ·rename_i h0
   rw [h0]
   obtain ⟨rfl,h1,h2⟩:=bK h
   exact ⟨_,rfl,nG h1,h2⟩
  ·cases h
 ·rename_i t p
  unfold pop
  dsimp only
  cases hp:ρ p with
  | none=>rw [hp] at h;cases h
  | some x=>rw [hp] at h;exact OU h
 ·unfold pop
  dsimp only
  split at h
  ·rename_i h0
   rw [h0]
   exact VO h
  ·rename_i vx hn h0
   rw [h0]
   split
   ·rename_i e;cases e;exact (hn _ _ _ _ rfl).elim
   ·rename_i e;cases e;exact QK h
   ·rename_i e;cases e
  ·cases h
 ·rename_i s x i
  unfold pop
  dsimp only
  cases hp:ρ x with
  | none=>rw [hp] at h;cases h
  | some x=>rw [hp] at h;exact ae6 h
 ·unfold pop
  dsimp only
  split at h
  ·rename_i h0 h1
   rw [h0,h1]
   exact Uh h
  ·rename_i vx vi hn h0 h1
   rw [h0,h1]
   split
   ·rename_i e1 e2;cases e1;exact (hn _ _ _ _ rfl).elim
   ·rename_i e1 e2;cases e1;cases e2;exact QM h
   ·rename_i hm;exact (hm _ _ rfl rfl).elim
  ·cases h
 ·unfold pop
  dsimp only
  split at h
  ·rename_i h0 h1
   rw [h0,h1]
   exact aed h
  ·cases h
 ·unfold pop
  dsimp only
  split at h
  ·rename_i h0
   rw [h0]
   dsimp only
   split at h
   ·rename_i h1
    rw [h1]
    exact nN h
   ·cases h
  ·rename_i h0
   rw [h0]
   dsimp only
   split at h
   ·rename_i h1
    rw [h1]
    exact nN h
   ·cases h
  ·cases h
 ·unfold pop
  dsimp only
  split at h
  ·rename_i h0;rw [h0];exact nN h
  ·rename_i h0;rw [h0];exact nN h
  ·rename_i h0
   rw [h0]
   dsimp only
   split at h
   ·rename_i h1
    rw [h1]
    exact mQ h
   ·cases h
  ·rename_i h0;rw [h0];exact nN h
  ·rename_i h0;rw [h0];exact nN h
  ·cases h
 ·unfold pop
  dsimp only
  split at h
  ·rename_i h0 h1 h2;rw [h0,h1,h2];exact CB h
  ·rename_i h0 h1 h2;rw [h0,h1,h2];exact CB h
  ·rename_i h0 h1 h2;rw [h0,h1,h2];exact CB h
  ·rename_i h0 h1 h2;rw [h0,h1,h2];exact CB h
  ·cases h
 ·unfold pop
  dsimp only
  split at h
  ·rename_i h0 h1
   rw [h0,h1]
   dsimp only
   split at h
   ·rename_i h2
    rw [h2]
    exact aaU h
   ·rename_i vx hn h2
    rw [h2]
    split
    ·rename_i e;cases e;exact (hn _ _ _ _ rfl).elim
    ·rename_i e;cases e;exact ajD h
    ·rename_i e;cases e
   ·cases h
  ·cases h
 ·unfold pop
  dsimp only
  split at h
  ·rename_i h0
   rw [h0]
   exact nN h
  ·cases h
 ·unfold pop
  dsimp only
  split at h
  ·rename_i h0
   rw [h0]
   exact nN h
  ·cases h
 ·rename_i t parts
  unfold pop
  dsimp only
  split at h
  ·rename_i zs h0
   rw [h0]
   dsimp only
   cases hb:NS ti t zs (parts.toList.map fun p=>(p.1,ρ p.2)) with
   | none=>rw [hb] at h;cases h
   | some r =>
    rw [hb] at h
    obtain ⟨rfl,h1⟩:=bK h
    obtain ⟨φ,h2,h3⟩:=Td hb
    rw [h2]
    exact ⟨_,rfl,h1,h3⟩
  ·cases h
 ·unfold pop
  dsimp only
  split at h
  ·rename_i h0 h1
   rw [h0,h1]
   exact nN h
  ·cases h
 ·cases h
open Go.RowKit Go.MapKept
def MK (ρ:Operand->Option AV):List (Nat × Operand)->Nat->Option (List (List SV))
 | [],_=>some []
 | (i,x)::ps,j=>match decide (i=j),(ρ x).bind AV.cells,MK ρ ps (j+1) with
  | true,some p,some es=>some (p::es)
  | _,_,_=>none
section
variable {P:Program} {ti:TI} {B:Nat->Prop} {R:PH} {γ:List Gh} {L:List Ob} {w:World} {ρ:Operand->Option AV}
theorem PE {ev:Operand->Value} : ∀ (ps:List (Nat × Operand)) (hρ : ∀ p∈ps, ∀ v,ρ p.2=some v->v.rep R γ L (ev p.2)) (j:Nat) (es:List (List SV)),MK ρ ps j=some es ->
  ∃ vs:List Value,(ps.map fun p=>(p.1,ev p.2))=(vs.zipIdx j).map (fun x=>(x.2,x.1))/\vs.length=es.length /\
   (∀ (i:Nat) v e,vs[i]?=some v->es[i]?=some e->Qy R γ L e v.cells)
 | [],hρ,j,es,h=>by injection h with h;subst h;exact ⟨[],rfl,rfl,fun i v e hv=>by simp at hv⟩
 | (i,x)::ps,hρ,j,es,h=>by
  unfold MK at h
  split at h
  ·rename_i p es' hij hp hes
   obtain rfl:=aqs hij
   injection h with h;subst h
   obtain ⟨vs,h1,h2,h3⟩:=PE ps (fun p hp=>hρ p (aqm _ hp)) (i+1) es' hes
   cases hx:ρ x with
   | none=>simp [hx] at hp
   | some vx =>
    simp only [hx,apZ] at hp
    have hr:=cells_rep (hρ (i,x) (aqM ..) _ hx) hp
    refine ⟨ev x::vs,by simp [List.zipIdx_cons,h1],by simp [h2],fun q v e hv he=>?_⟩
    cases q with
    | zero=>simp at hv he;subst hv he;exact hr
    | succ q=>exact h3 q v e (by simpa using hv) (by simpa using he)
  ·cases h
theorem aa1 (hti:TIok P ti) {t:TypeId} {E k len:Nat} {parts:Array (Nat × Operand)} {es:List (List SV)} (ht:ti.elem t=some E) (hE:E<65536) (hk:ti.size E=some k) (hzk:ti.zok E=true) (hes:MK ρ parts.toList 0=some es) (hlen:es.length=len) (h0:0<len) (hek : ∀ e∈es,e.length=k) (hk0:0<k) (hsm:len*k<=16777216) :
  yU P ρ L (.buildSlice t len parts) (.one (.sl L.length (E+65536) 0 len)) (L++[.row (E+65536) es k]):=by
 intro B R γ w ev o ho hi hρ hfv
 obtain ⟨dst,op,type,pos,after,guard⟩:=o
 simp only at ho;subst ho
 have hk:=hti.size _ _ hk
 have hu:=pW hti ht
 obtain ⟨vs,e1,e2,e3⟩:=PE (ev:=ev) parts.toList (fun p hp v hv=>hρ p.2 (by simp only [Op.operands,List.mem_toArray,aqz];exact ⟨p,hp,rfl⟩) v hv) _ _ hes
 have hparts:(parts.map fun p=>(p.1,ev p.2)).toList=(vs.zipIdx 0).map fun x=>(x.2,x.1):=by rw [Array.toList_map,e1]
 obtain ⟨i,z,hi1,hi2,hi3,hi4⟩:=hti.zok _ hzk _ hk
 have hcs : ∀ v∈vs,v.cells.size=k:=by
  intro v hv
  obtain ⟨q,hq⟩:=List.mem_iff_getElem?.1 hv
  have hlt:q<es.length:=by rw [<- e2];exact (ap0.1 hq).1
  have he:es[q]?=some es[q]:=ap9 hlt
  rw [(e3 q v _ hq he).1]
  exact hek _ (List.getElem_mem hlt)
 have hne : ¬ len*i.size=0:=by
  rw [hi3]
  intro e
  rcases Nat.mul_eq_zero.1 e with e|e<;>omega
 have hrun:=run_buildSlice (P:=P) w t E len (parts.map fun p=>(p.1,ev p.2)) (vs.flatMap fun v=>v.cells.toList).toArray i z hu hi1 hi2 (by rw [hi3];omega) hne (by
  rw [hparts,hi3]
  exact Go.Great.fill_whole hk0 vs _ hcs (by simp;rw [e2,hlen]))
 have hm:Mv R R γ (γ++[.arr w.heap.size len]) L (L++[.row (E+65536) es k]):=Mv.push _ _ hi.len
 refine ⟨_,R,_, .inl ⟨.slice (some ⟨w.heap.size,0,none⟩) len len,by simp only [execOp,Sem.run_bind];rw [hrun];rfl,⟨rfl,rfl⟩,by simp,fun ver2 es2 k2 e2'=>?_⟩,?_,⟨Kept.alloc hi.bsz _,PH.sub_refl _,fun _ _ _=>rfl⟩,hm⟩
 ·rw [ap7 (by omega)] at e2'
  simp at e2'
  obtain ⟨q1,q2,q3⟩:=e2'
  subst q1 q2 q3
  exact ⟨aqe _,fun _=>⟨by omega, .arr w.heap.size len,by rw [<- hi.len];simp, .inl (by simp)⟩⟩
 ·have hsz:(vs.flatMap fun v=>v.cells.toList).toArray.size=len*k:=by rw [List.size_toArray,flat_len k vs hcs,e2,hlen]
  refine hi.push _ _ _ rfl ⟨⟨_,E,⟨gD w _,by show (E:Nat)=(E+65536)%65536;omega,by omega⟩,hsz,fun q e j u x he hu hx=>?_⟩,by omega,hk0,hek,fun o=>hi.none_at o⟩
  have hqlt:q<vs.length:=by rw [e2];exact (ap0.1 he).1
  have hv:vs[q]?=some vs[q]:=ap9 hqlt
  have hjk:j<k:=by rw [<- hek e (ap6 he)];exact (ap0.1 hx).1
  have h3:=e3 q _ e hv he
  rw [List.getElem?_toArray,flat_get k vs hcs q _ hv j hjk] at hu
  exact SV.mv hm (h3.2 j u x hu hx)
end
open Go.RowKit Go.MapKept
section
variable {P:Program} {ti:TI} {ρ:Operand->Option AV} {L:List Ob}
theorem QO (z:Array Value) (n i:Nat) (h:i<n):(madeCells z n)[i]?=some z[i%z.size]! := by
 simp [madeCells,h]
theorem CS (hti:TIok P ti) {l c:Operand} {t:TypeId} {E k by_:Nat} {m:Int} {kl kc:IntKind} {zs:List SV} {zv:AV} (hl:ρ l=some (.one (.c (.int kl m)))) (hc:ρ c=some (.one (.c (.int kc m)))) (ht:ti.elem t=some E) (hE:E<65536) (hsz:ti.size E=some k) (hzo:ti.zok E=true) (hzv:ti.zero E=some zv) (hcz:zv.cells=some zs) (hby:ti.bytes E=some by_)
  (hk:0<k) (h0:0<=m) (hb1:(by_:Int)*m<=281474976710656) (hb2:m<=9223372036854775807) :
  yU P ρ L (.makeSlice t l c) (.one (.sl L.length (E+65536) 0 m.toNat)) (L++[.row (E+65536) (List.replicate m.toNat zs) k]):=by
 intro B R γ w ev o ho hi hρ hfv
 obtain ⟨dst,op,type,pos,after,guard⟩:=o
 simp only at ho;subst ho
 obtain ⟨inf,z,hinf,hzz,hisz,hzc⟩:=hti.zok _ hzo _ (hti.size _ _ hsz)
 have hbytes:inf.bytes=by_:=by have hby':=hti.bytes _ _ hby;unfold qg at hby';rw [hinf] at hby';simpa using hby'
 have hzo':AV.ofVal z=some zv:=by have:=hti.zero _ _ hzv;unfold zeroOf at this;rw [hinf] at this;simpa [hzz] using this
 have hlv:=(hρ _ (by simp [Op.operands,Call.operands]) _ hl)
 have hcv:=(hρ _ (by simp [Op.operands,Call.operands]) _ hc)
 generalize hle:ev l=lv at hlv
 generalize hce:ev c=cv at hcv
 cases hlv;cases hcv
 have hrun:=run_make (P:=P) w t E inf z (pW hti ht) hinf hzz kl kc m m h0 (Int.le_refl _) (by rw [hbytes];exact hb1) hb2
 have hm:Mv R R γ (γ++[.arr w.heap.size m.toNat]) L (L++[.row (E+65536) (List.replicate m.toNat zs) k]):=Mv.push _ _ hi.len
 have hcr:=cells_rep (R:=R) (γ:=γ++[.arr w.heap.size m.toNat]) (L:=L++[.row (E+65536) (List.replicate m.toNat zs) k]) (AV.ofVal_rep hzo') hcz
 have hzl:zs.length=k:=by have:=hcr.1;rw [hzc] at this;omega
 refine ⟨w.alloc (.cells (madeCells z.cells (m.toNat*inf.size)) E),R,_, .inl ⟨.slice (some ⟨w.heap.size,0,none⟩) m.toNat m.toNat,by simp [execOp,hle,hce,hrun],⟨rfl,rfl⟩,by simp,fun ver2 es2 k2 e2=>?_⟩,?_,⟨Kept.alloc hi.bsz _,PH.sub_refl _,fun _ _ _=>rfl⟩,hm⟩
 ·rw [ap7 (by omega)] at e2
  simp at e2
  obtain ⟨q1,q2,q3⟩:=e2
  subst q1 q2 q3
  refine ⟨aqe _,fun _=>⟨by simp, .arr w.heap.size m.toNat,by rw [<- hi.len];simp, .inl ?_⟩⟩
  simp
 ·refine hi.push _ _ _ rfl ⟨⟨_,E,⟨gD w _,by show (E:Nat)=(E+65536)%65536;omega,by show 65536<=(E:Nat)+65536;omega⟩,by rw [size_madeCells,hisz],fun i e j u x he hu hx=>?_⟩,by simp,hk,fun e he=>?_,fun o=>hi.none_at o⟩
  ·rw [List.getElem?_replicate] at he
   split at he
   ·rename_i him
    obtain rfl:=aqw he
    have hj:j<k:=by rw [<- hzl];exact (ap0.1 hx).1
    have hlt:i*k+j<m.toNat*inf.size:=by rw [hisz];exact zk him hj
    rw [QO _ _ _ hlt,hzc,Nat.add_comm,Nat.add_mul_mod_self_right,Nat.mod_eq_of_lt hj] at hu
    have hj2:j<z.cells.size:=by rw [hzc];exact hj
    refine hcr.2 j u x ?_ hx
    rw [<- hu,aqn hj2,getElem!_pos z.cells j hj2]
   ·cases he
  ·rw [List.eq_of_mem_replicate he];exact hzl
end
end Go.Proofs.YtlcceppoloaecaaGreatDoor
