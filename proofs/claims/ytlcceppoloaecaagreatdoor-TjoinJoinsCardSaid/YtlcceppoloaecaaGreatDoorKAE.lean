/- Parts. No condition. -/
import Derived.Test.YtlcceppoloaecaaGreatDoorKAD
import Derived.Scope
import Derived.Shelf.SlSortCmp.NoneTotal
import Derived.Laws.StructEq
import Derived.Test.YtlcceppoloaecaaGreatDoorProg
import Derived.Shelf.SlGeneric
import Derived.Shelf.SlicesG.Cmp
import Derived.Ground.SlsfProg
import Derived.Ground.SlgcProg
set_option maxHeartbeats 8000000
set_option maxRecDepth 100000
set_option linter.unusedSimpArgs false
set_option linter.unusedVariables false
namespace Go.Proofs.YtlcceppoloaecaaGreatDoor
open Go.RowKit Go.MapKept
def unC (id:Nat)(ts:List AC):Cap->Cap
 |.ptr i off=>if i=id then .c (.ref (ts.drop off))else .ptr i off
 |.c x => .c x
def unS (id:Nat)(ts:List AC):SV->SV
 |.ptr i off=>if i=id then .c (.ref (ts.drop off))else .ptr i off
 |.clo f Pj=>match ri (Pj.map (unC id ts))with
  |some cs => .c (.fn f cs)
  |none => .clo f (Pj.map (unC id ts))
 |x=>x
def unA (id:Nat)(ts:List AC):AV->AV
 |.one x => .one (unS id ts x)
 |.agg xs => .agg (xs.map (unS id ts))
 |v=>v
section
variable {P:Program} {ti:TI} {B:Nat->Prop} {N n0:Nat} {R:PH} {γ:List Gh} {L:List Ob} {T:Tm} {w:World} {Q:AX->Tm->List Ob->Prop}
theorem oS (hi:Inv B R γ L w){id:Nat}{cs:List SV}{ts:List AC}(hL:L[id]?=some (.box cs))(hn:iv cs=some ts) :
  ∃ R',Inv B R' γ (L.set id .dead) w/\Ext B R R' w w/\Mv R R' γ γ L (L.set id .dead) /\ ∀ off u,(SV.ptr id off).rep R γ L u->bD R' u (.ref (ts.drop off)):=by
 have O0:id<L.length:=(aqp.1 hL).1;obtain⟨g,hg⟩:∃ g,γ[id]?=some g:=⟨_,aqz (by rw[hi.len];exact O0)⟩;have QY:=hi.obj id _ _ hL hg
 match g,hg,QY with
 |.box b,hg,QY =>
  obtain⟨⟨vs,E,hb,P2,TK⟩,U8⟩:=QY;have Ry:∀ b' o u,R b' o=some u->(if b'=b then vs[o]? else R b' o)=some u:=by
   intro b' o u h;by_cases hc:b'=b
   ·exfalso;rw[hc,U8]at h;cases h
   ·rw[if_neg hc];exact h
  let R':PH:=R.put (λb' o=>if b'=b then vs[o]? else R b' o) Ry
  have SG:PH.sub R R':=Ry;have WG:∀ o,R' b o=vs[o]?:=λo=>by show(if b=b then vs[o]? else R b o)=_;rw[if_pos rfl]
  have Xo:∀ b' o,b'≠b->R' b' o=R b' o:=λb' o h=>by show(if b'=b then vs[o]? else R b' o)=_;rw[if_neg h]
  have Xy:∀ (t:Nat) x,(L.set id .dead)[t]?=some x->x ≠ .dead->L[t]?=some x:=by
   intro t x hx Pn;by_cases ht:t=id
   ·subst ht;rw[aqJ O0]at hx;injection hx with hx;exact absurd hx.symm Pn
   ·rwa[aqK (Ne.symm ht)]at hx
  have hm:Mv R R' γ γ L (L.set id .dead):=⟨Ry,m5,λt n' k _ h=>⟨n',Xy t _ h (λe=>by cases e),aqG _,λ_=>rfl⟩,λt O1 es k _ h=>⟨O1,es,Xy t _ h (λe=>by cases e),aqG _,λ_=>⟨rfl,rfl⟩⟩,λ_ _ h=>h⟩;have Tv:=(hi.new id _ b hg rfl).1;refine⟨R',⟨by simp[hi.len],λb' o u h=>?_,λj y h hy hh=>?_,hi.inj,hi.new,hi.bsz⟩,⟨Kept.refl _ _,Ry,λb' o Qq=>Xo b' o (λe=>Tv (e▸Qq))⟩,hm,λoff u hu=>?_⟩
  ·by_cases hc:b'=b
   ·subst hc;rw[WG]at h;rw[cob_ hb];exact h
   ·rw[Xo _ _ hc]at h;exact hi.val _ _ _ h
  ·by_cases hj:j=id
   ·subst hj
    rw[aqJ O0]at hy;injection hy with hy;subst hy
    rw[hg]at hh;injection hh with hh;subst hh
    trivial
   ·rw[aqK (Ne.symm hj)]at hy
    exact(hi.obj j y h hy hh).mv hm (λ_ _=>rfl) (λb' o Qq e=>by rw[Xo b' o (λe'=>hi.inj j id h _ hh hg hj b' Qq (by rw[e'];rfl))];exact e)
  ·obtain⟨b2,rfl,PP⟩:=hu
   rw[hg]at PP;injection PP with PP;injection PP with PP;subst PP
   have hlen:=dW hn;refine .ref b off (ts.drop off) (λj=>(vs[off+j]?).getD Go.undef) (λj hj=>?_) (λj x hx=>?_)
   ·have QL:off+j<vs.size:=by rw[List.length_drop]at hj;omega
    rw[WG,aqP QL];rfl
   ·rw[arb]at hx
    have hlt3:off+j<ts.length:=(aqp.1 hx).1;have QL:off+j<vs.size:=m0
    have hcj:off+j<cs.length:=m0
    show bD R' ((vs[off+j]?).getD Go.undef) x;rw[aqP QL];exact bD.mono SG (SV.norm_rep (TK (off+j) _ _ (aqP QL) (aqz hcj)) (i_ hn (off+j) _ _ (aqz hcj) hx))
theorem ahK {R':PH}{L':List Ob}{id:Nat}{ts:List AC}(hS:∀ off u,(SV.ptr id off).rep R γ L u->bD R' u (.ref (ts.drop off)))(hM:Mv R R' γ γ L L'){x:Cap}{u:Value}(h:x.rep R γ u):(unC id ts x).rep R' γ u:=by
 cases x with
 |c x=>exact Cap.mv hM.sub hM.ptr h
 |ptr i off =>
  unfold unC;dsimp only;split
  ·rename_i e;subst e;exact hS off u h
  ·exact Cap.mv hM.sub hM.ptr h
theorem abY {R':PH}{L':List Ob}{id:Nat}{ts:List AC}(hS:∀ off u,(SV.ptr id off).rep R γ L u->bD R' u (.ref (ts.drop off)))(hM:Mv R R' γ γ L L'){x:SV}{u:Value}(h:x.rep R γ L u):(unS id ts x).rep R' γ L' u:=by
 cases x with
 |ptr i off =>
  unfold unS;dsimp only;split
  ·rename_i e;subst e;exact hS off u h
  ·exact SV.mv hM h
 |clo f Pj =>
  obtain⟨vs,rfl,P2,hc⟩:=h;have YX:∀ (j:Nat) u x,vs[j]?=some u->(Pj.map (unC id ts))[j]?=some x->x.rep R' γ u:=by
   intro j u x hu hx;rw[aqN]at hx
   cases hy:Pj[j]? with
   |none=>rw[hy]at hx;cases hx
   |some y=>rw[hy]at hx;cases hx;exact ahK hS hM (hc j u y hu hy)
  unfold unS;dsimp only;split
  ·rename_i cs TG
   have hl:=wR TG;rw[aqC]at hl;exact .fn f vs cs (by rw[P2,hl]) (λj v x hv hx=>YX j v (.c x) hv (xi TG j x hx))
  ·exact⟨vs,rfl,by rw[P2,aqC],YX⟩
 |c x=>exact SV.mv hM h
 |emp=>exact SV.mv (x := .emp) hM h
 |own es t=>exact SV.mv (x := .own es t) hM h
 |sl i v l n=>exact SV.mv (x := .sl i v l n) hM h
 |ep i v j o=>exact SV.mv (x := .ep i v j o) hM h
 |mp i=>exact SV.mv (x := .mp i) hM h
theorem ac0 {R':PH}{L':List Ob}{id:Nat}{ts:List AC}(hS:∀ off u,(SV.ptr id off).rep R γ L u->bD R' u (.ref (ts.drop off)))(hM:Mv R R' γ γ L L'){x:AV}{u:Value}(h:x.rep R γ L u):(unA id ts x).rep R' γ L' u:=by
 cases x with
 |one x=>exact abY hS hM h
 |agg xs =>
  obtain⟨vs,rfl,P2,hc⟩:=h;refine⟨vs,rfl,by rw[P2,aqC],λj u x hu hx=>?_⟩;rw[aqN]at hx
  cases hy:xs[j]? with
  |none=>rw[hy]at hx;cases hx
  |some y=>rw[hy]at hx;cases hx;exact abY hS hM (hc j u y hu hy)
 |tup ps=>exact AV.mv (x := .tup ps) hM h
 |tupS xs=>exact AV.mv (x := .tupS xs) hM h
 |undef=>exact AV.mv (x := .undef) hM h
theorem ja {f:AV->AV}:∀ {T:Tm} {t:Nat} {x:AV},(T.map λp=>(p.1,f p.2)).lookup t=some x ->∃ y,T.lookup t=some y/\x=f y
 |[],t,x,h=>by cases h
 |p::T,t,x,h=>by
  rw[aqB,List.lookup_cons]at h;rw[List.lookup_cons];by_cases e:t=p.1
  ·subst e;simp at h;exact⟨p.2,m5,h.symm⟩
  ·have e':(t==p.1)=false:=by simpa using e
   rw[e']at h ⊢;exact ja h
theorem aT {c:Code}(id:Nat){cs:List SV}{ts:List AC}(hL:L[id]?=some (.box cs))(hn:iv cs=some ts)(h:Aw P N n0 c Q (T.map λp=>(p.1,unA id ts p.2)) (L.set id .dead)):Aw P N n0 c Q T L:=by
 intro SA B R γ w a hi hT;obtain⟨R',hI,hE,hM,hS⟩:=oS hi hL hn;refine wp_mono (h (by simpa using SA) B R' γ w a hI ?_) λ_ _ _ hh=>hh.ext hE hi.len (qF.of SA hM)
 refine⟨hT.size,hT.defers,λt x hx=>?_⟩;obtain⟨y,hy,rfl⟩:=ja hx;obtain⟨u,h1,h2⟩:=hT.slot t y hy;exact⟨u,h1,ac0 hS hM h2⟩
def thS (id O1:Nat)(cs:List (List AC)):SV->SV
 |.sl Wj Po lo n=>if Wj=id/\Po=O1 then .c (.lst ((cs.drop lo).take n))else .sl Wj Po lo n
 |x=>x
def thA (id O1:Nat)(cs:List (List AC)):AV->AV
 |.one x => .one (thS id O1 cs x)
 |.agg xs => .agg (xs.map (thS id O1 cs))
 |v=>v
theorem Bw {R':PH}{γ':List Gh}{L':List Ob}{id O1:Nat}{cs:List (List AC)}(hS:∀ lo n u,(SV.sl id O1 lo n).rep R γ L u->bD R' u (.lst ((cs.drop lo).take n)))(hM:Mv R R' γ γ' L L'){x:SV}{u:Value}(h:x.rep R γ L u):(thS id O1 cs x).rep R' γ' L' u:=by
 cases x with
 |sl i v l n =>
  unfold thS;dsimp only;split
  ·rename_i e;obtain⟨rfl,rfl⟩:=e;exact hS l n u h
  ·exact SV.mv hM h
 |c x=>exact SV.mv hM h
 |emp=>exact SV.mv (x := .emp) hM h
 |own es t=>exact SV.mv (x := .own es t) hM h
 |ptr i o=>exact SV.mv (x := .ptr i o) hM h
 |ep i v j o=>exact SV.mv (x := .ep i v j o) hM h
 |mp i=>exact SV.mv (x := .mp i) hM h
 |clo f Pj=>exact SV.mv (x := .clo f Pj) hM h
theorem mK {c:Code}(id:Nat){O1 k:Nat}{es:List (List SV)}{cs:List (List AC)}(hL:L[id]?=some (.row O1 es k))(hn:d_ es=some cs)(h:Aw P N n0 c Q (T.map λp=>(p.1,thA id O1 cs p.2)) (L.set id .dead)):Aw P N n0 c Q T L:=by
 intro SA B R γ w a hi hT;obtain⟨R',γ',hI,hE,hM,hS⟩:=lK hi hL hn;refine wp_mono (h (by simpa using SA) B R' γ' w a hI ?_) λ_ _ _ hh=>hh.ext hE hi.len (qF.of SA hM)
 refine⟨hT.size,hT.defers,λt x hx=>?_⟩;obtain⟨y,hy,rfl⟩:=ja hx;obtain⟨u,h1,h2⟩:=hT.slot t y hy;refine⟨u,h1,?_⟩
 cases y with
 |one x=>exact Bw hS hM h2
 |agg xs =>
  obtain⟨vs,rfl,P2,hc⟩:=h2;refine⟨vs,rfl,by rw[P2,aqC],λj u x hu hx=>?_⟩;rw[aqN]at hx
  cases hy:xs[j]? with
  |none=>rw[hy]at hx;cases hx
  |some y=>rw[hy]at hx;cases hx;exact Bw hS hM (hc j u y hu hy)
 |tup ps=>exact AV.mv (x := .tup ps) hM h2
 |tupS xs=>exact AV.mv (x := .tupS xs) hM h2
 |undef=>exact AV.mv (x := .undef) hM h2
end
open Go.RowKit
section
variable {P:Program} {Q:Exit->Act->World->Prop} {md:Region.Mode}
def oW (md:Region.Mode)(ops:Array Oper):Nat->Array Bool->List Nat->Prop
 |0,_,s=>s=[]
 |fuel+1,listed,s=>(Region.ready md ops listed=[]/\s=[]) \/ ∃ i s',i∈Region.ready md ops listed/\s=i::s'/\oW md ops fuel (listed.setIfInBounds i true) s'
theorem aiF (ops:Array Oper):∀ (fuel t:Nat) (listed:Array Bool),oW md ops fuel listed (Region.linearise.go md ops fuel t listed []):=by
 intro fuel
 induction fuel with
 |zero=>intro t listed;simp[Region.linearise.go,oW]
 |succ fuel ih =>
  intro t listed;simp only[Region.linearise.go];change oW md ops (fuel+1) listed (match (Region.ready md ops listed)[t%(Region.ready md ops listed).length]? with
   |some i=>Region.linearise.go md ops fuel (t/(Region.ready md ops listed).length) (listed.setIfInBounds i true) [i]
   |none=>[].reverse)
  cases hi:(Region.ready md ops listed)[t%(Region.ready md ops listed).length]? with
  |none =>
   have Qz:Region.ready md ops listed=[]:=by
    cases hr:Region.ready md ops listed with
    |nil=>rfl
    |cons x xs =>
     rw[hr]at hi;have O0:t%(x::xs).length<(x::xs).length:=Nat.mod_lt _ m5;simp at hi;simp at O0;omega
   exact .inl ⟨Qz,rfl⟩
  |some i =>
   simp only[];rw[linearise_go_acc,List.reverse_singleton,List.singleton_append];exact .inr ⟨i,_,aqw hi,rfl,ih _ _⟩
theorem xL {ops:Array Oper}:∀ (fuel:Nat) (listed:Array Bool) (s:List Nat) (a:Act) (w:World),wpAny P md ops Q fuel listed a w->oW md ops fuel listed s->wpOps P ops Q s a w
 |0,_,s,a,w,h,hs=>by cases hs;exact h.2
 |fuel+1,listed,s,a,w,h,hs=>by
  obtain⟨h0,rfl⟩|⟨i,s',hi,rfl,hs⟩:=hs
  ·exact h.1 h0
  ·rw[wpOps_cons]
   exact wpOp_mono (λa w hh=>xL fuel _ s' a w hh hs) (h.2 i hi)
theorem mem_ready {ops:Array Oper}{listed:Array Bool}{i:Nat}:i∈Region.ready md ops listed ↔ ∃ o,ops[i]?=some o/\listed.getD i true=false /\ ∀ e∈o.after.toList,Region.binds md e=true->listed.getD e.on false=true:=by
 unfold Region.ready;rw[List.mem_filter,List.mem_range,aqI,Bool.not_eq_true'];constructor
 ·rintro⟨hi,h1,h2⟩
  have ho:ops[i]?=some ops[i]:=aqP hi;rw[ho,Option.map_some,Option.getD_some]at h2;refine⟨_,ho,h1,λe he hb=>?_⟩;have:=Array.all_eq_true'.1 h2 e (by simpa using he);rw[hb]at this;simpa using this
 ·rintro⟨o,ho,h1,h2⟩
  refine⟨(aq_.1 ho).1,h1,?_⟩;rw[ho,Option.map_some,Option.getD_some,Array.all_eq_true'];intro e he;by_cases hb:Region.binds md e=true
  ·rw[hb,h2 e (by simpa using he) hb];rfl
  ·simp[hb]
structure xX (π:Nat->Nat)(u v:Nat)(l m:List Oper):Prop where
 inv:∀ i,π (π i)=i
 get:∀ i,∃ f:Oper->Array Edge,m[π i]?=(l[i]?).map (λo =>{ o with after:=f o }) /\
  ∀ o,l[i]?=some o->(∀ e∈o.after.toList,{ e with on:=π e.on }∈(f o).toList) /\ ∀ e∈(f o).toList,(∃ e'∈o.after.toList,e={ e' with on:=π e'.on })\/(i=v/\e.on=π u)
 len:m.length=l.length
structure Sw (π:Nat->Nat)(listed WS:Array Bool):Prop where
 get:∀ i,WS[π i]?=listed[i]?
theorem xX.inj {π:Nat->Nat}{u v:Nat}{l m:List Oper}(h:xX π u v l m){i j:Nat}(e:π i=π j):i=j:=by rw[<- h.inv i,e,h.inv]
theorem Sw.set {π:Nat->Nat}{u v:Nat}{l m:List Oper}(hL:xX π u v l m){a b:Array Bool}(h:Sw π a b)(i:Nat):Sw π (a.setIfInBounds i true) (b.setIfInBounds (π i) true):=by
 refine⟨λj=>?_⟩;rw[Array.getElem?_setIfInBounds,Array.getElem?_setIfInBounds];by_cases e:i=j
 ·subst e
  rw[if_pos rfl,if_pos rfl];have:=h.get i;by_cases hi:i<a.size
  ·rw[aqP hi]at this
   rw[if_pos hi,if_pos (aq_.1 this).1]
  ·have hn:a[i]?=none:=Array.getElem?_eq_none m0
   rw[hn]at this;rw[if_neg hi,if_neg (by have:=Array.getElem?_eq_none_iff.1 this;omega)]
 ·rw[if_neg e,if_neg (λe'=>e (hL.inj e'))]
  exact h.get j
theorem Sw.getD {π:Nat->Nat}{a b:Array Bool}(h:Sw π a b)(i:Nat)(d:Bool):b.getD (π i) d=a.getD i d:=by
 rw[Array.getD_eq_getD_getElem?,Array.getD_eq_getD_getElem?,h.get]
theorem xX.fwd {π:Nat->Nat}{u v:Nat}{l m:List Oper}(hL:xX π u v l m){a b:Array Bool}(h:Sw π a b){i:Nat}(hi:i∈Region.ready md l.toArray a)(hv:i=v->a.getD u false=true):π i∈Region.ready md m.toArray b:=by
 obtain⟨o,ho,h1,h2⟩:=mem_ready.1 hi;rw[List.getElem?_toArray]at ho;obtain⟨f,hm,hf⟩:=hL.get i;rw[ho,Option.map_some]at hm;refine mem_ready.2 ⟨_,by rw[List.getElem?_toArray];exact hm,by rw[h.getD];exact h1,λe he hb=>?_⟩;rcases(hf o ho).2 e he with⟨e',QP,rfl⟩|⟨hiv,hon⟩
 ·rw[h.getD];exact h2 e' QP hb
 ·rw[hon,h.getD];exact hv hiv
theorem xX.bwd {π:Nat->Nat}{u v:Nat}{l m:List Oper}(hL:xX π u v l m){a b:Array Bool}(h:Sw π a b){j:Nat}(hj:j∈Region.ready md m.toArray b):π j∈Region.ready md l.toArray a:=by
 obtain⟨o',S5,h1,h2⟩:=mem_ready.1 hj;rw[List.getElem?_toArray]at S5;obtain⟨f,hm,hf⟩:=hL.get (π j);rw[hL.inv,S5]at hm
 cases ho:l[π j]? with
 |none=>rw[ho]at hm;cases hm
 |some o =>
  rw[ho,Option.map_some]at hm;injection hm with hm
  subst hm;refine mem_ready.2 ⟨o,by rw[List.getElem?_toArray];exact ho,by rw[<- h.getD,hL.inv];exact h1,λe he hb=>?_⟩;have:=h2 _ ((hf o ho).1 e he) hb;rw[<- h.getD];exact this
theorem xX.seq {π:Nat->Nat}{u v:Nat}{l m:List Oper}(hL:xX π u v l m):∀ (fuel:Nat) (a b:Array Bool) (s:List Nat),Sw π a b->a.getD u false=true->oW md l.toArray fuel a s->oW md m.toArray fuel b (s.map π)
 |0,_,_,s,_,_,hs=>by cases hs;rfl
 |fuel+1,a,b,s,h,hu,hs=>by
  obtain⟨h0,rfl⟩|⟨i,s',hi,rfl,hs⟩:=hs
  ·refine .inl ⟨?_,rfl⟩
   apply List.eq_nil_iff_forall_not_mem.2;intro j hj;have:=hL.bwd h hj;rw[h0]at this;cases this
  ·refine .inr ⟨π i,s'.map π,hL.fwd h hi (λ_=>hu),rfl,xX.seq hL fuel _ _ s' (h.set hL i) ?_ hs⟩
   rw[Array.getD_eq_getD_getElem?]at hu ⊢;rw[Array.getElem?_setIfInBounds];by_cases e:i=u
   ·subst e
    rw[if_pos rfl];by_cases O0:i<a.size
    ·rw[if_pos O0];rfl
    ·rw[Array.getElem?_eq_none m0]at hu;cases hu
   ·rw[if_neg e];exact hu
theorem E5 {π1 π2:Nat->Nat}{u v:Nat}{l m1 m2:List Oper}(h1:xX π1 u v l m1)(h2:xX π2 v u l m2)(Pn:u≠v):∀ (fuel:Nat) (a b1 b2:Array Bool) (s:List Nat),Sw π1 a b1->Sw π2 a b2->oW md l.toArray fuel a s ->
  oW md m1.toArray fuel b1 (s.map π1)\/oW md m2.toArray fuel b2 (s.map π2)
 |0,_,_,_,s,_,_,hs=>by cases hs;exact .inl rfl
 |fuel+1,a,b1,b2,s,k1,k2,hs=>by
  obtain⟨h0,rfl⟩|⟨i,s',hi,rfl,hs⟩:=hs
  ·refine .inl (.inl ⟨?_,rfl⟩)
   apply List.eq_nil_iff_forall_not_mem.2;intro j hj;have:=h1.bwd k1 hj;rw[h0]at this;cases this
  ·have S7:∀ x,i=x->(a.setIfInBounds i true).getD x false=true:=λx e=>by
    subst e;obtain⟨o,_,hl,_⟩:=mem_ready.1 hi;rw[Array.getD_eq_getD_getElem?,Array.getElem?_setIfInBounds,if_pos rfl];by_cases O0:i<a.size
    ·rw[if_pos O0];rfl
    ·rw[Array.getD_eq_getD_getElem?,Array.getElem?_eq_none m0]at hl;cases hl
   by_cases eu:i=u
   ·exact .inl (.inr ⟨_,_,h1.fwd k1 hi (λe=>absurd (eu.symm.trans e) Pn),rfl,h1.seq fuel _ _ s' (k1.set h1 i) (S7 u eu) hs⟩)
   ·by_cases ev:i=v
    ·exact .inr (.inr ⟨_,_,h2.fwd k2 hi (λe=>absurd e eu),rfl,h2.seq fuel _ _ s' (k2.set h2 i) (S7 v ev) hs⟩)
    ·obtain h|h:=E5 h1 h2 Pn fuel _ _ _ s' (k1.set h1 i) (k2.set h2 i) hs
     ·exact .inl (.inr ⟨_,_,h1.fwd k1 hi (λe=>absurd e ev),rfl,h⟩)
     ·exact .inr (.inr ⟨_,_,h2.fwd k2 hi (λe=>absurd e eu),rfl,h⟩)
theorem sq {π:Nat->Nat}{u v:Nat}{l m:List Oper}(hL:xX π u v l m)(hg:∀ (i:Nat) o,l[i]?=some o->o.guard=none):∀ (s:List Nat) (a:Act) (w:World),wpOps P m.toArray Q (s.map π) a w->wpOps P l.toArray Q s a w
 |[],_,_,h=>h
 |i::s,a,w,h=>by
  rw[aqB,wpOps_cons]at h;rw[wpOps_cons];have ih:=sq hL hg s;obtain⟨f,hm,_⟩:=hL.get i;unfold wpOp at h ⊢;rw[List.getElem?_toArray]at h ⊢;rw[hm]at h
  cases ho:l[i]? with
  |none=>rw[ho]at h;exact ih a w h
  |some o =>
   rw[ho,Option.map_some]at h;simp only at h ⊢;have hgo:=hg i o ho;have e1:∀ y,Region.wanted o y=true:=λy=>by unfold Region.wanted;rw[hgo]
   have e2:∀ y,Region.wanted { o with after:=f o } y=true:=λy=>by unfold Region.wanted;show(match o.guard with|none=>true|some (j,b)=>_)=true;rw[hgo]
   rw[e2,if_pos rfl]at h;rw[e1,if_pos rfl];obtain h|h:=h
   ·exact .inl (Oper.wp_mono (λa w=>ih a w) h)
   ·exact .inr h
end
def swp (p i:Nat):Nat:=if i=p then p+1 else if i=p+1 then p else i
theorem abC (p i:Nat):swp p (swp p i)=i:=by
 unfold swp;by_cases h1:i=p
 ·rw[if_pos h1,if_neg m0,if_pos rfl];exact h1.symm
 ·rw[if_neg h1]
  by_cases h2:i=p+1
  ·rw[if_pos h2,if_pos rfl];exact h2.symm
  ·rw[if_neg h2,if_neg h1,if_neg h2]
def akV (p i:Nat)(o:Oper):Oper :={ o with after:=if i=p+1 then o.after.push ⟨p,.data⟩else o.after }
def l1E (p:Nat)(l:List Oper):List Oper:=l.mapIdx (akV p)
def ako (p:Nat)(o:Oper):Oper :={ o with after:=o.after.map λe =>{ e with on:=swp p e.on } }
def abm (p:Nat)(l:List Oper):List Oper:=match l[p]?,l[p+1]? with
 |some a,some b=>(l.set p b).set (p+1) a
 |_,_=>l
def l2E (p:Nat)(l:List Oper):List Oper:=(abm p l).mapIdx λi o=>akV p i (ako p o)
theorem aa3 {p:Nat}{l:List Oper}(hp:p+1<l.length)(i:Nat):(abm p l)[swp p i]?=l[i]?:=by
 have h1:l[p]?=some l[p]:=aqz m0;have h2:l[p+1]?=some l[p+1]:=aqz hp;unfold abm;rw[h1,h2];simp only;unfold swp;by_cases e1:i=p
 ·subst e1
  rw[if_pos rfl,aqJ (by simpa using hp),h1]
 ·rw[if_neg e1]
  by_cases e2:i=p+1
  ·subst e2
   rw[if_pos rfl,aqK m0,aqJ m0,h2]
  ·rw[if_neg e2,aqK m0,aqK m0]
theorem aac (p:Nat)(l:List Oper):(abm p l).length=l.length:=by unfold abm;split<;>simp
theorem amO (p:Nat)(l:List Oper):xX (λi=>i) p (p+1) l (l1E p l):=by
 refine⟨λ_=>rfl,λi=>⟨λo=>if i=p+1 then o.after.push ⟨p,.data⟩else o.after,?_,λo ho=>⟨λe he=>?_,λe he=>?_⟩⟩,by simp[l1E]⟩
 ·unfold l1E
  rw[List.getElem?_mapIdx];rfl
 ·show e∈_
  split
  ·simp[he]
  ·exact he
 ·split at he
  ·rename_i hi
   rw[Array.toList_push,aqS,aq6]at he;obtain he|rfl:=he
   ·exact .inl ⟨e,he,rfl⟩
   ·exact .inr ⟨hi,rfl⟩
  ·exact .inl ⟨e,he,rfl⟩
theorem amK {p:Nat}{l:List Oper}(hp:p+1<l.length):xX (swp p) (p+1) p l (l2E p l):=by
 refine⟨abC p,λi=>⟨λo=>if swp p i=p+1 then(o.after.map λe =>{ e with on:=swp p e.on }).push ⟨p,.data⟩else o.after.map λe =>{ e with on:=swp p e.on },?_,λo ho=>⟨λe he=>?_,λe he=>?_⟩⟩,by unfold l2E;rw[List.length_mapIdx,aac]⟩
 ·unfold l2E
  rw[List.getElem?_mapIdx,aa3 hp];rfl
 ·have hm:({ e with on:=swp p e.on }:Edge)∈(o.after.map λe =>{ e with on:=swp p e.on }).toList:=by
   rw[Array.toList_map];exact aq0.2 ⟨e,he,rfl⟩
  split
  ·rw[Array.toList_push];exact List.mem_append_left _ hm
  ·exact hm
 ·have UW:∀ e:Edge,e∈(o.after.map λe =>{ e with on:=swp p e.on }).toList ->∃ e'∈o.after.toList,e={ e' with on:=swp p e'.on } :=λe h=>by
   rw[Array.toList_map]at h;obtain⟨e',h1,h2⟩:=aq0.1 h;exact⟨e',h1,h2.symm⟩
  split at he
  ·rename_i hi
   rw[Array.toList_push,aqS,aq6]at he;obtain he|rfl:=he
   ·exact .inl (UW e he)
   ·refine .inr ⟨?_,?_⟩
    ·rw[<- abC p i,hi];unfold swp;rw[if_neg m0,if_pos rfl]
    ·show p=swp p (p+1);unfold swp;rw[if_neg m0,if_pos rfl]
  ·exact .inl (UW e he)
section
variable {P:Program} {ti:TI} {N n0:Nat}
theorem Et (F:List Nat)(O_:TIok P ti){Q:AX->Tm->List Ob->Prop}{T:Tm}{L:List Ob}{l:List Oper}(ds:List (Option Tmp))(SO:l.map (·.dst)=ds)(hc:fq F ti l=true)(hF:fzB F T=true)(h:aI P ti N ds (Q .normal) l T L)
  (hn:n0<=L.length) {B:Nat->Prop} {R:PH} {γ:List Gh} {w:World} {a:Act} (hi:Inv B R γ L w) (hT:fG N R γ L T a):wpAny P .any l.toArray (vK N n0 B Q R w γ L) l.length (Array.replicate l.length false) a { w with drawn:=w.drawn+1 } :=by
 have hD:=I3 hc;obtain⟨vs,Ls,h1,h0,h2,h3⟩:=adl l T L h;subst h0;have hiD:Inv B R γ (Ls 0) { w with drawn:=w.drawn+1 } :=⟨hi.len,hi.val,λid x g hx hg=>(hi.obj id x g hx hg).mv Mv.refl (λ_ _=>rfl) (λ_ _ _ h=>h),hi.inj,hi.new,hi.bsz⟩;have heD:Ext B R R w { w with drawn:=w.drawn+1 } :=⟨⟨rfl,rfl,rfl,aqG _,λ_ _=>rfl⟩,PH.sub_refl _,λ_ _ _=>rfl⟩;refine amY O_ SO (B:=B) hD h1 (ahf hF) h2 h3 (R0:=R) (γ0:=γ) (w0:=w) ?_ l.length (Array.replicate l.length false) 0 R γ a { w with drawn:=w.drawn+1 } ?_ ?_
 ·intro T' L' R' γ' w' a' q1 q2 q3 q4 q5
  exact⟨.normal,T',L',R',γ',rfl,q1,q2,q3,q4,qF.of hn q5⟩
 ·unfold sU
  exact Nat.le_trans List.countP_le_length m5
 ·have hf:∀ i:Nat,i<l.length->(Array.replicate l.length false)[i]?=some false:=λi hi=>by simp[hi]
  have ht:∀ i:Nat,(Array.replicate l.length false)[i]?≠some true:=by
   intro i e;by_cases hi:i<l.length
   ·rw[hf i hi]at e;cases e
   ·rw[Array.getElem?_eq_none m8]at e;cases e
  exact⟨hiD,hT.size,hT.defers,⟨m5,λi o _ e=>absurd e (ht i)⟩,m0,λc _ hc=>by omega,λc o _ Q9 _=>hf c (aqp.1 Q9).1,λi o d v e=>absurd e (ht i),λt x hx _=>hT.slot t x hx,heD,Mv.refl⟩
theorem xH (F:List Nat)(O_:TIok P ti){Q:AX->Tm->List Ob->Prop}{T:Tm}{L:List Ob}{id:Nat}{l:List Oper}(p:Nat)(hp:p+1<l.length)(hg:l.all (λo=>o.guard.isNone)=true)(TM:P.follows .mixedOrders=true)(X_:fq F ti (l1E p l)=true)(T0:fq F ti (l2E p l)=true)(hF:fzB F T=true)
  (h1:aI P ti N ((l1E p l).map (·.dst)) (Q .normal) (l1E p l) T L) (h2:aI P ti N ((l2E p l).map (·.dst)) (Q .normal) (l2E p l) T L):Aw P N n0 (.region id l.toArray true) Q T L:=by
 intro hn B R γ w a hi hT;refine wp_region_draw λt=>?_
 have hs:Region.schedule (P.follows .mixedOrders) l.toArray t=Region.linearise.go .any l.toArray l.length t (Array.replicate l.length false) []:=by
  simp only[Region.schedule,TM,Bool.true_or,if_true,Region.linearise,List.size_toArray]
 rw[hs];have ZC:=aiF (md := .any) l.toArray l.length t (Array.replicate l.length false);generalize Region.linearise.go .any l.toArray l.length t (Array.replicate l.length false) []=s at ZC;have Xz:∀ (i:Nat) o,l[i]?=some o->o.guard=none:=λi o ho=>by
  have:=arf.1 hg o (aqw ho);simpa using this
 have hsw:Sw (swp p) (Array.replicate l.length false) (Array.replicate l.length false):=⟨λi=>by
  by_cases hi:i<l.length
  ·have:swp p i<l.length:=by
    unfold swp;by_cases e1:i=p
    ·rw[if_pos e1];exact hp
    ·rw[if_neg e1]
     by_cases e2:i=p+1
     ·rw[if_pos e2];omega
     ·rw[if_neg e2];exact hi
   simp[hi,this]
  ·have:¬ swp p i<l.length:=by unfold swp;rw[if_neg m0,if_neg m0];exact hi
   simp[hi,this]⟩
 have L1:=amO p l;have L2:=amK hp;rcases E5 L1 L2 m0 l.length _ _ _ s ⟨λ_=>rfl⟩ hsw ZC with h|h
 ·refine sq L1 Xz s a _ (xL l.length (Array.replicate l.length false) _ a _ ?_ h)
  have:=Et F O_ _ rfl X_ hF h1 hn hi hT;rw[L1.len]at this;exact this
 ·refine sq L2 Xz s a _ (xL l.length (Array.replicate l.length false) _ a _ ?_ h)
  have:=Et F O_ _ rfl T0 hF h2 hn hi hT;rw[L2.len]at this;exact this
def k8 (N n0:Nat)(T:Tm)(L:List Ob)(T':Tm)(L':List Ob):Prop :=
 n0<=L.length->n0<=L'.length /\ ∀ (B:Nat->Prop) (R:PH) (γ:List Gh) (w:World) (a:Act),Inv B R γ L w->fG N R γ L T a ->∃ R' γ',Inv B R' γ' L' w/\fG N R' γ' L' T' a/\Ext B R R' w w/\qF n0 R R' γ γ' L L'
theorem k8.refl {T:Tm}{L:List Ob}:k8 N n0 T L T L:=λhn=>⟨hn,λ_ R γ w _ hi hT=>⟨R,γ,hi,hT,Ext.refl _ _ _,qF.of hn Mv.refl⟩⟩
theorem k8.trans {T T1 T2:Tm}{L L1 L2:List Ob}(h:k8 N n0 T L T1 L1)(k:k8 N n0 T1 L1 T2 L2):k8 N n0 T L T2 L2:=λhn =>
 ⟨(k (h hn).1).1,λB R γ w a hi hT=>by
  obtain⟨R1,γ1,i1,t1,e1,m1⟩:=(h hn).2 B R γ w a hi hT;obtain⟨R2,γ2,i2,t2,e2,m2⟩:=(k (h hn).1).2 B R1 γ1 w a i1 t1;exact⟨R2,γ2,i2,t2,e1.trans e2,m1.trans hi.len m2⟩⟩
theorem k8.less {T T':Tm}{L:List Ob}(h:∀ t x,T'.lookup t=some x->T.lookup t=some x):k8 N n0 T L T' L:=λhn =>
 ⟨hn,λ_ R γ w _ hi hT=>⟨R,γ,hi,⟨hT.size,hT.defers,λt x hx=>hT.slot t x (h t x hx)⟩,Ext.refl _ _ _,qF.of hn Mv.refl⟩⟩
theorem k8.box {T:Tm}{L:List Ob}(id:Nat){cs:List SV}{ts:List AC}(hL:L[id]?=some (.box cs))(hn:iv cs=some ts):k8 N n0 T L (T.map λp=>(p.1,unA id ts p.2)) (L.set id .dead):=λSA =>
 ⟨by simpa using SA,λB R γ w a hi hT=>by
  obtain⟨R',hI,hE,hM,hS⟩:=oS hi hL hn;refine⟨R',γ,hI,⟨hT.size,hT.defers,λt x hx=>?_⟩,hE,qF.of SA hM⟩;obtain⟨y,hy,rfl⟩:=ja hx;obtain⟨u,h1,h2⟩:=hT.slot t y hy;exact⟨u,h1,ac0 hS hM h2⟩⟩
theorem k8.row {T:Tm}{L:List Ob}(id:Nat){O1 k:Nat}{es:List (List SV)}{cs:List (List AC)}(hL:L[id]?=some (.row O1 es k))(hn:d_ es=some cs):k8 N n0 T L (T.map λp=>(p.1,thA id O1 cs p.2)) (L.set id .dead):=λSA =>
 ⟨by simpa using SA,λB R γ w a hi hT=>by
  obtain⟨R',γ',hI,hE,hM,hS⟩:=lK hi hL hn;refine⟨R',γ',hI,⟨hT.size,hT.defers,λt x hx=>?_⟩,hE,qF.of SA hM⟩;obtain⟨y,hy,rfl⟩:=ja hx;obtain⟨u,h1,h2⟩:=hT.slot t y hy;refine⟨u,h1,?_⟩
  cases y with
  |one x=>exact Bw hS hM h2
  |agg xs =>
   obtain⟨vs,rfl,P2,hc⟩:=h2;refine⟨vs,rfl,by rw[P2,aqC],λj u x hu hx=>?_⟩;rw[aqN]at hx
   cases hy:xs[j]? with
   |none=>rw[hy]at hx;cases hx
   |some y=>rw[hy]at hx;cases hx;exact Bw hS hM (hc j u y hu hy)
  |tup ps=>exact AV.mv (x := .tup ps) hM h2
  |tupS xs=>exact AV.mv (x := .tupS xs) hM h2
  |undef=>exact AV.mv (x := .undef) hM h2⟩
theorem BZ {c:Code}{Q:AX->Tm->List Ob->Prop}{T:Tm}{L:List Ob}(h:Aw P N n0 c (λx T' L' =>∃ T2 L2,k8 N n0 T' L' T2 L2/\Q x T2 L2) T L):Aw P N n0 c Q T L:=by
 intro hn B R γ w a hi hT;refine wp_mono (h hn B R γ w a hi hT) ?_;rintro e a1 w1 ⟨x,T1,L1,R1,γ1,rfl,⟨T2,L2,g,q⟩,i1,t1,e1,m1⟩;obtain⟨R2,γ2,i2,t2,e2,m2⟩:=(g m1.lo').2 B R1 γ1 w1 a1 i1 t1;exact⟨x,T2,L2,R2,γ2,rfl,q,i2,t2,e1.trans e2,m1.trans hi.len m2⟩
theorem qT {Q:AX->Tm->List Ob->Prop}{c:Code}{T:Tm}{L:List Ob}(t O1 k:Nat)(ht:T.lookup t=some (.one .emp))(hv:65536<=O1)(h:Aw P N n0 c Q ((t,.one (.sl L.length O1 0 0))::T) (L++[.row O1 [] k])):Aw P N n0 c Q T L:=by
 intro hn B R γ w a hi hT;have hm:Mv R R γ (γ++[.none]) L (L++[.row O1 [] k]):=Mv.push _ _ hi.len;refine wp_mono (h m8 B R (γ++[.none]) w a (hi.rowTok O1 k) ⟨hT.size,hT.defers,λt' x hx=>?_⟩) λ_ _ _ hh=>hh.ext (Ext.refl _ _ _) hi.len (qF.of hn hm)
 rw[List.lookup_cons]at hx;by_cases e:t'=t
 ·subst e
  simp at hx;subst hx;obtain⟨u,h1,a0,rfl⟩:=hT.slot t' _ ht;refine⟨_,h1,⟨rfl,rfl⟩,m5,λQ5 TZ k2 e2=>?_⟩;rw[aqx (aqG _)]at e2;simp at e2;obtain⟨q1,q2,q3⟩:=e2;subst q1 q2 q3;exact⟨aqG _,λ_=>⟨m5,.none,by rw[<- hi.len];simp,⟨a0,rfl,λh=>by omega⟩,rfl,rfl⟩⟩
 ·have e':(t'==t)=false:=by simpa using e
  rw[e']at hx;obtain⟨u,h1,h2⟩:=hT.slot t' x hx;exact⟨u,h1,AV.mv hm h2⟩
end
theorem map_some {α β:Type}{o:Option α}{f:α->β}{r:β}(h:o.map f=some r):∃ a,o=some a/\f a=r:=by
 cases o with
 |none=>cases h
 |some a=>exact⟨a,rfl,aqX h⟩
section
variable {P:Program} {ti:TI} {ρ:Operand->Option AV} {L:List Ob}
theorem x9 (z:Array Value)(n i:Nat)(h:i<n):(madeCells z n)[i]?=some z[i%z.size]! :=by
 simp[madeCells,h]
theorem qS (O_:TIok P ti){l c:Operand}{t:TypeId}{E k by_:Nat}{m:Int}{kl kc:IntKind}{zs:List SV}{zv:AV}(hl:ρ l=some (.one (.c (.int kl m))))(hc:ρ c=some (.one (.c (.int kc m))))(ht:ti.elem t=some E)(hE:E<65536)(P2:ti.size E=some k)(WP:ti.zok E=true)(hzv:ti.zero E=some zv)(hcz:zv.cells=some zs)(S3:ti.bytes E=some by_)
  (hk:0<k) (h0:0<=m) (OU:(by_:Int)*m<=281474976710656) (PP:m<=9223372036854775807) :
  sf P ρ L (.makeSlice t l c) (.one (.sl L.length (E+65536) 0 m.toNat)) (L++[.row (E+65536) (List.replicate m.toNat zs) k]):=by
 intro B R γ w ev o ho hi hρ Rz;obtain⟨dst,op,type,pos,after,guard⟩:=o;simp only at ho;subst ho;obtain⟨inf,z,P6,R6,QX,U7⟩:=O_.zok _ WP _ (O_.size _ _ P2);have Qs:inf.bytes=by_:=by have RB:=O_.bytes _ _ S3;unfold ky at RB;rw[P6]at RB;simpa using RB
 have hzo':AV.ofVal z=some zv:=by have:=O_.zero _ _ hzv;unfold zeroOf at this;rw[P6]at this;simpa[R6]using this
 have Xx:=(hρ _ (by simp[Op.operands,Call.operands]) _ hl);have SB:=(hρ _ (by simp[Op.operands,Call.operands]) _ hc);generalize hle:ev l=lv at Xx;generalize Ve:ev c=cv at SB
 cases Xx;cases SB;have Pl:=run_make (P:=P) w t E inf z (jU O_ ht) P6 R6 kl kc m m h0 (Int.le_refl _) (by rw[Qs];exact OU) PP;have hm:Mv R R γ (γ++[.arr w.heap.size m.toNat]) L (L++[.row (E+65536) (List.replicate m.toNat zs) k]):=Mv.push _ _ hi.len;have hcr:=cells_rep (R:=R) (γ:=γ++[.arr w.heap.size m.toNat]) (L:=L++[.row (E+65536) (List.replicate m.toNat zs) k]) (AV.ofVal_rep hzo') hcz;have hzl:zs.length=k:=by have:=hcr.1;rw[U7]at this;omega
 refine⟨w.alloc (.cells (madeCells z.cells (m.toNat*inf.size)) E),R,_,.inl ⟨.slice (some ⟨w.heap.size,0,none⟩) m.toNat m.toNat,by simp[execOp,hle,Ve,Pl],⟨rfl,rfl⟩,m5,λQ5 TZ k2 e2=>?_⟩,?_,⟨Kept.alloc hi.bsz _,PH.sub_refl _,λ_ _ _=>rfl⟩,hm⟩
 ·rw[aqx m0]at e2
  simp at e2;obtain⟨q1,q2,q3⟩:=e2;subst q1 q2 q3;refine⟨aqG _,λ_=>⟨m5,.arr w.heap.size m.toNat,by rw[<- hi.len];simp,.inl ?_⟩⟩;simp
 ·refine hi.push _ _ _ rfl ⟨⟨_,E,⟨dr w _,by show(E:Nat)=(E+65536)%65536;omega,by show 65536<=(E:Nat)+65536;omega⟩,by rw[size_madeCells,QX],λi e j u x he hu hx=>?_⟩,m5,hk,λe he=>?_,λo=>hi.none_at o⟩
  ·rw[List.getElem?_replicate]at he
   split at he
   ·rename_i him
    obtain rfl:=aqX he;have hj:j<k:=by rw[<- hzl];exact(aqp.1 hx).1
    have O0:i*k+j<m.toNat*inf.size:=by rw[QX];exact qA him hj
    rw[x9 _ _ _ O0,U7,Nat.add_comm,Nat.add_mul_mod_self_right,Nat.mod_eq_of_lt hj]at hu;have WH:j<z.cells.size:=by rw[U7];exact hj
    refine hcr.2 j u x ?_ hx;rw[<- hu,aqP WH,getElem!_pos z.cells j WH]
   ·cases he
  ·rw[List.eq_of_mem_replicate he];exact hzl
end
def bytesOf:List (List SV)->Option (List UInt8)
 |[]=>some []
 |[.c (.int .u8 n)]::es=>match bytesOf es with
  |some bs=>if n=(UInt8.ofNat n.toNat).toNat then some (UInt8.ofNat n.toNat::bs)else none
  |none=>none
 |_=>none
def rp (a b:ByteArray):Int:=Extern.BytealgCompare.cmp a b
theorem yU {P : Program} {ρ : Operand -> Option AV} {L : List Ob} {f : FuncId} {fn : Func} {x y : Operand} {ts : Array TypeId} {a b : ByteArray} (hx : ρ x = some (.one (.c (.str a)))) (hy : ρ y = some (.one (.c (.str b)))) (hf : P.funcs[f]? = some fn) (P_ : (fn.name == "runtime.NumGoroutine") = false)
  (hb:fn.body.isNone=true) (hn:Extern.findNext fn=none) (he:Extern.find fn=some Extern.BytealgCompare.compare) :
  sf P ρ L (.call { callee := .value (.func f),args :=#[x,y],argTypes:=ts }) (.one (.c (.int .i64 (rp a b)))) L:=by
 intro B R γ w ev o ho hi hρ Rz;obtain⟨dst,op,type,pos,after,guard⟩:=o;simp only at ho;subst ho;have h1:=hρ x (by simp[Op.operands,Call.operands]) _ hx;have h2:=hρ y (by simp[Op.operands,Call.operands]) _ hy;generalize hex:ev x=ux at h1;generalize WQ:ev y=uy at h2
 cases h1;cases h2;refine⟨w,R,γ,.inl ⟨.int .i64 (rp a b),?_,.int _ _⟩,hi,Ext.refl _ _ _,Mv.refl⟩;have:=run_callFunc_extern hf P_ hb hn he #[.string a,.string b] w;have h3:(Extern.BytealgCompare.compare #[.string a,.string b]).run P w = .ok (.int .i64 (rp a b)) w:=rfl;rw[h3]at this;simp[execOp,resolve,Deferred.ofValue,Rz.1,hex,WQ,invoke,this,Result.andThen]
structure aeF where
 noEsc:FuncId
 cmpS:FuncId
def akT (P : Program) (f : FuncId) : Prop := ∃ fn, P.funcs[f]? = some fn /\ (fn.name == "runtime.NumGoroutine") = false /\ fn.body.isNone = true /\ Extern.findNext fn = none /\ Extern.find fn = some Extern.AbiNoEscape.same
def anq (P : Program) (f : FuncId) : Prop := ∃ fn, P.funcs[f]? = some fn /\ (fn.name == "runtime.NumGoroutine") = false /\ fn.body.isNone = true /\ Extern.findNext fn = none /\ Extern.find fn = some Extern.BytealgCompare.compare
structure zy (P:Program)(xs:aeF):Prop where
 noEsc:akT P xs.noEsc
 cmpS:anq P xs.cmpS
theorem qP {P:Program}{N n0:Nat}{Q:AX->Tm->List Ob->Prop}{c:Code}{T:Tm}{L:List Ob}(h:Aw P N n0 c Q T L):Aw P N n0 (.scope c) Q T L:=λhn B R γ w a hi hT =>
 wp_scope_straight (wp_mono (h hn B R γ w a hi hT) λe a1 w1 hp=>by
  obtain⟨x,T1,L1,R1,γ1,rfl,q⟩:=hp
  cases x with
  |normal=>exact⟨.normal,T1,L1,R1,γ1,rfl,q⟩
  |exit id=>exact⟨.exit id,T1,L1,R1,γ1,rfl,q⟩
  |ret=>exact⟨.ret,T1,L1,R1,γ1,rfl,q⟩)
structure Cx where
 P:Program
 ti:TI
 xs:aeF
 row:FuncId->Nat->Bool
 frz:FuncId->Nat->List Nat
 flg:FuncId->Nat->Bool×Bool
 orc:FuncId->List PV->Option CV
 bad:FuncId->Bool
 fz:FuncId->Nat->List Nat:=λ_ _=>[]
 sw:FuncId->Nat->Option (Nat×List Nat):=λ_ _=>none
def akN (n:Nat):Cap->Bool
 |.ptr id _=>Nat.blt id n
 |.c _=>true
def Lu (n:Nat):List Cap->Bool
 |[]=>true
 |x::xs=>akN n x&&Lu n xs
def alF (n:Nat):SV->Bool
 |.own _ t=>Nat.blt t n
 |.ptr id _=>Nat.blt id n
 |.sl id _ _ _=>Nat.blt id n
 |.ep id _ _ _=>Nat.blt id n
 |.mp id=>Nat.blt id n
 |.clo _ Pj=>Lu n Pj
 |.c _=>true
 |.emp=>true
def F9 (n:Nat):List SV->Bool
 |[]=>true
 |x::xs=>alF n x&&F9 n xs
def LV (n:Nat):List (List SV)->Bool
 |[]=>true
 |x::xs=>F9 n x&&LV n xs
def aje (n:Nat):AV->Bool
 |.one x=>alF n x
 |.agg xs=>F9 n xs
 |.tup _=>true
 |.tupS xs=>F9 n xs
 |.undef=>true
def DN (n:Nat):List AV->Bool
 |[]=>true
 |x::xs=>aje n x&&DN n xs
def aeE (n:Nat):List (AC×AV)->Bool
 |[]=>true
 |x::xs=>aje n x.2&&aeE n xs
def anj (n:Nat):Ob->Bool
 |.box cs=>F9 n cs
 |.row _ es _=>LV n es
 |.map Qe=>aeE n Qe
 |.spare _ _=>true
 |.dead=>true
def I0 (n:Nat):List Ob->Bool
 |[]=>true
 |x::xs=>anj n x&&I0 n xs
theorem ad3 {n:Nat}{x:Cap}(h:akN n x=true):x.below n:=by
 cases x with
 |c _=>trivial
 |ptr id _=>exact aqA h
theorem EF {n:Nat}:∀ {xs:List Cap},Lu n xs=true ->∀ x∈xs,x.below n
 |[],_,x,hx=>by cases hx
 |y::xs,h,x,hx=>by
  rw[Lu,aqI]at h;obtain rfl|hx:=aqH.1 hx
  ·exact ad3 h.1
  ·exact EF h.2 x hx
theorem acz {n:Nat}{x:SV}(h:alF n x=true):x.below n:=by
 cases x with
 |c _=>trivial
 |emp=>trivial
 |own _ t=>exact aqA h
 |ptr id _=>exact aqA h
 |sl id _ _ _=>exact aqA h
 |ep id _ _ _=>exact aqA h
 |mp id=>exact aqA h
 |clo f Pj=>exact EF h
theorem rR {n:Nat}:∀ {xs:List SV},F9 n xs=true ->∀ x∈xs,x.below n
 |[],_,x,hx=>by cases hx
 |y::xs,h,x,hx=>by
  rw[F9,aqI]at h;obtain rfl|hx:=aqH.1 hx
  ·exact acz h.1
  ·exact rR h.2 x hx
theorem EW {n:Nat}:∀ {xs:List (List SV)},LV n xs=true ->∀ e∈xs,∀ x∈e,x.below n
 |[],_,x,hx=>by cases hx
 |y::xs,h,x,hx=>by
  rw[LV,aqI]at h;obtain rfl|hx:=aqH.1 hx
  ·exact rR h.1
  ·exact EW h.2 x hx
theorem g_ {n:Nat}{x:AV}(h:aje n x=true):x.below n:=by
 cases x with
 |one x=>exact acz h
 |agg xs=>exact rR h
 |tup _=>trivial
 |tupS xs=>exact rR h
 |undef=>trivial
theorem lN {n:Nat}:∀ {xs:List AV},DN n xs=true ->∀ x∈xs,x.below n
 |[],_,x,hx=>by cases hx
 |y::xs,h,x,hx=>by
  rw[DN,aqI]at h;obtain rfl|hx:=aqH.1 hx
  ·exact g_ h.1
  ·exact lN h.2 x hx
theorem KR {n:Nat}:∀ {xs:List (AC×AV)},aeE n xs=true ->∀ p∈xs,p.2.below n
 |[],_,x,hx=>by cases hx
 |y::xs,h,x,hx=>by
  rw[aeE,aqI]at h;obtain rfl|hx:=aqH.1 hx
  ·exact g_ h.1
  ·exact KR h.2 x hx
theorem aiT {n:Nat}{x:Ob}(h:anj n x=true):x.below n:=by
 cases x with
 |box cs=>exact rR h
 |row _ es _=>exact EW h
 |map Qe=>exact KR h
 |spare _ _=>trivial
 |dead=>trivial
theorem eV {n:Nat}:∀ {xs:List Ob},I0 n xs=true ->∀ x∈xs,x.below n
 |[],_,x,hx=>by cases hx
 |y::xs,h,x,hx=>by
  rw[I0,aqI]at h;obtain rfl|hx:=aqH.1 hx
  ·exact aiT h.1
  ·exact eV h.2 x hx
theorem h_ {n i:Nat}(h:i<n):ke (List.range n) i=i:=by
 unfold ke;rw[arj,List.getElem?_range h];rfl
theorem Cap.ren_range {n:Nat}{x:Cap}(h:x.below n):x.ren (List.range n)=x:=by
 cases x with
 |c _=>rfl
 |ptr id off=>show Cap.ptr (ke _ id) off=_;rw[h_ h]
theorem eH {α:Type}{f:α->α}:∀ {l:List α},(∀ x∈l,f x=x)->l.map f=l
 |[],_=>rfl
 |x::l,h=>by rw[aqB,h x (arc ..),eH λy hy=>h y (aqO _ hy)]
theorem SV.ren_range {n:Nat}{x:SV}(h:x.below n):x.ren (List.range n)=x:=by
 cases x with
 |c _=>rfl
 |emp=>rfl
 |own es t=>show SV.own es (ke _ t)=_;rw[h_ h]
 |ptr id off=>show SV.ptr (ke _ id) off=_;rw[h_ h]
 |sl id v l m=>show SV.sl (ke _ id) v l m=_;rw[h_ h]
 |ep id v i o=>show SV.ep (ke _ id) v i o=_;rw[h_ h]
 |mp id=>show SV.mp (ke _ id)=_;rw[h_ h]
 |clo f Pj=>show SV.clo f (Pj.map _)=_;rw[eH λx hx=>Cap.ren_range (h x hx)]
theorem AV.ren_range {n:Nat}{x:AV}(h:x.below n):x.ren (List.range n)=x:=by
 cases x with
 |one x=>show AV.one (x.ren _)=_;rw[SV.ren_range h]
 |agg xs=>show AV.agg (xs.map _)=_;rw[eH λx hx=>SV.ren_range (h x hx)]
 |tup _=>rfl
 |tupS xs=>show AV.tupS (xs.map _)=_;rw[eH λx hx=>SV.ren_range (h x hx)]
 |undef=>rfl
theorem Ob.ren_range {n:Nat}{x:Ob}(h:x.below n):x.ren (List.range n)=x:=by
 cases x with
 |box cs=>show Ob.box (cs.map _)=_;rw[eH λx hx=>SV.ren_range (h x hx)]
 |row v es k=>show Ob.row v (es.map (List.map _)) k=_;rw[eH λe he=>eH λx hx=>SV.ren_range (h e he x hx)]
 |map Qe=>show Ob.map (Qe.map λp=>(p.1,p.2.ren (List.range n)))=_;rw[eH (f:=λp:AC×AV=>(p.1,p.2.ren (List.range n))) λp hp=>by show(p.1,p.2.ren _)=p;rw[AV.ren_range (h p hp)]]
 |spare _ _=>rfl
 |dead=>rfl
abbrev CP:=FuncId->List PV->Option CV
abbrev CR:=FuncId->List Ob->List AV->Option (List Ob×AV)
def aeP (cx:Cx)(f:FuncId)(id:Nat):Bool->TI
 |false =>{ cx.ti with dyn:=true,soft:=false }
 |true =>{ cx.ti with dyn:=(cx.flg f id).1,soft:=(cx.flg f id).2 }
def iu (cx:Cx)(f:FuncId):Code->Bool
 |.seq x y=>iu cx f x&&iu cx f y
 |.cond _ x y=>iu cx f x&&iu cx f y
 |.block _ c=>iu cx f c
 |.loop c=>iu cx f c
 |.scope c=>iu cx f c
 |.region id ops true=>match cx.sw f id with
  |some (p,_)=>(decide (p+1<ops.toList.length)&&ops.toList.all λo=>o.guard.isNone)&&(fq (cx.fz f id) (aeP cx f id true) (l1E p ops.toList)&&fq (cx.fz f id) (aeP cx f id true) (l2E p ops.toList))
  |none=>fq (cx.fz f id) (aeP cx f id true) ops.toList
 |_=>true
structure Nx (cx:Cx):Prop where
 ti:TIok cx.P cx.ti
 ne:zy cx.P cx.xs
 mix:cx.P.follows .mixedOrders=true
 name : ∀ (f : FuncId) fn, cx.P.funcs[f]? = some fn -> (fn.name == "runtime.NumGoroutine") = false
 code:∀ (f:FuncId) fn c,cx.P.funcs[f]?=some fn->fn.body=some c->cx.bad f=false->iu cx f c=true
 orc:∀ g ps r,cx.orc g ps=some r->Pure cx.P g ps r
def Aj (cx:Cx):List Func->Nat->Bool
 |[],_=>true
 |fn::fs,i=>(match fn.body with
  |some c=>cx.bad i||iu cx i c
  |none=>true)&&Aj cx fs (i+1)
theorem Ek {cx:Cx}:∀ {fs:List Func} {i:Nat},Aj cx fs i=true ->∀ (j:Nat) fn c,fs[j]?=some fn->fn.body=some c->cx.bad (i+j)=false->iu cx (i+j) c=true
 |[],i,h,j,fn,c,hj,_,_=>by simp at hj
 |f0::fs,i,h,0,fn,c,hj,hb,WU=>by
  rw[Aj,aqI]at h;simp at hj;subst hj;have h1:=h.1;rw[hb]at h1;rw[Nat.add_zero]at WU ⊢;simp only[WU,Bool.false_or]at h1;exact h1
 |f0::fs,i,h,j+1,fn,c,hj,hb,WU=>by
  rw[Aj,aqI]at h;have:=Ek h.2 j fn c (by simpa using hj) hb (by rwa[show i+1+j=i+(j+1)by omega]);rwa[show i+1+j=i+(j+1)by omega]at this
def AA:List Func->Bool
 |[]=>true
 | fn :: fs => !(fn.name == "runtime.NumGoroutine") && AA fs
theorem EM : ∀ {fs : List Func}, AA fs = true -> ∀ (j : Nat) fn, fs[j]? = some fn -> (fn.name == "runtime.NumGoroutine") = false
 |[],h,j,fn,hj=>by simp at hj
 |f0::fs,h,0,fn,hj=>by
  rw[AA,aqI]at h;simp at hj;subst hj;simpa using h.1
 |f0::fs,h,j+1,fn,hj=>by
  rw[AA,aqI]at h;exact EM h.2 j fn (by simpa using hj)
theorem Nx.of {cx:Cx}(ti:TIok cx.P cx.ti)(ne:zy cx.P cx.xs)(mix:cx.P.follows .mixedOrders=true)(name:AA cx.P.funcs.toList=true)(code:Aj cx cx.P.funcs.toList 0=true)(orc:∀ g ps r,cx.orc g ps=some r->Pure cx.P g ps r):Nx cx :=
 ⟨ti,ne,mix,λf fn h=>EM name f fn (by simpa using h),λf fn c h hb WU=>by have:=Ek code f fn c (by simpa using h) hb (by rwa[aq8]);rwa[aq8]at this,orc⟩
theorem sD {α:Type}:∀ (A A' G:List α) (i:Nat) (pre:List α),A.length=A'.length->pre.length=i->cZ (pre++A++G) ((List.range A.length).map (i + ·)) A'=pre++A'++G
 |[],[],G,i,pre,_,_=>by simp[cZ]
 |[],_::_,_,_,_,h,_=>by simp at h
 |_::_,[],_,_,_,h,_=>by simp at h
 |x::A,y::A',G,i,pre,h,hp=>by
  have hr:(List.range (x::A).length).map (i + ·)=i::(List.range A.length).map (i+1 + ·):=by
   rw[aqM,List.range_succ_eq_map,aqB,List.map_map];simp only[Nat.add_zero,List.cons.injEq,true_and];refine List.map_congr_left λj _=>?_
   show i+(j+1)=i+1+j;omega
  rw[hr,cZ];have e1:(pre++x::A++G).set i y=(pre++[y])++A++G:=by
   subst hp;rw[aqR,List.set_append_right _ _ (aqG _),Nat.sub_self];simp
  rw[e1,sD A A' G (i+1) (pre++[y]) (by simpa using h) (by simp[hp])];simp
theorem MF {A A' G:List Ob}{m:Nat}(hA:A.length=m)(YZ:A'.length=m)(hb:∀ x∈A',x.below m):joinL (List.range m) (A++G) A'=A'++G:=by
 have ho:bY (List.range m) (A++G).length A'.length=List.range m:=by
  unfold bY eY;rw[List.length_range,YZ,Nat.sub_self];simp
 unfold joinL;rw[ho,eH λx hx=>Ob.ren_range (hb x hx)];unfold join;have h1:=sD A A' G 0 [] (by rw[hA,YZ]) rfl;have h2:(List.range A.length).map (0 + ·)=List.range m:=by rw[hA];exact eH λi _=>aq8 i
 rw[h2]at h1;rw[List.length_range,<- YZ,arn,aqZ];simpa[YZ]using h1
section
variable {P:Program} {ti:TI} {N n0:Nat} {ds:List (Option Tmp)} {K:Tm->List Ob->Prop} {rest:List Oper} {o:Oper} {T:Tm} {L:List Ob} {ρ:Operand->Option AV}
theorem xI (m:Nat)(A A' G:List Ob){g:FuncId}{args:List AV}{d:Nat}(hd:o.dst=some d)(hN:Nat.blt d N=true)(hg:gg ds T o.guard=some true)(hp:cS ti (look T) o.op=some (g,args))(hL:L=A++G)(hc:Run P g A args A' (.tup []))(hA:A.length=m)(YZ:A'.length=m)(hb:∀ x∈A,x.below m)(Qq:∀ x∈A',x.below m)(ha:∀ x∈args,x.below m)
  (h:aI P ti N ds K rest ((d,.tup [])::T) (A'++G)):aI P ti N ds K (o::rest) T L:=by
 subst hL;refine cJ (List.range m) hd hN hg hp hc (eH λx hx=>AV.ren_range (ha x hx)).symm ⟨by rw[List.length_range,hA],List.nodup_range,λi x hx=>?_,λx hx=>by rw[hA];exact hb x hx,λx hx=>by rw[hA];exact ha x hx⟩ rfl (MF hA YZ Qq) h;have hi:i<m:=by rw[<- hA];exact(aqp.1 hx).1
 rw[h_ hi,Ob.ren_range (hb x (aqw hx)),aqE (by rw[hA];exact hi)];exact hx
theorem OD {K K':AV->List Ob->Prop}{op:Op}(h:hZ P ti ρ L K op)(hk:∀ v L,K v L->K' v L):hZ P ti ρ L K' op:=by
 obtain⟨v,φ,h1,h2,h3⟩|⟨v,φ,h1,h2,h3⟩|⟨v,L',φ,h1,h2,h3⟩|⟨g,ps,r,h1,h2,h3⟩|⟨g,es,t,k,ps,PQ,h1,h2,h3,h4⟩|⟨g,k,ps,PQ,h1,h2,h3⟩|⟨σ,g,L0,as',L1,r,h1,h2,h3,h4⟩|⟨v,L',h1,h2,h3⟩:=h
 ·exact .inl ⟨v,φ,h1,h2,hk _ _ h3⟩
 ·exact .inr (.inl ⟨v,φ,h1,h2,hk _ _ h3⟩)
 ·exact .inr (.inr (.inl ⟨v,L',φ,h1,h2,hk _ _ h3⟩))
 ·exact .inr (.inr (.inr (.inl ⟨g,ps,r,h1,h2,hk _ _ h3⟩)))
 ·exact .inr (.inr (.inr (.inr (.inl ⟨g,es,t,k,ps,PQ,h1,h2,h3,hk _ _ h4⟩))))
 ·exact .inr (.inr (.inr (.inr (.inr (.inl ⟨g,k,ps,PQ,h1,h2,hk _ _ h3⟩)))))
 ·exact .inr (.inr (.inr (.inr (.inr (.inr (.inl ⟨σ,g,L0,as',L1,r,h1,h2,h3,hk _ _ h4⟩))))))
 ·exact .inr (.inr (.inr (.inr (.inr (.inr (.inr ⟨v,L',h1,h2,hk _ _ h3⟩))))))
theorem ah8 {A A' B B':Prop}{g:Option (Nat×Bool)}(h:gd ds T A B g)(ha:A->A')(hb:B->B'):gd ds T A' B' g:=by
 unfold gd at h ⊢;split
 ·exact ha h
 ·rename_i j want
  dsimp only at h;split at h
  ·rename_i d hd
   split at h
   ·exact⟨λe=>ha (h.1 e),λe=>hb (h.2 e)⟩
   ·exact hb h
   ·cases h
  ·cases h
theorem iV {K K':Tm->List Ob->Prop}(hk:∀ T L,K T L->K' T L):∀ (l:List Oper) (T:Tm) (L:List Ob),aI P ti N ds K l T L->aI P ti N ds K' l T L
 |[],T,L,h=>hk T L h
 |o::l,T,L,h=>⟨h.1,ah8 h.2 (λh=>OD h λv L' h=>iV hk l _ _ h) (λh=>iV hk l _ _ h)⟩
theorem ak' (F:List Nat)(O_:TIok P ti){Q:AX->Tm->List Ob->Prop}{T:Tm}{L:List Ob}{id:Nat}{l:List Oper}{c:Code}(Tc:Tm)(Lc:List Ob)(p:Nat)(hp:p+1<l.length)(hg:l.all (λo=>o.guard.isNone)=true)(TM:P.follows .mixedOrders=true)(X_:fq F ti (l1E p l)=true)(T0:fq F ti (l2E p l)=true)(hF:fzB F T=true)
  (h1:aI P ti N ((l1E p l).map (·.dst)) (k8 N n0 · · Tc Lc) (l1E p l) T L) (h2:aI P ti N ((l2E p l).map (·.dst)) (k8 N n0 · · Tc Lc) (l2E p l) T L) (h:Aw P N n0 c Q Tc Lc):Aw P N n0 (.seq (.region id l.toArray true) c) Q T L:=by
 refine aw_seq (BZ (xH F O_ p hp hg TM X_ T0 hF (iV ?_ _ _ _ h1) (iV ?_ _ _ _ h2)))
 ·intro T' L' hG
  exact⟨Tc,Lc,hG,h⟩
 ·intro T' L' hG
  exact⟨Tc,Lc,hG,h⟩
theorem xb {Q:AX->Tm->List Ob->Prop}{c:Code}(k:Nat):∀ (m:Nat) (L:List Ob),Aw P N n0 c Q T (L++List.replicate m (.spare 0 k))->Aw P N n0 c Q T L
 |0,L,h=>by simpa using h
 |m+1,L,h=>by
  intro hn B R γ w a hi hT;have hm:Mv R R γ (γ++[.none]) L (L++[.spare 0 k]):=Mv.push _ _ hi.len;have h':Aw P N n0 c Q T ((L++[.spare 0 k])++List.replicate m (.spare 0 k)):=by rw[aqR];exact h
  exact wp_mono (xb k m _ h' m8 B R (γ++[.none]) w a (hi.tok k) (hT.mv hm)) λ_ _ _ hh=>hh.ext (Ext.refl _ _ _) hi.len (qF.of hn hm)
theorem AZ {Q:AX->Tm->List Ob->Prop}{c:Code}(t t':Nat){n k:Nat}(T1:Tm)(SA:n0<=t)(Xq:t<=t')(hL:L[t']?=some (.spare n k))(hb:∀ x∈L.take t,x.below t)(hT1:∀ p∈T1,(T.lookup p.1=some p.2/\p.2.below t) \/ ∃ es,T.lookup p.1=some (.one (.own es t'))/\p.2 = .one (.own es t))
  (h:Aw P N n0 c Q T1 (L.take t++[.spare n k])):Aw P N n0 c Q T L:=by
 intro hn B R γ w a hi hT;have XW:t'<L.length:=(aqp.1 hL).1;have O0:(L.take t).length=t:=by rw[ari];omega
 have Ux:L=L.take t++L.drop t:=(ara t L).symm;have RO:Fits ([]:Tm) L [] (L.take t):=⟨λp hp=>(by cases hp),⟨_,Ux⟩,λp hp=>(by cases hp),λx hx=>by rw[O0];exact hb x hx⟩;have Qz:fG N R γ L ([]:Tm) a:=⟨hT.size,hT.defers,λs x hx=>by simp at hx⟩;obtain⟨j1,_⟩:=RO.sound hi Qz;rw[O0]at j1;obtain⟨g,hg⟩:∃ g,γ[t']?=some g:=⟨γ[t']'(by rw[hi.len];exact XW),aqz _⟩;have QT:=hi.obj t' _ _ hL hg;have VF:(γ.take t).length=t:=by rw[ari,hi.len];omega
 have hmp:Mv R R (γ.take t) (γ.take t++[g]) (L.take t) (L.take t++[.spare n k]):=Mv.push _ _ j1.len;have hm:qF n0 R R γ (γ.take t++[g]) L (L.take t++[.spare n k]):=by
  have h1:=RO.mvn hi (by rw[O0];exact SA);rw[O0]at h1;exact h1.trans hi.len (qF.of (by rw[O0];exact SA) hmp)
 have hgt:(γ.take t++[g])[t]?=some g:=by
  rw[aqx m0];rw[VF,Nat.sub_self];rfl
 have SN:(L.take t++[Ob.spare n k])[t]?=some (.spare n k):=by
  rw[aqx m0];rw[O0,Nat.sub_self];rfl
 have Pv:∀ j h,(γ.take t++[g])[j]?=some h->(j=t/\h=g)\/(j<t/\(γ.take t)[j]?=some h):=by
  intro j h hh;by_cases hid:j<t
  ·rw[aqE (by rw[VF];exact hid)]at hh;exact .inr ⟨hid,hh⟩
  ·have:j=t:=by have:=(aqp.1 hh).1;rw[aqy,VF]at this;simp at this;omega
   subst this;rw[hgt]at hh;injection hh with hh
   exact .inl ⟨rfl,hh.symm⟩
 have hold:∀ j h,j<t->(γ.take t)[j]?=some h->γ[j]?=some h:=λj h hj hh=>by rwa[List.getElem?_take_of_lt hj]at hh
 have hI:Inv B R (γ.take t++[g]) (L.take t++[.spare n k]) w:=by
  refine⟨by rw[aqy,aqy,j1.len];rfl,hi.val,λj y q hy hq=>?_,λi j gi gj h1 h2 Pn b Qq=>?_,λi q b hq Qq=>?_,hi.bsz⟩
  ·obtain⟨rfl,rfl⟩|⟨hj,WV⟩:=Pv j q hq
   ·rw[SN]at hy
    injection hy with hy;subst hy
    match q,QT with
    |.arr b c,ho=>exact ho
    |.none,ho=>exact ho
   ·rw[aqE (by rw[O0];exact hj)]at hy
    exact(j1.obj j y q hy WV).mv hmp (λ_ _=>rfl) (λ_ _ _ h=>h)
  ·rcases Pv i gi h1 with⟨rfl,rfl⟩|⟨RL,YO⟩<;>rcases Pv j gj h2 with⟨rfl,rfl⟩|⟨VH,Xr⟩
   ·exact absurd rfl Pn
   ·exact hi.inj _ j _ gj hg (hold _ _ VH Xr) m0 b Qq
   ·exact hi.inj i _ gi _ (hold _ _ RL YO) hg m0 b Qq
   ·exact j1.inj i j gi gj YO Xr Pn b Qq
  ·obtain⟨rfl,rfl⟩|⟨RL,WV⟩:=Pv i q hq
   ·exact hi.new _ _ b hg Qq
   ·exact j1.new i q b WV Qq
 refine wp_mono (h m8 B R _ w a hI ⟨hT.size,hT.defers,λs x hx=>?_⟩) λ_ _ _ hh=>hh.ext (Ext.refl _ _ _) hi.len hm
 rcases hT1 _ (kp hx)with⟨h1,h2⟩|⟨es,h1,h2⟩
 ·obtain⟨u,hu,hr⟩:=hT.slot s x h1
  refine⟨u,hu,?_⟩;have hc:=AV.cut (R:=R) (γ:=γ) (L:=L.take t) (G:=L.drop t) (by rw[<- Ux];exact hi.len) (x:=x) (v:=u) (by rw[<- Ux];exact hr) (by rw[O0];exact h2);rw[O0]at hc;exact AV.mv hmp hc
 ·obtain⟨u,hu,hr⟩:=hT.slot s _ h1
  dsimp only at h2;subst h2;refine⟨u,hu,?_⟩;obtain⟨r1,r2,r3⟩:=hr;refine⟨r1,by simp;omega,λn' k' e=>?_⟩;rw[SN]at e;injection e with e
  injection e with e1 e2
  subst e1 e2;obtain⟨q1,q2,q3⟩:=r3 _ _ hL;refine⟨q1,q2,λe=>?_⟩;obtain⟨g',Rt,hl⟩:=q3 e;rw[hg]at Rt;injection Rt with Rt;subst Rt
  exact⟨_,hgt,hl⟩
end
def FZ {σ:Type}(O:Nat->σ->Ob)(s:σ):List Ob:=[O 0 s,O 1 s,O 2 s,O 3 s,O 4 s,O 5 s,O 6 s,O 7 s,O 8 s,O 9 s,O 10 s,O 11 s,O 12 s,O 13 s,O 14 s,O 15 s,O 16 s]
theorem fc {σ:Type}{O:Nat->σ->Ob}{s:σ}{n:Nat}(h:∀ i,i<17->(O i s).below n):∀ x∈FZ O s,x.below n:=by
 intro x hx;unfold FZ at hx;simp only[aqH,List.not_mem_nil,or_false]at hx;rcases hx with h1|h1|h1|h1|h1|h1|h1|h1|h1|h1|h1|h1|h1|h1|h1|h1|h1<;>rw[h1]<;>exact h _ m0
open Go.RowKit Go.Shelf Go.Lib Go.Sort
set_option linter.unusedSectionVars false
structure Flat (α:Type) where
 k:Nat
 nums:α->List Int
 len:∀ x,(nums x).length=k
 pos:0<k
namespace Flat
variable {α:Type} (F:Flat α)
def enc (x:α):List Value:=(F.nums x).map (Value.int .i64)
def tr (x:α):List SV:=(F.nums x).map λn => .c (.int .i64 n)
theorem enc_len (x:α):(F.enc x).length=F.k:=by simp[enc,F.len]
theorem tr_len (x:α):(F.tr x).length=F.k:=by simp[tr,F.len]
theorem rep_iff {R:PH}{γ:List Gh}{L:List Ob}{x:α}{j:Nat}{t:SV}(ht:(F.tr x)[j]?=some t){u:Value}:t.rep R γ L u↔(F.enc x)[j]?=some u:=by
 unfold tr at ht;unfold enc;rw[aqN]at ht ⊢
 cases hn:(F.nums x)[j]? with
 |none=>rw[hn]at ht;cases ht
 |some n =>
  rw[hn]at ht
  cases ht;constructor
  ·intro h;cases h;rfl
  ·intro h;cases h;exact .int _ _
theorem flat_get {l:List α}{i j:Nat}{x:α}(hi:l[i]?=some x)(hj:j<F.k):(l.flatMap F.enc)[i*F.k+j]?=(F.enc x)[j]?:=by
 induction l generalizing i with
 |nil=>cases hi
 |cons y l ih =>
  rw[aq3]
  cases i with
  |zero =>
   cases hi;rw[Nat.zero_mul,aq8,aqE (by rw[F.enc_len];exact hj)]
  |succ i =>
   rw[aqx (by rw[F.enc_len,Nat.succ_mul];omega),F.enc_len,show(i+1)*F.k+j-F.k=i*F.k+j by rw[Nat.succ_mul];omega];exact ih hi
theorem flat_len (l:List α):(l.flatMap F.enc).length=l.length*F.k:=by
 induction l with
 |nil=>simp
 |cons y l ih=>rw[aq3,aqy,ih,F.enc_len,aqM,Nat.succ_mul];omega
end Flat
section
variable {P:Program} {α:Type} {F:Flat α} {B:Nat->Prop} {R:PH} {γ:List Gh} {w:World}
theorem y5 {k c O1:Nat}{l:List α}{vs:Array Value}(hk:k=F.k)(hc:l.length<=c)(hs:vs.size=c*k)
  (hr:∀ (i:Nat) e (j:Nat) u x,(l.map F.tr)[i]?=some e->vs[i*k+j]?=some u->e[j]?=some x->x.rep R γ [.row O1 (l.map F.tr) k] u) (j:Nat) (hj:j<l.length*k):vs[j]?=(l.flatMap F.enc)[j]?:=by
 subst hk;have h0:=F.pos;have hi:j/F.k<l.length:=Nat.div_lt_of_lt_mul (by rw[Nat.mul_comm];exact hj);have hm:j%F.k<F.k:=Nat.mod_lt _ h0;have e:=Nat.div_add_mod' j F.k;have YW:j<vs.size:=by rw[hs];exact aq4 hj (aq2 _ hc)
 have h1:=aqz hi;have ht:(F.tr l[j/F.k])[j%F.k]?=some ((F.tr l[j/F.k])[j%F.k]'(by rw[F.tr_len];exact hm)):=aqz _;have h2:=hr (j/F.k) (F.tr l[j/F.k]) (j%F.k) vs[j] _ (by rw[aqN,h1];rfl) (by rw[e];exact aqP YW) ht;rw[F.rep_iff ht]at h2;have h3:=F.flat_get h1 hm;rw[e]at h3;rw[h3,h2,aqP YW]
theorem aeO {O1 k b c:Nat}{pre d post d':List α}(hk:k=F.k)(hd:d'.length=d.length){W:World}(hi:Inv B R γ [.row O1 ((pre++d++post).map F.tr) k] w)(hg:γ[0]?=some (.arr b c))
  (ho:W.heap.size=w.heap.size) (Yb:W.os=w.os/\W.tape=w.tape/\W.output=w.output) (Pn:∀ b',b'≠b->W.heap[b']?=w.heap[b']?)
  (hb:∀ vs E,w.heap[b]?=some (.cells vs E (0,0)) ->∃ Y0:Array Value,W.heap[b]?=some (.cells Y0 E (0,0))/\Y0.size=vs.size /\ ∀ j,j<vs.size->Y0[j]?=if pre.length*k<=j/\j<(pre.length+d.length)*k then(d'.flatMap F.enc)[j-pre.length*k]? else vs[j]?) :
  Inv B R γ [.row O1 ((pre++d'++post).map F.tr) k] W/\Ext B R R w W/\Mv R R γ γ [.row O1 ((pre++d++post).map F.tr) k] [.row O1 ((pre++d'++post).map F.tr) k]:=by
 subst hk;have hL:([.row O1 ((pre++d++post).map F.tr) F.k]:List Ob)[0]?=some (.row O1 ((pre++d++post).map F.tr) F.k):=rfl;obtain⟨⟨vs,E,⟨h1,hE⟩,P2,hr⟩,hc,VB,Wl,hR⟩:=hi.obj 0 _ _ hL hg;obtain⟨Y0,g1,g2,g3⟩:=hb vs E h1;have TA:=y5 (F:=F) rfl (by simpa using hc) P2 hr;have hm:Mv R R γ γ [.row O1 ((pre++d++post).map F.tr) F.k] (([.row O1 ((pre++d++post).map F.tr) F.k]:List Ob).set 0 (.row O1 ((pre++d'++post).map F.tr) F.k)):=by
  refine⟨PH.sub_refl _,aqG _,λt' n k O0 h=>?_,λt' Po es k O0 h=>?_,λ_ _ h=>h⟩
  ·obtain rfl:t'=0:=by simpa using O0
   cases h
  ·obtain rfl:t'=0:=by simpa using O0
   cases h;exact⟨O1,_,rfl,aqG _,λ_=>⟨by simp[hd],rfl⟩⟩
 have RJ:=hi.turn (R':=R) (w':=W) hL hg rfl hm Pn ho (λ_ _ _=>rfl) (λo u e=>by rw[hR o]at e;cases e) (by
  refine⟨⟨Y0,E,⟨g1,hE⟩,by rw[g2,P2],λi e j u x he hu hx=>?_⟩,by simpa[hd]using hc,VB,?_,hR⟩
  ·rw[aqN]at he
   cases hq:(pre++d'++post)[i]? with
   |none=>rw[hq]at he;cases he
   |some y =>
    rw[hq]at he
    cases he;rw[F.rep_iff hx];have hj:j<F.k:=by rw[<- F.tr_len y];exact(aqp.1 hx).1
    have O0:i*F.k+j<Y0.size:=(aq_.1 hu).1;rw[g3 _ m0]at hu;have VC:i<(pre++d'++post).length:=(aqp.1 hq).1;have WW:∀ a,i*F.k+j<a*F.k↔i<a:=λa=>⟨λh=>by
      obtain h'|h':=Nat.lt_or_ge i a
      ·exact h'
      ·have:=aq2 F.k h';omega,λh=>by
      have:=aq2 F.k (show i+1<=a from h);rw[Nat.succ_mul]at this;omega⟩
    by_cases S7:pre.length*F.k<=i*F.k+j/\i*F.k+j<(pre.length+d.length)*F.k
    ·rw[if_pos S7]at hu
     have a1:¬ i<pre.length:=λh=>by have:=(WW _).2 h;omega
     have a2:=(WW _).1 S7.2;have WV:d'[i-pre.length]?=some y:=by
      rw[aqR,aqx m0,aqE m0]at hq;exact hq
     have:=F.flat_get WV hj;rw[<- this,<- hu];congr 1;rw[Nat.sub_mul];have:=aq2 F.k (show pre.length<=i by omega);omega
    ·rw[if_neg S7]at hu
     have WV:(pre++d++post)[i]?=some y:=by
      by_cases a1:i<pre.length
      ·rw[aqR,aqE a1]at hq ⊢;exact hq
      ·have a2:¬ i<pre.length+d.length:=λh=>S7 ⟨by have:=aq2 F.k (show pre.length<=i by omega);omega,(WW _).2 h⟩
       rw[aqx (by simp[hd];omega)]at hq;rw[aqx m8,<- hq];simp[hd]
     have hil':i<(pre++d++post).length:=(aqp.1 WV).1;rw[TA _ ((WW _).2 hil'),F.flat_get WV hj]at hu;exact hu
  ·intro e he
   obtain⟨y,_,rfl⟩:=aq0.1 he;exact F.tr_len y)
 refine⟨RJ,⟨⟨Yb.1,Yb.2.1,Yb.2.2,m0,λb' Qq=>Pn b' λe=>(hi.new 0 _ b hg rfl).1 (by rw[<- e];exact Qq)⟩,PH.sub_refl _,λ_ _ _=>rfl⟩,hm⟩
end
section
variable {P:Program} {ρ:Ren} {α:Type} [Inhabited α] {F:Flat α}
theorem yH (l:List α)(j:Nat)(hj:j<l.length*F.k):(flatK F.enc F.k l.toArray)[j]?=(l.flatMap F.enc)[j]?:=by
 have VB:=F.pos;have hi:j/F.k<l.length:=Nat.div_lt_of_lt_mul (by rw[Nat.mul_comm];exact hj);have hr:j%F.k<F.k:=Nat.mod_lt _ VB;have h1:=F.flat_get (aqz hi) hr;rw[Nat.div_add_mod' j F.k]at h1;rw[h1];have hs:j<(flatK F.enc F.k l.toArray).size:=by simp;exact hj
 rw[aqP hs,<- getElem!_pos _ j hs,get_flatK _ _ _ _ (by simpa using hj)];have h2:l.toArray[j/F.k]! =l[j/F.k]:=by simp[hi]
 rw[h2,aqz (by rw[F.enc_len];exact hr)];simp[F.enc_len,hr]
def abq (P:Program)(F:Flat α)(g:Nat)(cs:List AC)(arg:α->Value)(cf:α->α->Int):Prop :=
 ∀ (R:PH) (W:World) (cb:Array Value),(∀ b o u,R b o=some u->W.cell? ⟨b,o,none⟩=some u)->cb.size=cs.length->(∀ (j:Nat) v x,cb[j]?=some v->cs[j]?=some x->bD R v x) ->
  ∀ x y,Calls P g (#[arg x,arg y]++cb) W λe w'=>e = .returned (.int .i64 (cf x y)) /\ ∃ q Yc,w'=grow (W.drewN q) Yc
def bF (cf:α->α->Int)(d:List α):List α:=(pdq (ltOf cf) d.toArray 0 d.toArray.size (Lib.bitLen d.toArray.size) true true).toList
theorem jw {cf:α->α->Int}(hO:SWO (ltOf cf))(d:List α):(bF cf d).Perm d:=by
 have h:=(pdq_sorts (ltOf cf) hO d.toArray 0 d.toArray.size (Lib.bitLen d.toArray.size) true true (aqL _) (aqG _) (Or.inl rfl)).1;obtain⟨p1,_,p2⟩:=h;unfold bF;generalize pdq (ltOf cf) d.toArray 0 d.toArray.size (Lib.bitLen d.toArray.size) true true=d' at p1 p2 ⊢;have p1':d'.toList.length=d.length:=by simpa using p1
 have a1:(d'.extract 0 d.toArray.size).toList=d'.toList:=by simp[<- p1']
 have a2:(d.toArray.extract 0 d.toArray.size).toList=d:=by simp
 rw[a1,a2]at p2;exact p2
theorem fi {cf:α->α->Int}(hO:SWO (ltOf cf))(d:List α):(bF cf d).length=d.length:=(jw hO d).length_eq
theorem pI {cf:α->α->Int}(hO:SWO (ltOf cf))(d:List α):(bF cf d).Pairwise λx y =>¬ cf y x<0:=by
 have h:=(pdq_sorts (ltOf cf) hO d.toArray 0 d.toArray.size (Lib.bitLen d.toArray.size) true true (aqL _) (aqG _) (Or.inl rfl));have hl:=fi hO d;obtain⟨_,hs⟩:=h;unfold bF at hl ⊢;generalize pdq (ltOf cf) d.toArray 0 d.toArray.size (Lib.bitLen d.toArray.size) true true=d' at hs hl ⊢;rw[List.pairwise_iff_getElem];intro i j hi hj TF;have:=hs i j (aqL _) TF (by rw[hl]at hj;simpa using hj);unfold ltOf at this;have h2:=of_decide_eq_false this;have RJ:i<d'.size:=by simpa using hi
 have hj':j<d'.size:=by simpa using hj
 rw[getElem!_pos d' i RJ,getElem!_pos d' j hj']at h2;simpa using h2
theorem KN {B:Nat->Prop}{R:PH}{γ:List Gh}{w:World}{O1 b c n0:Nat}{pre d post d':List α}(hd:d'.length=d.length)(hi:Inv B R γ [.row O1 ((pre++d++post).map F.tr) F.k] w)(hg:γ[0]?=some (.arr b c))(cells:Array Value)(TG:cells.size=d.length*F.k)
  (Ve:∀ j,j<d.length*F.k->cells[j]?=(d'.flatMap F.enc)[j]?) (os:Array Obj) :
  Inv B R γ [.row O1 ((pre++d'++post).map F.tr) F.k] (grow (putRow id (Sort.ahead w n0) b (pre.length*F.k) cells) os)/\Ext B R R w (grow (putRow id (Sort.ahead w n0) b (pre.length*F.k) cells) os) /\
   Mv R R γ γ [.row O1 ((pre++d++post).map F.tr) F.k] [.row O1 ((pre++d'++post).map F.tr) F.k]:=by
 obtain⟨i1,e1,m1⟩:=aeO (F:=F) (d':=d') (W:=putRow id (Sort.ahead w n0) b (pre.length*F.k) cells) rfl hd hi hg (by simp[putRow,mapBlock,Sort.ahead]) ⟨rfl,rfl,rfl⟩
  (λb' Qq=>by simp[putRow,mapBlock,Sort.ahead,Array.getElem?_modify,Ne.symm Qq])
  (λvs E hv=>⟨putCells id (pre.length*F.k) cells vs,by simp[putRow,mapBlock,Sort.ahead,Array.getElem?_modify,hv,onCells],by simp[putCells],λj hj=>by
   have hx:(putCells id (pre.length*F.k) cells vs)[j]?=some (if pre.length*F.k<=j/\j<pre.length*F.k+cells.size then cells[j-pre.length*F.k]! else vs[j]):=by
    simp[putCells,hj]
   rw[hx,TG,Nat.add_mul];by_cases h:pre.length*F.k<=j/\j<pre.length*F.k+d.length*F.k
   ·rw[if_pos h,if_pos h,<- Ve _ m0]
    have:j-pre.length*F.k<cells.size:=m0
    rw[getElem!_pos cells _ this,aqP this]
   ·rw[if_neg h,if_neg h,aqP hj]⟩)
 have e2:Ext (· <(putRow id (Sort.ahead w n0) b (pre.length*F.k) cells).heap.size) R R (putRow id (Sort.ahead w n0) b (pre.length*F.k) cells) (grow (putRow id (Sort.ahead w n0) b (pre.length*F.k) cells) os) :=
  ⟨⟨rfl,rfl,rfl,m5,λb' Qq=>heap_grow_old _ _ Qq⟩,PH.sub_refl _,λ_ _ _=>rfl⟩
 obtain⟨i2,e3⟩:=i1.later e2 (λb' o u h=>by
  have:=i1.val b' o u h;rw[cell?_grow _ _ _ (lt_of_cell this)];exact this)
 exact⟨i2,e1.trans e3,m1⟩
theorem agn {B:Nat->Prop}{R:PH}{γ:List Gh}{w:World}{O1 b c:Nat}{pre d post:List α}(hi:Inv B R γ [.row O1 ((pre++d++post).map F.tr) F.k] w)(hg:γ[0]?=some (.arr b c))(cells:Array Value)(TG:cells.size=d.length*F.k)
  (Ve:∀ j,j<d.length*F.k->cells[j]?=(d.flatMap F.enc)[j]?):Holds id w b (pre.length*F.k) cells/\b<w.heap.size/\(∀ o,R b o=none):=by
 obtain⟨⟨vs,E,⟨h1,hE⟩,P2,hr⟩,hc,VB,Wl,hR⟩:=hi.obj 0 _ _ rfl hg;have TA:=y5 (F:=F) rfl (by simpa using hc) P2 hr;refine⟨λj hj=>?_,(aq_.1 h1).1,hR⟩;have O0:pre.length*F.k+j<(pre++d++post).length*F.k:=by
  simp only[aqy,Nat.add_mul];omega
 refine⟨?_,by simp[World.frozen?,h1]⟩;rw[cob_ h1,TA _ O0,aqR,List.flatMap_append,aqx (by rw[F.flat_len];omega),F.flat_len,List.flatMap_append,aqE (by rw[F.flat_len];omega),show pre.length*F.k+j-pre.length*F.k=j by omega,<- Ve j m0,aqP hj,getElem!_pos cells j hj];rfl
theorem aj0 {B:Nat->Prop}{R:PH}{γ:List Gh}{w:World}{O1:Nat}{pre d post:List α}{v:Value}(hi:Inv B R γ [.row O1 ((pre++d++post).map F.tr) F.k] w)
  (hv:(SV.sl 0 O1 pre.length d.length).rep R γ [.row O1 ((pre++d++post).map F.tr) F.k] v) :
  (∃ a c,v = .slice a 0 c/\d=[]) \/ ∃ b c c',γ[0]?=some (.arr b c)/\v = .slice (some ⟨b,pre.length*F.k,none⟩) d.length c':=by
 obtain⟨_,_,h⟩:=hv;obtain⟨_,h⟩:=h O1 _ _ rfl;obtain⟨hle,g,hg,hs⟩:=h rfl
 cases g with
 |none=>obtain⟨⟨a,rfl,_⟩,hn,_⟩:=hs;exact .inl ⟨a,0,rfl,aqQ hn⟩
 |box b=>exact absurd hs id
 |arr b c =>
  obtain rfl|⟨_,hn,a,rfl⟩:=hs
  ·exact .inr ⟨b,c,_,hg,rfl⟩
  ·exact .inl ⟨a,0,rfl,aqQ hn⟩
theorem Ew (L:SlLaysF0.n6 P ρ)(aE:∀ w,(isAgg (ρ.t 24)).run P w = .ok true w)(zE:∀ w,(Go.sizeOf (ρ.t 24)).run P w = .ok F.k w)(cf:α->α->Int)(hO:SWO (ltOf cf))(g:Nat)(cs:List AC){pre d post:List α}
  (eg : ∀ args w, (callFunc g args).run P w = .ok (.enter g args) w) (Yd : d ≠ [] -> abq P F g cs (λx => .agg (F.enc x).toArray) cf) (hf : ∃ fn, P.funcs[ρ.f 6]? = some fn /\ fn.body.isSome = true /\ (fn.name == "runtime.NumGoroutine") = false)
  (O1 lo n:Nat) (PG:pre.length=lo) (hn:d.length=n) (P2:n<4611686018427387904) :
  Run P (ρ.f 6) [.row O1 ((pre++d++post).map F.tr) F.k] [.one (.sl 0 O1 lo n),.one (.c (.fn g cs))] [.row O1 ((pre++bF cf d++post).map F.tr) F.k] (.tup []):=by
 subst PG hn;refine⟨hf,λB R γ w vs hi hs hv=>?_⟩;have Ye:vs.size=2:=hs;have ZD:=hv 0 vs[0] _ (aqP m0) rfl;have Rr:=hv 1 vs[1] _ (aqP m0) rfl;have Yf:vs=#[vs[0],vs[1]]:=by
  apply Array.ext
  ·simp[Ye]
  ·intro i h1 h2
   have:i=0\/i=1:=m0
   rcases this with rfl|rfl<;>rfl
 generalize vs[0]=v0 at ZD Yf;generalize vs[1]=v1 at Rr Yf;subst Yf;have Uy:∀ (cb:Value) W,Inv B R γ [.row O1 ((pre++bF cf d++post).map F.tr) F.k] W->Ext B R R w W->Mv R R γ γ [.row O1 ((pre++d++post).map F.tr) F.k] [.row O1 ((pre++bF cf d++post).map F.tr) F.k] ->
   ∃ v R' γ',Ending.returned (.tuple #[]) = .returned v/\Inv B R' γ' [.row O1 ((pre++bF cf d++post).map F.tr) F.k] W/\Ext B R R' w W/\Mv R R' γ γ' [.row O1 ((pre++d++post).map F.tr) F.k] [.row O1 ((pre++bF cf d++post).map F.tr) F.k]/\(AV.tup []).rep R' γ' [.row O1 ((pre++bF cf d++post).map F.tr) F.k] v :=
  λ_ W h1 h2 h3=>⟨_,R,γ,rfl,h1,h2,h3,#[],rfl,rfl,λj u p hu _=>by simp at hu⟩
 obtain⟨a,c,rfl,hd⟩|⟨b,c,c',hg,rfl⟩:=aj0 hi ZD
 ·subst hd
  refine(AnyF.slices_SortFunc_none { L with } a c v1 w).mono λe w' ⟨he,hw⟩=>?_
  subst he hw;have Qz:bF cf ([]:List α)=[]:=aqQ (fi hO []);exact Uy v1 w' (by rw[Qz];exact hi) (Ext.refl _ _ _) (by rw[Qz];exact Mv.refl)
 ·cases Rr with
  |fn _ cb _ TG Ve =>
   by_cases Pn:d=[]
   ·subst Pn
    refine(AnyF.slices_SortFunc_none { L with } _ _ _ w).mono λe w' ⟨he,hw⟩=>?_
    subst he hw;have Qz:bF cf ([]:List α)=[]:=aqQ (fi hO []);exact Uy (.int .i64 0) w' (by rw[Qz];exact hi) (Ext.refl _ _ _) (by rw[Qz];exact Mv.refl)
   obtain⟨hH,hb,hR⟩:=agn (F:=F) hi hg (flatK F.enc F.k d.toArray) m5 (λj hj=>yH d j hj);have R8:=AnyQ.slices_SortFunc_eq L F.k aE zE F.enc F.enc_len (λx v hv=>by simp only[Flat.enc,aq0]at hv;obtain⟨_,_,rfl⟩:=hv;rfl) cf hO g cb b (pre.length*F.k) c' d.toArray w eg
    (λm os dk SO x y=>Yd Pn R _ cb (λb' o u h=>by
     have h':=hi.val b' o u h;have O0:=lt_of_cell h';have Pn:b'≠b:=λe=>by rw[e,hR o]at h;cases h
     unfold sortWorldK putRowK;rw[cell?_grow _ _ _ (by simpa[putRow,mapBlock,Sort.ahead]using O0)];have:=cell?_putRow_other id (Sort.ahead w m) b (pre.length*F.k) (flatK F.enc F.k dk) ⟨b',o,none⟩ (Or.inl Pn);rw[this];exact h') TG Ve x y) hH hb (by simpa using P2)
   simp only[List.size_toArray]at R8;refine R8.mono λe w' ⟨he,n',os,hw⟩=>?_
   subst he;have ZE:w'=grow (putRow id (Sort.ahead w n') b (pre.length*F.k) (flatK F.enc F.k (bF cf d).toArray)) os:=by
    rw[hw];unfold sortWorldK putRowK bF;simp
   subst ZE;have hl:=fi hO d;obtain⟨h1,h2,h3⟩:=KN (F:=F) (d':=bF cf d) (n0:=n') hl hi hg (flatK F.enc F.k (bF cf d).toArray) (by simp[hl]) (λj hj=>yH _ j (by rw[hl];exact hj)) os;exact Uy (.int .i64 0) _ h1 h2 h3
def Flat.one (F:Flat α)(x:α):Value := .int .i64 ((F.nums x).headD 0)
theorem Flat.one_eq (hk:F.k=1)(x:α):F.enc x=[F.one x]:=by
 have h:=F.len x;rw[hk]at h;unfold Flat.enc Flat.one
 match F.nums x,h with
 |[n],_=>rfl
theorem aj5 (hk:F.k=1):∀ d:List α,d.flatMap F.enc=d.map F.one
 |[]=>rfl
 |x::d=>by rw[aq3,aj5 hk d,F.one_eq hk];rfl
theorem aiU (W:World)(b off:Nat)(d:Array α):putRow F.one W b off d=putRow id W b off (d.map F.one):=by
 unfold putRow;refine mapBlock_congr _ _ _ _ λc _ _ _=>?_
 apply Array.ext_getElem?;intro k;simp only[putCells,Array.getElem?_mapIdx,Array.size_map]
 cases c[k]? with
 |none=>rfl
 |some y =>
  simp only[Option.map_some];by_cases h:off<=k/\k<off+d.size
  ·rw[if_pos h,if_pos h]
   have h1:k-off<d.size:=m0
   rw[getElem!_pos d _ h1,getElem!_pos (d.map F.one) _ (by simpa using h1)];simp
  ·rw[if_neg h,if_neg h]
theorem Ou (hk:F.k=1)(L:SlLaysF.n6 P ρ)(cf:α->α->Int)(hO:SWO (ltOf cf))(g:Nat)(cs:List AC){pre d post:List α}
  (eg : ∀ args w, (callFunc g args).run P w = .ok (.enter g args) w) (Yd : d ≠ [] -> abq P F g cs F.one cf) (hf : ∃ fn, P.funcs[ρ.f 6]? = some fn /\ fn.body.isSome = true /\ (fn.name == "runtime.NumGoroutine") = false)
  (O1 lo n:Nat) (PG:pre.length=lo) (hn:d.length=n) (P2:n<4611686018427387904) :
  Run P (ρ.f 6) [.row O1 ((pre++d++post).map F.tr) F.k] [.one (.sl 0 O1 lo n),.one (.c (.fn g cs))] [.row O1 ((pre++bF cf d++post).map F.tr) F.k] (.tup []):=by
 subst PG hn;refine⟨hf,λB R γ w vs hi hs hv=>?_⟩;have Ye:vs.size=2:=hs;have ZD:=hv 0 vs[0] _ (aqP m0) rfl;have Rr:=hv 1 vs[1] _ (aqP m0) rfl;have Yf:vs=#[vs[0],vs[1]]:=by
  apply Array.ext
  ·simp[Ye]
  ·intro i h1 h2
   have:i=0\/i=1:=m0
   rcases this with rfl|rfl<;>rfl
 generalize vs[0]=v0 at ZD Yf;generalize vs[1]=v1 at Rr Yf;subst Yf;have Uy:∀ W,Inv B R γ [.row O1 ((pre++bF cf d++post).map F.tr) F.k] W->Ext B R R w W->Mv R R γ γ [.row O1 ((pre++d++post).map F.tr) F.k] [.row O1 ((pre++bF cf d++post).map F.tr) F.k] ->
   ∃ v R' γ',Ending.returned (.tuple #[]) = .returned v/\Inv B R' γ' [.row O1 ((pre++bF cf d++post).map F.tr) F.k] W/\Ext B R R' w W/\Mv R R' γ γ' [.row O1 ((pre++d++post).map F.tr) F.k] [.row O1 ((pre++bF cf d++post).map F.tr) F.k]/\(AV.tup []).rep R' γ' [.row O1 ((pre++bF cf d++post).map F.tr) F.k] v :=
  λW h1 h2 h3=>⟨_,R,γ,rfl,h1,h2,h3,#[],rfl,rfl,λj u p hu _=>by simp at hu⟩
 have hi:Inv B R γ [.row O1 ((pre++d++post).map F.tr) F.k] w:=hi;obtain⟨a,c,rfl,hd⟩|⟨b,c,c',hg,rfl⟩:=aj0 (F:=F) hi ZD
 ·subst hd
  refine(AnyF.slices_SortFunc_none { L with } a c v1 w).mono λe w' ⟨he,hw⟩=>?_
  subst he hw;have Qz:bF cf ([]:List α)=[]:=aqQ (fi hO []);exact Uy w' (by rw[Qz];exact hi) (Ext.refl _ _ _) (by rw[Qz];exact Mv.refl)
 ·cases Rr with
  |fn _ cb _ TG Ve =>
   by_cases Pn:d=[]
   ·subst Pn
    refine(AnyF.slices_SortFunc_none { L with } _ _ _ w).mono λe w' ⟨he,hw⟩=>?_
    subst he hw;have Qz:bF cf ([]:List α)=[]:=aqQ (fi hO []);exact Uy w' (by rw[Qz];exact hi) (Ext.refl _ _ _) (by rw[Qz];exact Mv.refl)
   have TA:∀ l:List α,∀ j,j<l.length*F.k->(l.toArray.map F.one)[j]?=(l.flatMap F.enc)[j]?:=λl j _=>by rw[aj5 hk];simp
   obtain⟨hH,hb,hR⟩:=agn (F:=F) hi hg (d.toArray.map F.one) (by simp[hk]) (TA d);have hH':Holds F.one w b (pre.length*F.k) d.toArray:=λj hj=>by
    have h:=hH j (by simpa using hj);rw[getElem!_pos (d.toArray.map F.one) j (by simpa using hj)]at h;rw[getElem!_pos d.toArray j hj];simpa using h
   have R8:=Any.slices_SortFunc_eq L F.one (λ_=>rfl) cf hO g cb b (pre.length*F.k) c' d.toArray w eg
    (λm os dk SO x y=>Yd Pn R _ cb (λb' o u h=>by
     have h':=hi.val b' o u h;have O0:=lt_of_cell h';have Pn:b'≠b:=λe=>by rw[e,hR o]at h;cases h
     unfold sortWorld;rw[cell?_grow _ _ _ (by simpa[putRow,mapBlock,Sort.ahead]using O0)];have:=cell?_putRow_other F.one (Sort.ahead w m) b (pre.length*F.k) dk ⟨b',o,none⟩ (Or.inl Pn);rw[this];exact h') TG Ve x y) hH' hb (by simpa using P2)
   simp only[List.size_toArray]at R8;refine R8.mono λe w' ⟨he,n',os,hw⟩=>?_
   subst he;have ZE:w'=grow (putRow id (Sort.ahead w n') b (pre.length*F.k) ((bF cf d).toArray.map F.one)) os:=by
    rw[hw];unfold sortWorld bF;rw[aiU];simp
   subst ZE;have hl:=fi hO d;obtain⟨h1,h2,h3⟩:=KN (F:=F) (d':=bF cf d) (n0:=n') hl hi hg ((bF cf d).toArray.map F.one) (by simp[hl,hk]) (λj hj=>TA _ j (by rw[hl];exact hj)) os;exact Uy _ h1 h2 h3
end
open Go.RowKit Go.MapKept
theorem kE {P:Program}{w:World}{t:TypeId}{d:TypeDesc}(ht:P.underlying t=some d)(hd:(match d with |.struct _=>true |.array _ _=>true|_=>false)=false){xs:Array Value}{i:Nat}{v:Value}(hx:xs[i]?=some v):(part t xs i).run P w = .ok v w:=by
 cases d<;>first|(cases hd;done)|simp[part,isAgg,run_underlying ht,hx]
def alG:TypeDesc->Option Sc
 |.int k=>some (.int k)
 |.bool=>some .bool
 |.string=>some .str
 |_=>none
def amk (s:Sc):Option TypeDesc->Bool
 |some d=>match alG d with
  |some s'=>decide (s'=s)
  |none=>false
 |none=>false
def akE (d:Option TypeDesc):Sc->Prop
 |.int k=>d=some (.int k)
 |.bool=>d=some .bool
 |.str=>d=some .string
theorem ail {s:Sc}{d:Option TypeDesc}(h:amk s d=true):akE d s:=by
 unfold amk at h
 cases d with
 |none=>cases h
 |some d =>
  dsimp only at h
  cases hs:alG d with
  |none=>rw[hs]at h;cases h
  |some s' =>
   rw[hs]at h;obtain rfl:s'=s:=aqT h;unfold alG at hs;split at hs<;>first|(cases hs;rfl)|(cases hs;done)
def aeq (P:Program):List Field->List Sc->Nat->Bool
 |[],[],_=>true
 | f :: fs, s :: sh, i => (!(f.name == "_")) && (Nat.beq f.offset i && (amk s (P.underlying f.type) && aeq P fs sh (i + 1)))
 |_,_,_=>false
theorem zO {x:SV}{xs:List SV}{vs:List Value}(h:f_ (x::xs)=some vs):∃ c v r,x = .c c/\IM c=some v/\f_ xs=some r/\vs=v::r:=by
 unfold f_ at h;split at h
 ·rename_i e;cases e
 ·rename_i y ys e
  cases e;split at h
  ·rename_i v r h1 h2;cases h;exact⟨_,v,r,rfl,h1,h2,rfl⟩
  ·cases h
 ·cases h
theorem yk {P:Program}{w:World}(d:Nat){A B:Array Value}:∀ (fs:List Field) (sh:List Sc) (i:Nat) (xs ys:List SV) (vs us:List Value),aeq P fs sh i=true->e_ sh xs=true->e_ sh ys=true->f_ xs=some vs->f_ ys=some us ->
  (∀ (j:Nat) v,vs[j]?=some v->A[i+j]?=some v)->(∀ (j:Nat) v,us[j]?=some v->B[i+j]?=some v)->(Op.eqFields (d+1) A B fs).run P w = .ok (cl xs ys) w:=by
 intro fs
 induction fs with
 |nil =>
  intro sh i xs ys vs us hf hx hy _ _ _ _
  cases sh with
  |nil =>
   cases xs with
   |nil=>cases ys with
    |nil=>rfl
    |cons _ _=>cases hy
   |cons _ _=>cases hx
  |cons _ _=>cases hf
 |cons f fs ih =>
  intro sh i xs ys vs us hf hx hy hv hu hA hB
  cases sh with
  |nil=>cases hf
  |cons s sh =>
   rw[aeq,aqI,aqI,aqI]at hf;obtain⟨h1,h2,h3,h4⟩:=hf;have h2:=Nat.eq_of_beq_eq_true h2
   have h1 : f.name ≠ "_" := by simpa using h1
   have h3:=ail h3
   cases xs with
   |nil=>cases s<;>cases hx
   |cons x xs =>
    cases ys with
    |nil=>cases s<;>cases hy
    |cons y ys =>
     obtain⟨cx,v,vr,rfl,Rr,Uj,rfl⟩:=zO hv;obtain⟨cy,u,ur,rfl,WB,UQ,rfl⟩:=zO hu;have a0:=hA 0 v rfl;have b0:=hB 0 u rfl;rw[Nat.add_zero]at a0 b0;have rest:∀ (SL:e_ sh xs=true) (hy':e_ sh ys=true),(Op.eqFields (d+1) A B fs).run P w = .ok (cl xs ys) w:=λSL hy' =>
      ih sh (i+1) xs ys vr ur h4 SL hy' Uj UQ (λj v hj=>by have:=hA (j+1) v (by simpa using hj);rwa[show i+1+j=i+(j+1)by omega]) (λj v hj=>by have:=hB (j+1) v (by simpa using hj);rwa[show i+1+j=i+(j+1)by omega])
     cases s with
     |int k =>
      unfold akE at h3
      cases cx<;>first|(cases hx;done)|skip
      cases cy<;>first|(cases hy;done)|skip
      rename_i k1 a k2 b;simp only[e_,aqI,decide_eq_true_eq]at hx hy;obtain⟨rfl,SL⟩:=hx;obtain⟨rfl,hy'⟩:=hy
      cases Rr;cases WB;have p1:=kE (P:=P) (w:=w) h3 rfl a0;have p2:=kE (P:=P) (w:=w) h3 rfl b0;simp only[Op.eqFields,h1,h2,ne_eq,not_false_eq_true,if_true,Sem.run_bind,p1,p2,Result.andThen_ok,run_equalIn_int (P:=P) w d _ k k a b h3,Sem.run_ite,Sem.run_pure,rest SL hy']
      cases e:(a==b)
      ·have:a≠b:=by simpa using e
       simp[cl,this]
      ·have:a=b:=by simpa using e
       simp[cl,this]
     |bool =>
      unfold akE at h3
      cases cx<;>first|(cases hx;done)|skip
      cases cy<;>first|(cases hy;done)|skip
      rename_i a b;simp only[e_]at hx hy
      cases Rr;cases WB;have p1:=kE (P:=P) (w:=w) h3 rfl a0;have p2:=kE (P:=P) (w:=w) h3 rfl b0;simp only[Op.eqFields,h1,h2,ne_eq,not_false_eq_true,if_true,Sem.run_bind,p1,p2,Result.andThen_ok,run_equalIn_bool (P:=P) w d _ a b h3,Sem.run_ite,Sem.run_pure,rest hx hy]
      cases e:(a==b)<;>simp[cl,e]
     |str =>
      unfold akE at h3
      cases cx<;>first|(cases hx;done)|skip
      cases cy<;>first|(cases hy;done)|skip
      rename_i a b;simp only[e_]at hx hy
      cases Rr;cases WB;have p1:=kE (P:=P) (w:=w) h3 rfl a0;have p2:=kE (P:=P) (w:=w) h3 rfl b0;simp only[Op.eqFields,h1,h2,ne_eq,not_false_eq_true,if_true,Sem.run_bind,p1,p2,Result.andThen_ok,run_equalIn_string (P:=P) w d _ a b h3,Sem.run_ite,Sem.run_pure,rest hx hy]
      cases e:(a.toList==b.toList)<;>simp[cl,e]
def abZ (P:Program)(t:TypeId)(sh:List Sc):Bool :=
 (match P.underlying t with
 |some (.struct fs)=>aeq P fs.toList sh 0
 |_=>false)&&(!P.stoodInHeld t && !P.eqGuardType P.depth t)
theorem NR {P:Program}{t:TypeId}{sh:List Sc}(h:abZ P t sh=true):P.eqGuardType P.depth t=false /\ ∀ xs ys,e_ sh xs=true->e_ sh ys=true->ac1 P t xs ys:=by
 rw[abZ,aqI,aqI]at h;obtain⟨h1,h2,h3⟩:=h;refine⟨by simpa using h3,λxs ys hx hy vs us hv hu w=>?_⟩;split at h1
 ·rename_i fs ht
  have hfs:P.fieldsOf t=fs:=by unfold Program.fieldsOf;rw[ht]
  have hm:Op.equal t (.agg vs.toArray) (.agg us.toArray)=Op.equalIn (9999+1) t (.agg vs.toArray) (.agg us.toArray):=rfl;rw[hm,run_equalIn_struct w 9999 t _ _ (by rw[hfs];exact ht) (by simpa using h2),hfs];exact yk 9998 _ sh 0 xs ys vs us h1 hx hy hv hu (λj v hj=>by simpa using hj) (λj v hj=>by simpa using hj)
 ·cases h1
open Go.RowKit
def zeL:List (Nat×AV):=[(2,.one (.c (.int .i64 0))),(3,.one (.c (.int .i64 0))),(4,.one (.c (.bool false))),(5,.one (.c (.int .u8 0))),(9,.one (.c (.str ⟨#[]⟩))),(22,.one (.emp)),(25,.one (.emp)),(29,.one (.emp)),(31,.agg [.emp,.emp]),(33,.agg [.c (.int .i64 0),.c (.int .i64 0),.c (.str ⟨#[]⟩)]),(34,.one (.emp)),(36,.agg [.c (.int .i64 0),.c (.int .i64 0),.c (.int .i64 0),.c (.int .i64 0),.c (.str ⟨#[]⟩),.c (.str ⟨#[]⟩),.emp]),(41,.agg [.emp,.emp,.emp,.emp]),(42,.one (.emp)),(44,.agg [.emp,.emp]),(50,.one (.emp)),(53,.agg [.c (.int .i64 0),.c (.int .i64 0)]),(55,.agg [.emp,.c (.int .i64 0),.c (.int .i64 0)]),(63,.agg [.c (.int .i64 0),.c (.int .i64 0)]),(65,.one (.c (.nul .func))),(67,.one (.c (.nul .func))),(72,.one (.c (.int .i64 0))),(77,.one (.c (.nul .func))),(81,.one (.emp)),(83,.one (.emp)),(85,.one (.c (.nul .func))),(99,.one (.c (.nul .func))),(103,.one (.c (.int .u64 0))),(113,.one (.emp)),(115,.one (.emp)),(117,.agg [.emp,.emp]),(121,.one (.c (.nul .func))),(134,.one (.c (.nul .func))),(136,.one (.c (.int .i64 0))),(143,.one (.c (.int .u32 0))),(145,.one (.c (.int .u64 0))),(159,.one (.emp)),(162,.agg [.c (.int .i64 0),.c (.int .i64 0),.c (.int .i64 0)]),(169,.one (.emp)),(179,.one (.c (.int .u64 0))),(183,.one (.c (.nul .ptr))),(191,.one (.emp)),(194,.agg [.emp,.emp]),(195,.one (.emp)),(197,.agg [.c (.int .i64 0),.c (.int .i64 0)]),(201,.agg [.c (.int .i64 0),.c (.int .i64 0)]),(204,.one (.c (.nul .func))),(205,.one (.emp)),(207,.agg [.c (.int .i64 0),.c (.int .i64 0),.c (.int .i64 0)]),(211,.one (.c (.nul .func))),(222,.one (.c (.nul .map))),(225,.one (.c (.nul .func))),(228,.one (.c (.nul .func))),(232,.agg [.c (.int .i64 0),.c (.bool false)]),(235,.one (.c (.nul .ptr))),(236,.one (.emp)),(238,.agg [.c (.nul .ptr),.emp]),(259,.one (.c (.nul .ptr))),(271,.one (.c (.nul .ptr)))]
def kiL:List (Nat×TypeDesc):=[(2,.int .i64),(3,.int .i64),(4,.bool),(5,.int .u8),(9,.string),(22,.slice 55),(25,.slice 63),(29,.slice 3),(34,.slice 36),(42,.slice 50),(50,.slice 33),(72,.int .i64),(81,.slice 83),(83,.slice 53),(103,.int .u64),(113,.slice 117),(115,.slice 201),(136,.int .i64),(143,.int .u32),(145,.int .u64),(159,.slice 162),(169,.slice 232),(179,.int .u64),(183,.pointer 3),(191,.slice 194),(195,.slice 197),(205,.slice 207),(222,.map 9 3),(235,.pointer 238),(236,.slice 5),(259,.pointer 5),(271,.unsafePointer)]
def eqL:List (Nat×List Sc):=[(33,[.int .i64,.int .i64,.str]),(53,[.int .i64,.int .i64]),(63,[.int .i64,.int .i64]),(162,[.int .i64,.int .i64,.int .i64]),(197,[.int .i64,.int .i64]),(201,[.int .i64,.int .i64]),(232,[.int .i64,.bool])]
def tab:TI:=TI.of [(2,1),(3,1),(4,1),(5,1),(9,1),(22,1),(25,1),(29,1),(31,2),(33,3),(34,1),(36,7),(41,4),(42,1),(44,2),(50,1),(53,2),(55,3),(63,2),(65,1),(67,1),(72,1),(77,1),(81,1),(83,1),(85,1),(99,1),(103,1),(113,1),(115,1),(117,2),(121,1),(134,1),(136,1),(143,1),(145,1),(159,1),(162,3),(169,1),(179,1),(183,1),(191,1),(194,2),(195,1),(197,2),(201,2),(204,1),(205,1),(207,3),(211,1),(222,1),(225,1),(228,1),(232,2),(235,1),(236,1),(238,2),(259,1),(271,1)] [(2,false),(3,false),(4,false),(5,false),(9,false),(22,false),(25,false),(29,false),(31,true),(33,true),(34,false),(36,true),(41,true),(42,false),(44,true),(50,false),(53,true),(55,true),(63,true),(65,false),(67,false),(72,false),(77,false),(81,false),(83,false),(85,false),(99,false),(103,false),(113,false),(115,false),(117,true),(121,false),(134,false),(136,false),(143,false),(145,false),(159,false),(162,true),(169,false),(179,false),(183,false),(191,false),(194,true),(195,false),(197,true),(201,true),(204,false),(205,false),(207,true),(211,false),(222,false),(225,false),(228,false),(232,true),(235,false),(236,false),(238,true),(259,false),(271,false)] [(22,55),(25,63),(29,3),(34,36),(42,50),(50,33),(81,83),(83,53),(113,117),(115,201),(159,162),(169,232),(191,194),(195,197),(205,207),(236,5)] [(31,[(0,29),(1,22)]),(33,[(0,3),(1,3),(2,9)]),(36,[(0,3),(1,3),(2,33),(5,9),(6,34)]),(41,[(0,31),(2,31)]),(44,[(0,29),(1,42)]),(53,[(0,3),(1,3)]),(55,[(0,50),(1,53)]),(63,[(0,3),(1,3)]),(117,[(0,50),(1,115)]),(162,[(0,3),(1,3),(2,3)]),(194,[(0,50),(1,83)]),(197,[(0,3),(1,3)]),(201,[(0,3),(1,3)]),(207,[(0,53),(2,3)]),(232,[(0,3),(1,4)]),(238,[(0,235),(1,236)])] zeL [(2,8),(3,8),(4,1),(5,1),(9,16),(22,24),(25,24),(29,24),(31,48),(33,32),(34,24),(36,88),(41,96),(42,24),(44,48),(50,24),(53,16),(55,40),(63,16),(65,8),(67,8),(72,8),(77,8),(81,24),(83,24),(85,8),(99,8),(103,8),(113,24),(115,24),(117,48),(121,8),(134,8),(136,8),(143,4),(145,8),(159,24),(162,24),(169,24),(179,8),(183,8),(191,24),(194,48),(195,24),(197,16),(201,16),(204,8),(205,24),(207,24),(211,8),(222,8),(225,8),(228,8),(232,16),(235,8),(236,24),(238,32),(259,8),(271,8)] kiL [31,33,36,41,44,53,55,63,117,162,194,197,201,207,232,238] [2,3,4,5,9,22,25,29,31,33,34,36,41,42,44,50,53,55,63,65,67,72,77,81,83,85,99,103,113,115,117,121,134,136,143,145,159,162,169,179,183,191,194,195,197,201,204,205,207,211,222,225,228,232,235,236,238,259,271] eqL [0]
theorem tab_ok:TIok Tryz.prog tab:=by
 refine TI.of_ok k7 k7 k7 k7 ?_ k7 ?_ k7 k7 ?_
 ·intro p hp
  simp only[zeL,aqH,List.not_mem_nil,or_false]at hp;rcases hp with rfl|rfl|rfl|rfl|rfl|rfl|rfl|rfl|rfl|rfl|rfl|rfl|rfl|rfl|rfl|rfl|rfl|rfl|rfl|rfl|rfl|rfl|rfl|rfl|rfl|rfl|rfl|rfl|rfl|rfl|rfl|rfl|rfl|rfl|rfl|rfl|rfl|rfl|rfl|rfl|rfl|rfl|rfl|rfl|rfl|rfl|rfl|rfl|rfl|rfl|rfl|rfl|rfl|rfl|rfl|rfl|rfl|rfl|rfl<;>kernel_rfl
 ·intro p hp
  simp only[kiL,aqH,List.not_mem_nil,or_false]at hp;rcases hp with rfl|rfl|rfl|rfl|rfl|rfl|rfl|rfl|rfl|rfl|rfl|rfl|rfl|rfl|rfl|rfl|rfl|rfl|rfl|rfl|rfl|rfl|rfl|rfl|rfl|rfl|rfl|rfl|rfl|rfl|rfl|rfl<;>kernel_rfl
 ·intro p hp
  simp only[eqL,aqH,List.not_mem_nil,or_false]at hp;rcases hp with rfl|rfl|rfl|rfl|rfl|rfl|rfl<;>exact NR k7
def aok:TI :={ tab with soft:=true }
theorem tabS_ok:TIok Tryz.prog aok:=⟨tab_ok.size,tab_ok.agg,tab_ok.elem,tab_ok.field,tab_ok.zero,tab_ok.bytes,tab_ok.kind,tab_ok.struct,tab_ok.zok,tab_ok.eqs⟩
theorem mixed:Tryz.prog.follows .mixedOrders=true:=k7
structure Val where
 kind:Int
 int:Int
 text:ByteArray
def cV (x:Val):List AC:=[.int .i64 x.kind,.int .i64 x.int,.str x.text]
structure ax where
 lo:Int
 hi:Int
def aP (x:ax):List AC:=[.int .i64 x.lo,.int .i64 x.hi]
structure ap where
 row:(List Val)
 valid:ax
def aH (x:ap):List AC:=[.lst (x.row.map cV),.int .i64 x.valid.lo,.int .i64 x.valid.hi]
structure bj where
 kinds:(List Int)
 facts:(List ap)
def aW (x:bj):List AC:=[.lst (x.kinds.map (λx=>[AC.int .i64 x])),.lst (x.facts.map aH)]
inductive Ex where
 |mk (op:Int) (int:Int) (v:Val) (nm:ByteArray) (args:(List Ex))
mutual
def tE:Ex->List AC
 |.mk op int v nm args=>[.int .i64 op,.int .i64 int,.int .i64 v.kind,.int .i64 v.int,.str v.text,.str nm,.lst (tEs args)]
def tEs:List Ex->List (List AC)
 |[]=>[]
 |e::l=>tE e::tEs l
end
theorem ac9:∀ (l:List Ex),tEs l=l.map tE
 |[]=>by simp[tEs]
 |e::l=>by simp[tEs,ac9 l]
def Ex.op:Ex->Int |.mk a _ _ _ _=>a
def Ex.int:Ex->Int |.mk _ a _ _ _=>a
def Ex.v:Ex->Val |.mk _ _ a _ _=>a
def Ex.nm:Ex->ByteArray |.mk _ _ _ a _=>a
def Ex.args:Ex->(List Ex) |.mk _ _ _ _ a=>a
theorem aC (e:Ex):tE e=[.int .i64 e.op,.int .i64 e.int,.int .i64 e.v.kind,.int .i64 e.v.int,.str e.v.text,.str e.nm,.lst (e.args.map tE)]:=by
 obtain⟨_,_,_,_,_⟩:=e;rw[tE,ac9];rfl
theorem IE (e:Ex):(tE e).length=7:=by rw[aC];rfl
structure cD where
 a:Int
 b:Int
def iF (x:cD):List AC:=[.int .i64 x.a,.int .i64 x.b]
structure Stp where
 lo:Int
 n:Int
def gK (x:Stp):List AC:=[.int .i64 x.lo,.int .i64 x.n]
structure bR where
 row:(List Val)
 steps:(List Stp)
def jG (x:bR):List AC:=[.lst (x.row.map cV),.lst (x.steps.map gK)]
structure ac where
 row:(List Val)
 periods:(List ax)
def af (x:ac):List AC:=[.lst (x.row.map cV),.lst (x.periods.map aP)]
structure tm where
 period:ax
 n:Int
def uC (x:tm):List AC:=[.int .i64 x.period.lo,.int .i64 x.period.hi,.int .i64 x.n]
structure La where
 column:Int
 desc:Bool
def D1 (x:La):List AC:=[.int .i64 x.column,.bool x.desc]
end Go.Proofs.YtlcceppoloaecaaGreatDoor
namespace Go.Proofs
open Go.Shelf
def Tryz.sortInt_ren:Go.Shelf.Ren:=⟨λ|6=>39|15=>81|14=>80|28=>129|29=>130|20=>121|21=>122|22=>123|23=>124|24=>125|25=>126|26=>127|27=>128|46=>191|47=>192|48=>193|49=>194|50=>195|57=>233|n=>n,λ|22=>29|24=>3|25=>65|3=>3|39=>103|0=>0|53=>143|55=>145|4=>4|46=>137|45=>136|50=>106|5=>5|9=>9|66=>179|70=>183|76=>218|77=>188|n=>n,λ|n=>n⟩
theorem Tryz.sortInt:Go.Proofs.SlLaysF.n6 Tryz.prog Tryz.sortInt_ren :={
 mixed:=k7
 f6:=⟨Tryz.f39.name,by decide,Tryz.func39.trans (congrArg some k7)⟩
 f14:=⟨Tryz.f80.name,by decide,Tryz.func80.trans (congrArg some k7)⟩
 f15:=Tryz.func81.trans (congrArg some k7)
 f20:=⟨Tryz.f121.name,by decide,Tryz.func121.trans (congrArg some k7)⟩
 f21:=⟨Tryz.f122.name,by decide,Tryz.func122.trans (congrArg some k7)⟩
 f22:=⟨Tryz.f123.name,by decide,Tryz.func123.trans (congrArg some k7)⟩
 f23:=⟨Tryz.f124.name,by decide,Tryz.func124.trans (congrArg some k7)⟩
 f24:=⟨Tryz.f125.name,by decide,Tryz.func125.trans (congrArg some k7)⟩
 f25:=⟨Tryz.f126.name,by decide,Tryz.func126.trans (congrArg some k7)⟩
 f26:=⟨Tryz.f127.name,by decide,Tryz.func127.trans (congrArg some k7)⟩
 f27:=⟨Tryz.f128.name,by decide,Tryz.func128.trans (congrArg some k7)⟩
 f28:=Tryz.func129.trans (congrArg some k7)
 f29:=Tryz.func130.trans (congrArg some k7)
 f46:=⟨Tryz.f191.name,by decide,Tryz.func191.trans (congrArg some k7)⟩
 f47:=Tryz.func192.trans (congrArg some k7)
 f48:=Tryz.func193.trans (congrArg some k7)
 f49:=⟨Tryz.f194.name,by decide,Tryz.func194.trans (congrArg some k7)⟩
 f50:=⟨Tryz.f195.name,by decide,Tryz.func195.trans (congrArg some k7)⟩
 f57:=⟨Tryz.f233.name,by decide,Tryz.func233.trans (congrArg some k7)⟩
 t0:=Tryz.underlying0
 a0:=Tryz.isAgg0
 z0:=Tryz.sizeOf0
 v0:=Tryz.zeroValue0
 t3:=Tryz.underlying3
 a3:=Tryz.isAgg3
 z3:=Tryz.sizeOf3
 v3:=Tryz.zeroValue3
 t4:=Tryz.underlying4
 a4:=Tryz.isAgg4
 z4:=Tryz.sizeOf4
 v4:=Tryz.zeroValue4
 t5:=Tryz.underlying5
 a5:=Tryz.isAgg5
 z5:=Tryz.sizeOf5
 v5:=Tryz.zeroValue5
 t9:=Tryz.underlying9
 a9:=Tryz.isAgg9
 z9:=Tryz.sizeOf9
 v9:=Tryz.zeroValue9
 t22:=Tryz.underlying29
 a22:=Tryz.isAgg29
 z22:=Tryz.sizeOf29
 v22:=Tryz.zeroValue29
 a24:=Tryz.isAgg3
 z24:=Tryz.sizeOf3
 t25:=Tryz.underlying65
 a25:=Tryz.isAgg65
 z25:=Tryz.sizeOf65
 v25:=Tryz.zeroValue65
 t39:=Tryz.underlying103
 a39:=Tryz.isAgg103
 z39:=Tryz.sizeOf103
 v39:=Tryz.zeroValue103
 t45:=Tryz.underlying136
 a45:=Tryz.isAgg136
 z45:=Tryz.sizeOf136
 v45:=Tryz.zeroValue136
 t46:=Tryz.underlying137
 a46:=Tryz.isAgg137
 z46:=Tryz.sizeOf137
 v46:=Tryz.zeroValue137
 t50:=Tryz.underlying106
 a50:=Tryz.isAgg106
 z50:=Tryz.sizeOf106
 v50:=Tryz.zeroValue106
 t53:=Tryz.underlying143
 a53:=Tryz.isAgg143
 z53:=Tryz.sizeOf143
 v53:=Tryz.zeroValue143
 t55:=Tryz.underlying145
 a55:=Tryz.isAgg145
 z55:=Tryz.sizeOf145
 v55:=Tryz.zeroValue145
 t66:=Tryz.underlying179
 a66:=Tryz.isAgg179
 z66:=Tryz.sizeOf179
 v66:=Tryz.zeroValue179
 t70:=Tryz.underlying183
 a70:=Tryz.isAgg183
 z70:=Tryz.sizeOf183
 v70:=Tryz.zeroValue183
 t76:=Tryz.underlying218
 a76:=Tryz.isAgg218
 z76:=Tryz.sizeOf218
 v76:=Tryz.zeroValue218
 t77:=Tryz.underlying188
 a77:=Tryz.isAgg188
 z77:=Tryz.sizeOf188
 v77:=Tryz.zeroValue188 }
def Tryz.sortPair_ren:Go.Shelf.Ren:=⟨λ|6=>42|15=>81|14=>83|28=>129|29=>130|20=>131|21=>132|22=>133|23=>134|24=>135|25=>136|26=>137|27=>138|46=>196|47=>192|48=>193|49=>197|50=>198|57=>234|n=>n,λ|22=>25|24=>63|25=>67|3=>3|39=>103|0=>0|53=>143|55=>145|4=>4|46=>137|45=>136|50=>106|5=>5|9=>9|66=>179|70=>183|76=>218|77=>188|n=>n,λ|n=>n⟩
theorem Tryz.sortPair:Go.Proofs.SlLaysF0.n6 Tryz.prog Tryz.sortPair_ren :={
 mixed:=k7
 f6:=⟨Tryz.f42.name,by decide,Tryz.func42.trans (congrArg some k7)⟩
 f14:=⟨Tryz.f83.name,by decide,Tryz.func83.trans (congrArg some k7)⟩
 f15:=Tryz.func81.trans (congrArg some k7)
 f20:=⟨Tryz.f131.name,by decide,Tryz.func131.trans (congrArg some k7)⟩
 f21:=⟨Tryz.f132.name,by decide,Tryz.func132.trans (congrArg some k7)⟩
 f22:=⟨Tryz.f133.name,by decide,Tryz.func133.trans (congrArg some k7)⟩
 f23:=⟨Tryz.f134.name,by decide,Tryz.func134.trans (congrArg some k7)⟩
 f24:=⟨Tryz.f135.name,by decide,Tryz.func135.trans (congrArg some k7)⟩
 f25:=⟨Tryz.f136.name,by decide,Tryz.func136.trans (congrArg some k7)⟩
 f26:=⟨Tryz.f137.name,by decide,Tryz.func137.trans (congrArg some k7)⟩
 f27:=⟨Tryz.f138.name,by decide,Tryz.func138.trans (congrArg some k7)⟩
 f28:=Tryz.func129.trans (congrArg some k7)
 f29:=Tryz.func130.trans (congrArg some k7)
 f46:=⟨Tryz.f196.name,by decide,Tryz.func196.trans (congrArg some k7)⟩
 f47:=Tryz.func192.trans (congrArg some k7)
 f48:=Tryz.func193.trans (congrArg some k7)
 f49:=⟨Tryz.f197.name,by decide,Tryz.func197.trans (congrArg some k7)⟩
 f50:=⟨Tryz.f198.name,by decide,Tryz.func198.trans (congrArg some k7)⟩
 f57:=⟨Tryz.f234.name,by decide,Tryz.func234.trans (congrArg some k7)⟩
 t0:=Tryz.underlying0
 a0:=Tryz.isAgg0
 z0:=Tryz.sizeOf0
 v0:=Tryz.zeroValue0
 t3:=Tryz.underlying3
 a3:=Tryz.isAgg3
 z3:=Tryz.sizeOf3
 v3:=Tryz.zeroValue3
 t4:=Tryz.underlying4
 a4:=Tryz.isAgg4
 z4:=Tryz.sizeOf4
 v4:=Tryz.zeroValue4
 t5:=Tryz.underlying5
 a5:=Tryz.isAgg5
 z5:=Tryz.sizeOf5
 v5:=Tryz.zeroValue5
 t9:=Tryz.underlying9
 a9:=Tryz.isAgg9
 z9:=Tryz.sizeOf9
 v9:=Tryz.zeroValue9
 t22:=Tryz.underlying25
 a22:=Tryz.isAgg25
 z22:=Tryz.sizeOf25
 v22:=Tryz.zeroValue25
 t25:=Tryz.underlying67
 a25:=Tryz.isAgg67
 z25:=Tryz.sizeOf67
 v25:=Tryz.zeroValue67
 t39:=Tryz.underlying103
 a39:=Tryz.isAgg103
 z39:=Tryz.sizeOf103
 v39:=Tryz.zeroValue103
 t45:=Tryz.underlying136
 a45:=Tryz.isAgg136
 z45:=Tryz.sizeOf136
 v45:=Tryz.zeroValue136
 t46:=Tryz.underlying137
 a46:=Tryz.isAgg137
 z46:=Tryz.sizeOf137
 v46:=Tryz.zeroValue137
 t50:=Tryz.underlying106
 a50:=Tryz.isAgg106
 z50:=Tryz.sizeOf106
 v50:=Tryz.zeroValue106
 t53:=Tryz.underlying143
 a53:=Tryz.isAgg143
 z53:=Tryz.sizeOf143
 v53:=Tryz.zeroValue143
 t55:=Tryz.underlying145
 a55:=Tryz.isAgg145
 z55:=Tryz.sizeOf145
 v55:=Tryz.zeroValue145
 t66:=Tryz.underlying179
 a66:=Tryz.isAgg179
 z66:=Tryz.sizeOf179
 v66:=Tryz.zeroValue179
 t70:=Tryz.underlying183
 a70:=Tryz.isAgg183
 z70:=Tryz.sizeOf183
 v70:=Tryz.zeroValue183
 t76:=Tryz.underlying218
 a76:=Tryz.isAgg218
 z76:=Tryz.sizeOf218
 v76:=Tryz.zeroValue218
 t77:=Tryz.underlying188
 a77:=Tryz.isAgg188
 z77:=Tryz.sizeOf188
 v77:=Tryz.zeroValue188 }
def Tryz.sortEdge_ren:Go.Shelf.Ren:=⟨λ|6=>212|15=>81|14=>246|28=>129|29=>130|20=>265|21=>266|22=>267|23=>268|24=>269|25=>270|26=>271|27=>272|46=>289|47=>192|48=>193|49=>290|50=>291|57=>300|n=>n,λ|22=>159|24=>162|25=>211|3=>3|39=>103|0=>0|53=>143|55=>145|4=>4|46=>137|45=>136|50=>106|5=>5|9=>9|66=>179|70=>183|76=>218|77=>188|n=>n,λ|n=>n⟩
theorem Tryz.sortEdge:Go.Proofs.SlLaysF0.n6 Tryz.prog Tryz.sortEdge_ren :={
 mixed:=k7
 f6:=⟨Tryz.f212.name,by decide,Tryz.func212.trans (congrArg some k7)⟩
 f14:=⟨Tryz.f246.name,by decide,Tryz.func246.trans (congrArg some k7)⟩
 f15:=Tryz.func81.trans (congrArg some k7)
 f20:=⟨Tryz.f265.name,by decide,Tryz.func265.trans (congrArg some k7)⟩
 f21:=⟨Tryz.f266.name,by decide,Tryz.func266.trans (congrArg some k7)⟩
 f22:=⟨Tryz.f267.name,by decide,Tryz.func267.trans (congrArg some k7)⟩
 f23:=⟨Tryz.f268.name,by decide,Tryz.func268.trans (congrArg some k7)⟩
 f24:=⟨Tryz.f269.name,by decide,Tryz.func269.trans (congrArg some k7)⟩
 f25:=⟨Tryz.f270.name,by decide,Tryz.func270.trans (congrArg some k7)⟩
 f26:=⟨Tryz.f271.name,by decide,Tryz.func271.trans (congrArg some k7)⟩
 f27:=⟨Tryz.f272.name,by decide,Tryz.func272.trans (congrArg some k7)⟩
 f28:=Tryz.func129.trans (congrArg some k7)
 f29:=Tryz.func130.trans (congrArg some k7)
 f46:=⟨Tryz.f289.name,by decide,Tryz.func289.trans (congrArg some k7)⟩
 f47:=Tryz.func192.trans (congrArg some k7)
 f48:=Tryz.func193.trans (congrArg some k7)
 f49:=⟨Tryz.f290.name,by decide,Tryz.func290.trans (congrArg some k7)⟩
 f50:=⟨Tryz.f291.name,by decide,Tryz.func291.trans (congrArg some k7)⟩
 f57:=⟨Tryz.f300.name,by decide,Tryz.func300.trans (congrArg some k7)⟩
 t0:=Tryz.underlying0
 a0:=Tryz.isAgg0
 z0:=Tryz.sizeOf0
 v0:=Tryz.zeroValue0
 t3:=Tryz.underlying3
 a3:=Tryz.isAgg3
 z3:=Tryz.sizeOf3
 v3:=Tryz.zeroValue3
 t4:=Tryz.underlying4
 a4:=Tryz.isAgg4
 z4:=Tryz.sizeOf4
 v4:=Tryz.zeroValue4
 t5:=Tryz.underlying5
 a5:=Tryz.isAgg5
 z5:=Tryz.sizeOf5
 v5:=Tryz.zeroValue5
 t9:=Tryz.underlying9
 a9:=Tryz.isAgg9
 z9:=Tryz.sizeOf9
 v9:=Tryz.zeroValue9
 t22:=Tryz.underlying159
 a22:=Tryz.isAgg159
 z22:=Tryz.sizeOf159
 v22:=Tryz.zeroValue159
 t25:=Tryz.underlying211
 a25:=Tryz.isAgg211
 z25:=Tryz.sizeOf211
 v25:=Tryz.zeroValue211
 t39:=Tryz.underlying103
 a39:=Tryz.isAgg103
 z39:=Tryz.sizeOf103
 v39:=Tryz.zeroValue103
 t45:=Tryz.underlying136
 a45:=Tryz.isAgg136
 z45:=Tryz.sizeOf136
 v45:=Tryz.zeroValue136
 t46:=Tryz.underlying137
 a46:=Tryz.isAgg137
 z46:=Tryz.sizeOf137
 v46:=Tryz.zeroValue137
 t50:=Tryz.underlying106
 a50:=Tryz.isAgg106
 z50:=Tryz.sizeOf106
 v50:=Tryz.zeroValue106
 t53:=Tryz.underlying143
 a53:=Tryz.isAgg143
 z53:=Tryz.sizeOf143
 v53:=Tryz.zeroValue143
 t55:=Tryz.underlying145
 a55:=Tryz.isAgg145
 z55:=Tryz.sizeOf145
 v55:=Tryz.zeroValue145
 t66:=Tryz.underlying179
 a66:=Tryz.isAgg179
 z66:=Tryz.sizeOf179
 v66:=Tryz.zeroValue179
 t70:=Tryz.underlying183
 a70:=Tryz.isAgg183
 z70:=Tryz.sizeOf183
 v70:=Tryz.zeroValue183
 t76:=Tryz.underlying218
 a76:=Tryz.isAgg218
 z76:=Tryz.sizeOf218
 v76:=Tryz.zeroValue218
 t77:=Tryz.underlying188
 a77:=Tryz.isAgg188
 z77:=Tryz.sizeOf188
 v77:=Tryz.zeroValue188 }
def Tryz.cmpInt_ren:Go.Shelf.Ren:=⟨λ|5=>41|7=>82|n=>n,λ|22=>3|3=>3|4=>4|n=>n,λ|n=>n⟩
theorem Tryz.cmpInt:Go.Proofs.SlLaysC2.n5 Tryz.prog Tryz.cmpInt_ren :={
 mixed:=k7
 f5:=⟨Tryz.f41.name,by decide,Tryz.func41.trans (congrArg some k7)⟩
 f7:=⟨Tryz.f82.name,by decide,Tryz.func82.trans (congrArg some k7)⟩
 t3:=Tryz.underlying3
 a3:=Tryz.isAgg3
 z3:=Tryz.sizeOf3
 v3:=Tryz.zeroValue3
 t4:=Tryz.underlying4
 a4:=Tryz.isAgg4
 z4:=Tryz.sizeOf4
 v4:=Tryz.zeroValue4
 t22:=Tryz.underlying3
 a22:=Tryz.isAgg3
 z22:=Tryz.sizeOf3
 v22:=Tryz.zeroValue3 }
namespace YtlcceppoloaecaaGreatDoor
abbrev PTz:=Pure Tryz.prog
abbrev RTz:=Run Tryz.prog
theorem sl9:(∀(h:Decidable False),@decide False h=false)/\(∀(h:Decidable True),@decide True h=true)/\(∀{α:Type}(a b:α),(bif true then a else b)=a)/\(∀{α:Type}(a b:α),(bif false then a else b)=b):=⟨λh=>decide_false h,λh=>decide_true h,λ_ _=>rfl,λ_ _=>rfl⟩
