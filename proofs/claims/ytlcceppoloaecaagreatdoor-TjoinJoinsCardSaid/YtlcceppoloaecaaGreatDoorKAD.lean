/- Parts of the proof, joined. No condition. -/
import Derived.Test.YtlcceppoloaecaaGreatDoorKAA
import Derived.Test.YtlcceppoloaecaaGreatDoorKAC
import Derived.LoopN
set_option linter.unusedSimpArgs false
set_option linter.unusedVariables false
namespace Go.Proofs.YtlcceppoloaecaaGreatDoor
open Go.RowKit
inductive AX where
 | normal
 | exit (id:Nat)
 | ret
 deriving DecidableEq
def AX.ex:AX->Exit
 | .normal => .normal
 | .exit id => .exit id
 | .ret => .ret
structure vR (n0:Nat) (R R':PH) (γ γ':List Gh) (L L':List Ob):Prop where
 lo:n0<=L.length
 lo':n0<=L'.length
 mv:Mv R R' (γ.take n0) γ' (L.take n0) L'
theorem Mv.cutL {n0:Nat} {R R':PH} {γ γ':List Gh} {L L':List Ob} (h:Mv R R' γ γ' L L'):Mv R R' (γ.take n0) γ' (L.take n0) L':=by
 refine ⟨h.sub,by simp;have:=h.len;omega,fun t n k hlt e=>?_,fun t ver es k hlt e=>?_,fun id b e=>?_⟩
 ·have hlt':t<n0/\t<L.length:=by rw [aqQ] at hlt;omega
  obtain ⟨m,a,b,c⟩:=h.tok t n k hlt'.2 e
  exact ⟨m,by rw [aqt,if_pos hlt'.1];exact a,b,fun q=>by rw [aqt,if_pos hlt'.1];exact c q⟩
 ·have hlt':t<n0/\t<L.length:=by rw [aqQ] at hlt;omega
  obtain ⟨v0,m,a,b,c⟩:=h.row t ver es k hlt'.2 e
  exact ⟨v0,m,by rw [aqt,if_pos hlt'.1];exact a,b,fun q=>⟨(c q).1,by rw [aqt,if_pos hlt'.1];exact (c q).2⟩⟩
 ·rw [aqt] at e
  split at e
  ·exact h.ptr id b e
  ·cases e
theorem Mv.cutR {n:Nat} {R R':PH} {γ γ':List Gh} {L L':List Ob} (h:Mv R R' γ γ' L L') (hg:γ.length=L.length) (hn:L.length<=n):Mv R R' γ (γ'.take n) L (L'.take n):=by
 refine ⟨h.sub,by simp;have:=h.len;omega,fun t m k hlt e=>?_,fun t ver es k hlt e=>?_,fun id b e=>?_⟩
 ·rw [aqt,if_pos (by omega)] at e
  rw [aqt,if_pos (by omega)]
  exact h.tok t m k hlt e
 ·rw [aqt,if_pos (by omega)] at e
  rw [aqt,if_pos (by omega)]
  exact h.row t ver es k hlt e
 ·have:=(ap0.1 e).1
  rw [aqt,if_pos (by omega)]
  exact h.ptr id b e
theorem vR.of {n0:Nat} {R R':PH} {γ γ':List Gh} {L L':List Ob} (hn:n0<=L.length) (h:Mv R R' γ γ' L L'):vR n0 R R' γ γ' L L':=⟨hn,Nat.le_trans hn h.len,h.cutL⟩
theorem vR.trans {n0:Nat} {R R' R'':PH} {γ γ' γ'':List Gh} {L L' L'':List Ob} (hg:γ.length=L.length) (h:vR n0 R R' γ γ' L L') (g:vR n0 R' R'' γ' γ'' L' L''):vR n0 R R'' γ γ'' L L'':=by
 refine ⟨h.lo,g.lo',Mv.trans (h.mv.cutR (n:=n0) (by simp [hg]) (by simp;omega)) g.mv⟩
theorem vR.cut {n0:Nat} {R:PH} {γ:List Gh} {L G:List Ob} (hg:γ.length=(L++G).length) (hn:n0<=L.length):vR n0 R R γ (γ.take L.length) (L++G) L:=by
 refine ⟨by simp;omega,hn,?_⟩
 have:=(Mv.refl (R:=R) (γ:=γ) (L:=L++G)).cutL (n0:=n0)
 have:=this.cutR (n:=L.length) (by simp at hg ⊢;omega) (by simp;omega)
 simpa using this
def Fs (N n0:Nat) (B:Nat->Prop) (Q:AX->Tm->List Ob->Prop) (R:PH) (w:World) (γ:List Gh) (L:List Ob) (e:Exit) (a':Act) (w':World):Prop :=
 ∃ x T' L' R' γ',e=x.ex/\Q x T' L'/\Inv B R' γ' L' w'/\jo N R' γ' L' T' a'/\Ext B R R' w w'/\vR n0 R R' γ γ' L L'
def Aw (P:Program) (N n0:Nat) (c:Code) (Q:AX->Tm->List Ob->Prop) (T:Tm) (L:List Ob):Prop :=
 n0<=L.length -> ∀ B R γ w a,Inv B R γ L w->jo N R γ L T a->c.wp P (Fs N n0 B Q R w γ L) a w
@[reducible] def AX.then (A:Tm->List Ob->Prop) (Q:AX->Tm->List Ob->Prop):AX->Tm->List Ob->Prop
 | .normal,T,L=>A T L
 | e,T,L=>Q e T L
@[reducible] def AX.inBlock (id:Nat) (Q:AX->Tm->List Ob->Prop):AX->Tm->List Ob->Prop
 | .exit j,T,L=>if j=id then Q .normal T L else Q (.exit j) T L
 | e,T,L=>Q e T L
section
variable {P:Program} {ti:TI} {N n0:Nat} {Q:AX->Tm->List Ob->Prop} {T:Tm} {L:List Ob}
theorem Aw.mono {c:Code} {Q':AX->Tm->List Ob->Prop} (h:Aw P N n0 c Q T L) (hq : ∀ x T L,Q x T L->Q' x T L):Aw P N n0 c Q' T L :=
 fun hn B R γ w a hi hT=>wp_mono (h hn B R γ w a hi hT) fun _ _ _ ⟨x,T',L',R',γ',e,q,r⟩=>⟨x,T',L',R',γ',e,hq _ _ _ q,r⟩
theorem Fs.ext {B:Nat->Prop} {R R1:PH} {w w1:World} {γ γ1:List Gh} {L1:List Ob} {e:Exit} {a':Act} {w':World} (h:Fs N n0 B Q R1 w1 γ1 L1 e a' w') (he:Ext B R R1 w w1) (hg:γ.length=L.length) (hm:vR n0 R R1 γ γ1 L L1):Fs N n0 B Q R w γ L e a' w' :=
 let ⟨x,T',L',R',γ',h1,h2,h3,h4,h5,h6⟩:=h;⟨x,T',L',R',γ',h1,h2,h3,h4,he.trans h5,hm.trans hg h6⟩
theorem aw_skip (h:Q .normal T L):Aw P N n0 .skip Q T L:=fun hn _ R γ w a hi hT=>wp_skip ⟨.normal,T,L,R,γ,rfl,h,hi,hT,Ext.refl _ _ _,vR.of hn Mv.refl⟩
theorem Be {l:Nat} (h:Q .normal T L):Aw P N n0 (.label l) Q T L:=fun hn _ R γ w a hi hT=>wp_label ⟨.normal,T,L,R,γ,rfl,h,hi,hT,Ext.refl _ _ _,vR.of hn Mv.refl⟩
theorem aw_ret (h:Q .ret T L):Aw P N n0 .ret Q T L:=fun hn _ R γ w a hi hT=>wp_ret ⟨.ret,T,L,R,γ,rfl,h,hi,hT,Ext.refl _ _ _,vR.of hn Mv.refl⟩
theorem aw_exit {id:Nat} (h:Q (.exit id) T L):Aw P N n0 (.exit id) Q T L:=fun hn _ R γ w a hi hT=>wp_exit ⟨.exit id,T,L,R,γ,rfl,h,hi,hT,Ext.refl _ _ _,vR.of hn Mv.refl⟩
theorem aw_seq {x y:Code} (h:Aw P N n0 x (AX.then (Aw P N n0 y Q) Q) T L):Aw P N n0 (.seq x y) Q T L:=by
 intro hn B R γ w a hi hT
 refine wp_seq (wp_mono (h hn B R γ w a hi hT) ?_)
 rintro e a1 w1 ⟨x,T1,L1,R1,γ1,rfl,q,i1,t1,e1,m1⟩
 cases x with
 | normal=>exact wp_mono (q m1.lo' B R1 γ1 w1 a1 i1 t1) fun _ _ _ hh=>hh.ext e1 hi.len m1
 | exit id=>exact ⟨.exit id,T1,L1,R1,γ1,rfl,q,i1,t1,e1,m1⟩
 | ret=>exact ⟨.ret,T1,L1,R1,γ1,rfl,q,i1,t1,e1,m1⟩
theorem aG {c:Operand} {x y:Code} {b:Bool} (hc:look T c=some (.one (.c (.bool b)))) (h1:b=true->Aw P N n0 x Q T L) (h2:b=false->Aw P N n0 y Q T L):Aw P N n0 (.cond c x y) Q T L:=by
 intro hn B R γ w a hi hT
 have hv:=Nw hT hc
 have he:a.eval c = .bool b:=by
  generalize a.eval c=v at hv
  cases hv;rfl
 exact wp_cond_split he (fun e=>h1 e hn B R γ w a hi hT) (fun e=>h2 e hn B R γ w a hi hT)
theorem aw_block {id:Nat} {c:Code} (h:Aw P N n0 c (AX.inBlock id Q) T L):Aw P N n0 (.block id c) Q T L:=by
 intro hn B R γ w a hi hT
 refine wp_block (wp_mono (h hn B R γ w a hi hT) ?_)
 rintro e a1 w1 ⟨x,T1,L1,R1,γ1,rfl,q,i1,t1,e1,m1⟩
 cases x with
 | normal=>exact ⟨.normal,T1,L1,R1,γ1,rfl,q,i1,t1,e1,m1⟩
 | ret=>exact ⟨.ret,T1,L1,R1,γ1,rfl,q,i1,t1,e1,m1⟩
 | exit j =>
  simp only [AX.inBlock] at q
  by_cases hj:j=id
  ·subst hj
   rw [if_pos rfl] at q
   show Exit.inBlock j _ (.exit j) a1 w1
   simp only [Exit.inBlock,if_true]
   exact ⟨.normal,T1,L1,R1,γ1,rfl,q,i1,t1,e1,m1⟩
  ·rw [if_neg hj] at q
   show Exit.inBlock id _ (.exit j) a1 w1
   simp only [Exit.inBlock,if_neg hj]
   exact ⟨.exit j,T1,L1,R1,γ1,rfl,q,i1,t1,e1,m1⟩
theorem aei {l:List Oper} {ds:List (Option Tmp)} (hds:l.map (·.dst)=ds) (j:Nat):(l.toArray[j]?).map (·.dst)=ds[j]?:=by rw [<- hds];simp
theorem aw_region (hti:TIok P ti) {id:Nat} {l:List Oper} (ds:List (Option Tmp)) (hds:l.map (·.dst)=ds) (h:aX P ti N ds (Q .normal) l T L):Aw P N n0 (.region id l.toArray false) Q T L:=by
 intro hn B R γ w a hi hT
 refine wp_region_lit (Bu hti (aei hds) l R γ L T a w h hi hT ?_)
 intro T' L' R' γ' w' a' hk h1 h2 h3 h4
 exact ⟨.normal,T',L',R',γ',rfl,hk,h1,h2,h3,vR.of hn h4⟩
structure Fits (T':Tm) (L':List Ob) (T:Tm) (L:List Ob):Prop where
 slots : ∀ p∈T,T'.lookup p.1=some p.2
 pre : ∃ G,L'=L++G
 below : ∀ p∈T,p.2.below L.length
 objs : ∀ x∈L,x.below L.length
theorem SV.cut {R:PH} {γ:List Gh} {L G:List Ob} (hl:γ.length=(L++G).length) {x:SV} {v:Value} (h:x.rep R γ (L++G) v) (hb:x.below L.length):x.rep R (γ.take L.length) L v:=by
 cases x with
 | c y=>exact h
 | emp=>exact h
 | own es t =>
  obtain ⟨h1,_,h2⟩:=h
  have ht:t<L.length:=hb
  refine ⟨h1,ht,fun n k e0=>?_⟩
  obtain ⟨h3,h4,h5⟩:=h2 n k (by rw [aqc ht];exact e0)
  refine ⟨h3,h4,fun e=>?_⟩
  obtain ⟨g,g1,g2⟩:=h5 e
  exact ⟨g,by rw [aqt,if_pos ht];exact g1,g2⟩
 | ptr id off =>
  obtain ⟨b,h1,h2⟩:=h
  have ht:id<L.length:=hb
  exact ⟨b,h1,by rw [aqt,if_pos ht];exact h2⟩
 | sl id ver lo n =>
  obtain ⟨h0,_,h2⟩:=h
  have ht:id<L.length:=hb
  refine ⟨h0,ht,fun ver' es k e0=>?_⟩
  rw [aqt,if_pos ht]
  exact h2 ver' es k (by rw [aqc ht];exact e0)
 | ep id ver i o =>
  obtain ⟨h0,_,h2⟩:=h
  have ht:id<L.length:=hb
  refine ⟨h0,ht,fun ver' es k e0=>?_⟩
  rw [aqt,if_pos ht]
  exact h2 ver' es k (by rw [aqc ht];exact e0)
 | mp id =>
  obtain ⟨b,h1,h2⟩:=h
  have ht:id<L.length:=hb
  exact ⟨b,h1,by rw [aqt,if_pos ht];exact h2⟩
 | clo f caps =>
  obtain ⟨vs,h1,h2,h3⟩:=h
  refine ⟨vs,h1,h2,fun j u x hu hx=>?_⟩
  have hr:=h3 j u x hu hx
  have hbx:x.below L.length:=hb x (ap6 hx)
  cases x with
  | c y=>exact hr
  | ptr id off =>
   obtain ⟨b,g1,g2⟩:=hr
   have ht:id<L.length:=hbx
   exact ⟨b,g1,by rw [aqt,if_pos ht];exact g2⟩
theorem AV.cut {R:PH} {γ:List Gh} {L G:List Ob} (hl:γ.length=(L++G).length) {x:AV} {v:Value} (h:x.rep R γ (L++G) v) (hb:x.below L.length):x.rep R (γ.take L.length) L v:=by
 cases x with
 | one x=>exact SV.cut hl h hb
 | agg xs =>
  obtain ⟨vs,h1,h2,h3⟩:=h
  exact ⟨vs,h1,h2,fun j u x hu hx=>SV.cut hl (h3 j u x hu hx) (hb x (ap6 hx))⟩
 | tup ps=>exact h
 | tupS xs =>
  obtain ⟨vs,h1,h2,h3⟩:=h
  exact ⟨vs,h1,h2,fun j u x hu hx=>SV.cut hl (h3 j u x hu hx) (hb x (ap6 hx))⟩
 | undef=>exact h
theorem tQ : ∀ {T:Tm} {t:Nat} {x:AV}, T.lookup t=some x->(t,x)∈T
 | (k,y)::T,t,x,h=>by
  rw [List.lookup_cons] at h
  by_cases e:t=k
  ·subst e;simp at h;subst h;exact aqM ..
  ·have:(t==k)=false:=by simpa using e
   rw [this] at h
   exact aqm _ (tQ h)
theorem Fits.sound {T':Tm} {L':List Ob} (hf:Fits T' L' T L) {B:Nat->Prop} {R:PH} {γ:List Gh} {w:World} {a:Act} (hi:Inv B R γ L' w) (hT:jo N R γ L' T' a):Inv B R (γ.take L.length) L w/\jo N R (γ.take L.length) L T a:=by
 obtain ⟨G,rfl⟩:=hf.pre
 have hl:γ.length=(L++G).length:=hi.len
 have hlen:(γ.take L.length).length=L.length:=by rw [aqQ,hl];simp
 have get : ∀ (i:Nat) g,(γ.take L.length)[i]?=some g->i<L.length/\γ[i]?=some g:=by
  intro i g hg
  rw [aqt] at hg
  split at hg
  ·rename_i h;exact ⟨h,hg⟩
  ·cases hg
 refine ⟨⟨hlen,hi.val,fun id x g hx hg=>?_,fun i j gi gj h1 h2=>hi.inj i j gi gj (get i gi h1).2 (get j gj h2).2,fun i g b hg=>hi.new i g b (get i g hg).2,hi.bsz⟩,⟨hT.size,hT.defers,fun t x h=>?_⟩⟩
 ·obtain ⟨hlt,hg'⟩:=get id g hg
  have hobj:=hi.obj id x g (by rw [aqc hlt];exact hx) hg'
  have hb:=hf.objs x (ap6 hx)
  match x,g,hobj,hb with
  | .box cs, .box b,⟨⟨vs,E,h1,h2,h3⟩,h4⟩,hb=>exact ⟨⟨vs,E,h1,h2,fun j u x hu hx=>SV.cut hl (h3 j u x hu hx) (hb x (ap6 hx))⟩,h4⟩
  | .spare n k, .arr b c,hobj,_=>exact hobj
  | .spare n k, .none,hobj,_=>exact hobj
  | .row ver es k, .arr b c,⟨⟨vs,E,h1,h2,h3⟩,h4⟩,hb=>exact ⟨⟨vs,E,h1,h2,fun i e j u x he hu hx=>SV.cut hl (h3 i e j u x he hu hx) (hb e (ap6 he) x (ap6 hx))⟩,h4⟩
  | .row ver es k, .none,hobj,_=>exact hobj
  | .map kvs, .box b,⟨⟨es,h1,h2,h3⟩,h4⟩,hb=>exact ⟨⟨es,h1,h2,fun j e p he hp=>⟨(h3 j e p he hp).1,(h3 j e p he hp).2.1,AV.cut hl (h3 j e p he hp).2.2 (hb p (ap6 hp))⟩⟩,h4⟩
  | .dead, .none,hobj,_=>exact hobj
  | .dead, .box _,hobj,_=>exact hobj
 ·have hm:=tQ h
  obtain ⟨u,h1,h2⟩:=hT.slot t x (hf.slots (t,x) hm)
  exact ⟨u,h1,AV.cut hl h2 (hf.below (t,x) hm)⟩
theorem Fits.mvn {T':Tm} {L':List Ob} (hf:Fits T' L' T L) {B:Nat->Prop} {R:PH} {γ:List Gh} {w:World} (hi:Inv B R γ L' w) (hn:n0<=L.length):vR n0 R R γ (γ.take L.length) L' L:=by
 obtain ⟨G,rfl⟩:=hf.pre
 exact vR.cut hi.len hn
theorem dC {c:Code} (t k:Nat) (ht:T.lookup t=some (.one .emp)) (h:Aw P N n0 c Q ((t, .one (.own [] L.length))::T) (L++[.spare 0 k])):Aw P N n0 c Q T L:=by
 intro hn B R γ w a hi hT
 have hm:Mv R R γ (γ++[.none]) L (L++[.spare 0 k]):=Mv.push _ _ hi.len
 refine wp_mono (h (by simp;omega) B R (γ++[.none]) w a (hi.tok k) ?_) fun _ _ _ hh=>hh.ext (Ext.refl _ _ _) hi.len (vR.of hn hm)
 refine ⟨hT.size,hT.defers,fun t' x hx=>?_⟩
 rw [List.lookup_cons] at hx
 by_cases e:t'=t
 ·subst e
  simp at hx;subst hx
  obtain ⟨u,h1,b,rfl⟩:=hT.slot t' _ ht
  exact ⟨_,h1,gq _ _ _,by simp,fun n2 k2 _=>⟨by simp,by simp,fun _=>⟨.none,by rw [<- hi.len];simp,b,by simp⟩⟩⟩
 ·have:(t'==t)=false:=by simpa using e
  rw [this] at hx
  exact (hT.mv hm).slot t' x hx
theorem S9 {c:Code} (id j k:Nat) {cs:List SV} (hid:L[id]?=some (.box cs)) (hj:cs[j]?=some .emp) (h:Aw P N n0 c Q T (L.set id (.box (cs.set j (.own [] L.length)))++[.spare 0 k])):Aw P N n0 c Q T L:=by
 intro hn B R γ w a hi hT
 have hlt:=(ap0.1 hid).1
 have hm:Mv R R γ (γ++[.none]) L (L.set id (.box (cs.set j (.own [] L.length)))++[.spare 0 k]):=by
  refine ⟨PH.sub_refl _,by simp,fun t n k' hlt' e=>⟨n,?_,aqe _,fun _=>?_⟩,fun t ver es0 k' hlt' e=>⟨ver,es0,?_,aqe _,fun _=>⟨rfl,?_⟩⟩,fun i b e=>?_⟩
  ·rw [aqc (by simpa using hlt')] at e
   have hne:t≠id:=by rintro rfl;rw [aqh hlt'] at e;cases e
   rw [aqi (Ne.symm hne)] at e;exact e
  ·rw [aqc (by rw [hi.len];exact hlt')]
  ·rw [aqc (by simpa using hlt')] at e
   have hne:t≠id:=by rintro rfl;rw [aqh hlt'] at e;cases e
   rw [aqi (Ne.symm hne)] at e;exact e
  ·rw [aqc (by rw [hi.len];exact hlt')]
  ·rw [aqc (ap0.1 e).1];exact e
 refine wp_mono (h (by simp;omega) B R (γ++[.none]) w a ?_ (hT.mv hm)) fun _ _ _ hh=>hh.ext (Ext.refl _ _ _) hi.len (vR.of hn hm)
 have gcase : ∀ j h,(γ++[Gh.none])[j]?=some h->(j=γ.length/\h = .none)\/(j<γ.length/\γ[j]?=some h):=by
  intro j h hh
  by_cases hid:j<γ.length
  ·rw [aqc hid] at hh;exact .inr ⟨hid,hh⟩
  ·have:j=γ.length:=by have:=(ap0.1 hh).1;simp at this;omega
   subst this
   rw [ap7 (by omega)] at hh
   simp at hh
   exact .inl ⟨rfl,hh.symm⟩
 have it:=hi.tok k
 refine ⟨by simp [hi.len],hi.val,fun i y g hy hg=>?_,it.inj,it.new,hi.bsz⟩
 rcases gcase i g hg with ⟨rfl,rfl⟩|⟨hl2,hg'⟩
 ·rw [ap7 (by simp [hi.len])] at hy
  simp [hi.len] at hy;subst hy;rfl
 ·rw [aqc (by simp;rw [<- hi.len];exact hl2)] at hy
  by_cases hii:i=id
  ·subst hii
   rw [aqh hlt] at hy
   injection hy with hy;subst hy
   have hob:=hi.obj i _ _ hid hg'
   match g,hob with
   | .box b,⟨⟨vs,E,h1,h2,h3⟩,h4⟩ =>
    refine ⟨⟨vs,E,h1,by simp [h2],fun q u x hu hx=>?_⟩,h4⟩
    by_cases hq:q=j
    ·subst hq
     rw [aqh (ap0.1 hj).1] at hx
     injection hx with hx;subst hx
     obtain ⟨ad,rfl⟩:=h3 q u _ hu hj
     exact ⟨gq _ _ _,by simp,fun n2 k2 _=>⟨by simp,by simp,fun _=>⟨.none,by rw [<- hi.len];simp,ad,by simp⟩⟩⟩
    ·rw [aqi (Ne.symm hq)] at hx
     exact SV.mv hm (h3 q u x hu hx)
  ·rw [aqi (Ne.symm hii)] at hy
   exact (hi.obj i y g hy hg').mv hm (fun _ _=>rfl) (fun _ _ _ h=>h)
theorem eH {σ:Type} {c:Code} (TT:σ->Tm) (LL:σ->List Ob) (ok:σ->Prop) (μ:σ->Nat) (s0:σ) (h0:ok s0) (hn1 : ∀ s,ok s->n0<=(LL s).length) (hf:Fits T L (TT s0) (LL s0))
  (round : ∀ s,ok s->Aw P N n0 c (AX.then (fun T' L' => ∃ s',ok s'/\μ s'<μ s/\Fits T' L' (TT s') (LL s')) Q) (TT s) (LL s)):Aw P N n0 (.loop c) Q T L:=by
 intro hn B R0 γ0 w0 a0 hi hT
 obtain ⟨i1,t1⟩:=hf.sound hi hT
 have key : ∀ n s R γ a w,μ s<n->ok s->Inv B R γ (LL s) w->jo N R γ (LL s) (TT s) a->Ext B R0 R w0 w->vR n0 R0 R γ0 γ L (LL s)->Code.rounds P c (Fs N n0 B Q R0 w0 γ0 L) n a w:=by
  intro n
  induction n with
  | zero=>intro s R γ a w h;omega
  | succ n ih =>
   intro s R γ a w hlt hok hI ht he hmv
   rw [rounds_succ]
   refine wp_mono (round s hok (hn1 s hok) B R γ w a hI ht) ?_
   rintro e a1 w1 ⟨x,T1,L1,R1,γ2,rfl,q,j1,k1,e1,m1⟩
   cases x with
   | normal =>
    obtain ⟨s',ok',hlt',hfit⟩:=q
    obtain ⟨j2,k2⟩:=hfit.sound j1 k1
    exact ih s' R1 _ a1 w1 (by omega) ok' j2 k2 (he.trans e1) ((hmv.trans hi.len m1).trans hi.len (hfit.mvn j1 (hn1 s' ok')))
   | exit id=>exact ⟨.exit id,T1,L1,R1,γ2,rfl,q,j1,k1,he.trans e1,hmv.trans hi.len m1⟩
   | ret=>exact ⟨.ret,T1,L1,R1,γ2,rfl,q,j1,k1,he.trans e1,hmv.trans hi.len m1⟩
 exact wp_loop_rounds (μ s0+1) (key _ s0 R0 _ a0 w0 (by omega) h0 i1 t1 (Ext.refl _ _ _) (hf.mvn hi (hn1 s0 h0)))
def JB (ti:TI) (T:Tm) (L:List Ob):ResultVar->Option (PV × Prop)
 | .tmp t=>((T.lookup t).bind AV.norm).map fun p=>(p,True)
 | .cell a t=>match T.lookup a with
  | some (.one (.ptr id off))=>match jQ ti L t (.one (.ptr id off)) with
   | some (v,φ)=>v.norm.map fun p=>(p,φ)
   | none=>none
  | _=>none
def BM (ti:TI) (T:Tm) (L:List Ob):List ResultVar->Option (List PV × Prop)
 | []=>some ([],True)
 | r::rs=>match JB ti T L r,BM ti T L rs with
  | some (p,φ),some (ps,ψ)=>some (p::ps,φ/\ψ)
  | _,_=>none
def af0:List PV->CV
 | [p] => .val p
 | ps => .tup ps
def Res (ti:TI) (rs:List ResultVar) (T:Tm) (L:List Ob) (r:CV):Prop :=
 match BM ti T L rs with
 | some (ps,φ)=>φ/\af0 ps=r
 | none=>False
def qm (tmps:Array Value):ResultVar->Sem Value
 | .tmp t=>pure (tmps.getD t Go.undef)
 | .cell ad t=>do loadVar t (<- asAddr (tmps.getD ad Go.undef))
theorem rP (fn:Func) (tmps:Array Value):results fn tmps=(do let vs <- fn.results.mapM (qm tmps);pure (if h:vs.size=1 then vs[0] else .tuple vs)):=by
 unfold results
 congr
theorem Vx (hti:TIok P ti) {B:Nat->Prop} {R:PH} {γ:List Gh} {w:World} {a:Act} (hi:Inv B R γ L w) (hT:jo N R γ L T a) {rv:ResultVar} {p:PV} {φ:Prop} (h:JB ti T L rv=some (p,φ)) (hφ:φ) :
  ∃ u,(qm a.tmps rv).run P w = .ok u w/\p.rep R u:=by
 cases rv with
 | tmp t =>
  simp only [JB] at h
  cases hl:T.lookup t with
  | none=>simp [hl] at h
  | some x =>
   simp only [hl,apZ] at h
   cases hn:x.norm with
   | none=>simp [hn] at h
   | some q =>
    simp only [hn,Option.map_some,Option.some.injEq,Prod.mk.injEq] at h
    obtain ⟨rfl,_⟩:=h
    obtain ⟨u,h1,h2⟩:=hT.slot t x hl
    exact ⟨u,by simp [qm,Array.getD_eq_getD_getElem?,h1],AV.norm_rep h2 hn⟩
 | cell ad t =>
  simp only [JB] at h
  split at h
  ·rename_i id off hl
   split at h
   ·rename_i v ψ hp
    cases hn:v.norm with
    | none=>simp [hn] at h
    | some q =>
     simp only [hn,Option.map_some,Option.some.injEq,Prod.mk.injEq] at h
     obtain ⟨rfl,h2⟩:=h
     subst h2
     obtain ⟨u,h1,hu⟩:=hT.slot ad _ hl
     obtain ⟨b,rfl,hg⟩:=hu
     obtain ⟨u',r1,r2⟩:=vC hti hi (va := .one (.ptr id off)) (u1 := .pointer (some ⟨b,off,none⟩)) ⟨b,rfl,hg⟩ hp hφ
     refine ⟨u',?_,AV.norm_rep r2 hn⟩
     simp only [Instr.loadAt,Instr.sureAddr] at r1
     simpa [qm,Array.getD_eq_getD_getElem?,h1,asAddr] using r1
   ·cases h
  ·cases h
theorem GK (hti:TIok P ti) {B:Nat->Prop} {R:PH} {γ:List Gh} {w:World} {a:Act} (hi:Inv B R γ L w) (hT:jo N R γ L T a) : ∀ {rs:List ResultVar} {ps:List PV} {φ:Prop}, BM ti T L rs=some (ps,φ)->φ ->
  ∃ us:List Value,(rs.mapM (qm a.tmps)).run P w = .ok us w/\us.length=ps.length /\ ∀ (j:Nat) u p,us[j]?=some u->ps[j]?=some p->p.rep R u
 | [],ps,φ,h,_=>by
  simp only [BM,Option.some.injEq,Prod.mk.injEq] at h
  obtain ⟨rfl,_⟩:=h
  exact ⟨[],rfl,rfl,fun j u p hu=>by simp at hu⟩
 | r::rs,ps,φ,h,hφ=>by
  unfold BM at h
  split at h
  ·rename_i p ψ ps' χ h1 h2
   simp only [Option.some.injEq,Prod.mk.injEq] at h
   obtain ⟨rfl,rfl⟩:=h
   obtain ⟨u,r1,r2⟩:=Vx hti hi hT h1 hφ.1
   obtain ⟨us,s1,s2,s3⟩:=GK hti hi hT h2 hφ.2
   refine ⟨u::us,?_,by simp [s2],fun j v q hv hq=>?_⟩
   ·rw [List.mapM_cons]
    simp only [Sem.run_bind,r1,Result.andThen_ok,s1,Sem.run_pure]
   ·cases j with
    | zero=>simp at hv hq;subst hv hq;exact r2
    | succ j=>exact s3 j v q (by simpa using hv) (by simpa using hq)
  ·cases h
theorem Res.sound (hti:TIok P ti) {B:Nat->Prop} {R:PH} {γ:List Gh} {w:World} {a:Act} (hi:Inv B R γ L w) (hT:jo N R γ L T a) {fn:Func} {r:CV} (h:Res ti fn.results.toList T L r) :
  ∃ v,(results fn a.tmps).run P w = .ok v w/\r.rep R v:=by
 unfold Res at h
 split at h
 ·rename_i ps φ hp
  obtain ⟨hφ,rfl⟩:=h
  obtain ⟨us,s1,s2,s3⟩:=GK hti hi hT hp hφ
  have hm:(fn.results.mapM (qm a.tmps)).run P w = .ok us.toArray w:=by
   rw [Array.mapM_eq_mapM_toList]
   simp only [Sem.run_map,s1,Result.andThen_ok]
  refine ⟨if h:us.toArray.size=1 then us.toArray[0] else .tuple us.toArray,?_,?_⟩
  ·rw [rP]
   simp only [Sem.run_bind]
   rw [hm]
   rfl
  ·match us,ps,s2,s3 with
   | [u],[p],_,s3=>exact s3 0 u p rfl rfl
   | [],[],_,_=>exact ⟨#[],rfl,rfl,fun j u p hu=>by simp at hu⟩
   | u1::u2::us,p1::p2::ps,s2,s3 =>
    rw [dif_neg (by simp)]
    exact ⟨_,rfl,by simpa using s2,fun j u p hu hp=>s3 j u p (by simpa using hu) hp⟩
 ·exact h.elim
def argT:Nat->List PV->Tm
 | _,[]=>[]
 | i,p::ps=>(i,p.av)::argT (i+1) ps
theorem Ai : ∀ (ps:List PV) (i t:Nat) (x:AV),(argT i ps).lookup t=some x -> ∃ p,ps[t-i]?=some p/\x=p.av/\i<=t
 | [],i,t,x,h=>by simp [argT] at h
 | p::ps,i,t,x,h=>by
  rw [argT,List.lookup_cons] at h
  by_cases e:t=i
  ·subst e
   simp at h;subst h
   exact ⟨p,by simp,rfl,aqe _⟩
  ·have:(t==i)=false:=by simpa using e
   rw [this] at h
   obtain ⟨q,h1,h2,h3⟩:=Ai ps (i+1) t x h
   refine ⟨q,?_,h2,by omega⟩
   have:t-i=(t-(i+1))+1:=by omega
   rw [this,List.getElem?_cons_succ];exact h1
theorem pa_ (hti : TIok P ti) {f : FuncId} {fn : Func} {c : Code} {args : List PV} {r : CV} (hf : P.funcs[f]? = some fn) (hb : fn.body = some c) (hname : (fn.name == "runtime.NumGoroutine") = false) (hN : fn.ntmps = N) (hlen : args.length <= N)
  (h:Aw P N 0 c (fun x T L=>(x = .normal\/x = .ret)/\Res ti fn.results.toList T L r) (argT 0 args) []):Pure P f args r:=by
 refine ⟨⟨fn,hf,by rw [hb];rfl,hname⟩,fun R w vs hR hs hv=>?_⟩
 refine calls_of_wp hf hb ?_
 have hi:Inv (· < w.heap.size) R [] [] w:=⟨rfl,hR,fun id x g hx=>by simp at hx,fun i j gi gj h=>by simp at h,fun i g b h=>by simp at h,fun _ h=>h⟩
 have hT:jo N R [] [] (argT 0 args) { tmps:=vs++Array.replicate (fn.ntmps-vs.size) Go.undef,defers:=[] } := by
  refine ⟨by simp;omega,rfl,fun t x ht=>?_⟩
  obtain ⟨p,h1,rfl,_⟩:=Ai args 0 t x ht
  rw [Nat.sub_zero] at h1
  have hlt:t<vs.size:=by rw [hs];exact (ap0.1 h1).1
  have hu:vs[t]?=some vs[t]:=aqn hlt
  exact ⟨vs[t],by rw [Array.getElem?_append_left hlt];exact hu,PV.av_rep (hv t _ p hu h1)⟩
 refine wp_mono (h (aqj _) (· < w.heap.size) R [] w _ hi hT) ?_
 rintro e a' w' ⟨x,T',L',R',γ',rfl,⟨hx,hres⟩,i1,t1,e1,_⟩
 obtain ⟨v,h1,h2⟩:=Res.sound hti i1 t1 hres
 rcases hx with rfl|rfl
 ·exact ⟨t1.defers,v,h1,v,R',rfl,e1,i1.val,h2⟩
 ·exact ⟨t1.defers,v,h1,v,R',rfl,e1,i1.val,h2⟩
def ano (rs:List ResultVar) (T:Tm) (L:List Ob) (es':List (List AC)) (k:Nat):Prop :=
 match rs with
 | [.tmp t]=>match T.lookup t with
  | some (.one (.own es i))=>es=es'/\L[i]?=some (.spare es'.length k)
  | some (.one .emp)=>es'=[]
  | _=>False
 | _=>False
theorem Ww {f : FuncId} {fn : Func} {c : Code} {args : List PV} {es es' : List (List AC)} {k : Nat} (hf : P.funcs[f]? = some fn) (hb : fn.body = some c) (hname : (fn.name == "runtime.NumGoroutine") = false) (hN : fn.ntmps = N) (hlen : args.length + 1 <= N)
  (h:Aw P N 0 c (fun x T L=>(x = .normal\/x = .ret)/\ano fn.results.toList T L es' k) ((0, .one (.own es 0))::argT 1 args) [.spare es.length k]):TQ P f es k args es':=by
 refine ⟨⟨fn,hf,by rw [hb];rfl,hname⟩,fun R w v vs g hR hpv hwide hown hs hv=>?_⟩
 refine calls_of_wp hf hb ?_
 have hgsz : ∀ b,g.block=some b->b<w.heap.size:=by
  intro b hb
  match g,hown,hb with
  | .arr b' c,⟨_,⟨vs,E,a1,_⟩,_⟩,hb=>injection hb with hb;subst hb;exact (aqJ.1 a1).1
 have one : ∀ (j:Nat) h,[g][j]?=some h->j=0/\h=g:=by
  intro j h hh
  cases j with
  | zero=>simp at hh;exact ⟨rfl,hh.symm⟩
  | succ j=>simp at hh
 have hi:Inv (fun b=>b<w.heap.size/\g.block≠some b) R [g] [.spare es.length k] w:=by
  refine ⟨rfl,hR,fun id x h hx hh=>?_,fun i j gi gj h1 h2 hne=>?_,fun i h b hh hb=>?_,fun _ h=>h.1⟩
  ·obtain ⟨rfl,rfl⟩:=one id h hh
   simp at hx;subst hx
   match h,hown with
   | .none,⟨h0,_⟩=>rw [h0];rfl
   | .arr b c,⟨_,⟨vs,E,a1,a2⟩,a3,a4,a5⟩=>exact ⟨⟨vs,E,a1,a2⟩,a3,a4,a5⟩
  ·have:=(one i gi h1).1;have:=(one j gj h2).1;omega
  ·obtain ⟨rfl,rfl⟩:=one i h hh
   exact ⟨fun hB=>hB.2 hb,hgsz b hb⟩
 have hT:jo N R [g] [.spare es.length k] ((0, .one (.own es 0))::argT 1 args) { tmps:=(#[v]++vs)++Array.replicate (fn.ntmps-(#[v]++vs).size) Go.undef,defers:=[] } := by
  refine ⟨by simp;omega,rfl,fun t x ht=>?_⟩
  rw [List.lookup_cons] at ht
  by_cases e:t=0
  ·subst e
   simp at ht;subst ht
   refine ⟨v,by rw [Array.getElem?_append_left (by simp;omega),Array.getElem?_append_left (by simp)];rfl,hpv,by simp,fun n2 k2 e2=>?_⟩
   simp at e2
   obtain ⟨rfl,rfl⟩:=e2
   refine ⟨aqe _,hwide,fun _=>⟨g,rfl,?_⟩⟩
   match g,hown with
   | .none,⟨h0,ha⟩=>exact ha
   | .arr b c,⟨h0,_⟩=>exact h0
  ·have:(t==0)=false:=by simpa using e
   rw [this] at ht
   obtain ⟨p,h1,rfl,h2⟩:=Ai args 1 t x ht
   have hlt:t-1<vs.size:=by rw [hs];exact (ap0.1 h1).1
   have hu:vs[t-1]?=some vs[t-1]:=aqn hlt
   refine ⟨vs[t-1],?_,PV.av_rep (hv (t-1) _ p hu h1)⟩
   rw [Array.getElem?_append_left (by simp;omega),Array.getElem?_append_right (by simp;omega)]
   simp
 refine wp_mono (h (aqj _) _ R [g] w _ hi hT) ?_
 rintro e a' w' ⟨x,T',L',R',γ',rfl,⟨hx,hres⟩,i1,t1,e1,_⟩
 unfold ano at hres
 split at hres
 case h_2=>exact hres.elim
 rename_i t hrs
 have hrs':fn.results = #[.tmp t]:=by cases hfr:fn.results;rw [hfr] at hrs;simp_all
 have hval : ∀ u,a'.tmps[t]?=some u->(results fn a'.tmps).run P w' = .ok u w':=by
  intro u hu
  rw [rP,hrs']
  simp [qm,Array.getD_eq_getD_getElem?,hu]
 have fin : ∀ u g',a'.tmps[t]?=some u->bX R' u (.lst es')->(∀ e∈es',e.length=k)->aa2 R' w' es' k u g'->(∀ b,g'.block=some b->w.heap.size<=b\/g.block=some b)->bodyPost P fn (fun e w' => ∃ v' R' g',e = .returned v'/\Ext (fun b=>b<w.heap.size/\g.block≠some b) R R' w w'/\(∀ b o u,R' b o=some u->w'.cell? ⟨b,o,none⟩=some u) /\
   bX R' v' (.lst es')/\(∀ e∈es',e.length=k)/\aa2 R' w' es' k v' g' /\ ∀ b,g'.block=some b->w.heap.size<=b\/g.block=some b) x.ex a' w':=by
  intro u g' hu hp hw ho hb
  rcases hx with rfl|rfl
  ·exact ⟨t1.defers,u,hval u hu,u,R',g',rfl,e1,i1.val,hp,hw,ho,hb⟩
  ·exact ⟨t1.defers,u,hval u hu,u,R',g',rfl,e1,i1.val,hp,hw,ho,hb⟩
 split at hres
 ·rename_i es0 i hl
  obtain ⟨rfl,hLi⟩:=hres
  obtain ⟨u,hu,hp,hlt,hall⟩:=t1.slot t _ hl
  obtain ⟨_,hw,hlk⟩:=hall _ _ hLi
  obtain ⟨g',hg',hlink⟩:=hlk rfl
  have hob:=i1.obj i _ _ hLi hg'
  refine fin u g' hu hp hw ?_ ?_
  ·match g',hlink,hob with
   | .none,hlk,hob=>exact ⟨aqo hob,hlk⟩
   | .arr b c,hlk,⟨a1,a2,a3,a4⟩=>exact ⟨hlk,a1,a2,a3,a4⟩
  ·intro b hb
   have:=(i1.new i g' b hg' hb).1
   by_cases hlt2:b<w.heap.size
   ·right
    by_cases hge:g.block=some b
    ·exact hge
    ·exact absurd ⟨hlt2,hge⟩ this
   ·left;omega
 ·rename_i hl
  subst hres
  obtain ⟨u,hu,ad,rfl⟩:=t1.slot t _ hl
  exact fin _ .none hu (gq _ _ _) (by simp) ⟨rfl,ad,rfl⟩ (by intro b hb;cases hb)
 ·exact hres.elim
end
section
variable {P:Program} {ti:TI} {N n0:Nat} {T:Tm} {L:List Ob}
def I4 (ti:TI) (rs:List ResultVar) (T:Tm) (L:List Ob) (r:AV):Prop :=
 (∃ t,rs=[.tmp t]/\T.lookup t=some r)\/(∃ q,Res ti rs T L q/\r=q.av)
structure al4 (ti:TI) (rs:List ResultVar) (n0:Nat) (L1:List Ob) (r:AV) (T:Tm) (L:List Ob):Prop where
 val:I4 ti rs T L r
 pre : ∃ G,L=L1++G
 lo:n0<=L1.length
 obb : ∀ x∈L1,x.below L1.length
 vb:r.below L1.length
theorem I4.sound (hti:TIok P ti) {B:Nat->Prop} {R:PH} {γ:List Gh} {w:World} {a:Act} (hi:Inv B R γ L w) (hT:jo N R γ L T a) {fn:Func} {r:AV} (h:I4 ti fn.results.toList T L r) :
  ∃ v,(results fn a.tmps).run P w = .ok v w/\r.rep R γ L v:=by
 rcases h with ⟨t,hr,ht⟩|⟨q,hr,rfl⟩
 ·obtain ⟨u,h1,h2⟩:=hT.slot t r ht
  refine ⟨u,?_,h2⟩
  have e:fn.results = #[.tmp t]:=by cases h:fn.results;rw [h] at hr;simp at hr;rw [hr]
  rw [rP,e]
  simp [qm,h1]
 ·obtain ⟨v,h1,h2⟩:=Res.sound hti hi hT hr
  exact ⟨v,h1,CV.av_rep h2⟩
def iH:Nat->List AV->Tm
 | _,[]=>[]
 | i,p::ps=>(i,p)::iH (i+1) ps
theorem uZ : ∀ (ps:List AV) (i t:Nat) (x:AV),(iH i ps).lookup t=some x->ps[t-i]?=some x/\i<=t
 | [],i,t,x,h=>by simp [iH] at h
 | p::ps,i,t,x,h=>by
  rw [iH,List.lookup_cons] at h
  by_cases e:t=i
  ·subst e
   simp at h;subst h
   exact ⟨by simp,aqe _⟩
  ·have:(t==i)=false:=by simpa using e
   rw [this] at h
   obtain ⟨h1,h3⟩:=uZ ps (i+1) t x h
   refine ⟨?_,by omega⟩
   have:t-i=(t-(i+1))+1:=by omega
   rw [this,List.getElem?_cons_succ];exact h1
theorem bP (hti : TIok P ti) {f : FuncId} {fn : Func} {c : Code} {args : List AV} {L0 L1 : List Ob} {r : AV} (hf : P.funcs[f]? = some fn) (hb : fn.body = some c) (hname : (fn.name == "runtime.NumGoroutine") = false) (hN : fn.ntmps = N) (hlen : args.length <= N)
  (h:Aw P N L0.length c (fun x T L=>(x = .normal\/x = .ret)/\al4 ti fn.results.toList L0.length L1 r T L) (iH 0 args) L0):Run P f L0 args L1 r:=by
 refine ⟨⟨fn,hf,by rw [hb];rfl,hname⟩,fun B R γ w vs hi hs hv=>?_⟩
 refine calls_of_wp hf hb ?_
 have hT:jo N R γ L0 (iH 0 args) { tmps:=vs++Array.replicate (fn.ntmps-vs.size) Go.undef,defers:=[] } := by
  refine ⟨by simp;omega,rfl,fun t x ht=>?_⟩
  obtain ⟨h1,_⟩:=uZ args 0 t x ht
  rw [Nat.sub_zero] at h1
  have hlt:t<vs.size:=by rw [hs];exact (ap0.1 h1).1
  have hu:vs[t]?=some vs[t]:=aqn hlt
  exact ⟨vs[t],by rw [Array.getElem?_append_left hlt];exact hu,hv t _ x hu h1⟩
 refine wp_mono (h (aqe _) B R γ w _ hi hT) ?_
 rintro e a' w' ⟨x,T',L',R',γ',rfl,⟨hx,hres⟩,i1,t1,e1,m1⟩
 obtain ⟨v,h1,h2⟩:=I4.sound hti i1 t1 hres.val
 obtain ⟨G,rfl⟩:=hres.pre
 have hfit:Fits ([]:Tm) (L1++G) [] L1:=⟨fun p hp=>(by cases hp),⟨G,rfl⟩,fun p hp=>(by cases hp),hres.obb⟩
 have hnil:jo N R' γ' (L1++G) ([]:Tm) a':=⟨t1.size,t1.defers,fun t x hx=>by simp at hx⟩
 obtain ⟨j1,_⟩:=hfit.sound i1 hnil
 have hmv:=m1.trans hi.len (hfit.mvn i1 hres.lo)
 have hmv':Mv R R' γ (γ'.take L1.length) L0 L1:=by
  have:=hmv.mv
  rw [aqE (aqe _),aqE (by rw [hi.len];exact aqe _)] at this
  exact this
 have hrep:=AV.cut i1.len h2 hres.vb
 rcases hx with rfl|rfl
 ·exact ⟨t1.defers,v,h1,v,R',_,rfl,j1,e1,hmv',hrep⟩
 ·exact ⟨t1.defers,v,h1,v,R',_,rfl,j1,e1,hmv',hrep⟩
def Co (ti:TI) (rs:List ResultVar) (T:Tm) (L:List Ob) (r:AV):Prop :=
 I4 ti rs T L r\/(∃ a t id off φ,rs=[.cell a t]/\T.lookup a=some (.one (.ptr id off))/\jQ ti L t (.one (.ptr id off))=some (r,φ)/\φ)
structure ajK (ti:TI) (rs:List ResultVar) (n0:Nat) (L1:List Ob) (r:AV) (T:Tm) (L:List Ob):Prop where
 val:Co ti rs T L r
 pre : ∃ G,L=L1++G
 lo:n0<=L1.length
 obb : ∀ x∈L1,x.below L1.length
 vb:r.below L1.length
theorem Co.sound (hti:TIok P ti) {B:Nat->Prop} {R:PH} {γ:List Gh} {w:World} {a:Act} (hi:Inv B R γ L w) (hT:jo N R γ L T a) {fn:Func} {r:AV} (h:Co ti fn.results.toList T L r) :
  ∃ v,(results fn a.tmps).run P w = .ok v w/\r.rep R γ L v:=by
 rcases h with h|⟨ad,t,id,off,φ,hr,hl,hp,hφ⟩
 ·exact I4.sound hti hi hT h
 ·obtain ⟨u,h1,hu⟩:=hT.slot ad _ hl
  obtain ⟨b,rfl,hg⟩:=hu
  obtain ⟨u',r1,r2⟩:=vC hti hi (va := .one (.ptr id off)) (u1 := .pointer (some ⟨b,off,none⟩)) ⟨b,rfl,hg⟩ hp hφ
  refine ⟨u',?_,r2⟩
  have e:fn.results = #[.cell ad t]:=by cases h:fn.results;rw [h] at hr;simp at hr;rw [hr]
  simp only [Instr.loadAt,Instr.sureAddr] at r1
  rw [rP,e]
  have r3:(qm a.tmps (.cell ad t)).run P w = .ok u' w:=by simpa [qm,Array.getD_eq_getD_getElem?,h1,asAddr] using r1
  have hm:((#[ResultVar.cell ad t]:Array ResultVar).mapM (qm a.tmps)).run P w = .ok #[u'] w:=by
   rw [Array.mapM_eq_mapM_toList]
   simp [Sem.run_map,r3,Result.andThen_ok]
  simp only [Sem.run_bind]
  rw [hm]
  rfl
theorem EO (hti : TIok P ti) {f : FuncId} {fn : Func} {c : Code} {args : List AV} {L0 L1 : List Ob} {r : AV} (hf : P.funcs[f]? = some fn) (hb : fn.body = some c) (hname : (fn.name == "runtime.NumGoroutine") = false) (hN : fn.ntmps = N) (hlen : args.length <= N)
  (h:Aw P N L0.length c (fun x T L=>(x = .normal\/x = .ret)/\ajK ti fn.results.toList L0.length L1 r T L) (iH 0 args) L0):Run P f L0 args L1 r:=by
 refine ⟨⟨fn,hf,by rw [hb];rfl,hname⟩,fun B R γ w vs hi hs hv=>?_⟩
 refine calls_of_wp hf hb ?_
 have hT:jo N R γ L0 (iH 0 args) { tmps:=vs++Array.replicate (fn.ntmps-vs.size) Go.undef,defers:=[] } := by
  refine ⟨by simp;omega,rfl,fun t x ht=>?_⟩
  obtain ⟨h1,_⟩:=uZ args 0 t x ht
  rw [Nat.sub_zero] at h1
  have hlt:t<vs.size:=by rw [hs];exact (ap0.1 h1).1
  have hu:vs[t]?=some vs[t]:=aqn hlt
  exact ⟨vs[t],by rw [Array.getElem?_append_left hlt];exact hu,hv t _ x hu h1⟩
 refine wp_mono (h (aqe _) B R γ w _ hi hT) ?_
 rintro e a' w' ⟨x,T',L',R',γ',rfl,⟨hx,hres⟩,i1,t1,e1,m1⟩
 obtain ⟨v,h1,h2⟩:=Co.sound hti i1 t1 hres.val
 obtain ⟨G,rfl⟩:=hres.pre
 have hfit:Fits ([]:Tm) (L1++G) [] L1:=⟨fun p hp=>(by cases hp),⟨G,rfl⟩,fun p hp=>(by cases hp),hres.obb⟩
 have hnil:jo N R' γ' (L1++G) ([]:Tm) a':=⟨t1.size,t1.defers,fun t x hx=>by simp at hx⟩
 obtain ⟨j1,_⟩:=hfit.sound i1 hnil
 have hmv:=m1.trans hi.len (hfit.mvn i1 hres.lo)
 have hmv':Mv R R' γ (γ'.take L1.length) L0 L1:=by
  have:=hmv.mv
  rw [aqE (aqe _),aqE (by rw [hi.len];exact aqe _)] at this
  exact this
 have hrep:=AV.cut i1.len h2 hres.vb
 rcases hx with rfl|rfl
 ·exact ⟨t1.defers,v,h1,v,R',_,rfl,j1,e1,hmv',hrep⟩
 ·exact ⟨t1.defers,v,h1,v,R',_,rfl,j1,e1,hmv',hrep⟩
def Cf (rs:List ResultVar) (T:Tm) (r:AV):Prop :=
 ∃ s t x y,rs=[.tmp s, .tmp t]/\T.lookup s=some (.one x)/\T.lookup t=some (.one y)/\r = .tupS [x,y]
structure ajo (rs:List ResultVar) (n0:Nat) (L1:List Ob) (r:AV) (T:Tm) (L:List Ob):Prop where
 val:Cf rs T r
 pre : ∃ G,L=L1++G
 lo:n0<=L1.length
 obb : ∀ x∈L1,x.below L1.length
 vb:r.below L1.length
theorem Cf.sound {R:PH} {γ:List Gh} {w:World} {a:Act} (hT:jo N R γ L T a) {fn:Func} {r:AV} (h:Cf fn.results.toList T r) :
  ∃ v,(results fn a.tmps).run P w = .ok v w/\r.rep R γ L v:=by
 obtain ⟨s,t,x,y,hr,hs,ht,rfl⟩:=h
 obtain ⟨u,h1,h2⟩:=hT.slot s _ hs
 obtain ⟨v,h3,h4⟩:=hT.slot t _ ht
 refine ⟨.tuple #[u,v],?_, #[u,v],rfl,rfl,fun j z p hz hp=>?_⟩
 ·have e:fn.results = #[.tmp s, .tmp t]:=by cases h:fn.results;rw [h] at hr;simp at hr;rw [hr]
  rw [rP,e]
  simp [qm,h1,h3]
 ·match j,hz,hp with
  | 0,hz,hp=>simp at hz hp;subst hz hp;exact h2
  | 1,hz,hp=>simp at hz hp;subst hz hp;exact h4
  | j+2,hz,hp=>simp at hp
theorem Zr (hti : TIok P ti) {f : FuncId} {fn : Func} {c : Code} {args : List AV} {L0 L1 : List Ob} {r : AV} (hf : P.funcs[f]? = some fn) (hb : fn.body = some c) (hname : (fn.name == "runtime.NumGoroutine") = false) (hN : fn.ntmps = N) (hlen : args.length <= N)
  (h:Aw P N L0.length c (fun x T L=>(x = .normal\/x = .ret)/\ajo fn.results.toList L0.length L1 r T L) (iH 0 args) L0):Run P f L0 args L1 r:=by
 refine ⟨⟨fn,hf,by rw [hb];rfl,hname⟩,fun B R γ w vs hi hs hv=>?_⟩
 refine calls_of_wp hf hb ?_
 have hT:jo N R γ L0 (iH 0 args) { tmps:=vs++Array.replicate (fn.ntmps-vs.size) Go.undef,defers:=[] } := by
  refine ⟨by simp;omega,rfl,fun t x ht=>?_⟩
  obtain ⟨h1,_⟩:=uZ args 0 t x ht
  rw [Nat.sub_zero] at h1
  have hlt:t<vs.size:=by rw [hs];exact (ap0.1 h1).1
  have hu:vs[t]?=some vs[t]:=aqn hlt
  exact ⟨vs[t],by rw [Array.getElem?_append_left hlt];exact hu,hv t _ x hu h1⟩
 refine wp_mono (h (aqe _) B R γ w _ hi hT) ?_
 rintro e a' w' ⟨x,T',L',R',γ',rfl,⟨hx,hres⟩,i1,t1,e1,m1⟩
 obtain ⟨v,h1,h2⟩:=Cf.sound t1 hres.val
 obtain ⟨G,rfl⟩:=hres.pre
 have hfit:Fits ([]:Tm) (L1++G) [] L1:=⟨fun p hp=>(by cases hp),⟨G,rfl⟩,fun p hp=>(by cases hp),hres.obb⟩
 have hnil:jo N R' γ' (L1++G) ([]:Tm) a':=⟨t1.size,t1.defers,fun t x hx=>by simp at hx⟩
 obtain ⟨j1,_⟩:=hfit.sound i1 hnil
 have hmv:=m1.trans hi.len (hfit.mvn i1 hres.lo)
 have hmv':Mv R R' γ (γ'.take L1.length) L0 L1:=by
  have:=hmv.mv
  rw [aqE (aqe _),aqE (by rw [hi.len];exact aqe _)] at this
  exact this
 have hrep:=AV.cut i1.len h2 hres.vb
 rcases hx with rfl|rfl
 ·exact ⟨t1.defers,v,h1,v,R',_,rfl,j1,e1,hmv',hrep⟩
 ·exact ⟨t1.defers,v,h1,v,R',_,rfl,j1,e1,hmv',hrep⟩
end
section
variable {P:Program} {ti:TI} {L:List Ob}
theorem DY {ρ ρ':Operand->Option AV} : ∀ (ps:List (Nat × Operand)) (j:Nat),(∀ p∈ps,ρ p.2=ρ' p.2)->uI ρ ps j=uI ρ' ps j
 | [],_,_=>rfl
 | (i,x)::ps,j,h=>by
  have h1:ρ x=ρ' x:=h (i,x) (by simp)
  have h2:=DY ps (j+1) fun p hp=>h p (aqm _ hp)
  simp only [uI,h1,h2]
theorem rF {ρ ρ':Operand->Option AV} : ∀ (xs:List Operand),(∀ x∈xs,ρ x=ρ' x)->gY ρ xs=gY ρ' xs
 | [],_=>rfl
 | x::xs,h=>by
  have h1:ρ x=ρ' x:=h x (by simp)
  have h2:=rF xs fun y hy=>h y (aqm _ hy)
  simp only [gY,h1,h2]
theorem Rv {ρ ρ':Operand->Option AV} {op:Op} (h : ∀ x,x∈op.operands->ρ x=ρ' x):pop ti ρ L op=pop ti ρ' L op:=by
 unfold pop
 split
 ·rename_i x;rw [h x (by simp [Op.operands])]
 ·rename_i x;rw [h x (by simp [Op.operands])]
 ·rename_i c x y;rw [h c (by simp [Op.operands]),h x (by simp [Op.operands]),h y (by simp [Op.operands])]
 ·rename_i o t x y yt;rw [h x (by simp [Op.operands]),h y (by simp [Op.operands])]
 ·rename_i o t x;rw [h x (by simp [Op.operands])]
 ·rename_i s d x;rw [h x (by simp [Op.operands])]
 ·rename_i t x;rw [h x (by simp [Op.operands])]
 ·rename_i s x i;rw [h x (by simp [Op.operands])]
 ·rename_i s x i;rw [h x (by simp [Op.operands])]
 ·rename_i t x y;rw [h x (by simp [Op.operands]),h y (by simp [Op.operands])]
 ·rename_i t x y;rw [h x (by simp [Op.operands]),h y (by simp [Op.operands])]
 ·rename_i x i;rw [h x (by simp [Op.operands])]
 ·rename_i x;rw [h x (by simp [Op.operands])]
 ·rename_i t x lo hi
  have h1:lo.map ρ=lo.map ρ':=by cases lo with|none=>rfl|some y=>simp [h y (by simp [Op.operands])]
  have h2:hi.map ρ=hi.map ρ':=by cases hi with|none=>rfl|some y=>simp [h y (by simp [Op.operands])]
  rw [h x (by simp [Op.operands]),h1,h2]
 ·rename_i args ts
  split
  ·rename_i x t hx ht
   rw [h x (by simp [Op.operands,Call.operands];rw [<- Array.mem_toList_iff,hx];simp)]
  ·rfl
 ·rename_i args ts
  have:args.toList.map ρ=args.toList.map ρ':=List.map_congr_left fun x hx=>h x (by simp [Op.operands,Call.operands];simpa using hx)
  rw [this]
 ·rename_i args ts
  have:args.toList.map ρ=args.toList.map ρ':=List.map_congr_left fun x hx=>h x (by simp [Op.operands,Call.operands];simpa using hx)
  rw [this]
 ·rename_i t parts
  have:(parts.toList.map fun p=>(p.1,ρ p.2))=parts.toList.map fun p=>(p.1,ρ' p.2):=List.map_congr_left fun p hp=>by
   rw [h p.2 (by simp only [Op.operands,List.mem_toArray];exact List.mem_map_of_mem hp)]
  rw [this]
 ·rename_i f first captured
  have:captured.toList.map ρ=captured.toList.map ρ':=List.map_congr_left fun x hx=>h x (by simp [Op.operands];exact .inr (by simpa using hx))
  rw [this]
 ·rfl
theorem Pg {ρ:Operand->Option AV} {op:Op} {r:AV × List Ob × Prop} (h:K9 ti ρ L op=some r):dA ti op=true:=by
 unfold K9 at h
 split at h
 ·rfl
 ·rfl
 ·rfl
 ·rfl
 ·cases h
theorem kJ {ρ:Operand->Option AV} {op:Op} {r:FuncId × List (List AC) × Option Nat × List PV} (h:iY ti ρ op=some r):dA ti op=true:=by
 unfold iY at h
 split at h
 ·rename_i f args ts
  split at h
  ·rename_i x xs ho hxs;exact ho
  ·cases h
 ·cases h
theorem J5 {ρ ρ':Operand->Option AV} {op:Op} (h : ∀ x,x∈op.operands->ρ x=ρ' x):DU ti ρ op=DU ti ρ' op:=by
 unfold DU
 split
 ·rename_i t len parts
  unfold IL
  rw [DY parts.toList 0 fun p hp=>h p.2 (by simp only [Op.operands,List.mem_toArray];exact List.mem_map_of_mem hp)]
 ·rfl
theorem FC {ρ ρ':Operand->Option AV} {op:Op} (h : ∀ x,x∈op.operands->ρ x=ρ' x):zA ρ op=zA ρ' op:=by
 unfold zA
 split
 ·rename_i f args ts
  have h1:ρ f=ρ' f:=h f (by simp [Op.operands,Call.operands])
  have h2:gY ρ args.toList=gY ρ' args.toList:=rF _ fun x hx=>h x (by simp [Op.operands,Call.operands];exact .inr (by simpa using hx))
  rw [h1,h2]
 ·rfl
theorem zy {ρ:Operand->Option AV} {op:Op} {r:FuncId × List AV} (h:fM ti ρ op=some r):dA ti op=true:=by
 unfold fM at h
 split at h
 case h_2=>cases h
 split at h
 ·rename_i hc _ _;exact hc
 ·rename_i hc _ _;exact hc
 ·cases h
theorem Y1 {ρ:Operand->Option AV} {op:Op} {K:AV->List Ob->Prop} (hl:dA ti op=false) (ha:ll P ti ρ L K op) : ∃ v,ll P ti ρ L (fun v' L'=>v'=v/\L'=L) op/\K v L:=by
 rcases ha with ⟨v,φ,hp,hφ,hk⟩|⟨v,φ,hp,hφ,hk⟩|⟨v,L',φ,hp,_⟩|⟨g,ps,r,hc,hP,hk⟩|⟨g,es,t,k,ps,es',hc,_⟩|⟨g,k,ps,es',hc,_⟩|⟨σ,g,L0,asx,L1,r,hc,_⟩|⟨v,L',hk,_⟩
 ·exact ⟨v, .inl ⟨v,φ,hp,hφ,rfl,rfl⟩,hk⟩
 ·exact ⟨v, .inr (.inl ⟨v,φ,hp,hφ,rfl,rfl⟩),hk⟩
 ·rw [Pg hp] at hl;cases hl
 ·exact ⟨r.av, .inr (.inr (.inr (.inl ⟨g,ps,r,hc,hP,rfl,rfl⟩))),hk⟩
 ·rw [kJ hc] at hl;cases hl
 ·rw [kJ hc] at hl;cases hl
 ·rw [zy hc] at hl;cases hl
 ·rw [hk.1] at hl;cases hl
end
def af5 (acc:List Nat) (o:Oper):Nat:=o.after.toList.foldl (fun s e=>if Region.binds .any e then s ||| 2 ^ e.on ||| acc.getD e.on 0 else s) 0
def masks:List Oper->List Nat->List Nat
 | [],acc=>acc
 | o::rest,acc=>masks rest (acc++[af5 acc o])
def lQ (ops:Array Oper) (o:Oper):List Tmp:=o.looksAt ops++o.dst.toList
inductive Zg (l:List Oper):Nat->Nat->Prop
 | edge {i:Nat} {o:Oper} {e:Edge} (h:l[i]?=some o) (he:e∈o.after.toList) (hb:Region.binds .any e=true):Zg l i e.on
 | step {i j:Nat} {o:Oper} {e:Edge} (h:l[i]?=some o) (he:e∈o.after.toList) (hb:Region.binds .any e=true) (h2:Zg l e.on j):Zg l i j
theorem Rx (acc:List Nat) (j:Nat) : ∀ (es:List Edge) (s:Nat),(es.foldl (fun s e=>if Region.binds .any e then s ||| 2 ^ e.on ||| acc.getD e.on 0 else s) s).testBit j=true ->
  s.testBit j=true \/ ∃ e∈es,Region.binds .any e=true/\(e.on=j\/(acc.getD e.on 0).testBit j=true)
 | [],s,h => .inl h
 | e::es,s,h=>by
  rw [aqP] at h
  rcases Rx acc j es _ h with h1|⟨e',h1,h2⟩
  ·by_cases hb:Region.binds .any e=true
   ·rw [if_pos hb,Nat.testBit_or,Nat.testBit_or] at h1
    simp only [Bool.or_eq_true,Nat.testBit_two_pow,decide_eq_true_eq] at h1
    rcases h1 with (h1|h1)|h1
    ·exact .inl h1
    ·exact .inr ⟨e,by simp,hb, .inl h1⟩
    ·exact .inr ⟨e,by simp,hb, .inr h1⟩
   ·rw [if_neg hb] at h1;exact .inl h1
  ·exact .inr ⟨e',aqm _ h1,h2⟩
theorem EH (l:List Oper) : ∀ (rest:List Oper) (acc:List Nat),(∀ q,l[acc.length+q]?=rest[q]?)->(∀ i j,i<acc.length->(acc.getD i 0).testBit j=true->Zg l i j) ->
  ∀ i j,((masks rest acc).getD i 0).testBit j=true->Zg l i j
 | [],acc,_,h,i,j,hb=>by
  by_cases hi:i<acc.length
  ·exact h i j hi hb
  ·have hb':(acc.getD i 0).testBit j=true:=hb
   rw [aqR,aqN (by omega)] at hb'
   simp at hb'
 | o::rest,acc,hl,h,i,j,hb=>by
  refine EH l rest (acc++[af5 acc o]) (fun q=>?_) (fun i j hi hb=>?_) i j hb
  ·have:=hl (q+1)
   simp only [List.getElem?_cons_succ] at this
   rw [<- this];congr 1;simp;omega
  ·by_cases hi2:i<acc.length
   ·rw [aqR,aqc hi2, <- aqR] at hb
    exact h i j hi2 hb
   ·have:i=acc.length:=by simp at hi;omega
    subst this
    rw [aqR,ap7 (by omega)] at hb
    simp only [Nat.sub_self,List.getElem?_cons_zero,Option.getD_some] at hb
    have ho:l[acc.length]?=some o:=by simpa using hl 0
    rcases Rx acc j _ _ hb with h0|⟨e,he,hbd,h1|h1⟩
    ·simp at h0
    ·subst h1;exact .edge ho he hbd
    ·by_cases hlt:e.on<acc.length
     ·exact .step ho he hbd (h e.on j hlt h1)
     ·rw [aqR,aqN (by omega)] at h1
      simp at h1
structure Done (l:List Oper) (listed:Array Bool):Prop where
 size:listed.size=l.length
 down : ∀ (i:Nat) o,l[i]?=some o->listed[i]?=some true -> ∀ e∈o.after.toList,Region.binds .any e=true->listed[e.on]?=some true
theorem Done.anc {l:List Oper} {listed:Array Bool} (h:Done l listed) {i j:Nat} (ha:Zg l i j) (hd : ∀ o,l[i]?=some o -> ∀ e∈o.after.toList,Region.binds .any e=true->listed[e.on]?=some true):listed[j]?=some true:=by
 induction ha with
 | edge ho he hb=>exact hd _ ho _ he hb
 | step ho he hb _ ih=>exact ih fun o ho'=>h.down _ o ho' (hd _ ho _ he hb)
theorem Done.put {l:List Oper} {listed:Array Bool} (h:Done l listed) {i:Nat} (hi : ∀ o,l[i]?=some o -> ∀ e∈o.after.toList,Region.binds .any e=true->listed[e.on]?=some true):Done l (listed.setIfInBounds i true):=by
 refine ⟨by simp [h.size],fun j o ho hj e he hb=>?_⟩
 have key:listed[e.on]?=some true:=by
  by_cases hij:j=i
  ·subst hij;exact hi o ho e he hb
  ·rw [aqI (Ne.symm hij)] at hj
   exact h.down j o ho hj e he hb
 by_cases hx:e.on=i
 ·rw [hx,aqS (by rw [hx] at key;exact (aqJ.1 key).1)]
 ·rw [aqI (Ne.symm hx)];exact key
def kH (ds:List (Option Tmp)) (T:Tm):Option (Nat × Bool)->Option Bool
 | none=>some true
 | some (j,want)=>match ds[j]? with
  | some (some d)=>match T.lookup d with
   | some (.one (.c (.bool b)))=>some (b==want)
   | some .undef=>some false
   | _=>none
  | _=>none
theorem air {ds:List (Option Tmp)} {T:Tm} {A B:Prop} {g:Option (Nat × Bool)} (h:gd ds T A B g):(kH ds T g=some true/\A)\/(kH ds T g=some false/\B):=by
 cases g with
 | none=>exact .inl ⟨rfl,h⟩
 | some p =>
  obtain ⟨j,want⟩:=p
  simp only [gd] at h
  simp only [kH]
  split at h
  ·rename_i d hd
   try simp only [hd]
   split at h
   ·rename_i b hb
    try simp only [hb]
    by_cases hbw:b=want
    ·exact .inl ⟨by simp [hbw],h.1 hbw⟩
    ·exact .inr ⟨by simp [hbw],h.2 (by cases b<;>cases want<;>simp_all)⟩
   ·rename_i hb
    try simp only [hb]
    exact .inr ⟨by simp,h⟩
   ·exact h.elim
  ·exact h.elim
def jG:List Oper->List AV->Tm->Nat->Tm
 | o::l,v::vs,T,i+1=>jG l vs (Dz T o.dst v) i
 | _,_,T,_=>T
theorem A_ {T:Tm} {d:Option Tmp} {v:AV} {t:Nat} (h:d≠some t):(Dz T d v).lookup t=T.lookup t:=by
 cases d with
 | none=>rfl
 | some d =>
  have:(t==d)=false:=by simp;intro e;exact h (by rw [e])
  simp [Dz,List.lookup_cons,this]
theorem uN {t:Nat} : ∀ (l:List Oper) (vs:List AV) (T:Tm) (i:Nat),(∀ j o,j<i->l[j]?=some o->o.dst≠some t)->(jG l vs T i).lookup t=T.lookup t
 | o::l,v::vs,T,i+1,h=>by
  rw [jG,uN l vs _ i fun j o' hj ho=>h (j+1) o' (by omega) (by simpa using ho),A_ (h 0 o (by omega) rfl)]
 | [],_,_,_,_=>by simp [jG]
 | _::_,[],_,_,_=>by simp [jG]
 | _::_,_::_,_,0,_=>by simp [jG]
theorem Cj {t:Nat} : ∀ (l:List Oper) (vs:List AV) (T:Tm) (i j:Nat) (o:Oper) (v:AV),j<i->l[j]?=some o->o.dst=some t->vs[j]?=some v->(∀ k o',j<k->k<i->l[k]?=some o'->o'.dst≠some t)->(∀ k,k<i->k<=j->k<vs.length)->(jG l vs T i).lookup t=some v
 | [],_,_,_,_,_,_,_,h,_,_,_,_=>by simp at h
 | _::_,[],_,_,_,_,_,_,_,_,h,_,_=>by simp at h
 | _::_,_::_,_,0,_,_,_,h,_,_,_,_,_=>by omega
 | o0::l,v0::vs,T,i+1,0,o,v,_,ho,hd,hv,hk,_=>by
  simp at ho hv;subst ho hv
  rw [jG,uN l vs _ i fun j o' hj ho'=>hk (j+1) o' (by omega) (by omega) (by simpa using ho'),hd]
  simp [Dz,List.lookup_cons]
 | o0::l,v0::vs,T,i+1,j+1,o,v,hj,ho,hd,hv,hk,hl=>by
  rw [jG]
  exact Cj l vs _ i j o v (by omega) (by simpa using ho) hd (by simpa using hv) (fun k o' h1 h2 h3=>hk (k+1) o' (by omega) (by omega) (by simpa using h3)) (fun k h1 h2=>by have:=hl (k+1) (by omega) (by omega);simpa using this)
section
variable {P:Program} {ti:TI} {B:Nat->Prop} {N n0:Nat} {γ:List Gh} {L:List Ob}
theorem CX {ops:Array Oper} {ds:List (Option Tmp)} (hds : ∀ j:Nat,(ops[j]?).map (·.dst)=ds[j]?) {T:Tm} {R:PH} {a:Act} {o:Oper} {b:Bool} (hs : ∀ d x,d∈o.looksAt ops->T.lookup d=some x -> ∃ u,a.tmps[d]?=some u/\x.rep R γ L u) (h:kH ds T o.guard=some b):Region.wanted o (yielded ops a.tmps)=b:=by
 cases hg:o.guard with
 | none=>rw [hg] at h;injection h with h;subst h;simp [Region.wanted,hg]
 | some p =>
  obtain ⟨j,want⟩:=p
  rw [hg] at h
  simp only [kH] at h
  split at h
  ·rename_i d hd0
   have hd:(ops[j]?).bind (·.dst)=some d:=by
    have:=hds j
    rw [hd0] at this
    cases ho:ops[j]? with
    | none=>simp [ho] at this
    | some o'=>simpa [ho] using this
   have hmem:d∈o.looksAt ops:=by
    unfold Oper.looksAt
    rw [hg]
    simp [hd]
   split at h
   ·rename_i b' hb
    injection h with h;subst h
    obtain ⟨u,h1,h2⟩:=hs d _ hmem hb
    cases h2
    have hy:yielded ops a.tmps j=some b':=by simp [yielded,hd,h1]
    simp [Region.wanted,hg,hy]
   ·rename_i hb
    injection h with h;subst h
    obtain ⟨u,h1,h2⟩:=hs d _ hmem hb
    have h2':u=Go.undef:=h2
    subst h2'
    have hy:yielded ops a.tmps j=none:=by simp [yielded,hd,h1,Go.undef]
    simp [Region.wanted,hg,hy]
   ·cases h
  ·cases h
theorem I6 {α:Type} {p q:α->Bool} : ∀ (l:List α),(∀ x∈l,q x=true->p x=true)->(∃ x∈l,p x=true/\q x=false)->l.countP q<l.countP p
 | [],_,⟨x,hx,_⟩=>by cases hx
 | y::l,h,⟨x,hx,h1,h2⟩=>by
  have hle:l.countP q<=l.countP p:=List.countP_mono_left fun z hz=>h z (aqm _ hz)
  rw [List.countP_cons,List.countP_cons]
  rcases aqf.1 hx with rfl|hx
  ·rw [h1,h2];simp;omega
  ·have:=I6 l (fun z hz=>h z (aqm _ hz)) ⟨x,hx,h1,h2⟩
   have hy:=h y (by simp)
   cases hq:q y<;>cases hp:p y<;>simp_all<;>omega
def zZ (n:Nat) (listed:Array Bool):Nat:=(List.range n).countP fun i=>listed[i]?==some false
end
def Mr:Op->Bool
 | .load _ _=>false
 | .fieldAddr _ _ _=>false
 | .indexAddr _ _ _=>false
 | .nilCheck _=>false
 | .slice _ _ _ _ _=>false
 | .call { callee := .builtin .len, .. } => false
 | _=>true
def isLoad:Op->Bool
 | .load _ _=>true
 | _=>false
def YL (F:List Nat):Op->Bool
 | .load _ (.tmp t)=>F.contains t
 | _=>false
def okX (F:List Nat) (ti:TI) (i c:Nat) (oi oc:Op):Bool :=
 Mr oi||(YL F oi||(ti.soft&&match sk oc with
  | 1=>decide (i<c)
  | 2=>true
  | 3 => !isLoad oi
  | 4=>true
  | _=>false))
def akr (ti:TI) (o:Oper) (F:List Nat):List Nat:=match F,o.guard,o.dst,o.op with
 | [],_,_,_=>[]
 | F,none,some d, .fieldAddr _ (.tmp t) _=>if F.contains t=true then d::F else F
 | F,none,some d, .indexAddr _ (.tmp t) _=>if F.contains t=true then d::F else F
 | F,none,some d, .load ty (.tmp t)=>if F.contains t=true/\ti.agg ty=some false then d::F else F
 | F,_,_,_=>F
def UJ (ti:TI):List Oper->Nat->List Nat->List Nat
 | _,_,[]=>[]
 | o::l,n+1,F=>UJ ti l n (akr ti o F)
 | _,_,F=>F
def jN (F:List Nat) (ti:TI) (l:List Oper):Bool :=
 let ms:=masks l []
 (F.all fun t=>l.all fun o=>o.dst != some t) &&
 (l.zipIdx.all fun p=>p.1.after.toList.all fun e => !Region.binds .any e||decide (e.on<p.2)) &&
 (l.zipIdx.all fun p => !dA ti p.1.op||l.zipIdx.all fun q => !dA ti q.1.op||decide (p.2<=q.2)||(ms.getD p.2 0).testBit q.2) &&
 (l.zipIdx.all fun p=>l.zipIdx.all fun q=>decide (p.2=q.2)||(match p.1.dst with
  | some d => !(lQ l.toArray q.1).contains d||(p.1.dst != q.1.dst&&(if p.2<q.2 then (ms.getD q.2 0).testBit p.2 else (ms.getD p.2 0).testBit q.2))
  | none=>true)) &&
 (l.zipIdx.all fun p=>dA ti p.1.op||l.zipIdx.all fun q => !dA ti q.1.op||(ms.getD p.2 0).testBit q.2||(ms.getD q.2 0).testBit p.2||okX (UJ ti l p.2 F) ti p.2 q.2 p.1.op q.1.op)
def akd (ti:TI) (l:List Oper):Bool:=jN [] ti l
structure alk (F:List Nat) (ti:TI) (l:List Oper):Prop where
 fz : ∀ t∈F, ∀ o∈l,o.dst≠some t
 back : ∀ (i:Nat) o,l[i]?=some o -> ∀ e∈o.after.toList,Region.binds .any e=true->e.on<i
 chain : ∀ (i j:Nat) o o',l[i]?=some o->l[j]?=some o'->dA ti o.op=true->dA ti o'.op=true->j<i->Zg l i j
 apart : ∀ (i j:Nat) o o' d,i≠j->l[i]?=some o->l[j]?=some o'->o.dst=some d->d∈lQ l.toArray o'->o'.dst≠some d/\(if i<j then Zg l j i else Zg l i j)
 cross : ∀ (i c:Nat) o oc,l[i]?=some o->l[c]?=some oc->dA ti o.op=false->dA ti oc.op=true -> ¬ Zg l i c -> ¬ Zg l c i->okX (UJ ti l i F) ti i c o.op oc.op=true
theorem XX {F:List Nat} {ti:TI} {l:List Oper} (h:jN F ti l=true):alk F ti l:=by
 unfold jN at h
 simp only [aqg] at h
 obtain ⟨⟨⟨⟨h0,h1⟩,h2⟩,h3⟩,h4⟩:=h
 have hspec:=EH l l [] (fun q=>by simp) (fun i j hi=>by simp at hi)
 have zi : ∀ {l':List Oper} (i:Nat) o,l'[i]?=some o->(o,i)∈l'.zipIdx:=by
  intro l' i o ho
  rw [List.mem_iff_getElem?]
  exact ⟨i,by simp [List.getElem?_zipIdx,ho]⟩
 refine ⟨fun t ht o ho e=>by have:=aqO.1 (aqO.1 h0 t ht) o ho;rw [e] at this;simp at this,fun i o ho e he hb=>?_,fun i j o o' ho ho' hk hk' hj=>?_,fun i j o o' d hne ho ho' hd hn=>?_,fun i c o oc ho hoc hk hk' n1 n2=>?_⟩
 ·have:=aqO.1 (aqO.1 h1 (o,i) (zi i o ho)) e he
  simpa [hb] using this
 ·have:=aqO.1 h2 (o,i) (zi i o ho)
  simp only [hk,Bool.not_true,Bool.false_or] at this
  have:=aqO.1 this (o',j) (zi j o' ho')
  simp only [hk',Bool.not_true,Bool.false_or,Bool.or_eq_true,decide_eq_true_eq] at this
  rcases this with this|this
  ·omega
  ·exact hspec i j this
 ·have:=aqO.1 (aqO.1 h3 _ (zi i o ho)) _ (zi j o' ho')
  simp only [hne,decide_false,Bool.false_or,hd] at this
  have hc:(lQ l.toArray o').contains d=true:=by simpa using hn
  rw [hc] at this
  simp only [Bool.not_true,Bool.false_or,aqg,bne_iff_ne,ne_eq] at this
  refine ⟨fun e=>this.1 e.symm,?_⟩
  by_cases hij:i<j
  ·rw [if_pos hij] at this ⊢
   exact hspec j i this.2
  ·rw [if_neg hij] at this ⊢
   exact hspec i j this.2
 ·have:=aqO.1 h4 (o,i) (zi i o ho)
  simp only [hk,Bool.false_or] at this
  have:=aqO.1 this (oc,c) (zi c oc hoc)
  simp only [hk',Bool.not_true,Bool.false_or,Bool.or_eq_true] at this
  rcases this with (this|this)|this
  ·exact absurd (hspec i c this) n1
  ·exact absurd (hspec c i this) n2
  ·exact this
section
variable {P:Program} {ti:TI} {ρ:Operand->Option AV} {L L':List Ob}
theorem amo {F:List Nat} {op:Op} (h:YL F op=true) (hF : ∀ t∈F, ∃ x,ρ (.tmp t)=some (.one (.c x))):pop ti ρ L op=pop ti ρ L' op:=by
 unfold YL at h
 split at h
 ·rename_i ty t
  obtain ⟨x,hx⟩:=hF t (by simpa using h)
  simp only [pop,hx,apZ]
  unfold jQ
  cases x<;>rfl
 ·cases h
def Ob.vis:Ob->Bool
 | .box _=>true
 | .row _ _ _=>true
 | _=>false
def RelA (L L':List Ob):Prop := ∀ (id:Nat) x,L[id]?=some x->x.vis=true->L'[id]?=some x
def RelB (L L':List Ob):Prop := ∀ (id:Nat) ver es k,L[id]?=some (.row ver es k) -> ∃ es',L'[id]?=some (.row ver es' k)
theorem RelA.toB (h:RelA L L'):RelB L L':=fun id ver es k e=>⟨es,h id _ e rfl⟩
theorem acI {op:Op} (h:Mr op=true):pop ti ρ L op=pop ti ρ L' op:=by
 cases op with
 | call c =>
  obtain ⟨callee,args,ts⟩:=c
  cases callee with
  | builtin b=>cases b<;>first|(cases h;done)|rfl
  | _=>rfl
 | makeFunc f first captured=>cases f<;>rfl
 | _=>first|(cases h;done)|rfl
theorem QW (h:RelB L L') {s:TypeId} {i0 id ver i off:Nat} {r:AV × Prop} (e:iT ti L s i0 id ver i off=some r):iT ti L' s i0 id ver i off=some r:=by
 unfold iT at e ⊢
 split at e
 ·rename_i ver' es k o t hL hf
  obtain ⟨es',h'⟩:=h id _ _ _ hL
  rw [h',hf];exact e
 ·cases e
theorem Y_ (h:RelB L L') {t:TypeId} {id ver n:Nat} {r:AV × Prop} (e:mH ti L t id ver n=some r):mH ti L' t id ver n=some r:=by
 unfold mH at e ⊢
 split at e
 ·rename_i ver' es k hL
  obtain ⟨es',h'⟩:=h id _ _ _ hL
  rw [h'];exact e
 ·cases e
theorem QL (h:RelB L L') {t:TypeId} {id ver lo n:Nat} {ix:AV} {r:AV × Prop} (e:iU ti L t id ver lo n ix=some r):iU ti L' t id ver lo n ix=some r:=by
 unfold iU at e ⊢
 split at e
 ·rename_i ver' es k' kk i k hL hk
  obtain ⟨es',h'⟩:=h id _ _ _ hL
  rw [h',hk];exact e
 ·cases e
theorem y_ (h:RelB L L') {t:TypeId} {x:AV} {lo hi:Option AV} {r:AV × Prop} (e:iP ti L t x lo hi=some r):iP ti L' t x lo hi=some r:=by
 unfold iP at e ⊢
 split at e
 ·exact e
 ·rename_i id ver lo0 n
  split at e
  ·rename_i ver' es k' k hL hk
   obtain ⟨es',h'⟩:=h id _ _ _ hL
   simp only [h',hk]
   exact e
  ·cases e
 ·exact e
theorem agR (h:RelB L L') {op:Op} (hl:isLoad op=false) {r:AV × Prop} (e:pop ti ρ L op=some r):pop ti ρ L' op=some r:=by
 by_cases hins:Mr op=true
 ·rw [<- acI hins (L:=L)];exact e
 unfold pop at e ⊢
 split at e
 all_goals first
  | exact e
  | (cases hl;done)
  | skip
 ·split at e
  ·exact QW h e
  ·exact e
  ·cases e
 ·split at e
  ·exact QL h e
  ·exact e
  ·cases e
 ·split at e
  ·exact e
  ·exact e
  ·rename_i id ver i o hx
   split at e
   ·rename_i ver' es k hL
    obtain ⟨es',h'⟩:=h id _ _ _ hL
    simp only [h'];exact e
   ·cases e
  ·exact e
  ·exact e
  ·cases e
 ·split at e
  ·exact y_ h e
  ·exact y_ h e
  ·exact y_ h e
  ·exact y_ h e
  ·cases e
 ·split at e
  ·split at e
   ·exact Y_ h e
   ·exact e
   ·cases e
  ·cases e
theorem afH (h:RelA L L') {t:TypeId} {x:AV} {r:AV × Prop} (e:jQ ti L t x=some r):jQ ti L' t x=some r:=by
 unfold jQ at e ⊢
 split at e
 ·exact e
 ·rename_i id off
  split at e
  ·rename_i cs hL
   simp only [h id _ hL rfl];exact e
  ·cases e
 ·rename_i id ver i o
  split at e
  ·rename_i ver' es k hL
   simp only [h id _ hL rfl];exact e
  ·cases e
 ·cases e
theorem YC (h:RelA L L') {op:Op} {r:AV × Prop} (e:pop ti ρ L op=some r):pop ti ρ L' op=some r:=by
 cases hl:isLoad op with
 | false=>exact agR h.toB hl e
 | true =>
  cases op<;>first|(cases hl;done)|skip
  rename_i t p
  simp only [pop] at e ⊢
  cases hp:ρ p with
  | none=>simp [hp] at e
  | some v=>simp only [hp,apZ] at e ⊢;exact afH h e
theorem akk {op:Op} {v:AV} {φ:Prop} (h:K9 ti ρ L op=some (v,L',φ)):(sk op=1->RelA L L')/\(sk op=2->RelA L L'/\RelA L' L)/\(sk op=3->RelB L L'/\RelB L' L):=by
 have grow : ∀ x,RelA L (L++[x]):=fun x id y hy _=>by rw [aqc (ap0.1 hy).1];exact hy
 have setA : ∀ (i:Nat) (x y:Ob),L[i]?=some x->x.vis=false->y.vis=false->RelA L (L.set i y)/\RelA (L.set i y) L:=by
  intro i x y hx hv hv'
  have hlt:=(ap0.1 hx).1
  refine ⟨fun id z hz hvz=>?_,fun id z hz hvz=>?_⟩
  ·by_cases e:id=i
   ·subst e;rw [hx] at hz;injection hz with hz;subst hz;rw [hv] at hvz;cases hvz
   ·rw [aqi (Ne.symm e)];exact hz
  ·by_cases e:id=i
   ·subst e;rw [aqh hlt] at hz;injection hz with hz;subst hz;rw [hv'] at hvz;cases hvz
   ·rw [aqi (Ne.symm e)] at hz;exact hz
 unfold K9 at h
 split at h
 ·split at h
  ·injection h with h;injection h with e1 e2;injection e2 with e2 e3;subst e2
   exact ⟨fun _=>grow _,fun e=>(by cases e),fun e=>by cases e⟩
  ·cases h
 ·split at h
  ·injection h with h;injection h with e1 e2;injection e2 with e2 e3;subst e2
   exact ⟨fun _=>grow _,fun e=>(by cases e),fun e=>by cases e⟩
  ·cases h
 ·refine ⟨fun e=>(by cases e),fun e=>(by cases e),fun _=>?_⟩
  split at h
  ·rename_i id off xs hp hx
   split at h
   ·rename_i cs hL
    injection h with h;injection h with e1 e2;injection e2 with e2 e3;subst e2
    have hlt:=(ap0.1 hL).1
    refine ⟨fun id' ver es k e=>?_,fun id' ver es k e=>?_⟩
    ·by_cases hid:id'=id
     ·subst hid;rw [hL] at e;cases e
     ·exact ⟨es,by rw [aqi (Ne.symm hid)];exact e⟩
    ·by_cases hid:id'=id
     ·subst hid;rw [aqh hlt] at e;cases e
     ·exact ⟨es,by rw [aqi (Ne.symm hid)] at e;exact e⟩
   ·cases h
  ·rename_i id ver i o xs hp hx
   split at h
   ·rename_i ver' es k hL
    split at h
    ·rename_i e0 he0
     injection h with h;injection h with e1 e2;injection e2 with e2 e3;subst e2
     have hlt:=(ap0.1 hL).1
     refine ⟨fun id' ver2 es2 k2 e=>?_,fun id' ver2 es2 k2 e=>?_⟩
     ·by_cases hid:id'=id
      ·subst hid;rw [hL] at e;injection e with e;injection e with q1 q2 q3;subst q1 q2 q3
       exact ⟨_,aqh hlt⟩
      ·exact ⟨es2,by rw [aqi (Ne.symm hid)];exact e⟩
     ·by_cases hid:id'=id
      ·subst hid;rw [aqh hlt] at e;injection e with e;injection e with q1 q2 q3;subst q1 q2 q3
       exact ⟨es,hL⟩
      ·exact ⟨es2,by rw [aqi (Ne.symm hid)] at e;exact e⟩
    ·cases h
   ·cases h
  ·cases h
 ·refine ⟨fun e=>(by cases e),fun _=>?_,fun e=>by cases e⟩
  split at h
  ·split at h
   ·unfold AZ at h
    split at h
    ·split at h
     ·split at h
      ·injection h with h;injection h with e1 e2;injection e2 with e2 e3;subst e2
       refine ⟨grow _,fun id x hx hv=>?_⟩
       by_cases hid:id<L.length
       ·rw [aqc hid] at hx;exact hx
       ·rw [ap7 (by omega)] at hx
        have:=(ap0.1 hx).1
        have h0:id-L.length=0:=by simp at this;omega
        rw [h0] at hx;simp at hx;subst hx;cases hv
      ·split at h
       ·rename_i hL
        injection h with h;injection h with e1 e2;injection e2 with e2 e3;subst e2
        exact setA _ _ _ hL rfl rfl
       ·cases h
      ·cases h
     ·cases h
    ·cases h
   ·cases h
  ·cases h
 ·cases h
theorem aeU {ρ':Operand->Option AV} {op:Op} (h : ∀ x,x∈op.operands->ρ x=ρ' x):K9 ti ρ L op=K9 ti ρ' L op:=by
 unfold K9
 split
 ·rfl
 ·rename_i t x;rw [h x (by simp [Op.operands])]
 ·rename_i t p x;rw [h p (by simp [Op.operands]),h x (by simp [Op.operands])]
 ·rename_i args ts
  split
  ·rename_i s x t tx hs hx
   rw [h s (by simp [Op.operands,Call.operands];rw [<- Array.mem_toList_iff,hs];simp),h x (by simp [Op.operands,Call.operands];rw [<- Array.mem_toList_iff,hs];simp)]
  ·rfl
 ·rfl
theorem R4 {ρ':Operand->Option AV} : ∀ (xs:List Operand),(∀ x∈xs,ρ x=ρ' x)->avs ρ xs=avs ρ' xs
 | [],_=>rfl
 | x::xs,h=>by
  have h1:ρ x=ρ' x:=h x (by simp)
  have h2:=R4 xs fun y hy=>h y (aqm _ hy)
  simp only [avs,h1,h2]
theorem DN {ρ':Operand->Option AV} {op:Op} (h : ∀ x,x∈op.operands->ρ x=ρ' x):iY ti ρ op=iY ti ρ' op:=by
 unfold iY
 split
 ·rename_i f args ts
  split
  ·rename_i x xs ho hxs
   have hm : ∀ y,y∈x::xs->ρ y=ρ' y:=fun y hy=>h y (by simp [Op.operands,Call.operands];exact .inr (by rw [<- Array.mem_toList_iff,hxs];exact hy))
   rw [hm x (by simp),rF xs fun y hy=>hm y (aqm _ hy)]
  ·rfl
 ·rfl
theorem Q8 {ρ':Operand->Option AV} {op:Op} (h : ∀ x,x∈op.operands->ρ x=ρ' x):fM ti ρ op=fM ti ρ' op:=by
 unfold fM
 split
 ·rename_i f args ts
  have h1:ρ f=ρ' f:=h f (by simp [Op.operands,Call.operands])
  have h2:avs ρ args.toList=avs ρ' args.toList:=R4 _ fun x hx=>h x (by simp [Op.operands,Call.operands];exact .inr (by simpa using hx))
  rw [h1,h2]
 ·rfl
theorem afG {ρ':Operand->Option AV} {op:Op} {v:AV} (h : ∀ x,x∈op.operands->ρ x=ρ' x) (hs:yU P ρ L op v L'):yU P ρ' L op v L' :=
 fun B R γ w ev o ho hi hρ hfv=>hs B R γ w ev o ho hi (fun x hx v hv=>hρ x hx v (by rw [<- h x hx];exact hv)) hfv
theorem KL {ρ':Operand->Option AV} {op:Op} {K:AV->List Ob->Prop} (h : ∀ x,x∈op.operands->ρ x=ρ' x) (ha:ll P ti ρ L K op):ll P ti ρ' L K op:=by
 rcases ha with ha|ha|ha|ha|ha|ha|ha|⟨v,L',h1,h2,h3⟩
 ·rw [Rv h] at ha;exact .inl ha
 ·rw [J5 h] at ha;exact .inr (.inl ha)
 ·rw [aeU h] at ha;exact .inr (.inr (.inl ha))
 ·rw [FC h] at ha;exact .inr (.inr (.inr (.inl ha)))
 ·rw [DN h] at ha;exact .inr (.inr (.inr (.inr (.inl ha))))
 ·rw [DN h] at ha;exact .inr (.inr (.inr (.inr (.inr (.inl ha)))))
 ·rw [Q8 h] at ha;exact .inr (.inr (.inr (.inr (.inr (.inr (.inl ha))))))
 ·exact .inr (.inr (.inr (.inr (.inr (.inr (.inr ⟨v,L',h1,afG h h2,h3⟩))))))
theorem adB {op:Op} {K:AV->List Ob->Prop} (ha:ll P ti ρ L K op) : ∃ v L1,ll P ti ρ L (fun v' L'=>v'=v/\L'=L1) op/\K v L1:=by
 rcases ha with ⟨v,φ,hp,hφ,hk⟩|⟨v,φ,hp,hφ,hk⟩|⟨v,L',φ,hp,hφ,hk⟩|⟨g,ps,r,hc,hP,hk⟩|⟨g,es,t,k,ps,es',hc,h1,h2,hk⟩|⟨g,k,ps,es',hc,h1,hk⟩|⟨σ,g,L0,asx,L1,r,hc,h1,h2,hk⟩|⟨v,L',h1,h2,hk⟩
 ·exact ⟨v,_, .inl ⟨v,φ,hp,hφ,rfl,rfl⟩,hk⟩
 ·exact ⟨v,_, .inr (.inl ⟨v,φ,hp,hφ,rfl,rfl⟩),hk⟩
 ·exact ⟨v,_, .inr (.inr (.inl ⟨v,L',φ,hp,hφ,rfl,rfl⟩)),hk⟩
 ·exact ⟨_,_, .inr (.inr (.inr (.inl ⟨g,ps,r,hc,hP,rfl,rfl⟩))),hk⟩
 ·exact ⟨_,_, .inr (.inr (.inr (.inr (.inl ⟨g,es,t,k,ps,es',hc,h1,h2,rfl,rfl⟩)))),hk⟩
 ·exact ⟨_,_, .inr (.inr (.inr (.inr (.inr (.inl ⟨g,k,ps,es',hc,h1,rfl,rfl⟩))))),hk⟩
 ·exact ⟨_,_, .inr (.inr (.inr (.inr (.inr (.inr (.inl ⟨σ,g,L0,asx,L1,r,hc,h1,h2,rfl,rfl⟩)))))),hk⟩
 ·exact ⟨_,_, .inr (.inr (.inr (.inr (.inr (.inr (.inr ⟨v,L',h1,h2,rfl,rfl⟩)))))),hk⟩
theorem quiet_move {op:Op} {v:AV} {L1:List Ob} (hl:dA ti op=false) (ha:ll P ti ρ L (fun v' L'=>v'=v/\L'=L1) op) (hr : ∀ r,pop ti ρ L op=some r->pop ti ρ L' op=some r):ll P ti ρ L' (fun v' L''=>v'=v/\L''=L') op:=by
 rcases ha with ⟨v',φ,hp,hφ,hk⟩|⟨v',φ,hp,hφ,hk⟩|⟨v',L',φ,hp,_⟩|⟨g,ps,r,hc,hP,hk⟩|⟨g,es,t,k,ps,es',hc,_⟩|⟨g,k,ps,es',hc,_⟩|⟨σ,g,L0,asx,L1,r,hc,_⟩|⟨v',L',hk,_⟩
 ·exact .inl ⟨v',φ,hr _ hp,hφ,hk.1,rfl⟩
 ·exact .inr (.inl ⟨v',φ,hp,hφ,hk.1,rfl⟩)
 ·rw [Pg hp] at hl;cases hl
 ·exact .inr (.inr (.inr (.inl ⟨g,ps,r,hc,hP,hk.1,rfl⟩)))
 ·rw [kJ hc] at hl;cases hl
 ·rw [kJ hc] at hl;cases hl
 ·rw [zy hc] at hl;cases hl
 ·rw [hk.1] at hl;cases hl
theorem EM {op:Op} {v:AV} {L1:List Ob} (hl:dA ti op=false) (ha:ll P ti ρ L (fun v' L'=>v'=v/\L'=L1) op):L1=L:=by
 obtain ⟨v',_,h1,h2⟩:=Y1 hl ha
 exact h2.symm
theorem aiD {op:Op} {v:AV} {L1:List Ob} (hs:ti.soft=true) (h0:sk op≠0) (ha:ll P ti ρ L (fun v' L'=>v'=v/\L'=L1) op):(sk op=1->RelA L L1)/\(sk op=2->RelA L L1/\RelA L1 L)/\(sk op=3->RelB L L1/\RelB L1 L)/\(sk op=4->RelA L L1/\RelA L1 L):=by
 have self:RelA L L/\RelB L L:=⟨fun _ _ h _=>h,fun _ _ es _ h=>⟨es,h⟩⟩
 have hcall : ∀ c,op = .call c->(∀ f,c.callee = .value f->False):=by
  intro c e f hf
  subst e
  obtain ⟨callee,args,ts⟩:=c
  simp only at hf;subst hf
  exact h0 rfl
 rcases ha with ⟨v',φ,hp,hφ,rfl,rfl⟩|⟨v',φ,hp,hφ,rfl,rfl⟩|⟨v',L',φ,hp,hφ,rfl,rfl⟩|⟨g,ps,r,hc,hP,rfl,rfl⟩|⟨g,es,t,k,ps,es',hc,_⟩|⟨g,k,ps,es',hc,_⟩|⟨σ,g,L0,asx,L2,r,hc,_⟩|⟨v',L',hk,hh⟩
 ·exact ⟨fun _=>self.1,fun _=>⟨self.1,self.1⟩,fun _=>⟨self.2,self.2⟩,fun _=>⟨self.1,self.1⟩⟩
 ·exact ⟨fun _=>self.1,fun _=>⟨self.1,self.1⟩,fun _=>⟨self.2,self.2⟩,fun _=>⟨self.1,self.1⟩⟩
 ·obtain ⟨q1,q2,q3⟩:=akk hp
  refine ⟨q1,q2,q3,fun e4=>?_⟩
  exfalso
  unfold K9 at hp
  split at hp<;>first|(cases e4;done)|(cases hp;done)
 ·exact ⟨fun _=>self.1,fun _=>⟨self.1,self.1⟩,fun _=>⟨self.2,self.2⟩,fun _=>⟨self.1,self.1⟩⟩
 ·exfalso
  unfold iY at hc
  split at hc
  ·exact hcall _ rfl _ rfl
  ·cases hc
 ·exfalso
  unfold iY at hc
  split at hc
  ·exact hcall _ rfl _ rfl
  ·cases hc
 ·exfalso
  unfold fM at hc
  split at hc
  ·exact hcall _ rfl _ rfl
  ·cases hc
 ·rcases hk.2 hs with e|⟨e4,rfl⟩
  ·exact absurd e h0
  ·obtain ⟨_,_,rfl⟩:=hh
   exact ⟨fun _=>self.1,fun _=>⟨self.1,self.1⟩,fun _=>⟨self.2,self.2⟩,fun _=>⟨self.1,self.1⟩⟩
end
end Go.Proofs.YtlcceppoloaecaaGreatDoor
