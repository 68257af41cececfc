/- Parts. No condition. -/
import Derived.Test.YtlcceppoloaecaaGreatDoorKAB
import Derived.LoopN
set_option linter.unusedSimpArgs false
set_option linter.unusedVariables false
namespace Go.Proofs.YtlcceppoloaecaaGreatDoor
open Go.RowKit
inductive AX where
 |normal
 |exit (id:Nat)
 |ret
 deriving DecidableEq
def AX.ex:AX->Exit
 |.normal => .normal
 |.exit id => .exit id
 |.ret => .ret
structure qF (n0:Nat)(R R':PH)(γ γ':List Gh)(L L':List Ob):Prop where
 lo:n0<=L.length
 lo':n0<=L'.length
 mv:Mv R R' (γ.take n0) γ' (L.take n0) L'
theorem Mv.cutL {n0:Nat}{R R':PH}{γ γ':List Gh}{L L':List Ob}(h:Mv R R' γ γ' L L'):Mv R R' (γ.take n0) γ' (L.take n0) L':=by
 refine⟨h.sub,by simp;have:=h.len;omega,λt n k O0 e=>?_,λt O1 es k O0 e=>?_,λid b e=>?_⟩
 ·have P3:t<n0/\t<L.length:=by rw[ari]at O0;omega
  obtain⟨m,a,b,c⟩:=h.tok t n k P3.2 e;exact⟨m,by rw[aqU,if_pos P3.1];exact a,b,λq=>by rw[aqU,if_pos P3.1];exact c q⟩
 ·have P3:t<n0/\t<L.length:=by rw[ari]at O0;omega
  obtain⟨v0,m,a,b,c⟩:=h.row t O1 es k P3.2 e;exact⟨v0,m,by rw[aqU,if_pos P3.1];exact a,b,λq=>⟨(c q).1,by rw[aqU,if_pos P3.1];exact(c q).2⟩⟩
 ·rw[aqU]at e
  split at e
  ·exact h.ptr id b e
  ·cases e
theorem Mv.cutR {n:Nat}{R R':PH}{γ γ':List Gh}{L L':List Ob}(h:Mv R R' γ γ' L L')(hg:γ.length=L.length)(hn:L.length<=n):Mv R R' γ (γ'.take n) L (L'.take n):=by
 refine⟨h.sub,by simp;have:=h.len;omega,λt m k O0 e=>?_,λt O1 es k O0 e=>?_,λid b e=>?_⟩
 ·rw[aqU,if_pos m0]at e
  rw[aqU,if_pos m0];exact h.tok t m k O0 e
 ·rw[aqU,if_pos m0]at e
  rw[aqU,if_pos m0];exact h.row t O1 es k O0 e
 ·have:=(aqp.1 e).1
  rw[aqU,if_pos m0];exact h.ptr id b e
theorem qF.of {n0:Nat}{R R':PH}{γ γ':List Gh}{L L':List Ob}(hn:n0<=L.length)(h:Mv R R' γ γ' L L'):qF n0 R R' γ γ' L L':=⟨hn,Nat.le_trans hn h.len,h.cutL⟩
theorem qF.trans {n0:Nat}{R R' Vw:PH}{γ γ' γ'':List Gh}{L L' XQ:List Ob}(hg:γ.length=L.length)(h:qF n0 R R' γ γ' L L')(g:qF n0 R' Vw γ' γ'' L' XQ):qF n0 R Vw γ γ'' L XQ:=by
 refine⟨h.lo,g.lo',Mv.trans (h.mv.cutR (n:=n0) (by simp[hg]) m8) g.mv⟩
theorem qF.cut {n0:Nat}{R:PH}{γ:List Gh}{L G:List Ob}(hg:γ.length=(L++G).length)(hn:n0<=L.length):qF n0 R R γ (γ.take L.length) (L++G) L:=by
 refine⟨by simp;omega,hn,?_⟩;have:=(Mv.refl (R:=R) (γ:=γ) (L:=L++G)).cutL (n0:=n0);have:=this.cutR (n:=L.length) (by simp at hg ⊢;omega) m8;simpa using this
def vK (N n0:Nat)(B:Nat->Prop)(Q:AX->Tm->List Ob->Prop)(R:PH)(w:World)(γ:List Gh)(L:List Ob)(e:Exit)(a':Act)(w':World):Prop :=
 ∃ x T' L' R' γ',e=x.ex/\Q x T' L'/\Inv B R' γ' L' w'/\fG N R' γ' L' T' a'/\Ext B R R' w w'/\qF n0 R R' γ γ' L L'
def Aw (P:Program)(N n0:Nat)(c:Code)(Q:AX->Tm->List Ob->Prop)(T:Tm)(L:List Ob):Prop :=
 n0<=L.length ->∀ B R γ w a,Inv B R γ L w->fG N R γ L T a->c.wp P (vK N n0 B Q R w γ L) a w
@[reducible] def AX.then (A:Tm->List Ob->Prop)(Q:AX->Tm->List Ob->Prop):AX->Tm->List Ob->Prop
 |.normal,T,L=>A T L
 |e,T,L=>Q e T L
@[reducible] def AX.inBlock (id:Nat)(Q:AX->Tm->List Ob->Prop):AX->Tm->List Ob->Prop
 |.exit j,T,L=>if j=id then Q .normal T L else Q (.exit j) T L
 |e,T,L=>Q e T L
section
variable {P:Program} {ti:TI} {N n0:Nat} {Q:AX->Tm->List Ob->Prop} {T:Tm} {L:List Ob}
theorem Aw.mono {c:Code}{Q':AX->Tm->List Ob->Prop}(h:Aw P N n0 c Q T L)(hq:∀ x T L,Q x T L->Q' x T L):Aw P N n0 c Q' T L :=
 λhn B R γ w a hi hT=>wp_mono (h hn B R γ w a hi hT) λ_ _ _ ⟨x,T',L',R',γ',e,q,r⟩=>⟨x,T',L',R',γ',e,hq _ _ _ q,r⟩
theorem vK.ext {B:Nat->Prop}{R R1:PH}{w w1:World}{γ γ1:List Gh}{L1:List Ob}{e:Exit}{a':Act}{w':World}(h:vK N n0 B Q R1 w1 γ1 L1 e a' w')(he:Ext B R R1 w w1)(hg:γ.length=L.length)(hm:qF n0 R R1 γ γ1 L L1):vK N n0 B Q R w γ L e a' w' :=
 let ⟨x,T',L',R',γ',h1,h2,h3,h4,h5,h6⟩:=h;⟨x,T',L',R',γ',h1,h2,h3,h4,he.trans h5,hm.trans hg h6⟩
theorem aw_skip (h:Q .normal T L):Aw P N n0 .skip Q T L:=λhn _ R γ w a hi hT=>wp_skip ⟨.normal,T,L,R,γ,rfl,h,hi,hT,Ext.refl _ _ _,qF.of hn Mv.refl⟩
theorem rA {l:Nat}(h:Q .normal T L):Aw P N n0 (.label l) Q T L:=λhn _ R γ w a hi hT=>wp_label ⟨.normal,T,L,R,γ,rfl,h,hi,hT,Ext.refl _ _ _,qF.of hn Mv.refl⟩
theorem aw_ret (h:Q .ret T L):Aw P N n0 .ret Q T L:=λhn _ R γ w a hi hT=>wp_ret ⟨.ret,T,L,R,γ,rfl,h,hi,hT,Ext.refl _ _ _,qF.of hn Mv.refl⟩
theorem aw_exit {id:Nat}(h:Q (.exit id) T L):Aw P N n0 (.exit id) Q T L:=λhn _ R γ w a hi hT=>wp_exit ⟨.exit id,T,L,R,γ,rfl,h,hi,hT,Ext.refl _ _ _,qF.of hn Mv.refl⟩
theorem aw_seq {x y:Code}(h:Aw P N n0 x (AX.then (Aw P N n0 y Q) Q) T L):Aw P N n0 (.seq x y) Q T L:=by
 intro hn B R γ w a hi hT;refine wp_seq (wp_mono (h hn B R γ w a hi hT) ?_);rintro e a1 w1 ⟨x,T1,L1,R1,γ1,rfl,q,i1,t1,e1,m1⟩
 cases x with
 |normal=>exact wp_mono (q m1.lo' B R1 γ1 w1 a1 i1 t1) λ_ _ _ hh=>hh.ext e1 hi.len m1
 |exit id=>exact⟨.exit id,T1,L1,R1,γ1,rfl,q,i1,t1,e1,m1⟩
 |ret=>exact⟨.ret,T1,L1,R1,γ1,rfl,q,i1,t1,e1,m1⟩
theorem aw_cond {c:Operand}{x y:Code}{b:Bool}(hc:look T c=some (.one (.c (.bool b))))(h1:b=true->Aw P N n0 x Q T L)(h2:b=false->Aw P N n0 y Q T L):Aw P N n0 (.cond c x y) Q T L:=by
 intro hn B R γ w a hi hT;have hv:=Dy hT hc;have he:a.eval c = .bool b:=by
  generalize a.eval c=v at hv
  cases hv;rfl
 exact wp_cond_split he (λe=>h1 e hn B R γ w a hi hT) (λe=>h2 e hn B R γ w a hi hT)
theorem aw_block {id:Nat}{c:Code}(h:Aw P N n0 c (AX.inBlock id Q) T L):Aw P N n0 (.block id c) Q T L:=by
 intro hn B R γ w a hi hT;refine wp_block (wp_mono (h hn B R γ w a hi hT) ?_);rintro e a1 w1 ⟨x,T1,L1,R1,γ1,rfl,q,i1,t1,e1,m1⟩
 cases x with
 |normal=>exact⟨.normal,T1,L1,R1,γ1,rfl,q,i1,t1,e1,m1⟩
 |ret=>exact⟨.ret,T1,L1,R1,γ1,rfl,q,i1,t1,e1,m1⟩
 |exit j =>
  simp only[AX.inBlock]at q;by_cases hj:j=id
  ·subst hj
   rw[if_pos rfl]at q;show Exit.inBlock j _ (.exit j) a1 w1;simp only[Exit.inBlock,if_true];exact⟨.normal,T1,L1,R1,γ1,rfl,q,i1,t1,e1,m1⟩
  ·rw[if_neg hj]at q
   show Exit.inBlock id _ (.exit j) a1 w1;simp only[Exit.inBlock,if_neg hj];exact⟨.exit j,T1,L1,R1,γ1,rfl,q,i1,t1,e1,m1⟩
theorem af' {l:List Oper}{ds:List (Option Tmp)}(SO:l.map (·.dst)=ds)(j:Nat):(l.toArray[j]?).map (·.dst)=ds[j]?:=by rw[<- SO];simp
theorem aw_region (O_:TIok P ti){id:Nat}{l:List Oper}(ds:List (Option Tmp))(SO:l.map (·.dst)=ds)(h:aI P ti N ds (Q .normal) l T L):Aw P N n0 (.region id l.toArray false) Q T L:=by
 intro hn B R γ w a hi hT;refine wp_region_lit (pe O_ (af' SO) l R γ L T a w h hi hT ?_);intro T' L' R' γ' w' a' hk h1 h2 h3 h4;exact⟨.normal,T',L',R',γ',rfl,hk,h1,h2,h3,qF.of hn h4⟩
structure Fits (T':Tm)(L':List Ob)(T:Tm)(L:List Ob):Prop where
 slots:∀ p∈T,T'.lookup p.1=some p.2
 pre:∃ G,L'=L++G
 below:∀ p∈T,p.2.below L.length
 objs:∀ x∈L,x.below L.length
theorem SV.cut {R:PH}{γ:List Gh}{L G:List Ob}(hl:γ.length=(L++G).length){x:SV}{v:Value}(h:x.rep R γ (L++G) v)(hb:x.below L.length):x.rep R (γ.take L.length) L v:=by
 cases x with
 |c y=>exact h
 |emp=>exact h
 |own es t =>
  obtain⟨h1,_,h2⟩:=h;have ht:t<L.length:=hb;refine⟨h1,ht,λn k e0=>?_⟩;obtain⟨h3,h4,h5⟩:=h2 n k (by rw[aqE ht];exact e0);refine⟨h3,h4,λe=>?_⟩;obtain⟨g,g1,g2⟩:=h5 e;exact⟨g,by rw[aqU,if_pos ht];exact g1,g2⟩
 |ptr id off =>
  obtain⟨b,h1,h2⟩:=h;have ht:id<L.length:=hb;exact⟨b,h1,by rw[aqU,if_pos ht];exact h2⟩
 |sl id O1 lo n =>
  obtain⟨h0,_,h2⟩:=h;have ht:id<L.length:=hb;refine⟨h0,ht,λPo es k e0=>?_⟩;rw[aqU,if_pos ht];exact h2 Po es k (by rw[aqE ht];exact e0)
 |ep id O1 i o =>
  obtain⟨h0,_,h2⟩:=h;have ht:id<L.length:=hb;refine⟨h0,ht,λPo es k e0=>?_⟩;rw[aqU,if_pos ht];exact h2 Po es k (by rw[aqE ht];exact e0)
 |mp id =>
  obtain⟨b,h1,h2⟩:=h;have ht:id<L.length:=hb;exact⟨b,h1,by rw[aqU,if_pos ht];exact h2⟩
 |clo f Pj =>
  obtain⟨vs,h1,h2,h3⟩:=h;refine⟨vs,h1,h2,λj u x hu hx=>?_⟩;have hr:=h3 j u x hu hx;have hbx:x.below L.length:=hb x (aqw hx)
  cases x with
  |c y=>exact hr
  |ptr id off =>
   obtain⟨b,g1,g2⟩:=hr;have ht:id<L.length:=hbx;exact⟨b,g1,by rw[aqU,if_pos ht];exact g2⟩
theorem AV.cut {R:PH}{γ:List Gh}{L G:List Ob}(hl:γ.length=(L++G).length){x:AV}{v:Value}(h:x.rep R γ (L++G) v)(hb:x.below L.length):x.rep R (γ.take L.length) L v:=by
 cases x with
 |one x=>exact SV.cut hl h hb
 |agg xs =>
  obtain⟨vs,h1,h2,h3⟩:=h;exact⟨vs,h1,h2,λj u x hu hx=>SV.cut hl (h3 j u x hu hx) (hb x (aqw hx))⟩
 |tup ps=>exact h
 |tupS xs =>
  obtain⟨vs,h1,h2,h3⟩:=h;exact⟨vs,h1,h2,λj u x hu hx=>SV.cut hl (h3 j u x hu hx) (hb x (aqw hx))⟩
 |undef=>exact h
theorem kp:∀ {T:Tm} {t:Nat} {x:AV},T.lookup t=some x->(t,x)∈T
 |(k,y)::T,t,x,h=>by
  rw[List.lookup_cons]at h;by_cases e:t=k
  ·subst e;simp at h;subst h;exact arc ..
  ·have:(t==k)=false:=by simpa using e
   rw[this]at h;exact aqO _ (kp h)
theorem Fits.sound {T':Tm}{L':List Ob}(hf:Fits T' L' T L){B:Nat->Prop}{R:PH}{γ:List Gh}{w:World}{a:Act}(hi:Inv B R γ L' w)(hT:fG N R γ L' T' a):Inv B R (γ.take L.length) L w/\fG N R (γ.take L.length) L T a:=by
 obtain⟨G,rfl⟩:=hf.pre;have hl:γ.length=(L++G).length:=hi.len;have hlen:(γ.take L.length).length=L.length:=by rw[ari,hl];simp
 have get:∀ (i:Nat) g,(γ.take L.length)[i]?=some g->i<L.length/\γ[i]?=some g:=by
  intro i g hg;rw[aqU]at hg;split at hg
  ·rename_i h;exact⟨h,hg⟩
  ·cases hg
 refine⟨⟨hlen,hi.val,λid x g hx hg=>?_,λi j gi gj h1 h2=>hi.inj i j gi gj (get i gi h1).2 (get j gj h2).2,λi g b hg=>hi.new i g b (get i g hg).2,hi.bsz⟩,⟨hT.size,hT.defers,λt x h=>?_⟩⟩
 ·obtain⟨O0,Rt⟩:=get id g hg
  have QT:=hi.obj id x g (by rw[aqE O0];exact hx) Rt;have hb:=hf.objs x (aqw hx)
  match x,g,QT,hb with
  |.box cs,.box b,⟨⟨vs,E,h1,h2,h3⟩,h4⟩,hb=>exact⟨⟨vs,E,h1,h2,λj u x hu hx=>SV.cut hl (h3 j u x hu hx) (hb x (aqw hx))⟩,h4⟩
  |.spare n k,.arr b c,QT,_=>exact QT
  |.spare n k,.none,QT,_=>exact QT
  |.row O1 es k,.arr b c,⟨⟨vs,E,h1,h2,h3⟩,h4⟩,hb=>exact⟨⟨vs,E,h1,h2,λi e j u x he hu hx=>SV.cut hl (h3 i e j u x he hu hx) (hb e (aqw he) x (aqw hx))⟩,h4⟩
  |.row O1 es k,.none,QT,_=>exact QT
  |.map Qe,.box b,⟨⟨es,h1,h2,h3⟩,h4⟩,hb=>exact⟨⟨es,h1,h2,λj e p he hp=>⟨(h3 j e p he hp).1,(h3 j e p he hp).2.1,AV.cut hl (h3 j e p he hp).2.2 (hb p (aqw hp))⟩⟩,h4⟩
  |.dead,.none,QT,_=>exact QT
  |.dead,.box _,QT,_=>exact QT
 ·have hm:=kp h
  obtain⟨u,h1,h2⟩:=hT.slot t x (hf.slots (t,x) hm);exact⟨u,h1,AV.cut hl h2 (hf.below (t,x) hm)⟩
theorem Fits.mvn {T':Tm}{L':List Ob}(hf:Fits T' L' T L){B:Nat->Prop}{R:PH}{γ:List Gh}{w:World}(hi:Inv B R γ L' w)(hn:n0<=L.length):qF n0 R R γ (γ.take L.length) L' L:=by
 obtain⟨G,rfl⟩:=hf.pre;exact qF.cut hi.len hn
theorem bS {c:Code}(t k:Nat)(ht:T.lookup t=some (.one .emp))(h:Aw P N n0 c Q ((t,.one (.own [] L.length))::T) (L++[.spare 0 k])):Aw P N n0 c Q T L:=by
 intro hn B R γ w a hi hT;have hm:Mv R R γ (γ++[.none]) L (L++[.spare 0 k]):=Mv.push _ _ hi.len;refine wp_mono (h m8 B R (γ++[.none]) w a (hi.tok k) ?_) λ_ _ _ hh=>hh.ext (Ext.refl _ _ _) hi.len (qF.of hn hm)
 refine⟨hT.size,hT.defers,λt' x hx=>?_⟩;rw[List.lookup_cons]at hx;by_cases e:t'=t
 ·subst e
  simp at hx;subst hx;obtain⟨u,h1,b,rfl⟩:=hT.slot t' _ ht;exact⟨_,h1,dq _ _ _,m5,λn2 k2 _=>⟨m5,m5,λ_=>⟨.none,by rw[<- hi.len];simp,b,m5⟩⟩⟩
 ·have:(t'==t)=false:=by simpa using e
  rw[this]at hx;exact(hT.mv hm).slot t' x hx
theorem xw {c:Code}(id j k:Nat){cs:List SV}(hid:L[id]?=some (.box cs))(hj:cs[j]?=some .emp)(h:Aw P N n0 c Q T (L.set id (.box (cs.set j (.own [] L.length)))++[.spare 0 k])):Aw P N n0 c Q T L:=by
 intro hn B R γ w a hi hT;have O0:=(aqp.1 hid).1;have hm:Mv R R γ (γ++[.none]) L (L.set id (.box (cs.set j (.own [] L.length)))++[.spare 0 k]):=by
  refine⟨PH.sub_refl _,m5,λt n k' P3 e=>⟨n,?_,aqG _,λ_=>?_⟩,λt O1 Ut k' P3 e=>⟨O1,Ut,?_,aqG _,λ_=>⟨rfl,?_⟩⟩,λi b e=>?_⟩
  ·rw[aqE (by simpa using P3)]at e
   have Pn:t≠id:=by rintro rfl;rw[aqJ P3]at e;cases e
   rw[aqK (Ne.symm Pn)]at e;exact e
  ·rw[aqE (by rw[hi.len];exact P3)]
  ·rw[aqE (by simpa using P3)]at e
   have Pn:t≠id:=by rintro rfl;rw[aqJ P3]at e;cases e
   rw[aqK (Ne.symm Pn)]at e;exact e
  ·rw[aqE (by rw[hi.len];exact P3)]
  ·rw[aqE (aqp.1 e).1];exact e
 refine wp_mono (h m8 B R (γ++[.none]) w a ?_ (hT.mv hm)) λ_ _ _ hh=>hh.ext (Ext.refl _ _ _) hi.len (qF.of hn hm)
 have Pv:∀ j h,(γ++[Gh.none])[j]?=some h->(j=γ.length/\h = .none)\/(j<γ.length/\γ[j]?=some h):=by
  intro j h hh;by_cases hid:j<γ.length
  ·rw[aqE hid]at hh;exact .inr ⟨hid,hh⟩
  ·have:j=γ.length:=by have:=(aqp.1 hh).1;simp at this;omega
   subst this;rw[aqx m0]at hh;simp at hh;exact .inl ⟨rfl,hh.symm⟩
 have it:=hi.tok k;refine⟨by simp[hi.len],hi.val,λi y g hy hg=>?_,it.inj,it.new,hi.bsz⟩;obtain⟨rfl,rfl⟩|⟨VL,Rt⟩:=Pv i g hg
 ·rw[aqx (by simp[hi.len])]at hy
  simp[hi.len]at hy;subst hy;rfl
 ·rw[aqE (by simp;rw[<- hi.len];exact VL)]at hy
  by_cases Us:i=id
  ·subst Us
   rw[aqJ O0]at hy;injection hy with hy;subst hy
   have QY:=hi.obj i _ _ hid Rt
   match g,QY with
   |.box b,⟨⟨vs,E,h1,h2,h3⟩,h4⟩ =>
    refine⟨⟨vs,E,h1,by simp[h2],λq u x hu hx=>?_⟩,h4⟩;by_cases hq:q=j
    ·subst hq
     rw[aqJ (aqp.1 hj).1]at hx;injection hx with hx;subst hx
     obtain⟨ad,rfl⟩:=h3 q u _ hu hj;exact⟨dq _ _ _,m5,λn2 k2 _=>⟨m5,m5,λ_=>⟨.none,by rw[<- hi.len];simp,ad,m5⟩⟩⟩
    ·rw[aqK (Ne.symm hq)]at hx
     exact SV.mv hm (h3 q u x hu hx)
  ·rw[aqK (Ne.symm Us)]at hy
   exact(hi.obj i y g hy Rt).mv hm (λ_ _=>rfl) (λ_ _ _ h=>h)
theorem cu {σ:Type}{c:Code}(TT:σ->Tm)(LL:σ->List Ob)(ok:σ->Prop)(μ:σ->Nat)(s0:σ)(h0:ok s0)(SI:∀ s,ok s->n0<=(LL s).length)(hf:Fits T L (TT s0) (LL s0))
  (round:∀ s,ok s->Aw P N n0 c (AX.then (λT' L' =>∃ s',ok s'/\μ s'<μ s/\Fits T' L' (TT s') (LL s')) Q) (TT s) (LL s)):Aw P N n0 (.loop c) Q T L:=by
 intro hn B R0 γ0 w0 a0 hi hT;obtain⟨i1,t1⟩:=hf.sound hi hT;have key:∀ n s R γ a w,μ s<n->ok s->Inv B R γ (LL s) w->fG N R γ (LL s) (TT s) a->Ext B R0 R w0 w->qF n0 R0 R γ0 γ L (LL s)->Code.rounds P c (vK N n0 B Q R0 w0 γ0 L) n a w:=by
  intro n
  induction n with
  |zero=>intro s R γ a w h;omega
  |succ n ih =>
   intro s R γ a w O0 Qy hI ht he T8;rw[rounds_succ];refine wp_mono (round s Qy (SI s Qy) B R γ w a hI ht) ?_;rintro e a1 w1 ⟨x,T1,L1,R1,γ2,rfl,q,j1,k1,e1,m1⟩
   cases x with
   |normal =>
    obtain⟨s',ok',P3,RO⟩:=q;obtain⟨j2,k2⟩:=RO.sound j1 k1;exact ih s' R1 _ a1 w1 m0 ok' j2 k2 (he.trans e1) ((T8.trans hi.len m1).trans hi.len (RO.mvn j1 (SI s' ok')))
   |exit id=>exact⟨.exit id,T1,L1,R1,γ2,rfl,q,j1,k1,he.trans e1,T8.trans hi.len m1⟩
   |ret=>exact⟨.ret,T1,L1,R1,γ2,rfl,q,j1,k1,he.trans e1,T8.trans hi.len m1⟩
 exact wp_loop_rounds (μ s0+1) (key _ s0 R0 _ a0 w0 m0 h0 i1 t1 (Ext.refl _ _ _) (hf.mvn hi (SI s0 h0)))
def yF (ti:TI)(T:Tm)(L:List Ob):ResultVar->Option (PV×Prop)
 |.tmp t=>((T.lookup t).bind AV.norm).map λp=>(p,True)
 |.cell a t=>match T.lookup a with
  |some (.one (.ptr id off))=>match fA ti L t (.one (.ptr id off))with
   |some (v,φ)=>v.norm.map λp=>(p,φ)
   |none=>none
  |_=>none
def tW (ti:TI)(T:Tm)(L:List Ob):List ResultVar->Option (List PV×Prop)
 |[]=>some ([],True)
 |r::rs=>match yF ti T L r,tW ti T L rs with
  |some (p,φ),some (ps,ψ)=>some (p::ps,φ/\ψ)
  |_,_=>none
def ajv:List PV->CV
 |[p] => .val p
 |ps => .tup ps
def Res (ti:TI)(rs:List ResultVar)(T:Tm)(L:List Ob)(r:CV):Prop :=
 match tW ti T L rs with
 |some (ps,φ)=>φ/\ajv ps=r
 |none=>False
def kn (tmps:Array Value):ResultVar->Sem Value
 |.tmp t=>pure (tmps.getD t Go.undef)
 |.cell ad t=>do loadVar t (<- asAddr (tmps.getD ad Go.undef))
theorem kL (fn:Func)(tmps:Array Value):results fn tmps=(do let vs <- fn.results.mapM (kn tmps);pure (if h:vs.size=1 then vs[0]else .tuple vs)):=by
 unfold results;congr
theorem BQ (O_:TIok P ti){B:Nat->Prop}{R:PH}{γ:List Gh}{w:World}{a:Act}(hi:Inv B R γ L w)(hT:fG N R γ L T a){rv:ResultVar}{p:PV}{φ:Prop}(h:yF ti T L rv=some (p,φ))(hφ:φ) :
  ∃ u,(kn a.tmps rv).run P w = .ok u w/\p.rep R u:=by
 cases rv with
 |tmp t =>
  simp only[yF]at h
  cases hl:T.lookup t with
  |none=>simp[hl]at h
  |some x =>
   simp only[hl,aqo]at h
   cases hn:x.norm with
   |none=>simp[hn]at h
   |some q =>
    simp only[hn,Option.map_some,Option.some.injEq,Prod.mk.injEq]at h;obtain⟨rfl,_⟩:=h;obtain⟨u,h1,h2⟩:=hT.slot t x hl;exact⟨u,by simp[kn,Array.getD_eq_getD_getElem?,h1],AV.norm_rep h2 hn⟩
 |cell ad t =>
  simp only[yF]at h;split at h
  ·rename_i id off hl
   split at h
   ·rename_i v ψ hp
    cases hn:v.norm with
    |none=>simp[hn]at h
    |some q =>
     simp only[hn,Option.map_some,Option.some.injEq,Prod.mk.injEq]at h;obtain⟨rfl,h2⟩:=h;subst h2;obtain⟨u,h1,hu⟩:=hT.slot ad _ hl;obtain⟨b,rfl,hg⟩:=hu;obtain⟨u',r1,r2⟩:=lh O_ hi (va := .one (.ptr id off)) (u1 := .pointer (some ⟨b,off,none⟩)) ⟨b,rfl,hg⟩ hp hφ;refine⟨u',?_,AV.norm_rep r2 hn⟩;simp only[Instr.loadAt,Instr.sureAddr]at r1;simpa[kn,Array.getD_eq_getD_getElem?,h1,asAddr]using r1
   ·cases h
  ·cases h
theorem ui (O_:TIok P ti){B:Nat->Prop}{R:PH}{γ:List Gh}{w:World}{a:Act}(hi:Inv B R γ L w)(hT:fG N R γ L T a):∀ {rs:List ResultVar} {ps:List PV} {φ:Prop},tW ti T L rs=some (ps,φ)->φ ->
  ∃ us:List Value,(rs.mapM (kn a.tmps)).run P w = .ok us w/\us.length=ps.length /\ ∀ (j:Nat) u p,us[j]?=some u->ps[j]?=some p->p.rep R u
 |[],ps,φ,h,_=>by
  simp only[tW,Option.some.injEq,Prod.mk.injEq]at h;obtain⟨rfl,_⟩:=h;exact⟨[],rfl,rfl,λj u p hu=>by simp at hu⟩
 |r::rs,ps,φ,h,hφ=>by
  unfold tW at h;split at h
  ·rename_i p ψ Zk χ h1 h2
   simp only[Option.some.injEq,Prod.mk.injEq]at h;obtain⟨rfl,rfl⟩:=h;obtain⟨u,r1,r2⟩:=BQ O_ hi hT h1 hφ.1;obtain⟨us,s1,s2,s3⟩:=ui O_ hi hT h2 hφ.2;refine⟨u::us,?_,by simp[s2],λj v q hv hq=>?_⟩
   ·rw[List.mapM_cons]
    simp only[Sem.run_bind,r1,Result.andThen_ok,s1,Sem.run_pure]
   ·cases j with
    |zero=>simp at hv hq;subst hv hq;exact r2
    |succ j=>exact s3 j v q (by simpa using hv) (by simpa using hq)
  ·cases h
theorem Res.sound (O_:TIok P ti){B:Nat->Prop}{R:PH}{γ:List Gh}{w:World}{a:Act}(hi:Inv B R γ L w)(hT:fG N R γ L T a){fn:Func}{r:CV}(h:Res ti fn.results.toList T L r) :
  ∃ v,(results fn a.tmps).run P w = .ok v w/\r.rep R v:=by
 unfold Res at h;split at h
 ·rename_i ps φ hp
  obtain⟨hφ,rfl⟩:=h;obtain⟨us,s1,s2,s3⟩:=ui O_ hi hT hp hφ;have hm:(fn.results.mapM (kn a.tmps)).run P w = .ok us.toArray w:=by
   rw[Array.mapM_eq_mapM_toList];simp only[Sem.run_map,s1,Result.andThen_ok]
  refine⟨if h:us.toArray.size=1 then us.toArray[0]else .tuple us.toArray,?_,?_⟩
  ·rw[kL]
   simp only[Sem.run_bind];rw[hm];rfl
  ·match us,ps,s2,s3 with
   |[u],[p],_,s3=>exact s3 0 u p rfl rfl
   |[],[],_,_=>exact⟨#[],rfl,rfl,λj u p hu=>by simp at hu⟩
   |u1::u2::us,p1::p2::ps,s2,s3 =>
    rw[dif_neg m5];exact⟨_,rfl,by simpa using s2,λj u p hu hp=>s3 j u p (by simpa using hu) hp⟩
 ·exact h.elim
def argT:Nat->List PV->Tm
 |_,[]=>[]
 |i,p::ps=>(i,p.av)::argT (i+1) ps
theorem pT:∀ (ps:List PV) (i t:Nat) (x:AV),(argT i ps).lookup t=some x ->∃ p,ps[t-i]?=some p/\x=p.av/\i<=t
 |[],i,t,x,h=>by simp[argT]at h
 |p::ps,i,t,x,h=>by
  rw[argT,List.lookup_cons]at h;by_cases e:t=i
  ·subst e
   simp at h;subst h;exact⟨p,m5,rfl,aqG _⟩
  ·have:(t==i)=false:=by simpa using e
   rw[this]at h;obtain⟨q,h1,h2,h3⟩:=pT ps (i+1) t x h;refine⟨q,?_,h2,m0⟩;have:t-i=(t-(i+1))+1:=m0
   rw[this,List.getElem?_cons_succ];exact h1
theorem pa_ (O_ : TIok P ti) {f : FuncId} {fn : Func} {c : Code} {args : List PV} {r : CV} (hf : P.funcs[f]? = some fn) (hb : fn.body = some c) (P_ : (fn.name == "runtime.NumGoroutine") = false) (hN : fn.ntmps = N) (hlen : args.length <= N)
  (h:Aw P N 0 c (λx T L=>(x = .normal\/x = .ret)/\Res ti fn.results.toList T L r) (argT 0 args) []):Pure P f args r:=by
 refine⟨⟨fn,hf,by rw[hb];rfl,P_⟩,λR w vs hR hs hv=>?_⟩;refine calls_of_wp hf hb ?_;have hi:Inv (· <w.heap.size) R [] [] w:=⟨rfl,hR,λid x g hx=>by simp at hx,λi j gi gj h=>by simp at h,λi g b h=>by simp at h,λ_ h=>h⟩;have hT:fG N R [] [] (argT 0 args) { tmps:=vs++Array.replicate (fn.ntmps-vs.size) Go.undef,defers:=[] } :=by
  refine⟨by simp;omega,rfl,λt x ht=>?_⟩;obtain⟨p,h1,rfl,_⟩:=pT args 0 t x ht;rw[Nat.sub_zero]at h1;have O0:t<vs.size:=by rw[hs];exact(aqp.1 h1).1
  have hu:vs[t]?=some vs[t]:=aqP O0;exact⟨vs[t],by rw[Array.getElem?_append_left O0];exact hu,PV.av_rep (hv t _ p hu h1)⟩
 refine wp_mono (h (aqL _) (· <w.heap.size) R [] w _ hi hT) ?_;rintro e a' w' ⟨x,T',L',R',γ',rfl,⟨hx,QU⟩,i1,t1,e1,_⟩;obtain⟨v,h1,h2⟩:=Res.sound O_ i1 t1 QU;obtain rfl|rfl:=hx
 ·exact⟨t1.defers,v,h1,v,R',rfl,e1,i1.val,h2⟩
 ·exact⟨t1.defers,v,h1,v,R',rfl,e1,i1.val,h2⟩
def am5 (rs:List ResultVar)(T:Tm)(L:List Ob)(PQ:List (List AC))(k:Nat):Prop :=
 match rs with
 |[.tmp t]=>match T.lookup t with
  |some (.one (.own es i))=>es=PQ/\L[i]?=some (.spare PQ.length k)
  |some (.one .emp)=>PQ=[]
  |_=>False
 |_=>False
theorem G9 {f : FuncId} {fn : Func} {c : Code} {args : List PV} {es PQ : List (List AC)} {k : Nat} (hf : P.funcs[f]? = some fn) (hb : fn.body = some c) (P_ : (fn.name == "runtime.NumGoroutine") = false) (hN : fn.ntmps = N) (hlen : args.length + 1 <= N)
  (h:Aw P N 0 c (λx T L=>(x = .normal\/x = .ret)/\am5 fn.results.toList T L PQ k) ((0,.one (.own es 0))::argT 1 args) [.spare es.length k]):Kv P f es k args PQ:=by
 refine⟨⟨fn,hf,by rw[hb];rfl,P_⟩,λR w v vs g hR QQ VI VJ hs hv=>?_⟩;refine calls_of_wp hf hb ?_;have hgsz:∀ b,g.block=some b->b<w.heap.size:=by
  intro b hb
  match g,VJ,hb with
  |.arr b' c,⟨_,⟨vs,E,a1,_⟩,_⟩,hb=>injection hb with hb;subst hb;exact(aq_.1 a1).1
 have one:∀ (j:Nat) h,[g][j]?=some h->j=0/\h=g:=by
  intro j h hh
  cases j with
  |zero=>simp at hh;exact⟨rfl,hh.symm⟩
  |succ j=>simp at hh
 have hi:Inv (λb=>b<w.heap.size/\g.block≠some b) R [g] [.spare es.length k] w:=by
  refine⟨rfl,hR,λid x h hx hh=>?_,λi j gi gj h1 h2 Pn=>?_,λi h b hh hb=>?_,λ_ h=>h.1⟩
  ·obtain⟨rfl,rfl⟩:=one id h hh
   simp at hx;subst hx
   match h,VJ with
   |.none,⟨h0,_⟩=>rw[h0];rfl
   |.arr b c,⟨_,⟨vs,E,a1,a2⟩,a3,a4,a5⟩=>exact⟨⟨vs,E,a1,a2⟩,a3,a4,a5⟩
  ·have:=(one i gi h1).1;have:=(one j gj h2).1;omega
  ·obtain⟨rfl,rfl⟩:=one i h hh
   exact⟨λhB=>hB.2 hb,hgsz b hb⟩
 have hT:fG N R [g] [.spare es.length k] ((0,.one (.own es 0))::argT 1 args) { tmps:=(#[v]++vs)++Array.replicate (fn.ntmps-(#[v]++vs).size) Go.undef,defers:=[] } :=by
  refine⟨by simp;omega,rfl,λt x ht=>?_⟩;rw[List.lookup_cons]at ht;by_cases e:t=0
  ·subst e
   simp at ht;subst ht;refine⟨v,by rw[Array.getElem?_append_left m8,Array.getElem?_append_left m5];rfl,QQ,m5,λn2 k2 e2=>?_⟩;simp at e2;obtain⟨rfl,rfl⟩:=e2;refine⟨aqG _,VI,λ_=>⟨g,rfl,?_⟩⟩
   match g,VJ with
   |.none,⟨h0,ha⟩=>exact ha
   |.arr b c,⟨h0,_⟩=>exact h0
  ·have:(t==0)=false:=by simpa using e
   rw[this]at ht;obtain⟨p,h1,rfl,h2⟩:=pT args 1 t x ht;have O0:t-1<vs.size:=by rw[hs];exact(aqp.1 h1).1
   have hu:vs[t-1]?=some vs[t-1]:=aqP O0;refine⟨vs[t-1],?_,PV.av_rep (hv (t-1) _ p hu h1)⟩;rw[Array.getElem?_append_left m8,Array.getElem?_append_right m8];simp
 refine wp_mono (h (aqL _) _ R [g] w _ hi hT) ?_;rintro e a' w' ⟨x,T',L',R',γ',rfl,⟨hx,QU⟩,i1,t1,e1,_⟩;unfold am5 at QU;split at QU
 case h_2=>exact QU.elim
 rename_i t hrs;have hrs':fn.results=#[.tmp t]:=by cases hfr:fn.results;rw[hfr]at hrs;simp_all
 have Va:∀ u,a'.tmps[t]?=some u->(results fn a'.tmps).run P w' = .ok u w':=by
  intro u hu;rw[kL,hrs'];simp[kn,Array.getD_eq_getD_getElem?,hu]
 have fin:∀ u g',a'.tmps[t]?=some u->bD R' u (.lst PQ)->(∀ e∈PQ,e.length=k)->adM R' w' PQ k u g'->(∀ b,g'.block=some b->w.heap.size<=b\/g.block=some b)->bodyPost P fn (λe w' =>∃ v' R' g',e = .returned v'/\Ext (λb=>b<w.heap.size/\g.block≠some b) R R' w w'/\(∀ b o u,R' b o=some u->w'.cell? ⟨b,o,none⟩=some u) /\
   bD R' v' (.lst PQ)/\(∀ e∈PQ,e.length=k)/\adM R' w' PQ k v' g' /\ ∀ b,g'.block=some b->w.heap.size<=b\/g.block=some b) x.ex a' w':=by
  intro u g' hu hp hw ho hb;obtain rfl|rfl:=hx
  ·exact⟨t1.defers,u,Va u hu,u,R',g',rfl,e1,i1.val,hp,hw,ho,hb⟩
  ·exact⟨t1.defers,u,Va u hu,u,R',g',rfl,e1,i1.val,hp,hw,ho,hb⟩
 split at QU
 ·rename_i Ut i hl
  obtain⟨rfl,Zm⟩:=QU;obtain⟨u,hu,hp,O0,P4⟩:=t1.slot t _ hl;obtain⟨_,hw,SN⟩:=P4 _ _ Zm;obtain⟨g',Rt,T_⟩:=SN rfl;have QY:=i1.obj i _ _ Zm Rt;refine fin u g' hu hp hw ?_ ?_
  ·match g',T_,QY with
   |.none,SN,QY=>exact⟨aqQ QY,SN⟩
   |.arr b c,SN,⟨a1,a2,a3,a4⟩=>exact⟨SN,a1,a2,a3,a4⟩
  ·intro b hb
   have:=(i1.new i g' b Rt hb).1;by_cases QL:b<w.heap.size
   ·right
    by_cases Tu:g.block=some b
    ·exact Tu
    ·exact absurd ⟨QL,Tu⟩ this
   ·left;omega
 ·rename_i hl
  subst QU;obtain⟨u,hu,ad,rfl⟩:=t1.slot t _ hl;exact fin _ .none hu (dq _ _ _) m5 ⟨rfl,ad,rfl⟩ (by intro b hb;cases hb)
 ·exact QU.elim
end
section
variable {P:Program} {ti:TI} {N n0:Nat} {T:Tm} {L:List Ob}
def yW (ti:TI)(rs:List ResultVar)(T:Tm)(L:List Ob)(r:AV):Prop :=
 (∃ t,rs=[.tmp t]/\T.lookup t=some r)\/(∃ q,Res ti rs T L q/\r=q.av)
structure afU (ti:TI)(rs:List ResultVar)(n0:Nat)(L1:List Ob)(r:AV)(T:Tm)(L:List Ob):Prop where
 val:yW ti rs T L r
 pre:∃ G,L=L1++G
 lo:n0<=L1.length
 obb:∀ x∈L1,x.below L1.length
 vb:r.below L1.length
theorem yW.sound (O_:TIok P ti){B:Nat->Prop}{R:PH}{γ:List Gh}{w:World}{a:Act}(hi:Inv B R γ L w)(hT:fG N R γ L T a){fn:Func}{r:AV}(h:yW ti fn.results.toList T L r) :
  ∃ v,(results fn a.tmps).run P w = .ok v w/\r.rep R γ L v:=by
 obtain⟨t,hr,ht⟩|⟨q,hr,rfl⟩:=h
 ·obtain⟨u,h1,h2⟩:=hT.slot t r ht
  refine⟨u,?_,h2⟩;have e:fn.results=#[.tmp t]:=by cases h:fn.results;rw[h]at hr;simp at hr;rw[hr]
  rw[kL,e];simp[kn,h1]
 ·obtain⟨v,h1,h2⟩:=Res.sound O_ hi hT hr
  exact⟨v,h1,CV.av_rep h2⟩
def eL:Nat->List AV->Tm
 |_,[]=>[]
 |i,p::ps=>(i,p)::eL (i+1) ps
theorem lP:∀ (ps:List AV) (i t:Nat) (x:AV),(eL i ps).lookup t=some x->ps[t-i]?=some x/\i<=t
 |[],i,t,x,h=>by simp[eL]at h
 |p::ps,i,t,x,h=>by
  rw[eL,List.lookup_cons]at h;by_cases e:t=i
  ·subst e
   simp at h;subst h;exact⟨m5,aqG _⟩
  ·have:(t==i)=false:=by simpa using e
   rw[this]at h;obtain⟨h1,h3⟩:=lP ps (i+1) t x h;refine⟨?_,m0⟩;have:t-i=(t-(i+1))+1:=m0
   rw[this,List.getElem?_cons_succ];exact h1
theorem be (O_ : TIok P ti) {f : FuncId} {fn : Func} {c : Code} {args : List AV} {L0 L1 : List Ob} {r : AV} (hf : P.funcs[f]? = some fn) (hb : fn.body = some c) (P_ : (fn.name == "runtime.NumGoroutine") = false) (hN : fn.ntmps = N) (hlen : args.length <= N)
  (h:Aw P N L0.length c (λx T L=>(x = .normal\/x = .ret)/\afU ti fn.results.toList L0.length L1 r T L) (eL 0 args) L0):Run P f L0 args L1 r:=by
 refine⟨⟨fn,hf,by rw[hb];rfl,P_⟩,λB R γ w vs hi hs hv=>?_⟩;refine calls_of_wp hf hb ?_;have hT:fG N R γ L0 (eL 0 args) { tmps:=vs++Array.replicate (fn.ntmps-vs.size) Go.undef,defers:=[] } :=by
  refine⟨by simp;omega,rfl,λt x ht=>?_⟩;obtain⟨h1,_⟩:=lP args 0 t x ht;rw[Nat.sub_zero]at h1;have O0:t<vs.size:=by rw[hs];exact(aqp.1 h1).1
  have hu:vs[t]?=some vs[t]:=aqP O0;exact⟨vs[t],by rw[Array.getElem?_append_left O0];exact hu,hv t _ x hu h1⟩
 refine wp_mono (h (aqG _) B R γ w _ hi hT) ?_;rintro e a' w' ⟨x,T',L',R',γ',rfl,⟨hx,QU⟩,i1,t1,e1,m1⟩;obtain⟨v,h1,h2⟩:=yW.sound O_ i1 t1 QU.val;obtain⟨G,rfl⟩:=QU.pre;have RO:Fits ([]:Tm) (L1++G) [] L1:=⟨λp hp=>(by cases hp),⟨G,rfl⟩,λp hp=>(by cases hp),QU.obb⟩;have Qz:fG N R' γ' (L1++G) ([]:Tm) a':=⟨t1.size,t1.defers,λt x hx=>by simp at hx⟩;obtain⟨j1,_⟩:=RO.sound i1 Qz;have T8:=m1.trans hi.len (RO.mvn i1 QU.lo);have VM:Mv R R' γ (γ'.take L1.length) L0 L1:=by
  have:=T8.mv;rw[aq5 (aqG _),aq5 (by rw[hi.len];exact aqG _)]at this;exact this
 have TK:=AV.cut i1.len h2 QU.vb;obtain rfl|rfl:=hx
 ·exact⟨t1.defers,v,h1,v,R',_,rfl,j1,e1,VM,TK⟩
 ·exact⟨t1.defers,v,h1,v,R',_,rfl,j1,e1,VM,TK⟩
def tK (ti:TI)(rs:List ResultVar)(T:Tm)(L:List Ob)(r:AV):Prop :=
 yW ti rs T L r\/(∃ a t id off φ,rs=[.cell a t]/\T.lookup a=some (.one (.ptr id off))/\fA ti L t (.one (.ptr id off))=some (r,φ)/\φ)
structure ahD (ti:TI)(rs:List ResultVar)(n0:Nat)(L1:List Ob)(r:AV)(T:Tm)(L:List Ob):Prop where
 val:tK ti rs T L r
 pre:∃ G,L=L1++G
 lo:n0<=L1.length
 obb:∀ x∈L1,x.below L1.length
 vb:r.below L1.length
theorem tK.sound (O_:TIok P ti){B:Nat->Prop}{R:PH}{γ:List Gh}{w:World}{a:Act}(hi:Inv B R γ L w)(hT:fG N R γ L T a){fn:Func}{r:AV}(h:tK ti fn.results.toList T L r) :
  ∃ v,(results fn a.tmps).run P w = .ok v w/\r.rep R γ L v:=by
 obtain h|⟨ad,t,id,off,φ,hr,hl,hp,hφ⟩:=h
 ·exact yW.sound O_ hi hT h
 ·obtain⟨u,h1,hu⟩:=hT.slot ad _ hl
  obtain⟨b,rfl,hg⟩:=hu;obtain⟨u',r1,r2⟩:=lh O_ hi (va := .one (.ptr id off)) (u1 := .pointer (some ⟨b,off,none⟩)) ⟨b,rfl,hg⟩ hp hφ;refine⟨u',?_,r2⟩;have e:fn.results=#[.cell ad t]:=by cases h:fn.results;rw[h]at hr;simp at hr;rw[hr]
  simp only[Instr.loadAt,Instr.sureAddr]at r1;rw[kL,e];have r3:(kn a.tmps (.cell ad t)).run P w = .ok u' w:=by simpa[kn,Array.getD_eq_getD_getElem?,h1,asAddr]using r1
  have hm:((#[ResultVar.cell ad t]:Array ResultVar).mapM (kn a.tmps)).run P w = .ok #[u'] w:=by
   rw[Array.mapM_eq_mapM_toList];simp[Sem.run_map,r3,Result.andThen_ok]
  simp only[Sem.run_bind];rw[hm];rfl
theorem tQ (O_ : TIok P ti) {f : FuncId} {fn : Func} {c : Code} {args : List AV} {L0 L1 : List Ob} {r : AV} (hf : P.funcs[f]? = some fn) (hb : fn.body = some c) (P_ : (fn.name == "runtime.NumGoroutine") = false) (hN : fn.ntmps = N) (hlen : args.length <= N)
  (h:Aw P N L0.length c (λx T L=>(x = .normal\/x = .ret)/\ahD ti fn.results.toList L0.length L1 r T L) (eL 0 args) L0):Run P f L0 args L1 r:=by
 refine⟨⟨fn,hf,by rw[hb];rfl,P_⟩,λB R γ w vs hi hs hv=>?_⟩;refine calls_of_wp hf hb ?_;have hT:fG N R γ L0 (eL 0 args) { tmps:=vs++Array.replicate (fn.ntmps-vs.size) Go.undef,defers:=[] } :=by
  refine⟨by simp;omega,rfl,λt x ht=>?_⟩;obtain⟨h1,_⟩:=lP args 0 t x ht;rw[Nat.sub_zero]at h1;have O0:t<vs.size:=by rw[hs];exact(aqp.1 h1).1
  have hu:vs[t]?=some vs[t]:=aqP O0;exact⟨vs[t],by rw[Array.getElem?_append_left O0];exact hu,hv t _ x hu h1⟩
 refine wp_mono (h (aqG _) B R γ w _ hi hT) ?_;rintro e a' w' ⟨x,T',L',R',γ',rfl,⟨hx,QU⟩,i1,t1,e1,m1⟩;obtain⟨v,h1,h2⟩:=tK.sound O_ i1 t1 QU.val;obtain⟨G,rfl⟩:=QU.pre;have RO:Fits ([]:Tm) (L1++G) [] L1:=⟨λp hp=>(by cases hp),⟨G,rfl⟩,λp hp=>(by cases hp),QU.obb⟩;have Qz:fG N R' γ' (L1++G) ([]:Tm) a':=⟨t1.size,t1.defers,λt x hx=>by simp at hx⟩;obtain⟨j1,_⟩:=RO.sound i1 Qz;have T8:=m1.trans hi.len (RO.mvn i1 QU.lo);have VM:Mv R R' γ (γ'.take L1.length) L0 L1:=by
  have:=T8.mv;rw[aq5 (aqG _),aq5 (by rw[hi.len];exact aqG _)]at this;exact this
 have TK:=AV.cut i1.len h2 QU.vb;obtain rfl|rfl:=hx
 ·exact⟨t1.defers,v,h1,v,R',_,rfl,j1,e1,VM,TK⟩
 ·exact⟨t1.defers,v,h1,v,R',_,rfl,j1,e1,VM,TK⟩
def uj (rs:List ResultVar)(T:Tm)(r:AV):Prop :=
 ∃ s t x y,rs=[.tmp s,.tmp t]/\T.lookup s=some (.one x)/\T.lookup t=some (.one y)/\r = .tupS [x,y]
theorem uj.sound {R:PH}{γ:List Gh}{w:World}{a:Act}(hT:fG N R γ L T a){fn:Func}{r:AV}(h:uj fn.results.toList T r) :
  ∃ v,(results fn a.tmps).run P w = .ok v w/\r.rep R γ L v:=by
 obtain⟨s,t,x,y,hr,hs,ht,rfl⟩:=h;obtain⟨u,h1,h2⟩:=hT.slot s _ hs;obtain⟨v,h3,h4⟩:=hT.slot t _ ht;refine⟨.tuple #[u,v],?_,#[u,v],rfl,rfl,λj z p hz hp=>?_⟩
 ·have e:fn.results=#[.tmp s,.tmp t]:=by cases h:fn.results;rw[h]at hr;simp at hr;rw[hr]
  rw[kL,e];simp[kn,h1,h3]
 ·match j,hz,hp with
  |0,hz,hp=>simp at hz hp;subst hz hp;exact h2
  |1,hz,hp=>simp at hz hp;subst hz hp;exact h4
  |j+2,hz,hp=>simp at hp
end
section
variable {P:Program} {ti:TI} {L:List Ob}
theorem qi {ρ ρ':Operand->Option AV}:∀ (ps:List (Nat×Operand)) (j:Nat),(∀ p∈ps,ρ p.2=ρ' p.2)->mV ρ ps j=mV ρ' ps j
 |[],_,_=>rfl
 |(i,x)::ps,j,h=>by
  have h1:ρ x=ρ' x:=h (i,x) m5;have h2:=qi ps (j+1) λp hp=>h p (aqO _ hp)
  simp only[mV,h1,h2]
theorem jr {ρ ρ':Operand->Option AV}:∀ (xs:List Operand),(∀ x∈xs,ρ x=ρ' x)->dL ρ xs=dL ρ' xs
 |[],_=>rfl
 |x::xs,h=>by
  have h1:ρ x=ρ' x:=h x m5;have h2:=jr xs λy hy=>h y (aqO _ hy)
  simp only[dL,h1,h2]
theorem Es {ρ ρ':Operand->Option AV}{op:Op}(h:∀ x,x∈op.operands->ρ x=ρ' x):pop ti ρ L op=pop ti ρ' L op:=by
 unfold pop;split
 ·rename_i x;rw[h x (by simp[Op.operands])]
 ·rename_i x;rw[h x (by simp[Op.operands])]
 ·rename_i c x y;rw[h c (by simp[Op.operands]),h x (by simp[Op.operands]),h y (by simp[Op.operands])]
 ·rename_i o t x y yt;rw[h x (by simp[Op.operands]),h y (by simp[Op.operands])]
 ·rename_i o t x;rw[h x (by simp[Op.operands])]
 ·rename_i s d x;rw[h x (by simp[Op.operands])]
 ·rename_i t x;rw[h x (by simp[Op.operands])]
 ·rename_i s x i;rw[h x (by simp[Op.operands])]
 ·rename_i s x i;rw[h x (by simp[Op.operands])]
 ·rename_i t x y;rw[h x (by simp[Op.operands]),h y (by simp[Op.operands])]
 ·rename_i t x y;rw[h x (by simp[Op.operands]),h y (by simp[Op.operands])]
 ·rename_i x i;rw[h x (by simp[Op.operands])]
 ·rename_i x;rw[h x (by simp[Op.operands])]
 ·rename_i t x lo hi
  have h1:lo.map ρ=lo.map ρ':=by cases lo with|none=>rfl|some y=>simp[h y (by simp[Op.operands])]
  have h2:hi.map ρ=hi.map ρ':=by cases hi with|none=>rfl|some y=>simp[h y (by simp[Op.operands])]
  rw[h x (by simp[Op.operands]),h1,h2]
 ·rename_i args ts
  split
  ·rename_i x t hx ht
   rw[h x (by simp[Op.operands,Call.operands];rw[<- Array.mem_toList_iff,hx];simp)]
  ·rfl
 ·rename_i args ts
  have:args.toList.map ρ=args.toList.map ρ':=List.map_congr_left λx hx=>h x (by simp[Op.operands,Call.operands];simpa using hx)
  rw[this]
 ·rename_i args ts
  have:args.toList.map ρ=args.toList.map ρ':=List.map_congr_left λx hx=>h x (by simp[Op.operands,Call.operands];simpa using hx)
  rw[this]
 ·rename_i t parts
  have:(parts.toList.map λp=>(p.1,ρ p.2))=parts.toList.map λp=>(p.1,ρ' p.2):=List.map_congr_left λp hp=>by
   rw[h p.2 (by simp only[Op.operands,List.mem_toArray];exact List.mem_map_of_mem hp)]
  rw[this]
 ·rename_i f first captured
  have:captured.toList.map ρ=captured.toList.map ρ':=List.map_congr_left λx hx=>h x (by simp[Op.operands];exact .inr (by simpa using hx))
  rw[this]
 ·rfl
theorem BW {ρ:Operand->Option AV}{op:Op}{r:AV×List Ob×Prop}(h:Gz ti ρ L op=some r):bW ti op=true:=by
 unfold Gz at h;split at h
 ·rfl
 ·rfl
 ·rfl
 ·rfl
 ·cases h
theorem fu {ρ:Operand->Option AV}{op:Op}{r:FuncId×List (List AC)×Option Nat×List PV}(h:eR ti ρ op=some r):bW ti op=true:=by
 unfold eR at h;split at h
 ·rename_i f args ts
  split at h
  ·rename_i x xs ho S4;exact ho
  ·cases h
 ·cases h
theorem vg {ρ ρ':Operand->Option AV}{op:Op}(h:∀ x,x∈op.operands->ρ x=ρ' x):vm ti ρ op=vm ti ρ' op:=by
 unfold vm;split
 ·rename_i t len parts
  unfold yP;rw[qi parts.toList 0 λp hp=>h p.2 (by simp only[Op.operands,List.mem_toArray];exact List.mem_map_of_mem hp)]
 ·rfl
theorem tg {ρ ρ':Operand->Option AV}{op:Op}(h:∀ x,x∈op.operands->ρ x=ρ' x):qE ρ op=qE ρ' op:=by
 unfold qE;split
 ·rename_i f args ts
  have h1:ρ f=ρ' f:=h f (by simp[Op.operands,Call.operands]);have h2:dL ρ args.toList=dL ρ' args.toList:=jr _ λx hx=>h x (by simp[Op.operands,Call.operands];exact .inr (by simpa using hx))
  rw[h1,h2]
 ·rfl
theorem mB {ρ:Operand->Option AV}{op:Op}{r:FuncId×List AV}(h:cS ti ρ op=some r):bW ti op=true:=by
 unfold cS at h;split at h
 case h_2=>cases h
 split at h
 ·rename_i hc _ _;exact hc
 ·rename_i hc _ _;exact hc
 ·cases h
theorem J7 {ρ:Operand->Option AV}{op:Op}{K:AV->List Ob->Prop}(hl:bW ti op=false)(ha:hZ P ti ρ L K op):∃ v,hZ P ti ρ L (λv' L'=>v'=v/\L'=L) op/\K v L:=by
 obtain⟨v,φ,hp,hφ,hk⟩|⟨v,φ,hp,hφ,hk⟩|⟨v,L',φ,hp,_⟩|⟨g,ps,r,hc,hP,hk⟩|⟨g,es,t,k,ps,PQ,hc,_⟩|⟨g,k,ps,PQ,hc,_⟩|⟨σ,g,L0,R7,L1,r,hc,_⟩|⟨v,L',hk,_⟩:=ha
 ·exact⟨v,.inl ⟨v,φ,hp,hφ,rfl,rfl⟩,hk⟩
 ·exact⟨v,.inr (.inl ⟨v,φ,hp,hφ,rfl,rfl⟩),hk⟩
 ·rw[BW hp]at hl;cases hl
 ·exact⟨r.av,.inr (.inr (.inr (.inl ⟨g,ps,r,hc,hP,rfl,rfl⟩))),hk⟩
 ·rw[fu hc]at hl;cases hl
 ·rw[fu hc]at hl;cases hl
 ·rw[mB hc]at hl;cases hl
 ·rw[hk.1]at hl;cases hl
end
def agI (acc:List Nat)(o:Oper):Nat:=o.after.toList.foldl (λs e=>if Region.binds .any e then s |||2 ^ e.on |||acc.getD e.on 0 else s) 0
def masks:List Oper->List Nat->List Nat
 |[],acc=>acc
 |o::rest,acc=>masks rest (acc++[agI acc o])
def g9 (ops:Array Oper)(o:Oper):List Tmp:=o.looksAt ops++o.dst.toList
inductive Anc (l:List Oper):Nat->Nat->Prop
 |edge {i:Nat} {o:Oper} {e:Edge} (h:l[i]?=some o) (he:e∈o.after.toList) (hb:Region.binds .any e=true):Anc l i e.on
 |step {i j:Nat} {o:Oper} {e:Edge} (h:l[i]?=some o) (he:e∈o.after.toList) (hb:Region.binds .any e=true) (h2:Anc l e.on j):Anc l i j
theorem FG (acc:List Nat)(j:Nat):∀ (es:List Edge) (s:Nat),(es.foldl (λs e=>if Region.binds .any e then s |||2 ^ e.on |||acc.getD e.on 0 else s) s).testBit j=true ->
  s.testBit j=true \/ ∃ e∈es,Region.binds .any e=true/\(e.on=j\/(acc.getD e.on 0).testBit j=true)
 |[],s,h => .inl h
 |e::es,s,h=>by
  rw[arh]at h;obtain h1|⟨e',h1,h2⟩:=FG acc j es _ h
  ·by_cases hb:Region.binds .any e=true
   ·rw[if_pos hb,Nat.testBit_or,Nat.testBit_or]at h1
    simp only[Bool.or_eq_true,Nat.testBit_two_pow,decide_eq_true_eq]at h1;obtain(h1|h1)|h1:=h1
    ·exact .inl h1
    ·exact .inr ⟨e,m5,hb,.inl h1⟩
    ·exact .inr ⟨e,m5,hb,.inr h1⟩
   ·rw[if_neg hb]at h1;exact .inl h1
  ·exact .inr ⟨e',aqO _ h1,h2⟩
theorem tO (l:List Oper):∀ (rest:List Oper) (acc:List Nat),(∀ q,l[acc.length+q]?=rest[q]?)->(∀ i j,i<acc.length->(acc.getD i 0).testBit j=true->Anc l i j) ->
  ∀ i j,((masks rest acc).getD i 0).testBit j=true->Anc l i j
 |[],acc,_,h,i,j,hb=>by
  by_cases hi:i<acc.length
  ·exact h i j hi hb
  ·have Qq:(acc.getD i 0).testBit j=true:=hb
   rw[arj,ard m0]at Qq;simp at Qq
 |o::rest,acc,hl,h,i,j,hb=>by
  refine tO l rest (acc++[agI acc o]) (λq=>?_) (λi j hi hb=>?_) i j hb
  ·have:=hl (q+1)
   simp only[List.getElem?_cons_succ]at this;rw[<- this];congr 1;simp;omega
  ·by_cases Rb:i<acc.length
   ·rw[arj,aqE Rb,<- arj]at hb
    exact h i j Rb hb
   ·have:i=acc.length:=by simp at hi;omega
    subst this;rw[arj,aqx m0]at hb;simp only[Nat.sub_self,List.getElem?_cons_zero,Option.getD_some]at hb;have ho:l[acc.length]?=some o:=by simpa using hl 0
    obtain h0|⟨e,he,hbd,h1|h1⟩:=FG acc j _ _ hb
    ·simp at h0
    ·subst h1;exact .edge ho he hbd
    ·by_cases O0:e.on<acc.length
     ·exact .step ho he hbd (h e.on j O0 h1)
     ·rw[arj,ard m0]at h1
      simp at h1
structure Done (l:List Oper)(listed:Array Bool):Prop where
 size:listed.size=l.length
 down:∀ (i:Nat) o,l[i]?=some o->listed[i]?=some true ->∀ e∈o.after.toList,Region.binds .any e=true->listed[e.on]?=some true
theorem Done.anc {l:List Oper}{listed:Array Bool}(h:Done l listed){i j:Nat}(ha:Anc l i j)(hd:∀ o,l[i]?=some o ->∀ e∈o.after.toList,Region.binds .any e=true->listed[e.on]?=some true):listed[j]?=some true:=by
 induction ha with
 |edge ho he hb=>exact hd _ ho _ he hb
 |step ho he hb _ ih=>exact ih λo S5=>h.down _ o S5 (hd _ ho _ he hb)
theorem Done.put {l:List Oper}{listed:Array Bool}(h:Done l listed){i:Nat}(hi:∀ o,l[i]?=some o ->∀ e∈o.after.toList,Region.binds .any e=true->listed[e.on]?=some true):Done l (listed.setIfInBounds i true):=by
 refine⟨by simp[h.size],λj o ho hj e he hb=>?_⟩;have key:listed[e.on]?=some true:=by
  by_cases TF:j=i
  ·subst TF;exact hi o ho e he hb
  ·rw[aq9 (Ne.symm TF)]at hj
   exact h.down j o ho hj e he hb
 by_cases hx:e.on=i
 ·rw[hx,ark (by rw[hx]at key;exact(aq_.1 key).1)]
 ·rw[aq9 (Ne.symm hx)];exact key
def gg (ds:List (Option Tmp))(T:Tm):Option (Nat×Bool)->Option Bool
 |none=>some true
 |some (j,want)=>match ds[j]? with
  |some (some d)=>match T.lookup d with
   |some (.one (.c (.bool b)))=>some (b==want)
   |some .undef=>some false
   |_=>none
  |_=>none
theorem ahl {ds:List (Option Tmp)}{T:Tm}{A B:Prop}{g:Option (Nat×Bool)}(h:gd ds T A B g):(gg ds T g=some true/\A)\/(gg ds T g=some false/\B):=by
 cases g with
 |none=>exact .inl ⟨rfl,h⟩
 |some p =>
  obtain⟨j,want⟩:=p;simp only[gd]at h;simp only[gg];split at h
  ·rename_i d hd
   try simp only[hd]
   split at h
   ·rename_i b hb
    try simp only[hb]
    by_cases XY:b=want
    ·exact .inl ⟨by simp[XY],h.1 XY⟩
    ·exact .inr ⟨by simp[XY],h.2 (by cases b<;>cases want<;>simp_all)⟩
   ·rename_i hb
    try simp only[hb]
    exact .inr ⟨m5,h⟩
   ·exact h.elim
  ·exact h.elim
def fZ:List Oper->List AV->Tm->Nat->Tm
 |o::l,v::vs,T,i+1=>fZ l vs (vJ T o.dst v) i
 |_,_,T,_=>T
theorem oG {T:Tm}{d:Option Tmp}{v:AV}{t:Nat}(h:d≠some t):(vJ T d v).lookup t=T.lookup t:=by
 cases d with
 |none=>rfl
 |some d =>
  have:(t==d)=false:=by simp;intro e;exact h (by rw[e])
  simp[vJ,List.lookup_cons,this]
theorem my {t:Nat}:∀ (l:List Oper) (vs:List AV) (T:Tm) (i:Nat),(∀ j o,j<i->l[j]?=some o->o.dst≠some t)->(fZ l vs T i).lookup t=T.lookup t
 |o::l,v::vs,T,i+1,h=>by
  rw[fZ,my l vs _ i λj o' hj ho=>h (j+1) o' m0 (by simpa using ho),oG (h 0 o m0 rfl)]
 |[],_,_,_,_=>by simp[fZ]
 |_::_,[],_,_,_=>by simp[fZ]
 |_::_,_::_,_,0,_=>by simp[fZ]
theorem tV {t:Nat}:∀ (l:List Oper) (vs:List AV) (T:Tm) (i j:Nat) (o:Oper) (v:AV),j<i->l[j]?=some o->o.dst=some t->vs[j]?=some v->(∀ k o',j<k->k<i->l[k]?=some o'->o'.dst≠some t)->(∀ k,k<i->k<=j->k<vs.length)->(fZ l vs T i).lookup t=some v
 |[],_,_,_,_,_,_,_,h,_,_,_,_=>by simp at h
 |_::_,[],_,_,_,_,_,_,_,_,h,_,_=>by simp at h
 |_::_,_::_,_,0,_,_,_,h,_,_,_,_,_=>by omega
 |o0::l,v0::vs,T,i+1,0,o,v,_,ho,hd,hv,hk,_=>by
  simp at ho hv;subst ho hv;rw[fZ,my l vs _ i λj o' hj S5=>hk (j+1) o' m0 m0 (by simpa using S5),hd];simp[vJ,List.lookup_cons]
 |o0::l,v0::vs,T,i+1,j+1,o,v,hj,ho,hd,hv,hk,hl=>by
  rw[fZ];exact tV l vs _ i j o v m0 (by simpa using ho) hd (by simpa using hv) (λk o' h1 h2 h3=>hk (k+1) o' m0 m0 (by simpa using h3)) (λk h1 h2=>by have:=hl (k+1) m0 m0;simpa using this)
section
variable {P:Program} {ti:TI} {B:Nat->Prop} {N n0:Nat} {γ:List Gh} {L:List Ob}
theorem ry {ops:Array Oper}{ds:List (Option Tmp)}(SO:∀ j:Nat,(ops[j]?).map (·.dst)=ds[j]?){T:Tm}{R:PH}{a:Act}{o:Oper}{b:Bool}(hs:∀ d x,d∈o.looksAt ops->T.lookup d=some x ->∃ u,a.tmps[d]?=some u/\x.rep R γ L u)(h:gg ds T o.guard=some b):Region.wanted o (yielded ops a.tmps)=b:=by
 cases hg:o.guard with
 |none=>rw[hg]at h;injection h with h;subst h;simp[Region.wanted,hg]
 |some p =>
  obtain⟨j,want⟩:=p;rw[hg]at h;simp only[gg]at h;split at h
  ·rename_i d hd0
   have hd:(ops[j]?).bind (·.dst)=some d:=by
    have:=SO j;rw[hd0]at this
    cases ho:ops[j]? with
    |none=>simp[ho]at this
    |some o'=>simpa[ho]using this
   have R5:d∈o.looksAt ops:=by
    unfold Oper.looksAt;rw[hg];simp[hd]
   split at h
   ·rename_i b' hb
    injection h with h;subst h
    obtain⟨u,h1,h2⟩:=hs d _ R5 hb
    cases h2;have hy:yielded ops a.tmps j=some b':=by simp[yielded,hd,h1]
    simp[Region.wanted,hg,hy]
   ·rename_i hb
    injection h with h;subst h
    obtain⟨u,h1,h2⟩:=hs d _ R5 hb;have Xr:u=Go.undef:=h2;subst Xr;have hy:yielded ops a.tmps j=none:=by simp[yielded,hd,h1,Go.undef]
    simp[Region.wanted,hg,hy]
   ·cases h
  ·cases h
theorem xT {α:Type}{p q:α->Bool}:∀ (l:List α),(∀ x∈l,q x=true->p x=true)->(∃ x∈l,p x=true/\q x=false)->l.countP q<l.countP p
 |[],_,⟨x,hx,_⟩=>by cases hx
 |y::l,h,⟨x,hx,h1,h2⟩=>by
  have hle:l.countP q<=l.countP p:=List.countP_mono_left λz hz=>h z (aqO _ hz)
  rw[List.countP_cons,List.countP_cons];obtain rfl|hx:=aqH.1 hx
  ·rw[h1,h2];simp;omega
  ·have:=xT l (λz hz=>h z (aqO _ hz)) ⟨x,hx,h1,h2⟩
   have hy:=h y m5
   cases hq:q y<;>cases hp:p y<;>simp_all<;>omega
def sU (n:Nat)(listed:Array Bool):Nat:=(List.range n).countP λi=>listed[i]?==some false
end
def Fb:Op->Bool
 |.load _ _=>false
 |.fieldAddr _ _ _=>false
 |.indexAddr _ _ _=>false
 |.nilCheck _=>false
 |.slice _ _ _ _ _=>false
 |.call { callee := .builtin .len,.. } =>false
 |_=>true
def isLoad:Op->Bool
 |.load _ _=>true
 |_=>false
def abh (F:List Nat):Op->Bool
 |.load _ (.tmp t)=>F.contains t
 |_=>false
def okX (F:List Nat)(ti:TI)(i c:Nat)(oi oc:Op):Bool :=
 Fb oi||(abh F oi||(ti.soft&&match sk oc with
  |1=>decide (i<c)
  |2=>true
  |3 => !isLoad oi
  |4=>true
  |_=>false))
def alc (ti:TI)(o:Oper)(F:List Nat):List Nat:=match F,o.guard,o.dst,o.op with
 |[],_,_,_=>[]
 |F,none,some d,.fieldAddr _ (.tmp t) _=>if F.contains t=true then d::F else F
 |F,none,some d,.indexAddr _ (.tmp t) _=>if F.contains t=true then d::F else F
 |F,none,some d,.load ty (.tmp t)=>if F.contains t=true/\ti.agg ty=some false then d::F else F
 |F,_,_,_=>F
def Nk (ti:TI):List Oper->Nat->List Nat->List Nat
 |_,_,[]=>[]
 |o::l,n+1,F=>Nk ti l n (alc ti o F)
 |_,_,F=>F
def fq (F:List Nat)(ti:TI)(l:List Oper):Bool :=
 let ms:=masks l []
 (F.all λt=>l.all λo=>o.dst !=some t) &&
 (l.zipIdx.all λp=>p.1.after.toList.all λe => !Region.binds .any e||decide (e.on<p.2)) &&
 (l.zipIdx.all λp => !bW ti p.1.op||l.zipIdx.all λq => !bW ti q.1.op||decide (p.2<=q.2)||(ms.getD p.2 0).testBit q.2) &&
 (l.zipIdx.all λp=>l.zipIdx.all λq=>decide (p.2=q.2)||(match p.1.dst with
  |some d => !(g9 l.toArray q.1).contains d||(p.1.dst !=q.1.dst&&(if p.2<q.2 then(ms.getD q.2 0).testBit p.2 else(ms.getD p.2 0).testBit q.2))
  |none=>true)) &&
 (l.zipIdx.all λp=>bW ti p.1.op||l.zipIdx.all λq => !bW ti q.1.op||(ms.getD p.2 0).testBit q.2||(ms.getD q.2 0).testBit p.2||okX (Nk ti l p.2 F) ti p.2 q.2 p.1.op q.1.op)
def ahW (ti:TI)(l:List Oper):Bool:=fq [] ti l
structure aka (F:List Nat)(ti:TI)(l:List Oper):Prop where
 fz:∀ t∈F,∀ o∈l,o.dst≠some t
 back:∀ (i:Nat) o,l[i]?=some o ->∀ e∈o.after.toList,Region.binds .any e=true->e.on<i
 chain:∀ (i j:Nat) o o',l[i]?=some o->l[j]?=some o'->bW ti o.op=true->bW ti o'.op=true->j<i->Anc l i j
 apart:∀ (i j:Nat) o o' d,i≠j->l[i]?=some o->l[j]?=some o'->o.dst=some d->d∈g9 l.toArray o'->o'.dst≠some d/\(if i<j then Anc l j i else Anc l i j)
 cross:∀ (i c:Nat) o oc,l[i]?=some o->l[c]?=some oc->bW ti o.op=false->bW ti oc.op=true ->¬ Anc l i c ->¬ Anc l c i->okX (Nk ti l i F) ti i c o.op oc.op=true
theorem I3 {F:List Nat}{ti:TI}{l:List Oper}(h:fq F ti l=true):aka F ti l:=by
 unfold fq at h;simp only[aqI]at h;obtain⟨⟨⟨⟨h0,h1⟩,h2⟩,h3⟩,h4⟩:=h;have Uc:=tO l l [] (λq=>by simp) (λi j hi=>by simp at hi);have zi:∀ {l':List Oper} (i:Nat) o,l'[i]?=some o->(o,i)∈l'.zipIdx:=by
  intro l' i o ho;rw[List.mem_iff_getElem?];exact⟨i,by simp[List.getElem?_zipIdx,ho]⟩
 refine⟨λt ht o ho e=>by have:=arf.1 (arf.1 h0 t ht) o ho;rw[e]at this;simp at this,λi o ho e he hb=>?_,λi j o o' ho S5 hk VN hj=>?_,λi j o o' d Pn ho S5 hd hn=>?_,λi c o oc ho Q9 hk VN n1 n2=>?_⟩
 ·have:=arf.1 (arf.1 h1 (o,i) (zi i o ho)) e he
  simpa[hb]using this
 ·have:=arf.1 h2 (o,i) (zi i o ho)
  simp only[hk,Bool.not_true,Bool.false_or]at this;have:=arf.1 this (o',j) (zi j o' S5);simp only[VN,Bool.not_true,Bool.false_or,Bool.or_eq_true,decide_eq_true_eq]at this;obtain this|this:=this
  ·omega
  ·exact Uc i j this
 ·have:=arf.1 (arf.1 h3 _ (zi i o ho)) _ (zi j o' S5)
  simp only[Pn,decide_false,Bool.false_or,hd]at this;have hc:(g9 l.toArray o').contains d=true:=by simpa using hn
  rw[hc]at this;simp only[Bool.not_true,Bool.false_or,aqI,bne_iff_ne,ne_eq]at this;refine⟨λe=>this.1 e.symm,?_⟩;by_cases TF:i<j
  ·rw[if_pos TF]at this ⊢
   exact Uc j i this.2
  ·rw[if_neg TF]at this ⊢
   exact Uc i j this.2
 ·have:=arf.1 h4 (o,i) (zi i o ho)
  simp only[hk,Bool.false_or]at this;have:=arf.1 this (oc,c) (zi c oc Q9);simp only[VN,Bool.not_true,Bool.false_or,Bool.or_eq_true]at this;obtain(this|this)|this:=this
  ·exact absurd (Uc i c this) n1
  ·exact absurd (Uc c i this) n2
  ·exact this
section
variable {P:Program} {ti:TI} {ρ:Operand->Option AV} {L L':List Ob}
theorem akc {F:List Nat}{op:Op}(h:abh F op=true)(hF:∀ t∈F,∃ x,ρ (.tmp t)=some (.one (.c x))):pop ti ρ L op=pop ti ρ L' op:=by
 unfold abh at h;split at h
 ·rename_i ty t
  obtain⟨x,hx⟩:=hF t (by simpa using h);simp only[pop,hx,aqo];unfold fA
  cases x<;>rfl
 ·cases h
def Ob.vis:Ob->Bool
 |.box _=>true
 |.row _ _ _=>true
 |_=>false
def RelA (L L':List Ob):Prop :=∀ (id:Nat) x,L[id]?=some x->x.vis=true->L'[id]?=some x
def RelB (L L':List Ob):Prop :=∀ (id:Nat) O1 es k,L[id]?=some (.row O1 es k) ->∃ PQ,L'[id]?=some (.row O1 PQ k)
theorem RelA.toB (h:RelA L L'):RelB L L':=λid O1 es k e=>⟨es,h id _ e rfl⟩
theorem adf {op:Op}(h:Fb op=true):pop ti ρ L op=pop ti ρ L' op:=by
 cases op with
 |call c =>
  obtain⟨callee,args,ts⟩:=c
  cases callee with
  |builtin b=>cases b<;>first|(cases h;done)|rfl
  |_=>rfl
 |makeFunc f first captured=>cases f<;>rfl
 |_=>first|(cases h;done)|rfl
theorem yn (h:RelB L L'){s:TypeId}{i0 id O1 i off:Nat}{r:AV×Prop}(e:ed ti L s i0 id O1 i off=some r):ed ti L' s i0 id O1 i off=some r:=by
 unfold ed at e ⊢;split at e
 ·rename_i Po es k o t hL hf
  obtain⟨PQ,h'⟩:=h id _ _ _ hL;rw[h',hf];exact e
 ·cases e
theorem G5 (h:RelB L L'){t:TypeId}{id O1 n:Nat}{r:AV×Prop}(e:g8 ti L t id O1 n=some r):g8 ti L' t id O1 n=some r:=by
 unfold g8 at e ⊢;split at e
 ·rename_i Po es k hL
  obtain⟨PQ,h'⟩:=h id _ _ _ hL;rw[h'];exact e
 ·cases e
theorem yw (h:RelB L L'){t:TypeId}{id O1 lo n:Nat}{ix:AV}{r:AV×Prop}(e:eF ti L t id O1 lo n ix=some r):eF ti L' t id O1 lo n ix=some r:=by
 unfold eF at e ⊢;split at e
 ·rename_i Po es k' kk i k hL hk
  obtain⟨PQ,h'⟩:=h id _ _ _ hL;rw[h',hk];exact e
 ·cases e
theorem oC (h:RelB L L'){t:TypeId}{x:AV}{lo hi:Option AV}{r:AV×Prop}(e:eh ti L t x lo hi=some r):eh ti L' t x lo hi=some r:=by
 unfold eh at e ⊢;split at e
 ·exact e
 ·rename_i id O1 XR n
  split at e
  ·rename_i Po es k' k hL hk
   obtain⟨PQ,h'⟩:=h id _ _ _ hL;simp only[h',hk];exact e
  ·cases e
 ·exact e
theorem ah' (h:RelB L L'){op:Op}(hl:isLoad op=false){r:AV×Prop}(e:pop ti ρ L op=some r):pop ti ρ L' op=some r:=by
 by_cases WL:Fb op=true
 ·rw[<- adf WL (L:=L)];exact e
 unfold pop at e ⊢;split at e
 all_goals first
  |exact e
  |(cases hl;done)
  |skip
 ·split at e
  ·exact yn h e
  ·exact e
  ·cases e
 ·split at e
  ·exact yw h e
  ·exact e
  ·cases e
 ·split at e
  ·exact e
  ·exact e
  ·rename_i id O1 i o hx
   split at e
   ·rename_i Po es k hL
    obtain⟨PQ,h'⟩:=h id _ _ _ hL;simp only[h'];exact e
   ·cases e
  ·exact e
  ·exact e
  ·cases e
 ·split at e
  ·exact oC h e
  ·exact oC h e
  ·exact oC h e
  ·exact oC h e
  ·cases e
 ·split at e
  ·split at e
   ·exact G5 h e
   ·exact e
   ·cases e
  ·cases e
theorem aaG (h:RelA L L'){t:TypeId}{x:AV}{r:AV×Prop}(e:fA ti L t x=some r):fA ti L' t x=some r:=by
 unfold fA at e ⊢;split at e
 ·exact e
 ·rename_i id off
  split at e
  ·rename_i cs hL
   simp only[h id _ hL rfl];exact e
  ·cases e
 ·rename_i id O1 i o
  split at e
  ·rename_i Po es k hL
   simp only[h id _ hL rfl];exact e
  ·cases e
 ·cases e
theorem aaW (h:RelA L L'){op:Op}{r:AV×Prop}(e:pop ti ρ L op=some r):pop ti ρ L' op=some r:=by
 cases hl:isLoad op with
 |false=>exact ah' h.toB hl e
 |true =>
  cases op<;>first|(cases hl;done)|skip
  rename_i t p;simp only[pop]at e ⊢
  cases hp:ρ p with
  |none=>simp[hp]at e
  |some v=>simp only[hp,aqo]at e ⊢;exact aaG h e
theorem aiE {op:Op}{v:AV}{φ:Prop}(h:Gz ti ρ L op=some (v,L',φ)):(sk op=1->RelA L L')/\(sk op=2->RelA L L'/\RelA L' L)/\(sk op=3->RelB L L'/\RelB L' L):=by
 have grow:∀ x,RelA L (L++[x]):=λx id y hy _=>by rw[aqE (aqp.1 hy).1];exact hy
 have setA:∀ (i:Nat) (x y:Ob),L[i]?=some x->x.vis=false->y.vis=false->RelA L (L.set i y)/\RelA (L.set i y) L:=by
  intro i x y hx hv SZ;have O0:=(aqp.1 hx).1;refine⟨λid z hz Zn=>?_,λid z hz Zn=>?_⟩
  ·by_cases e:id=i
   ·subst e;rw[hx]at hz;injection hz with hz;subst hz;rw[hv]at Zn;cases Zn
   ·rw[aqK (Ne.symm e)];exact hz
  ·by_cases e:id=i
   ·subst e;rw[aqJ O0]at hz;injection hz with hz;subst hz;rw[SZ]at Zn;cases Zn
   ·rw[aqK (Ne.symm e)]at hz;exact hz
 unfold Gz at h;split at h
 ·split at h
  ·injection h with h;injection h with e1 e2;injection e2 with e2 e3;subst e2
   exact⟨λ_=>grow _,λe=>(by cases e),λe=>by cases e⟩
  ·cases h
 ·split at h
  ·injection h with h;injection h with e1 e2;injection e2 with e2 e3;subst e2
   exact⟨λ_=>grow _,λe=>(by cases e),λe=>by cases e⟩
  ·cases h
 ·refine⟨λe=>(by cases e),λe=>(by cases e),λ_=>?_⟩
  split at h
  ·rename_i id off xs hp hx
   split at h
   ·rename_i cs hL
    injection h with h;injection h with e1 e2;injection e2 with e2 e3;subst e2
    have O0:=(aqp.1 hL).1;refine⟨λWj O1 es k e=>?_,λWj O1 es k e=>?_⟩
    ·by_cases hid:Wj=id
     ·subst hid;rw[hL]at e;cases e
     ·exact⟨es,by rw[aqK (Ne.symm hid)];exact e⟩
    ·by_cases hid:Wj=id
     ·subst hid;rw[aqJ O0]at e;cases e
     ·exact⟨es,by rw[aqK (Ne.symm hid)]at e;exact e⟩
   ·cases h
  ·rename_i id O1 i o xs hp hx
   split at h
   ·rename_i Po es k hL
    split at h
    ·rename_i e0 YU
     injection h with h;injection h with e1 e2;injection e2 with e2 e3;subst e2
     have O0:=(aqp.1 hL).1;refine⟨λWj Q5 TZ k2 e=>?_,λWj Q5 TZ k2 e=>?_⟩
     ·by_cases hid:Wj=id
      ·subst hid;rw[hL]at e;injection e with e;injection e with q1 q2 q3;subst q1 q2 q3
       exact⟨_,aqJ O0⟩
      ·exact⟨TZ,by rw[aqK (Ne.symm hid)];exact e⟩
     ·by_cases hid:Wj=id
      ·subst hid;rw[aqJ O0]at e;injection e with e;injection e with q1 q2 q3;subst q1 q2 q3
       exact⟨es,hL⟩
      ·exact⟨TZ,by rw[aqK (Ne.symm hid)]at e;exact e⟩
    ·cases h
   ·cases h
  ·cases h
 ·refine⟨λe=>(by cases e),λ_=>?_,λe=>by cases e⟩
  split at h
  ·split at h
   ·unfold su at h
    split at h
    ·split at h
     ·split at h
      ·injection h with h;injection h with e1 e2;injection e2 with e2 e3;subst e2
       refine⟨grow _,λid x hx hv=>?_⟩;by_cases hid:id<L.length
       ·rw[aqE hid]at hx;exact hx
       ·rw[aqx m0]at hx
        have:=(aqp.1 hx).1;have h0:id-L.length=0:=by simp at this;omega
        rw[h0]at hx;simp at hx;subst hx;cases hv
      ·split at h
       ·rename_i hL
        injection h with h;injection h with e1 e2;injection e2 with e2 e3;subst e2
        exact setA _ _ _ hL rfl rfl
       ·cases h
      ·cases h
     ·cases h
    ·cases h
   ·cases h
  ·cases h
 ·cases h
theorem aao {ρ':Operand->Option AV}{op:Op}(h:∀ x,x∈op.operands->ρ x=ρ' x):Gz ti ρ L op=Gz ti ρ' L op:=by
 unfold Gz;split
 ·rfl
 ·rename_i t x;rw[h x (by simp[Op.operands])]
 ·rename_i t p x;rw[h p (by simp[Op.operands]),h x (by simp[Op.operands])]
 ·rename_i args ts
  split
  ·rename_i s x t tx hs hx
   rw[h s (by simp[Op.operands,Call.operands];rw[<- Array.mem_toList_iff,hs];simp),h x (by simp[Op.operands,Call.operands];rw[<- Array.mem_toList_iff,hs];simp)]
  ·rfl
 ·rfl
theorem Fj {ρ':Operand->Option AV}:∀ (xs:List Operand),(∀ x∈xs,ρ x=ρ' x)->avs ρ xs=avs ρ' xs
 |[],_=>rfl
 |x::xs,h=>by
  have h1:ρ x=ρ' x:=h x m5;have h2:=Fj xs λy hy=>h y (aqO _ hy)
  simp only[avs,h1,h2]
theorem qp {ρ':Operand->Option AV}{op:Op}(h:∀ x,x∈op.operands->ρ x=ρ' x):eR ti ρ op=eR ti ρ' op:=by
 unfold eR;split
 ·rename_i f args ts
  split
  ·rename_i x xs ho S4
   have hm:∀ y,y∈x::xs->ρ y=ρ' y:=λy hy=>h y (by simp[Op.operands,Call.operands];exact .inr (by rw[<- Array.mem_toList_iff,S4];exact hy))
   rw[hm x m5,jr xs λy hy=>hm y (aqO _ hy)]
  ·rfl
 ·rfl
theorem yc {ρ':Operand->Option AV}{op:Op}(h:∀ x,x∈op.operands->ρ x=ρ' x):cS ti ρ op=cS ti ρ' op:=by
 unfold cS;split
 ·rename_i f args ts
  have h1:ρ f=ρ' f:=h f (by simp[Op.operands,Call.operands]);have h2:avs ρ args.toList=avs ρ' args.toList:=Fj _ λx hx=>h x (by simp[Op.operands,Call.operands];exact .inr (by simpa using hx))
  rw[h1,h2]
 ·rfl
theorem aaw {ρ':Operand->Option AV}{op:Op}{v:AV}(h:∀ x,x∈op.operands->ρ x=ρ' x)(hs:sf P ρ L op v L'):sf P ρ' L op v L' :=
 λB R γ w ev o ho hi hρ Rz=>hs B R γ w ev o ho hi (λx hx v hv=>hρ x hx v (by rw[<- h x hx];exact hv)) Rz
theorem vt {ρ':Operand->Option AV}{op:Op}{K:AV->List Ob->Prop}(h:∀ x,x∈op.operands->ρ x=ρ' x)(ha:hZ P ti ρ L K op):hZ P ti ρ' L K op:=by
 obtain ha|ha|ha|ha|ha|ha|ha|⟨v,L',h1,h2,h3⟩:=ha
 ·rw[Es h]at ha;exact .inl ha
 ·rw[vg h]at ha;exact .inr (.inl ha)
 ·rw[aao h]at ha;exact .inr (.inr (.inl ha))
 ·rw[tg h]at ha;exact .inr (.inr (.inr (.inl ha)))
 ·rw[qp h]at ha;exact .inr (.inr (.inr (.inr (.inl ha))))
 ·rw[qp h]at ha;exact .inr (.inr (.inr (.inr (.inr (.inl ha)))))
 ·rw[yc h]at ha;exact .inr (.inr (.inr (.inr (.inr (.inr (.inl ha))))))
 ·exact .inr (.inr (.inr (.inr (.inr (.inr (.inr ⟨v,L',h1,aaw h h2,h3⟩))))))
theorem aab {op:Op}{K:AV->List Ob->Prop}(ha:hZ P ti ρ L K op):∃ v L1,hZ P ti ρ L (λv' L'=>v'=v/\L'=L1) op/\K v L1:=by
 obtain⟨v,φ,hp,hφ,hk⟩|⟨v,φ,hp,hφ,hk⟩|⟨v,L',φ,hp,hφ,hk⟩|⟨g,ps,r,hc,hP,hk⟩|⟨g,es,t,k,ps,PQ,hc,h1,h2,hk⟩|⟨g,k,ps,PQ,hc,h1,hk⟩|⟨σ,g,L0,R7,L1,r,hc,h1,h2,hk⟩|⟨v,L',h1,h2,hk⟩:=ha
 ·exact⟨v,_,.inl ⟨v,φ,hp,hφ,rfl,rfl⟩,hk⟩
 ·exact⟨v,_,.inr (.inl ⟨v,φ,hp,hφ,rfl,rfl⟩),hk⟩
 ·exact⟨v,_,.inr (.inr (.inl ⟨v,L',φ,hp,hφ,rfl,rfl⟩)),hk⟩
 ·exact⟨_,_,.inr (.inr (.inr (.inl ⟨g,ps,r,hc,hP,rfl,rfl⟩))),hk⟩
 ·exact⟨_,_,.inr (.inr (.inr (.inr (.inl ⟨g,es,t,k,ps,PQ,hc,h1,h2,rfl,rfl⟩)))),hk⟩
 ·exact⟨_,_,.inr (.inr (.inr (.inr (.inr (.inl ⟨g,k,ps,PQ,hc,h1,rfl,rfl⟩))))),hk⟩
 ·exact⟨_,_,.inr (.inr (.inr (.inr (.inr (.inr (.inl ⟨σ,g,L0,R7,L1,r,hc,h1,h2,rfl,rfl⟩)))))),hk⟩
 ·exact⟨_,_,.inr (.inr (.inr (.inr (.inr (.inr (.inr ⟨v,L',h1,h2,rfl,rfl⟩)))))),hk⟩
theorem quiet_move {op:Op}{v:AV}{L1:List Ob}(hl:bW ti op=false)(ha:hZ P ti ρ L (λv' L'=>v'=v/\L'=L1) op)(hr:∀ r,pop ti ρ L op=some r->pop ti ρ L' op=some r):hZ P ti ρ L' (λv' XQ=>v'=v/\XQ=L') op:=by
 obtain⟨v',φ,hp,hφ,hk⟩|⟨v',φ,hp,hφ,hk⟩|⟨v',L',φ,hp,_⟩|⟨g,ps,r,hc,hP,hk⟩|⟨g,es,t,k,ps,PQ,hc,_⟩|⟨g,k,ps,PQ,hc,_⟩|⟨σ,g,L0,R7,L1,r,hc,_⟩|⟨v',L',hk,_⟩:=ha
 ·exact .inl ⟨v',φ,hr _ hp,hφ,hk.1,rfl⟩
 ·exact .inr (.inl ⟨v',φ,hp,hφ,hk.1,rfl⟩)
 ·rw[BW hp]at hl;cases hl
 ·exact .inr (.inr (.inr (.inl ⟨g,ps,r,hc,hP,hk.1,rfl⟩)))
 ·rw[fu hc]at hl;cases hl
 ·rw[fu hc]at hl;cases hl
 ·rw[mB hc]at hl;cases hl
 ·rw[hk.1]at hl;cases hl
theorem tL {op:Op}{v:AV}{L1:List Ob}(hl:bW ti op=false)(ha:hZ P ti ρ L (λv' L'=>v'=v/\L'=L1) op):L1=L:=by
 obtain⟨v',_,h1,h2⟩:=J7 hl ha;exact h2.symm
theorem adt {op:Op}{v:AV}{L1:List Ob}(hs:ti.soft=true)(h0:sk op≠0)(ha:hZ P ti ρ L (λv' L'=>v'=v/\L'=L1) op):(sk op=1->RelA L L1)/\(sk op=2->RelA L L1/\RelA L1 L)/\(sk op=3->RelB L L1/\RelB L1 L)/\(sk op=4->RelA L L1/\RelA L1 L):=by
 have self:RelA L L/\RelB L L:=⟨λ_ _ h _=>h,λ_ _ es _ h=>⟨es,h⟩⟩;have Rh:∀ c,op = .call c->(∀ f,c.callee = .value f->False):=by
  intro c e f hf;subst e;obtain⟨callee,args,ts⟩:=c;simp only at hf;subst hf;exact h0 rfl
 obtain⟨v',φ,hp,hφ,rfl,rfl⟩|⟨v',φ,hp,hφ,rfl,rfl⟩|⟨v',L',φ,hp,hφ,rfl,rfl⟩|⟨g,ps,r,hc,hP,rfl,rfl⟩|⟨g,es,t,k,ps,PQ,hc,_⟩|⟨g,k,ps,PQ,hc,_⟩|⟨σ,g,L0,R7,L2,r,hc,_⟩|⟨v',L',hk,hh⟩:=ha
 ·exact⟨λ_=>self.1,λ_=>⟨self.1,self.1⟩,λ_=>⟨self.2,self.2⟩,λ_=>⟨self.1,self.1⟩⟩
 ·exact⟨λ_=>self.1,λ_=>⟨self.1,self.1⟩,λ_=>⟨self.2,self.2⟩,λ_=>⟨self.1,self.1⟩⟩
 ·obtain⟨q1,q2,q3⟩:=aiE hp
  refine⟨q1,q2,q3,λe4=>?_⟩;exfalso;unfold Gz at hp;split at hp<;>first|(cases e4;done)|(cases hp;done)
 ·exact⟨λ_=>self.1,λ_=>⟨self.1,self.1⟩,λ_=>⟨self.2,self.2⟩,λ_=>⟨self.1,self.1⟩⟩
 ·exfalso
  unfold eR at hc;split at hc
  ·exact Rh _ rfl _ rfl
  ·cases hc
 ·exfalso
  unfold eR at hc;split at hc
  ·exact Rh _ rfl _ rfl
  ·cases hc
 ·exfalso
  unfold cS at hc;split at hc
  ·exact Rh _ rfl _ rfl
  ·cases hc
 ·obtain e|⟨e4,rfl⟩:=hk.2 hs
  ·exact absurd e h0
  ·obtain⟨_,_,rfl⟩:=hh
   exact⟨λ_=>self.1,λ_=>⟨self.1,self.1⟩,λ_=>⟨self.2,self.2⟩,λ_=>⟨self.1,self.1⟩⟩
end
section
variable {P:Program} {ti:TI} {B:Nat->Prop} {N n0:Nat}
theorem adl {ds:List (Option Tmp)}{K:Tm->List Ob->Prop}:∀ (l:List Oper) (T:Tm) (L:List Ob),aI P ti N ds K l T L ->
  ∃ (vs:List AV) (Ls:Nat->List Ob),vs.length=l.length/\Ls 0=L/\(∀ (i:Nat) o,l[i]?=some o->dOK N o.dst /\ ∃ v,vs[i]?=some v /\
   ((gg ds (fZ l vs T i) o.guard=some true/\hZ P ti (look (fZ l vs T i)) (Ls i) (λv' L'=>v'=v/\L'=Ls (i+1)) o.op)\/(gg ds (fZ l vs T i) o.guard=some false/\v = .undef/\Ls (i+1)=Ls i))) /\
   K (fZ l vs T l.length) (Ls l.length)
 |[],T,L,h=>⟨[],λ_=>L,rfl,rfl,λi o ho=>by simp at ho,by have h:K T L:=h;simpa[fZ]using h⟩
 |o::l,T,L,h=>by
  obtain⟨hd,hg⟩:=h;have go:∀ v L1,((gg ds T o.guard=some true/\hZ P ti (look T) L (λv' L'=>v'=v/\L'=L1) o.op)\/(gg ds T o.guard=some false/\v = .undef/\L1=L))->aI P ti N ds K l (vJ T o.dst v) L1 ->∃ (vs:List AV) (Ls:Nat->List Ob),vs.length=(o::l).length/\Ls 0=L/\(∀ (i:Nat) o',(o::l)[i]?=some o'->dOK N o'.dst /\ ∃ v,vs[i]?=some v /\
   ((gg ds (fZ (o::l) vs T i) o'.guard=some true/\hZ P ti (look (fZ (o::l) vs T i)) (Ls i) (λv' L'=>v'=v/\L'=Ls (i+1)) o'.op)\/(gg ds (fZ (o::l) vs T i) o'.guard=some false/\v = .undef/\Ls (i+1)=Ls i))) /\
   K (fZ (o::l) vs T (o::l).length) (Ls (o::l).length):=by
   intro v L1 hv hr;obtain⟨vs,Ls,h1,h0,h2,h3⟩:=adl l (vJ T o.dst v) L1 hr;refine⟨v::vs,λi=>match i with|0=>L|i+1=>Ls i,by simp[h1],rfl,λi o' ho=>?_,by simpa[fZ]using h3⟩
   cases i with
   |zero =>
    simp at ho;subst ho;exact⟨hd,v,rfl,by simpa[fZ,h0]using hv⟩
   |succ i =>
    obtain⟨g1,v',g2,g3⟩:=h2 i o' (by simpa using ho);exact⟨g1,v',by simpa using g2,by simpa[fZ]using g3⟩
  obtain⟨h1,h2⟩|⟨h1,h2⟩:=ahl hg
  ·obtain⟨v,L1,g1,g2⟩:=aab h2
   exact go v L1 (.inl ⟨h1,g1⟩) g2
  ·exact go .undef L (.inr ⟨h1,rfl,rfl⟩) h2
theorem Ba:∀ (l:List Oper) (vs:List AV) (T:Tm) (i:Nat) (o:Oper) (v:AV),l[i]?=some o->vs[i]?=some v->fZ l vs T (i+1)=vJ (fZ l vs T i) o.dst v
 |[],_,_,_,_,_,h,_=>by simp at h
 |_::_,[],_,_,_,_,_,h=>by simp at h
 |o0::l,v0::vs,T,0,o,v,ho,hv=>by
  simp at ho hv;subst ho hv;simp[fZ]
 |o0::l,v0::vs,T,i+1,o,v,ho,hv=>by
  rw[fZ,fZ];exact Ba l vs _ i o v (by simpa using ho) (by simpa using hv)
theorem v7 {ρ:Operand->Option AV}{L L1:List Ob}{s:TypeId}{x:Operand}{i:Nat}{y:AC}{v:AV}(hx:ρ x=some (.one (.c y)))(h:hZ P ti ρ L (λv' L'=>v'=v/\L'=L1) (.fieldAddr s x i)):∃ z,v = .one (.c z):=by
 obtain⟨v',φ,hp,_,rfl,_⟩|⟨_,_,hp,_⟩|⟨_,_,_,hp,_⟩|⟨_,_,_,hp,_⟩|⟨_,_,_,_,_,_,hp,_⟩|⟨_,_,_,_,hp,_⟩|⟨_,_,_,_,_,_,hp,_⟩|⟨_,_,hp,_⟩:=h
 ·simp only[pop,hx]at hp
  unfold fH at hp;split at hp
  ·split at hp
   ·split at hp
    ·cases hp;exact⟨_,rfl⟩
    ·cases hp
   ·cases hp
  ·rename_i e;cases e
  ·cases hp
 ·cases hp
 ·cases hp
 ·cases hp
 ·cases hp
 ·cases hp
 ·cases hp
 ·cases hp.1
theorem vY {ρ:Operand->Option AV}{L L1:List Ob}{s:TypeId}{x ix:Operand}{y:AC}{v:AV}(hx:ρ x=some (.one (.c y)))(h:hZ P ti ρ L (λv' L'=>v'=v/\L'=L1) (.indexAddr s x ix)):∃ z,v = .one (.c z):=by
 obtain⟨v',φ,hp,_,rfl,_⟩|⟨_,_,hp,_⟩|⟨_,_,_,hp,_⟩|⟨_,_,_,hp,_⟩|⟨_,_,_,_,_,_,hp,_⟩|⟨_,_,_,_,hp,_⟩|⟨_,_,_,_,_,_,hp,_⟩|⟨_,_,hp,_⟩:=h
 ·simp only[pop,hx]at hp
  split at hp
  ·rename_i e _;cases e
  ·unfold em at hp
   split at hp
   ·split at hp
    ·cases hp;exact⟨_,rfl⟩
    ·cases hp
   ·cases hp
  ·cases hp
 ·cases hp
 ·cases hp
 ·cases hp
 ·cases hp
 ·cases hp
 ·cases hp
 ·cases hp.1
theorem aaF {ρ:Operand->Option AV}{L L1:List Ob}{ty:TypeId}{x:Operand}{y:AC}{v:AV}(hag:ti.agg ty=some false)(hx:ρ x=some (.one (.c y)))(h:hZ P ti ρ L (λv' L'=>v'=v/\L'=L1) (.load ty x)):∃ z,v = .one (.c z):=by
 obtain⟨v',φ,hp,_,rfl,_⟩|⟨_,_,hp,_⟩|⟨_,_,_,hp,_⟩|⟨_,_,_,hp,_⟩|⟨_,_,_,_,_,_,hp,_⟩|⟨_,_,_,_,hp,_⟩|⟨_,_,_,_,_,_,hp,_⟩|⟨_,_,hp,_⟩:=h
 ·simp only[pop,hx,aqo]at hp
  unfold fA at hp;split at hp
  ·rename_i cs _
   rw[hag]at hp
   cases cs with
   |nil=>simp at hp
   |cons z cs =>
    simp only[Option.some.injEq,Prod.mk.injEq]at hp;exact⟨z,hp.1.symm⟩
  ·rename_i e;cases e
  ·rename_i e;cases e
  ·cases hp
 ·cases hp
 ·cases hp
 ·cases hp
 ·cases hp
 ·cases hp
 ·cases hp
 ·cases hp.1
structure ak4 (ti:TI)(l:List Oper)(N:Nat)(B:Nat->Prop)(Ls:Nat->List Ob)(T:Tm)(vs:List AV)(R0:PH)(γ0:List Gh)(w0:World)(listed:Array Bool)(e:Nat)(R:PH)(γ:List Gh)(a:Act)(w:World):Prop where
 inv:Inv B R γ (Ls e) w
 size:a.tmps.size=N
 defers:a.defers=[]
 done:Done l listed
 le:e<=l.length
 lo:∀ (c:Nat) o,c<e->l[c]?=some o->bW ti o.op=true->listed[c]?=some true
 hi:∀ (c:Nat) o,e<=c->l[c]?=some o->bW ti o.op=true->listed[c]?=some false
 fresh:∀ (i:Nat) o d v,listed[i]?=some true->l[i]?=some o->o.dst=some d->vs[i]?=some v ->∃ u,a.tmps[d]?=some u/\v.rep R γ (Ls e) u
 old:∀ t x,T.lookup t=some x->(∀ (i:Nat) o,listed[i]?=some true->l[i]?=some o->o.dst≠some t) ->∃ u,a.tmps[t]?=some u/\x.rep R γ (Ls e) u
 ext:Ext B R0 R w0 w
 mv:Mv R0 R γ0 γ (Ls 0) (Ls e)
theorem tJ {l:List Oper}{listed:Array Bool}(UW:∀ (i:Nat) o,l[i]?=some o ->∀ e∈o.after.toList,Region.binds .any e=true->e.on<i)(h:Done l listed)(i:Nat):i∈Region.ready .any l.toArray listed↔i<l.length/\listed[i]?=some false /\ ∀ o,l[i]?=some o ->∀ e∈o.after.toList,Region.binds .any e=true->listed[e.on]?=some true:=by
 unfold Region.ready;rw[List.mem_filter,List.mem_range];simp only[List.size_toArray,aqI];constructor
 ·rintro⟨hi,h1,h2⟩
  have O0:i<listed.size:=by rw[h.size];exact hi
  have e1:listed[i]?=some listed[i]:=aqP O0;refine⟨hi,?_,λo ho e he hb=>?_⟩
  ·rw[Array.getD_eq_getD_getElem?,e1]at h1
   simp at h1;rw[e1,h1]
  ·simp only[List.getElem?_toArray,ho,Option.map_some,Option.getD_some]at h2
   have:=Array.all_eq_true'.1 h2 e (by simpa using he);rw[hb]at this;have QL:e.on<listed.size:=by rw[h.size];have:=UW i o ho e he hb;omega
   have e2:listed[e.on]?=some listed[e.on]:=aqP QL;rw[Array.getD_eq_getD_getElem?,e2]at this;simp at this;rw[e2,this]
 ·rintro⟨hi,h1,h2⟩
  refine⟨hi,by simp[Array.getD_eq_getD_getElem?,h1],?_⟩;have ho:l[i]?=some l[i]:=aqz hi;simp only[List.getElem?_toArray,ho,Option.map_some,Option.getD_some];rw[Array.all_eq_true'];intro e he;by_cases hb:Region.binds .any e=true
  ·simp[hb,Array.getD_eq_getD_getElem?,h2 _ ho e (by simpa using he) hb]
  ·simp[hb]
open Classical in
theorem amY (O_:TIok P ti){l:List Oper}{ds:List (Option Tmp)}(SO:l.map (·.dst)=ds){F:List Nat}(hD:aka F ti l){K:Tm->List Ob->Prop}{Q:Exit->Act->World->Prop}{T:Tm}{vs:List AV}{Ls:Nat->List Ob}{R0:PH}{γ0:List Gh}{w0:World}(hvl:vs.length=l.length)(hF:∀ t∈F,∃ x,T.lookup t=some (.one (.c x)))
  (UX:∀ (i:Nat) o,l[i]?=some o->dOK N o.dst /\ ∃ v,vs[i]?=some v /\
   ((gg ds (fZ l vs T i) o.guard=some true/\hZ P ti (look (fZ l vs T i)) (Ls i) (λv' L'=>v'=v/\L'=Ls (i+1)) o.op)\/(gg ds (fZ l vs T i) o.guard=some false/\v = .undef/\Ls (i+1)=Ls i)))
  (hK:K (fZ l vs T l.length) (Ls l.length))
  (hQ:∀ T' L' R' γ' w' a',K T' L'->Inv B R' γ' L' w'->fG N R' γ' L' T' a'->Ext B R0 R' w0 w'->Mv R0 R' γ0 γ' (Ls 0) L'->Q .normal a' w') :
  ∀ (fuel:Nat) (listed:Array Bool) (e:Nat) (R:PH) (γ:List Gh) (a:Act) (w:World),sU l.length listed<=fuel->ak4 ti l N B Ls T vs R0 γ0 w0 listed e R γ a w->wpAny P .any l.toArray Q fuel listed a w:=by
 have uniq:∀ (i j:Nat) o o' d,l[i]?=some o->l[j]?=some o'->o.dst=some d->o'.dst=some d->i=j:=by
  intro i j o o' d ho S5 hd Ul;by_cases Pn:i=j
  ·exact Pn
  ·exfalso
   exact(hD.apart i j o o' d Pn ho S5 hd (by unfold g9;simp[Ul])).1 Ul

 have der:∀ (m i:Nat) (G:List Nat),i+m<=l.length->(∀ t∈G,(∃ x,(fZ l vs T i).lookup t=some (.one (.c x))) /\ ∀ (k:Nat) o,i<=k->l[k]?=some o->o.dst≠some t) ->
   ∀ t∈Nk ti (l.drop i) m G,∃ x,(fZ l vs T (i+m)).lookup t=some (.one (.c x)):=by
  intro m
  induction m with
  |zero =>
   intro i G _ hG t ht;have:t∈G:=by
    cases G with
    |nil=>cases hd:l.drop i<;>rw[hd]at ht<;>exact ht
    |cons g G=>cases hd:l.drop i<;>rw[hd]at ht<;>exact ht
   exact(hG t this).1
  |succ m ih =>
   intro i G hle hG t ht;have O0:i<l.length:=m0
   have ho:l[i]?=some l[i]:=aqz O0;rw[aqW O0]at ht;have hG':∀ t∈alc ti l[i] G,(∃ x,(fZ l vs T (i+1)).lookup t=some (.one (.c x))) /\ ∀ (k:Nat) o,i+1<=k->l[k]?=some o->o.dst≠some t:=by
    obtain⟨_,v,hv,Ud⟩:=UX i _ ho;have hold:∀ t∈G,(∃ x,(fZ l vs T (i+1)).lookup t=some (.one (.c x))) /\ ∀ (k:Nat) o,i+1<=k->l[k]?=some o->o.dst≠some t:=λt ht=>by
     obtain⟨⟨x,hx⟩,hk⟩:=hG t ht;refine⟨⟨x,?_⟩,λk o h1 h2=>hk k o m0 h2⟩;rw[Ba l vs T i _ v ho hv,oG (hk i _ (aqG _) ho)];exact hx
    have Vb:∀ d x,l[i].dst=some d->v = .one (.c x)->(∃ x,(fZ l vs T (i+1)).lookup d=some (.one (.c x))) /\ ∀ (k:Nat) o,i+1<=k->l[k]?=some o->o.dst≠some d:=λd x hd hvx=>by
     refine⟨⟨x,?_⟩,λk o h1 h2 h3=>?_⟩
     ·rw[Ba l vs T i _ v ho hv,hd,hvx]
      simp[vJ,List.lookup_cons]
     ·have:=uniq i k _ o d ho h2 hd h3
      omega
    have TL:∀ t∈G,∃ x,look (fZ l vs T i) (.tmp t)=some (.one (.c x)):=λt ht=>(hG t ht).1
    have Va:l[i].guard=none->hZ P ti (look (fZ l vs T i)) (Ls i) (λv' L'=>v'=v/\L'=Ls (i+1)) l[i].op:=λhg=>by
     obtain⟨_,h⟩|⟨h,_,_⟩:=Ud
     ·exact h
     ·rw[hg]at h;cases h
    intro t ht;unfold alc at ht;split at ht
    ·cases ht
    ·rename_i d s t0 ix _ hg hd RA _
     split at ht
     ·rename_i hc
      obtain rfl|ht:=aqH.1 ht
      ·obtain⟨x,hx⟩:=TL t0 (by simpa using hc)
       have h:=Va hg;rw[RA]at h;obtain⟨y,hy⟩:=v7 hx h;exact Vb _ y hd hy
      ·exact hold t ht
     ·exact hold t ht
    ·rename_i d s t0 ix _ hg hd RA _
     split at ht
     ·rename_i hc
      obtain rfl|ht:=aqH.1 ht
      ·obtain⟨x,hx⟩:=TL t0 (by simpa using hc)
       have h:=Va hg;rw[RA]at h;obtain⟨y,hy⟩:=vY hx h;exact Vb _ y hd hy
      ·exact hold t ht
     ·exact hold t ht
    ·rename_i d ty t0 _ hg hd RA _
     split at ht
     ·rename_i hc
      obtain rfl|ht:=aqH.1 ht
      ·obtain⟨x,hx⟩:=TL t0 (by simpa using hc.1)
       have h:=Va hg;rw[RA]at h;obtain⟨y,hy⟩:=aaF hc.2 hx h;exact Vb _ y hd hy
      ·exact hold t ht
     ·exact hold t ht
    ·exact hold t ht
   have e1:i+1+m=i+(m+1):=m0
   have key:=ih (i+1) (alc ti l[i] G) m0 hG' t;rw[e1]at key;refine key ?_
   cases hG0:G with
   |nil=>rw[hG0]at ht;cases ht
   |cons g G0=>rw[hG0]at ht;exact ht
 have derI:∀ i,i<=l.length ->∀ t∈Nk ti l i F,∃ x,(fZ l vs T i).lookup t=some (.one (.c x)):=by
  intro i hi t ht;have:=der i 0 F m0 (λt ht=>⟨by
   obtain⟨x,hx⟩:=hF t ht;exact⟨x,(my l vs T 0 λj o' h=>by omega).trans hx⟩,λk o _ hk=>hD.fz t ht o (aqw hk)⟩) t (by rw[List.drop_zero];exact ht)
  rw[aq8]at this;exact this

 have flat:∀ n e,(∀ (c:Nat) o,e<=c->c<e+n->l[c]?=some o->bW ti o.op=false)->e+n<=l.length->Ls (e+n)=Ls e:=by
  intro n
  induction n with
  |zero=>intro e _ _;rfl
  |succ n ih =>
   intro e h hle;have h1:=ih e (λc o h1 h2=>h c o h1 m0) m0;have O0:e+n<l.length:=m0
   have ho:l[e+n]?=some l[e+n]:=aqz O0;obtain⟨_,v,_,hs⟩:=UX _ _ ho;rw[<- h1];show Ls (e+n+1)=Ls (e+n);obtain⟨_,RA⟩|⟨_,_,RA⟩:=hs
   ·exact tL (h _ _ m0 m0 ho) RA
   ·exact RA

 have pass:∀ (i:Nat) o v,l[i]?=some o->bW ti o.op=false->hZ P ti (look (fZ l vs T i)) (Ls i) (λv' L'=>v'=v/\L'=Ls (i+1)) o.op ->∀ e,e<=l.length ->
   (∀ (c:Nat) oc,l[c]?=some oc->bW ti oc.op=true->(i<c/\c<e)\/(e<=c/\c<i)->okX (Nk ti l i F) ti i c o.op oc.op=true)->hZ P ti (look (fZ l vs T i)) (Ls e) (λv' L'=>v'=v/\L'=Ls e) o.op:=by
  intro i o v ho hk RA e Wl hx;have VC:=(aqp.1 ho).1;refine quiet_move hk RA ?_;by_cases WL:Fb o.op=true
  ·intro r hr;rw[<- adf WL (L:=Ls i)];exact hr
  have Zo:Fb o.op=false:=by simpa using WL
  by_cases WF:abh (Nk ti l i F) o.op=true
  ·intro r hr
   rw[<- akc (L:=Ls i) WF (λt ht=>derI i m0 t ht)];exact hr
  have hfz':abh (Nk ti l i F) o.op=false:=by simpa using WF
  have step:∀ c,c<l.length->(∀ oc,l[c]?=some oc->bW ti oc.op=true->okX (Nk ti l i F) ti i c o.op oc.op=true)->(i<c ->∀ r,pop ti (look (fZ l vs T i)) (Ls c) o.op=some r->pop ti (look (fZ l vs T i)) (Ls (c+1)) o.op=some r)/\(c<i ->∀ r,pop ti (look (fZ l vs T i)) (Ls (c+1)) o.op=some r->pop ti (look (fZ l vs T i)) (Ls c) o.op=some r):=by
   intro c hc Qy;have Q9:l[c]?=some l[c]:=aqz hc;obtain⟨_,vc,_,hs⟩:=UX c _ Q9;obtain⟨_,WM⟩|⟨_,_,WM⟩:=hs
   ·cases RZ:bW ti l[c].op with
    |false=>rw[tL RZ WM];exact⟨λ_ r h=>h,λ_ r h=>h⟩
    |true =>
     have h1:=Qy _ Q9 RZ;unfold okX at h1;rw[Zo,hfz']at h1;simp only[Bool.false_or,aqI]at h1;obtain⟨Zp,h1⟩:=h1;have h0:sk l[c].op≠0:=by intro e0;rw[e0]at h1;cases h1
     obtain⟨r1,r2,r3,r4⟩:=adt Zp h0 WM;split at h1
     ·rename_i Wm
      have O0:i<c:=aqT h1;exact⟨λ_ r h=>aaW (r1 Wm) h,λhci=>by omega⟩
     ·rename_i Wm
      exact⟨λ_ r h=>aaW (r2 Wm).1 h,λ_ r h=>aaW (r2 Wm).2 h⟩
     ·rename_i Wm
      have hl:isLoad o.op=false:=by simpa using h1
      exact⟨λ_ r h=>ah' (r3 Wm).1 hl h,λ_ r h=>ah' (r3 Wm).2 hl h⟩
     ·rename_i Wm
      exact⟨λ_ r h=>aaW (r4 Wm).1 h,λ_ r h=>aaW (r4 Wm).2 h⟩
     ·cases h1
   ·rw[WM];exact⟨λ_ r h=>h,λ_ r h=>h⟩

  have Zq:Ls (i+1)=Ls i:=tL hk RA;by_cases hei:e<=i
  ·
   have:∀ n,n<=i-e ->∀ r,pop ti (look (fZ l vs T i)) (Ls i) o.op=some r->pop ti (look (fZ l vs T i)) (Ls (i-n)) o.op=some r:=by
    intro n
    induction n with
    |zero=>intro _ r h;exact h
    |succ n ih =>
     intro hn r h;have h2:=ih m0 r h;have h3:=(step (i-(n+1)) m0 (λoc Q9 RZ=>hx _ oc Q9 RZ (.inr ⟨m0,m0⟩))).2 m0 r;have e1:i-(n+1)+1=i-n:=m0
     rw[e1]at h3;exact h3 h2
   intro r h;have h2:=this (i-e) (aqG _) r h;have e1:i-(i-e)=e:=m0
   rw[e1]at h2;exact h2
  ·have:∀ n,i+1+n<=e ->∀ r,pop ti (look (fZ l vs T i)) (Ls i) o.op=some r->pop ti (look (fZ l vs T i)) (Ls (i+1+n)) o.op=some r:=by
    intro n
    induction n with
    |zero=>intro _ r h;show pop ti (look (fZ l vs T i)) (Ls (i+1)) o.op=some r;rw[Zq];exact h
    |succ n ih =>
     intro hn r h;have h2:=ih m0 r h;exact(step (i+1+n) m0 (λoc Q9 RZ=>hx _ oc Q9 RZ (.inl ⟨m0,m0⟩))).1 m0 r h2
   intro r h;have h2:=this (e-(i+1)) m0 r h;have e1:i+1+(e-(i+1))=e:=m0
   rw[e1]at h2;exact h2

 have slots:∀ (listed:Array Bool) (e:Nat) (R:PH) (γ:List Gh) (a:Act) (w:World),ak4 ti l N B Ls T vs R0 γ0 w0 listed e R γ a w ->∀ (i:Nat) o,l[i]?=some o->listed[i]?=some false ->
   (∀ o',l[i]?=some o' ->∀ e∈o'.after.toList,Region.binds .any e=true->listed[e.on]?=some true) ->∀ t x,t∈g9 l.toArray o->(fZ l vs T i).lookup t=some x ->∃ u,a.tmps[t]?=some u/\x.rep R γ (Ls e) u:=by
  intro listed e R γ a w M i o ho hli hed t x R5 hx;have VC:=(aqp.1 ho).1;by_cases hex:∃ (j:Nat) (o':Oper),j<i/\l[j]?=some o'/\o'.dst=some t
  ·obtain⟨j,o',hj,S5,Ul⟩:=hex
   have VO:=(hD.apart j i o' o t m0 S5 ho Ul R5).2;rw[if_pos hj]at VO;have hlj:=M.done.anc VO hed;have Wn:vs[j]?=some vs[j]:=aqz m0;have:=tV l vs T i j o' vs[j] hj S5 Ul Wn (λk o2 h1 h2 h3 VA=>by
    have:=uniq j k o' o2 t S5 h3 Ul VA;omega) (λk _ _=>by omega)
   rw[hx]at this;injection this with this
   subst this;exact M.fresh j o' t _ hlj S5 Ul Wn
  ·have Xt:∀ j o',j<i->l[j]?=some o'->o'.dst≠some t:=λj o' h1 h2 h3=>hex ⟨j,o',h1,h2,h3⟩
   rw[my l vs T i Xt]at hx;refine M.old t x hx λk o' SN Qy hdk=>?_
   by_cases Zr:k<i
   ·exact Xt k o' Zr Qy hdk
   ·by_cases Xu:k=i
    ·subst Xu;rw[hli]at SN;cases SN
    ·have VO:=(hD.apart k i o' o t Xu Qy ho hdk R5).2
     rw[if_neg Zr]at VO;have:=M.done.anc VO (λo2 h2=>M.done.down k o2 h2 SN);rw[hli]at this;cases this
 have Xv:∀ (listed:Array Bool),Done l listed ->∀ i,i<l.length->listed[i]?=some true\/listed[i]?=some false:=by
  intro listed hd i hi;have O0:i<listed.size:=by rw[hd.size];exact hi
  rw[aqP O0]
  cases listed[i]<;>simp

 have fin:∀ (listed:Array Bool) (e:Nat) (R:PH) (γ:List Gh) (a:Act) (w:World),ak4 ti l N B Ls T vs R0 γ0 w0 listed e R γ a w->(∀ i,i<l.length->listed[i]?=some true)->Q .normal a w:=by
  intro listed e R γ a w M P4;have hle:Ls l.length=Ls e:=by
   have:=flat (l.length-e) e (λc o h1 h2 ho=>by
    cases hk:bW ti o.op with
    |false=>rfl
    |true=>have:=M.hi c o h1 ho hk;rw[P4 c (aqp.1 ho).1]at this;cases this) (by have:=M.le;omega)
   have e1:e+(l.length-e)=l.length:=by have:=M.le;omega
   rw[e1]at this;exact this
  rw[hle]at hK;refine hQ _ _ R γ w a hK M.inv ⟨M.size,M.defers,λt x hx=>?_⟩ M.ext M.mv;by_cases hex:∃ (j:Nat) (o':Oper),j<l.length/\l[j]?=some o'/\o'.dst=some t
  ·obtain⟨j,o',hj,S5,Ul⟩:=hex
   have Wn:vs[j]?=some vs[j]:=aqz m0;have:=tV l vs T l.length j o' vs[j] hj S5 Ul Wn (λk o2 h1 h2 h3 VA=>by
    have:=uniq j k o' o2 t S5 h3 Ul VA;omega) (λk _ _=>by omega)
   rw[hx]at this;injection this with this
   subst this;exact M.fresh j o' t _ (P4 j hj) S5 Ul Wn
  ·have Xt:∀ j o',j<l.length->l[j]?=some o'->o'.dst≠some t:=λj o' h1 h2 h3=>hex ⟨j,o',h1,h2,h3⟩
   rw[my l vs T l.length Xt]at hx;exact M.old t x hx λk o' _ Qy hdk=>Xt k o' (aqp.1 Qy).1 Qy hdk
 have WN:∀ (listed:Array Bool),Done l listed->Region.ready .any l.toArray listed=[] ->∀ i,i<l.length->listed[i]?=some true:=by
  intro listed hd Qz i
  induction i using Nat.strongRecOn with
  |ind i ihi =>
   intro hi;obtain h|h:=Xv listed hd i hi
   ·exact h
   ·exfalso
    have:i∈Region.ready .any l.toArray listed:=(tJ hD.back hd i).2 ⟨hi,h,λo ho e he hb=>ihi e.on (hD.back i o ho e he hb) (by have:=hD.back i o ho e he hb;omega)⟩;rw[Qz]at this;cases this
 intro fuel
 induction fuel with
 |zero =>
  intro listed e R γ a w hc M;have P4:∀ i,i<l.length->listed[i]?=some true:=by
   intro i hi;obtain h|h:=Xv listed M.done i hi
   ·exact h
   ·exfalso
    have:0<sU l.length listed:=List.countP_pos_iff.2 ⟨i,by simpa using hi,by rw[h];rfl⟩;omega
  refine⟨?_,fin listed e R γ a w M P4⟩;apply List.eq_nil_iff_forall_not_mem.2;intro i R5;obtain⟨h1,h2,_⟩:=(tJ hD.back M.done i).1 R5;rw[P4 i h1]at h2;cases h2
 |succ fuel ih =>
  intro listed e R γ a w hc M;refine⟨λQz=>fin listed e R γ a w M (WN listed M.done Qz),λi R5=>?_⟩;obtain⟨h1,h2,h3⟩:=(tJ hD.back M.done i).1 R5;have ho:l[i]?=some l[i]:=aqz h1;obtain⟨hd,v,hv,Ud⟩:=UX i _ ho;have VP:=slots listed e R γ a w M i _ ho h2 h3;have VQ:sU l.length (listed.setIfInBounds i true)<=fuel:=by
   have:sU l.length (listed.setIfInBounds i true)<sU l.length listed:=by
    unfold sU;refine xT _ (λx hx hq=>?_) ⟨i,by simpa using h1,by rw[h2];rfl,by rw[ark (by rw[M.done.size];exact h1)];rfl⟩;by_cases hxi:x=i
    ·subst hxi;rw[h2];rfl
    ·rw[aq9 (Ne.symm hxi)]at hq;exact hq
   omega
  have WO:∀ (e':Nat) (R':PH) (γ':List Gh) (w':World) (u:Value),e'<=l.length->(∀ (c:Nat) o,c<e'->l[c]?=some o->bW ti o.op=true->(listed.setIfInBounds i true)[c]?=some true)->(∀ (c:Nat) o,e'<=c->l[c]?=some o->bW ti o.op=true->(listed.setIfInBounds i true)[c]?=some false) ->
    Inv B R' γ' (Ls e') w'->Ext B R R' w w'->Mv R R' γ γ' (Ls e) (Ls e')->v.rep R' γ' (Ls e') u->ak4 ti l N B Ls T vs R0 γ0 w0 (listed.setIfInBounds i true) e' R' γ' (a.put l[i].dst u) w':=by
   intro e' R' γ' w' u hle' PG PT RJ QP T8 hu;have P2:(a.put l[i].dst u).tmps.size=N:=by cases hdd:l[i].dst<;>simp[Act.put,M.size]
   have PL:∀ t,l[i].dst≠some t->(a.put l[i].dst u).tmps[t]?=a.tmps[t]?:=by
    intro t ht
    cases hdd:l[i].dst with
    |none=>rfl
    |some d=>simp only[Act.put];rw[aq9 (by intro e;exact ht (by rw[hdd,e]))]
   refine⟨RJ,P2,by cases hdd:l[i].dst<;>exact M.defers,M.done.put h3,hle',PG,PT,λj o d v' hlj YY hdj Zs=>?_,λt x hx Xt=>?_,M.ext.trans QP,M.mv.trans T8⟩
   ·by_cases XZ:j=i
    ·subst XZ
     rw[ho]at YY;injection YY with YY;subst YY
     rw[hv]at Zs;injection Zs with Zs;subst Zs
     have hdN:d<N:=by have:=hd;rw[hdj]at this;exact this
     refine⟨u,?_,hu⟩;rw[hdj];simp only[Act.put];exact ark (by rw[M.size];exact hdN)
    ·rw[aq9 (Ne.symm XZ)]at hlj
     obtain⟨u',g1,g2⟩:=M.fresh j o d v' hlj YY hdj Zs;refine⟨u',?_,AV.mv T8 g2⟩;rw[PL d (λe=>XZ (uniq j i o _ d YY ho hdj e))];exact g1
   ·have hni:l[i].dst≠some t:=Xt i _ (ark (by rw[M.done.size];exact h1)) ho
    obtain⟨u',g1,g2⟩:=M.old t x hx λk o SN Qy=>Xt k o (by
     by_cases Zr:k=i
     ·subst Zr;rw[h2]at SN;cases SN
     ·rw[aq9 (Ne.symm Zr)];exact SN) Qy
    exact⟨u',by rw[PL t hni];exact g1,AV.mv T8 g2⟩
  have VR:∀ d x,d∈l[i].looksAt l.toArray->(fZ l vs T i).lookup d=some x ->∃ u,a.tmps[d]?=some u/\x.rep R γ (Ls e) u:=λd x hd hx=>VP d x (by unfold g9;exact List.mem_append_left _ hd) hx

  have UY:bW ti l[i].op=false->(∀ (c:Nat) o,c<e->l[c]?=some o->bW ti o.op=true->(listed.setIfInBounds i true)[c]?=some true)/\(∀ (c:Nat) o,e<=c->l[c]?=some o->bW ti o.op=true->(listed.setIfInBounds i true)[c]?=some false):=by
   intro hk;have Pn:∀ (c:Nat) o,l[c]?=some o->bW ti o.op=true->c≠i:=by
    rintro c o Q9 RZ rfl;rw[ho]at Q9;injection Q9 with Q9;subst Q9;rw[hk]at RZ;cases RZ
   exact⟨λc o hc Q9 RZ=>by rw[aq9 (Ne.symm (Pn c o Q9 RZ))];exact M.lo c o hc Q9 RZ,λc o hc Q9 RZ=>by rw[aq9 (Ne.symm (Pn c o Q9 RZ))];exact M.hi c o hc Q9 RZ⟩
  have UZ:bW ti l[i].op=true->e<=i/\Ls i=Ls e/\(∀ (c:Nat) o,c<i+1->l[c]?=some o->bW ti o.op=true->(listed.setIfInBounds i true)[c]?=some true)/\(∀ (c:Nat) o,i+1<=c->l[c]?=some o->bW ti o.op=true->(listed.setIfInBounds i true)[c]?=some false):=by
   intro hk;have hei:e<=i:=by
    obtain h|h:=Nat.lt_or_ge i e
    ·have:=M.lo i _ h ho hk;rw[h2]at this;cases this
    ·exact h
   have VS:∀ (c:Nat) o,c<i->l[c]?=some o->bW ti o.op=true->listed[c]?=some true:=λc o hc Q9 RZ=>M.done.anc (hD.chain i c _ o ho Q9 hk RZ hc) h3
   refine⟨hei,?_,λc o hc Q9 RZ=>?_,λc o hc Q9 RZ=>?_⟩
   ·have:=flat (i-e) e (λc o c1 c2 Q9=>by
     cases RZ:bW ti o.op with
     |false=>rfl
     |true=>have q:=M.hi c o c1 Q9 RZ;rw[VS c o m0 Q9 RZ]at q;cases q) m0
    have e1:e+(i-e)=i:=m0
    rw[e1]at this;exact this
   ·by_cases hci:c=i
    ·subst hci;exact ark (by rw[M.done.size];exact h1)
    ·rw[aq9 (Ne.symm hci)];exact VS c o m0 Q9 RZ
   ·rw[aq9 m0];exact M.hi c o m0 Q9 RZ
  unfold wpOp;simp only[List.getElem?_toArray,ho];obtain⟨hw,RA⟩|⟨hw,rfl,hLs⟩:=Ud
  ·rw[if_pos (ry (af' SO) VR hw)]
   refine .inl ?_;have operand:∀ x v',(λx=>if x∈l[i].op.operands then look (fZ l vs T i) x else none) x=some v'->v'.rep R γ (Ls e) (a.eval x):=by
    intro x v' hx;by_cases hxo:x∈l[i].op.operands
    ·simp only[hxo,if_true]at hx
     cases x with
     |tmp t =>
      obtain⟨u,g1,g2⟩:=VR t v' (by unfold Oper.looksAt;exact List.mem_append_left _ (List.mem_filterMap.2 ⟨.tmp t,by simpa using hxo,rfl⟩)) hx;have:a.eval (.tmp t)=u:=by simp[Act.eval,Array.getD_eq_getD_getElem?,g1]
      rw[this];exact g2
     |const c=>exact AV.ofVal_rep hx
     |global g=>cases hx
     |func f =>
      injection hx with hx;subst hx
      exact .fn f #[] [] rfl (λj v x hv=>by simp at hv)
    ·simp only[hxo,if_false]at hx;cases hx
   cases hk:bW ti l[i].op with
   |false =>
    have hop2:=pass i _ v ho hk RA e M.le (λc oc Q9 RZ YR=>by
     refine hD.cross i c _ oc ho Q9 hk RZ (λha=>?_) (λha=>?_)
     ·have q:=M.done.anc ha h3
      obtain⟨c1,c2⟩|⟨c1,c2⟩:=YR
      ·
       have back:∀ i j,Anc l i j->j<i:=by
        intro i j h
        induction h with
        |edge ho he hb=>exact hD.back _ _ ho _ he hb
        |step ho he hb _ ih=>have:=hD.back _ _ ho _ he hb;omega
       have:=back i c ha;omega
      ·rw[M.hi c oc c1 Q9 RZ]at q;cases q
     ·obtain⟨c1,c2⟩|⟨c1,c2⟩:=YR
      ·have q:=M.done.anc ha (λo2 Xr=>M.done.down c o2 Xr (M.lo c oc c2 Q9 RZ))
       rw[h2]at q;cases q
      ·have back:∀ i j,Anc l i j->j<i:=by
        intro i j h
        induction h with
        |edge ho he hb=>exact hD.back _ _ ho _ he hb
        |step ho he hb _ ih=>have:=hD.back _ _ ho _ he hb;omega
       have:=back c i ha;omega)
    have X3:=vt (ρ':=λx=>if x∈l[i].op.operands then look (fZ l vs T i) x else none) (λx hx=>by simp only[hx,if_true]) hop2;refine kJ O_ M.inv operand X3 ?_;rintro v' L' R' γ' w' u ⟨rfl,rfl⟩ k1 k2 k3 k4;obtain⟨q1,q2⟩:=UY hk;exact ih _ e R' γ' _ w' VQ (WO e R' γ' w' u M.le q1 q2 k1 k2 k3 k4)
   |true =>
    obtain⟨hei,hLe,q1,q2⟩:=UZ hk;rw[hLe]at RA;have X3:=vt (ρ':=λx=>if x∈l[i].op.operands then look (fZ l vs T i) x else none) (λx hx=>by simp only[hx,if_true]) RA;refine kJ O_ M.inv operand X3 ?_;rintro v' L' R' γ' w' u ⟨rfl,rfl⟩ k1 k2 k3 k4;exact ih _ (i+1) R' γ' _ w' VQ (WO (i+1) R' γ' w' u m0 q1 q2 k1 k2 k3 k4)
  ·rw[if_neg (by rw[ry (af' SO) VR hw];decide)]
   cases hk:bW ti l[i].op with
   |false =>
    obtain⟨q1,q2⟩:=UY hk;exact ih _ e R γ _ w VQ (WO e R γ w Go.undef M.le q1 q2 M.inv (Ext.refl _ _ _) Mv.refl rfl)
   |true =>
    obtain⟨hei,hLe,q1,q2⟩:=UZ hk;have Zm:Ls (i+1)=Ls e:=hLs.trans hLe;refine ih _ (i+1) R γ _ w VQ (WO (i+1) R γ w Go.undef m0 q1 q2 ?_ (Ext.refl _ _ _) ?_ rfl)
    ·rw[Zm];exact M.inv
    ·rw[Zm];exact Mv.refl
def fzB (F:List Nat)(T:Tm):Bool:=F.all λt=>match T.lookup t with
 |some (.one (.c _))=>true
 |_=>false
theorem ahf {F:List Nat}{T:Tm}(h:fzB F T=true):∀ t∈F,∃ x,T.lookup t=some (.one (.c x)):=by
 intro t ht;have:=arf.1 h t ht;split at this
 ·rename_i x hx;exact⟨x,hx⟩
 ·cases this
theorem EG (F:List Nat)(O_:TIok P ti){Q:AX->Tm->List Ob->Prop}{T:Tm}{L:List Ob}{id:Nat}{l:List Oper}(ds:List (Option Tmp))(SO:l.map (·.dst)=ds)(TM:P.follows .mixedOrders=true)(hc:fq F ti l=true)(hF:fzB F T=true)(h:aI P ti N ds (Q .normal) l T L):Aw P N n0 (.region id l.toArray true) Q T L:=by
 intro hn B R γ w a hi hT;have hD:=I3 hc;obtain⟨vs,Ls,h1,h0,h2,h3⟩:=adl l T L h;subst h0;have hiD:Inv B R γ (Ls 0) { w with drawn:=w.drawn+1 } :=⟨hi.len,hi.val,λid x g hx hg=>(hi.obj id x g hx hg).mv Mv.refl (λ_ _=>rfl) (λ_ _ _ h=>h),hi.inj,hi.new,hi.bsz⟩;have heD:Ext B R R w { w with drawn:=w.drawn+1 } :=⟨⟨rfl,rfl,rfl,aqG _,λ_ _=>rfl⟩,PH.sub_refl _,λ_ _ _=>rfl⟩;refine wp_region_any TM ?_;have P2:l.toArray.size=l.length:=by simp
 rw[P2];refine amY O_ SO (B:=B) hD h1 (ahf hF) h2 h3 (R0:=R) (γ0:=γ) (w0:=w) ?_ l.length (Array.replicate l.length false) 0 R γ a { w with drawn:=w.drawn+1 } ?_ ?_
 ·intro T' L' R' γ' w' a' q1 q2 q3 q4 q5
  exact⟨.normal,T',L',R',γ',rfl,q1,q2,q3,q4,qF.of hn q5⟩
 ·unfold sU
  exact Nat.le_trans List.countP_le_length m5
 ·have hf:∀ i:Nat,i<l.length->(Array.replicate l.length false)[i]?=some false:=λi hi=>by simp[hi]
  have ht:∀ i:Nat,(Array.replicate l.length false)[i]?≠some true:=by
   intro i e;by_cases hi:i<l.length
   ·rw[hf i hi]at e;cases e
   ·rw[Array.getElem?_eq_none m8]at e;cases e
  exact⟨hiD,hT.size,hT.defers,⟨m5,λi o _ e=>absurd e (ht i)⟩,m0,λc _ hc=>by omega,λc o _ Q9 _=>hf c (aqp.1 Q9).1,λi o d v e=>absurd e (ht i),λt x hx _=>hT.slot t x hx,heD,Mv.refl⟩
theorem aw_drawn2 (O_:TIok P ti){Q:AX->Tm->List Ob->Prop}{T:Tm}{L:List Ob}{id:Nat}{l:List Oper}(ds:List (Option Tmp))(SO:l.map (·.dst)=ds)(TM:P.follows .mixedOrders=true)(hc:ahW ti l=true)(h:aI P ti N ds (Q .normal) l T L):Aw P N n0 (.region id l.toArray true) Q T L :=
 EG [] O_ ds SO TM hc rfl h
end
