/- Parts. No condition. -/
import Derived.Test.YtnbnpnmkgemdeaaGreatDoorKAB
import Derived.LoopN
import Derived.IntWalk
set_option linter.unusedSimpArgs false
set_option linter.unusedVariables false
namespace Go.Proofs.YtnbnpnmkgemdeaaGreatDoor
open Go.RowKit
inductive AX where
 |normal
 |exit (id:Nat)
 |ret
 deriving DecidableEq
def AX.ex:AX->Exit
 |.normal => .normal
 |.exit id => .exit id
 |.ret => .ret
structure uK (n0:Nat)(R R':PH)(γ γ':List Gh)(L L':List Ob):Prop where
 lo:n0<=L.length
 lo':n0<=L'.length
 mv:Mv R R' (γ.take n0) γ' (L.take n0) L'
theorem Mv.cutL {n0:Nat}{R R':PH}{γ γ':List Gh}{L L':List Ob}(h:Mv R R' γ γ' L L'):Mv R R' (γ.take n0) γ' (L.take n0) L':=by
 refine⟨h.sub,by simp;have:=h.len;omega,λt n k O8 e=>?_,λt O9 es k O8 e=>?_,λid b e=>?_⟩
 .have QS:t<n0/\t<L.length:=by rw[aiD]at O8;omega
  obtain⟨m,a,b,c⟩:=h.tok t n k QS.2 e;exact⟨m,by rw[aij,if_pos QS.1];exact a,b,λq=>by rw[aij,if_pos QS.1];exact c q⟩
 .have QS:t<n0/\t<L.length:=by rw[aiD]at O8;omega
  obtain⟨v0,m,a,b,c⟩:=h.row t O9 es k QS.2 e;exact⟨v0,m,by rw[aij,if_pos QS.1];exact a,b,λq=>⟨(c q).1,by rw[aij,if_pos QS.1];exact(c q).2⟩⟩
 .rw[aij]at e
  split at e
  .exact h.ptr id b e
  .cases e
theorem Mv.cutR {n:Nat}{R R':PH}{γ γ':List Gh}{L L':List Ob}(h:Mv R R' γ γ' L L')(hg:γ.length=L.length)(hn:L.length<=n):Mv R R' γ (γ'.take n) L (L'.take n):=by
 refine⟨h.sub,by simp;have:=h.len;omega,λt m k O8 e=>?_,λt O9 es k O8 e=>?_,λid b e=>?_⟩
 .rw[aij,if_pos m0]at e
  rw[aij,if_pos m0];exact h.tok t m k O8 e
 .rw[aij,if_pos m0]at e
  rw[aij,if_pos m0];exact h.row t O9 es k O8 e
 .have:=(ahR.1 e).1
  rw[aij,if_pos m0];exact h.ptr id b e
theorem uK.of {n0:Nat}{R R':PH}{γ γ':List Gh}{L L':List Ob}(hn:n0<=L.length)(h:Mv R R' γ γ' L L'):uK n0 R R' γ γ' L L':=⟨hn,Nat.le_trans hn h.len,h.cutL⟩
theorem uK.trans {n0:Nat}{R R' Wp:PH}{γ γ' γ'':List Gh}{L L' Yn:List Ob}(hg:γ.length=L.length)(h:uK n0 R R' γ γ' L L')(g:uK n0 R' Wp γ' γ'' L' Yn):uK n0 R Wp γ γ'' L Yn:=by
 refine⟨h.lo,g.lo',Mv.trans (h.mv.cutR (n:=n0) (by simp[hg]) m8) g.mv⟩
theorem uK.cut {n0:Nat}{R:PH}{γ:List Gh}{L G:List Ob}(hg:γ.length=(L++G).length)(hn:n0<=L.length):uK n0 R R γ (γ.take L.length) (L++G) L:=by
 refine⟨by simp;omega,hn,?_⟩;have:=(Mv.refl (R:=R) (γ:=γ) (L:=L++G)).cutL (n0:=n0);have:=this.cutR (n:=L.length) (by simp at hg ⊢;omega) m8;simpa using this
def wQ (N n0:Nat)(B:Nat->Prop)(Q:AX->Tm->List Ob->Prop)(R:PH)(w:World)(γ:List Gh)(L:List Ob)(e:Exit)(a':Act)(w':World):Prop :=
 ∃ x T' L' R' γ',e=x.ex/\Q x T' L'/\Inv B R' γ' L' w'/\gv N R' γ' L' T' a'/\Ext B R R' w w'/\uK n0 R R' γ γ' L L'
def Aw (P:Program)(N n0:Nat)(c:Code)(Q:AX->Tm->List Ob->Prop)(T:Tm)(L:List Ob):Prop :=
 n0<=L.length ->∀ B R γ w a,Inv B R γ L w->gv N R γ L T a->c.wp P (wQ N n0 B Q R w γ L) a w
@[reducible] def AX.then (A:Tm->List Ob->Prop)(Q:AX->Tm->List Ob->Prop):AX->Tm->List Ob->Prop
 |.normal,T,L=>A T L
 |e,T,L=>Q e T L
@[reducible] def AX.inBlock (id:Nat)(Q:AX->Tm->List Ob->Prop):AX->Tm->List Ob->Prop
 |.exit j,T,L=>if j=id then Q .normal T L else Q (.exit j) T L
 |e,T,L=>Q e T L
section
variable {P:Program} {ti:TI} {N n0:Nat} {Q:AX->Tm->List Ob->Prop} {T:Tm} {L:List Ob}
theorem Aw.mono {c:Code}{Q':AX->Tm->List Ob->Prop}(h:Aw P N n0 c Q T L)(hq:∀ x T L,Q x T L->Q' x T L):Aw P N n0 c Q' T L :=
 λhn B R γ w a hi hT=>wp_mono (h hn B R γ w a hi hT) λ_ _ _ ⟨x,T',L',R',γ',e,q,r⟩=>⟨x,T',L',R',γ',e,hq _ _ _ q,r⟩
theorem wQ.ext {B:Nat->Prop}{R R1:PH}{w w1:World}{γ γ1:List Gh}{L1:List Ob}{e:Exit}{a':Act}{w':World}(h:wQ N n0 B Q R1 w1 γ1 L1 e a' w')(he:Ext B R R1 w w1)(hg:γ.length=L.length)(hm:uK n0 R R1 γ γ1 L L1):wQ N n0 B Q R w γ L e a' w' :=
 let ⟨x,T',L',R',γ',h1,h2,h3,h4,h5,h6⟩:=h;⟨x,T',L',R',γ',h1,h2,h3,h4,he.trans h5,hm.trans hg h6⟩
theorem aw_skip (h:Q .normal T L):Aw P N n0 .skip Q T L:=λhn _ R γ w a hi hT=>wp_skip ⟨.normal,T,L,R,γ,rfl,h,hi,hT,Ext.refl _ _ _,uK.of hn Mv.refl⟩
theorem aam {l:Nat}(h:Q .normal T L):Aw P N n0 (.label l) Q T L:=λhn _ R γ w a hi hT=>wp_label ⟨.normal,T,L,R,γ,rfl,h,hi,hT,Ext.refl _ _ _,uK.of hn Mv.refl⟩
theorem aw_ret (h:Q .ret T L):Aw P N n0 .ret Q T L:=λhn _ R γ w a hi hT=>wp_ret ⟨.ret,T,L,R,γ,rfl,h,hi,hT,Ext.refl _ _ _,uK.of hn Mv.refl⟩
theorem aw_exit {id:Nat}(h:Q (.exit id) T L):Aw P N n0 (.exit id) Q T L:=λhn _ R γ w a hi hT=>wp_exit ⟨.exit id,T,L,R,γ,rfl,h,hi,hT,Ext.refl _ _ _,uK.of hn Mv.refl⟩
theorem aw_seq {x y:Code}(h:Aw P N n0 x (AX.then (Aw P N n0 y Q) Q) T L):Aw P N n0 (.seq x y) Q T L:=by
 intro hn B R γ w a hi hT;refine wp_seq (wp_mono (h hn B R γ w a hi hT) ?_);rintro e a1 w1 ⟨x,T1,L1,R1,γ1,rfl,q,i1,t1,e1,m1⟩
 cases x with
 |normal=>exact wp_mono (q m1.lo' B R1 γ1 w1 a1 i1 t1) λ_ _ _ hh=>hh.ext e1 hi.len m1
 |exit id=>exact⟨.exit id,T1,L1,R1,γ1,rfl,q,i1,t1,e1,m1⟩
 |ret=>exact⟨.ret,T1,L1,R1,γ1,rfl,q,i1,t1,e1,m1⟩
theorem aw_cond {c:Operand}{x y:Code}{b:Bool}(hc:look T c=some (.one (.c (.bool b))))(h1:b=true->Aw P N n0 x Q T L)(h2:b=false->Aw P N n0 y Q T L):Aw P N n0 (.cond c x y) Q T L:=by
 intro hn B R γ w a hi hT;have hv:=zO hT hc;have he:a.eval c = .bool b:=by
  generalize a.eval c=v at hv
  cases hv;rfl
 exact wp_cond_split he (λe=>h1 e hn B R γ w a hi hT) (λe=>h2 e hn B R γ w a hi hT)
theorem aw_block {id:Nat}{c:Code}(h:Aw P N n0 c (AX.inBlock id Q) T L):Aw P N n0 (.block id c) Q T L:=by
 intro hn B R γ w a hi hT;refine wp_block (wp_mono (h hn B R γ w a hi hT) ?_);rintro e a1 w1 ⟨x,T1,L1,R1,γ1,rfl,q,i1,t1,e1,m1⟩
 cases x with
 |normal=>exact⟨.normal,T1,L1,R1,γ1,rfl,q,i1,t1,e1,m1⟩
 |ret=>exact⟨.ret,T1,L1,R1,γ1,rfl,q,i1,t1,e1,m1⟩
 |exit j =>
  simp only[AX.inBlock]at q;by_cases hj:j=id
  .subst hj
   rw[if_pos rfl]at q;show Exit.inBlock j _ (.exit j) a1 w1;simp only[Exit.inBlock,if_true];exact⟨.normal,T1,L1,R1,γ1,rfl,q,i1,t1,e1,m1⟩
  .rw[if_neg hj]at q
   show Exit.inBlock id _ (.exit j) a1 w1;simp only[Exit.inBlock,if_neg hj];exact⟨.exit j,T1,L1,R1,γ1,rfl,q,i1,t1,e1,m1⟩
theorem OE {l:List Oper}{ds:List (Option Tmp)}(UW:l.map (·.dst)=ds)(j:Nat):(l.toArray[j]?).map (·.dst)=ds[j]?:=by rw[<- UW];simp
theorem aw_region (Pm:TIok P ti){id:Nat}{l:List Oper}(ds:List (Option Tmp))(UW:l.map (·.dst)=ds)(h:aK P ti N ds (Q .normal) l T L):Aw P N n0 (.region id l.toArray false) Q T L:=by
 intro hn B R γ w a hi hT;refine wp_region_lit (qH Pm (OE UW) l R γ L T a w h hi hT ?_);intro T' L' R' γ' w' a' hk h1 h2 h3 h4;exact⟨.normal,T',L',R',γ',rfl,hk,h1,h2,h3,uK.of hn h4⟩
structure Fits (T':Tm)(L':List Ob)(T:Tm)(L:List Ob):Prop where
 slots:∀ p∈T,T'.lookup p.1=some p.2
 pre:∃ G,L'=L++G
 below:∀ p∈T,p.2.below L.length
 objs:∀ x∈L,x.below L.length
theorem SV.cut {R:PH}{γ:List Gh}{L G:List Ob}(hl:γ.length=(L++G).length){x:SV}{v:Value}(h:x.rep R γ (L++G) v)(hb:x.below L.length):x.rep R (γ.take L.length) L v:=by
 cases x with
 |c y=>exact h
 |emp=>exact h
 |own es t =>
  obtain⟨h1,_,h2⟩:=h;have ht:t<L.length:=hb;refine⟨h1,ht,λn k e0=>?_⟩;obtain⟨h3,h4,h5⟩:=h2 n k (by rw[ah5 ht];exact e0);refine⟨h3,h4,λe=>?_⟩;obtain⟨g,g1,g2⟩:=h5 e;exact⟨g,by rw[aij,if_pos ht];exact g1,g2⟩
 |ptr id off =>
  obtain⟨b,h1,h2⟩:=h;have ht:id<L.length:=hb;exact⟨b,h1,by rw[aij,if_pos ht];exact h2⟩
 |sl id O9 lo n =>
  obtain⟨h0,_,h2⟩:=h;have ht:id<L.length:=hb;refine⟨h0,ht,λPn es k e0=>?_⟩;rw[aij,if_pos ht];exact h2 Pn es k (by rw[ah5 ht];exact e0)
 |ep id O9 i o =>
  obtain⟨h0,_,h2⟩:=h;have ht:id<L.length:=hb;refine⟨h0,ht,λPn es k e0=>?_⟩;rw[aij,if_pos ht];exact h2 Pn es k (by rw[ah5 ht];exact e0)
 |mp id =>
  obtain⟨b,h1,h2⟩:=h;have ht:id<L.length:=hb;exact⟨b,h1,by rw[aij,if_pos ht];exact h2⟩
 |clo f Pz =>
  obtain⟨vs,h1,h2,h3⟩:=h;refine⟨vs,h1,h2,λj u x hu hx=>?_⟩;have hr:=h3 j u x hu hx;have hbx:x.below L.length:=hb x (ahX hx)
  cases x with
  |c y=>exact hr
  |ptr id off =>
   obtain⟨b,g1,g2⟩:=hr;have ht:id<L.length:=hbx;exact⟨b,g1,by rw[aij,if_pos ht];exact g2⟩
theorem AV.cut {R:PH}{γ:List Gh}{L G:List Ob}(hl:γ.length=(L++G).length){x:AV}{v:Value}(h:x.rep R γ (L++G) v)(hb:x.below L.length):x.rep R (γ.take L.length) L v:=by
 cases x with
 |one x=>exact SV.cut hl h hb
 |agg xs =>
  obtain⟨vs,h1,h2,h3⟩:=h;exact⟨vs,h1,h2,λj u x hu hx=>SV.cut hl (h3 j u x hu hx) (hb x (ahX hx))⟩
 |tup ps=>exact h
 |tupS xs =>
  obtain⟨vs,h1,h2,h3⟩:=h;exact⟨vs,h1,h2,λj u x hu hx=>SV.cut hl (h3 j u x hu hx) (hb x (ahX hx))⟩
 |undef=>exact h
theorem sN:∀ {T:Tm} {t:Nat} {x:AV},T.lookup t=some x->(t,x)∈T
 |(k,y)::T,t,x,h=>by
  rw[List.lookup_cons]at h;by_cases e:t=k
  .subst e;simp at h;subst h;exact List.mem_cons_self ..
  .have:(t==k)=false:=by simpa using e
   rw[this]at h;exact aid _ (sN h)
theorem Fits.sound {T':Tm}{L':List Ob}(hf:Fits T' L' T L){B:Nat->Prop}{R:PH}{γ:List Gh}{w:World}{a:Act}(hi:Inv B R γ L' w)(hT:gv N R γ L' T' a):Inv B R (γ.take L.length) L w/\gv N R (γ.take L.length) L T a:=by
 obtain⟨G,rfl⟩:=hf.pre;have hl:γ.length=(L++G).length:=hi.len;have hlen:(γ.take L.length).length=L.length:=by rw[aiD,hl];simp
 have get:∀ (i:Nat) g,(γ.take L.length)[i]?=some g->i<L.length/\γ[i]?=some g:=by
  intro i g hg;rw[aij]at hg;split at hg
  .rename_i h;exact⟨h,hg⟩
  .cases hg
 refine⟨⟨hlen,hi.val,λid x g hx hg=>?_,λi j gi gj h1 h2=>hi.inj i j gi gj (get i gi h1).2 (get j gj h2).2,λi g b hg=>hi.new i g b (get i g hg).2,hi.bsz⟩,⟨hT.size,hT.defers,λt x h=>?_⟩⟩
 .obtain⟨O8,RO⟩:=get id g hg
  have RG:=hi.obj id x g (by rw[ah5 O8];exact hx) RO;have hb:=hf.objs x (ahX hx)
  match x,g,RG,hb with
  |.box cs,.box b,⟨⟨vs,E,h1,h2,h3⟩,h4⟩,hb=>exact⟨⟨vs,E,h1,h2,λj u x hu hx=>SV.cut hl (h3 j u x hu hx) (hb x (ahX hx))⟩,h4⟩
  |.spare n k,.arr b c,RG,_=>exact RG
  |.spare n k,.none,RG,_=>exact RG
  |.row O9 es k,.arr b c,⟨⟨vs,E,h1,h2,h3⟩,h4⟩,hb=>exact⟨⟨vs,E,h1,h2,λi e j u x he hu hx=>SV.cut hl (h3 i e j u x he hu hx) (hb e (ahX he) x (ahX hx))⟩,h4⟩
  |.row O9 es k,.none,RG,_=>exact RG
  |.map PQ,.box b,⟨⟨es,h1,h2,h3⟩,h4⟩,hb=>exact⟨⟨es,h1,h2,λj e p he hp=>⟨(h3 j e p he hp).1,(h3 j e p he hp).2.1,AV.cut hl (h3 j e p he hp).2.2 (hb p (ahX hp))⟩⟩,h4⟩
  |.dead,.none,RG,_=>exact RG
  |.dead,.box _,RG,_=>exact RG
 .have hm:=sN h
  obtain⟨u,h1,h2⟩:=hT.slot t x (hf.slots (t,x) hm);exact⟨u,h1,AV.cut hl h2 (hf.below (t,x) hm)⟩
theorem Fits.mvn {T':Tm}{L':List Ob}(hf:Fits T' L' T L){B:Nat->Prop}{R:PH}{γ:List Gh}{w:World}(hi:Inv B R γ L' w)(hn:n0<=L.length):uK n0 R R γ (γ.take L.length) L' L:=by
 obtain⟨G,rfl⟩:=hf.pre;exact uK.cut hi.len hn
theorem aaY {c:Code}{T1:Tm}{L1:List Ob}(X6:n0<=L1.length)(hf:Fits T L T1 L1)(h:Aw P N n0 c Q T1 L1):Aw P N n0 c Q T L:=by
 intro hn B R γ w a hi hT;obtain⟨i1,t1⟩:=hf.sound hi hT;exact wp_mono (h X6 B R _ w a i1 t1) λ_ _ _ hh=>hh.ext (Ext.refl _ _ _) hi.len (hf.mvn hi X6)
theorem br {c:Code}(t k:Nat)(ht:T.lookup t=some (.one .emp))(h:Aw P N n0 c Q ((t,.one (.own [] L.length))::T) (L++[.spare 0 k])):Aw P N n0 c Q T L:=by
 intro hn B R γ w a hi hT;have hm:Mv R R γ (γ++[.none]) L (L++[.spare 0 k]):=Mv.push _ _ hi.len;refine wp_mono (h m8 B R (γ++[.none]) w a (hi.tok k) ?_) λ_ _ _ hh=>hh.ext (Ext.refl _ _ _) hi.len (uK.of hn hm)
 refine⟨hT.size,hT.defers,λt' x hx=>?_⟩;rw[List.lookup_cons]at hx;by_cases e:t'=t
 .subst e
  simp at hx;subst hx;obtain⟨u,h1,b,rfl⟩:=hT.slot t' _ ht;exact⟨_,h1,dS _ _ _,m5,λn2 k2 _=>⟨m5,m5,λ_=>⟨.none,by rw[<- hi.len];simp,b,m5⟩⟩⟩
 .have:(t'==t)=false:=by simpa using e
  rw[this]at hx;exact(hT.mv hm).slot t' x hx
theorem gK {c:Code}(id j k:Nat){cs:List SV}(hid:L[id]?=some (.box cs))(hj:cs[j]?=some .emp)(h:Aw P N n0 c Q T (L.set id (.box (cs.set j (.own [] L.length)))++[.spare 0 k])):Aw P N n0 c Q T L:=by
 intro hn B R γ w a hi hT;have O8:=(ahR.1 hid).1;have hm:Mv R R γ (γ++[.none]) L (L.set id (.box (cs.set j (.own [] L.length)))++[.spare 0 k]):=by
  refine⟨PH.sub_refl _,m5,λt n k' QS e=>⟨n,?_,ah7 _,λ_=>?_⟩,λt O9 W6 k' QS e=>⟨O9,W6,?_,ah7 _,λ_=>⟨rfl,?_⟩⟩,λi b e=>?_⟩
  .rw[ah5 (by simpa using QS)]at e
   have PE:t≠id:=by rintro rfl;rw[ah_ QS]at e;cases e
   rw[ah' (Ne.symm PE)]at e;exact e
  .rw[ah5 (by rw[hi.len];exact QS)]
  .rw[ah5 (by simpa using QS)]at e
   have PE:t≠id:=by rintro rfl;rw[ah_ QS]at e;cases e
   rw[ah' (Ne.symm PE)]at e;exact e
  .rw[ah5 (by rw[hi.len];exact QS)]
  .rw[ah5 (ahR.1 e).1];exact e
 refine wp_mono (h m8 B R (γ++[.none]) w a ?_ (hT.mv hm)) λ_ _ _ hh=>hh.ext (Ext.refl _ _ _) hi.len (uK.of hn hm)
 have PS:∀ j h,(γ++[Gh.none])[j]?=some h->(j=γ.length/\h = .none)\/(j<γ.length/\γ[j]?=some h):=by
  intro j h hh;by_cases hid:j<γ.length
  .rw[ah5 hid]at hh;exact .inr ⟨hid,hh⟩
  .have:j=γ.length:=by have:=(ahR.1 hh).1;simp at this;omega
   subst this;rw[ahY m0]at hh;simp at hh;exact .inl ⟨rfl,hh.symm⟩
 have it:=hi.tok k;refine⟨by simp[hi.len],hi.val,λi y g hy hg=>?_,it.inj,it.new,hi.bsz⟩;obtain⟨rfl,rfl⟩|⟨ZE,RO⟩:=PS i g hg
 .rw[ahY (by simp[hi.len])]at hy
  simp[hi.len]at hy;subst hy;rfl
 .rw[ah5 (by simp;rw[<- hi.len];exact ZE)]at hy
  by_cases Xn:i=id
  .subst Xn
   rw[ah_ O8]at hy;injection hy with hy;subst hy
   have Sj:=hi.obj i _ _ hid RO
   match g,Sj with
   |.box b,⟨⟨vs,E,h1,h2,h3⟩,h4⟩ =>
    refine⟨⟨vs,E,h1,by simp[h2],λq u x hu hx=>?_⟩,h4⟩;by_cases hq:q=j
    .subst hq
     rw[ah_ (ahR.1 hj).1]at hx;injection hx with hx;subst hx
     obtain⟨ad,rfl⟩:=h3 q u _ hu hj;exact⟨dS _ _ _,m5,λn2 k2 _=>⟨m5,m5,λ_=>⟨.none,by rw[<- hi.len];simp,ad,m5⟩⟩⟩
    .rw[ah' (Ne.symm hq)]at hx
     exact SV.mv hm (h3 q u x hu hx)
  .rw[ah' (Ne.symm Xn)]at hy
   exact(hi.obj i y g hy RO).mv hm (λ_ _=>rfl) (λ_ _ _ h=>h)
theorem b7 {σ:Type}{c:Code}(TT:σ->Tm)(LL:σ->List Ob)(ok:σ->Prop)(μ:σ->Nat)(s0:σ)(h0:ok s0)(X6:∀ s,ok s->n0<=(LL s).length)(hf:Fits T L (TT s0) (LL s0))
  (round:∀ s,ok s->Aw P N n0 c (AX.then (λT' L' =>∃ s',ok s'/\μ s'<μ s/\Fits T' L' (TT s') (LL s')) Q) (TT s) (LL s)):Aw P N n0 (.loop c) Q T L:=by
 intro hn B R0 γ0 w0 a0 hi hT;obtain⟨i1,t1⟩:=hf.sound hi hT;have key:∀ n s R γ a w,μ s<n->ok s->Inv B R γ (LL s) w->gv N R γ (LL s) (TT s) a->Ext B R0 R w0 w->uK n0 R0 R γ0 γ L (LL s)->Code.rounds P c (wQ N n0 B Q R0 w0 γ0 L) n a w:=by
  intro n
  induction n with
  |zero=>intro s R γ a w h;omega
  |succ n ih =>
   intro s R γ a w O8 Rb hI ht he Tf;rw[rounds_succ];refine wp_mono (round s Rb (X6 s Rb) B R γ w a hI ht) ?_;rintro e a1 w1 ⟨x,T1,L1,R1,γ2,rfl,q,j1,k1,e1,m1⟩
   cases x with
   |normal =>
    obtain⟨s',ok',QS,QZ⟩:=q;obtain⟨j2,k2⟩:=QZ.sound j1 k1;exact ih s' R1 _ a1 w1 m0 ok' j2 k2 (he.trans e1) ((Tf.trans hi.len m1).trans hi.len (QZ.mvn j1 (X6 s' ok')))
   |exit id=>exact⟨.exit id,T1,L1,R1,γ2,rfl,q,j1,k1,he.trans e1,Tf.trans hi.len m1⟩
   |ret=>exact⟨.ret,T1,L1,R1,γ2,rfl,q,j1,k1,he.trans e1,Tf.trans hi.len m1⟩
 exact wp_loop_rounds (μ s0+1) (key _ s0 R0 _ a0 w0 m0 h0 i1 t1 (Ext.refl _ _ _) (hf.mvn hi (X6 s0 h0)))
def wJ (ti:TI)(T:Tm)(L:List Ob):ResultVar->Option (PV×Prop)
 |.tmp t=>((T.lookup t).bind AV.norm).map λp=>(p,True)
 |.cell a t=>match T.lookup a with
  |some (.one (.ptr id off))=>match fZ ti L t (.one (.ptr id off))with
   |some (v,φ)=>v.norm.map λp=>(p,φ)
   |none=>none
  |_=>none
def pZ (ti:TI)(T:Tm)(L:List Ob):List ResultVar->Option (List PV×Prop)
 |[]=>some ([],True)
 |r::rs=>match wJ ti T L r,pZ ti T L rs with
  |some (p,φ),some (ps,ψ)=>some (p::ps,φ/\ψ)
  |_,_=>none
def aaT:List PV->CV
 |[p] => .val p
 |ps => .tup ps
def Res (ti:TI)(rs:List ResultVar)(T:Tm)(L:List Ob)(r:CV):Prop :=
 match pZ ti T L rs with
 |some (ps,φ)=>φ/\aaT ps=r
 |none=>False
def oO (tmps:Array Value):ResultVar->Sem Value
 |.tmp t=>pure (tmps.getD t Go.undef)
 |.cell ad t=>do loadVar t (<- asAddr (tmps.getD ad Go.undef))
theorem oR (fn:Func)(tmps:Array Value):results fn tmps=(do let vs <- fn.results.mapM (oO tmps);pure (if h:vs.size=1 then vs[0]else .tuple vs)):=by
 unfold results;congr
theorem E3 (Pm:TIok P ti){B:Nat->Prop}{R:PH}{γ:List Gh}{w:World}{a:Act}(hi:Inv B R γ L w)(hT:gv N R γ L T a){rv:ResultVar}{p:PV}{φ:Prop}(h:wJ ti T L rv=some (p,φ))(hφ:φ) :
  ∃ u,(oO a.tmps rv).run P w = .ok u w/\p.rep R u:=by
 cases rv with
 |tmp t =>
  simp only[wJ]at h
  cases hl:T.lookup t with
  |none=>simp[hl]at h
  |some x =>
   simp only[hl,ahQ]at h
   cases hn:x.norm with
   |none=>simp[hn]at h
   |some q =>
    simp only[hn,Option.map_some,Option.some.injEq,Prod.mk.injEq]at h;obtain⟨rfl,_⟩:=h;obtain⟨u,h1,h2⟩:=hT.slot t x hl;exact⟨u,by simp[oO,Array.getD_eq_getD_getElem?,h1],AV.norm_rep h2 hn⟩
 |cell ad t =>
  simp only[wJ]at h;split at h
  .rename_i id off hl
   split at h
   .rename_i v ψ hp
    cases hn:v.norm with
    |none=>simp[hn]at h
    |some q =>
     simp only[hn,Option.map_some,Option.some.injEq,Prod.mk.injEq]at h;obtain⟨rfl,h2⟩:=h;subst h2;obtain⟨u,h1,hu⟩:=hT.slot ad _ hl;obtain⟨b,rfl,hg⟩:=hu;obtain⟨u',r1,r2⟩:=sp Pm hi (va := .one (.ptr id off)) (u1 := .pointer (some ⟨b,off,none⟩)) ⟨b,rfl,hg⟩ hp hφ;refine⟨u',?_,AV.norm_rep r2 hn⟩;simp only[Instr.loadAt,Instr.sureAddr]at r1;simpa[oO,Array.getD_eq_getD_getElem?,h1,asAddr]using r1
   .cases h
  .cases h
theorem tX (Pm:TIok P ti){B:Nat->Prop}{R:PH}{γ:List Gh}{w:World}{a:Act}(hi:Inv B R γ L w)(hT:gv N R γ L T a):∀ {rs:List ResultVar} {ps:List PV} {φ:Prop},pZ ti T L rs=some (ps,φ)->φ ->
  ∃ us:List Value,(rs.mapM (oO a.tmps)).run P w = .ok us w/\us.length=ps.length /\ ∀ (j:Nat) u p,us[j]?=some u->ps[j]?=some p->p.rep R u
 |[],ps,φ,h,_=>by
  simp only[pZ,Option.some.injEq,Prod.mk.injEq]at h;obtain⟨rfl,_⟩:=h;exact⟨[],rfl,rfl,λj u p hu=>by simp at hu⟩
 |r::rs,ps,φ,h,hφ=>by
  unfold pZ at h;split at h
  .rename_i p ψ ZB χ h1 h2
   simp only[Option.some.injEq,Prod.mk.injEq]at h;obtain⟨rfl,rfl⟩:=h;obtain⟨u,r1,r2⟩:=E3 Pm hi hT h1 hφ.1;obtain⟨us,s1,s2,s3⟩:=tX Pm hi hT h2 hφ.2;refine⟨u::us,?_,by simp[s2],λj v q hv hq=>?_⟩
   .rw[List.mapM_cons]
    simp only[Sem.run_bind,r1,Result.andThen_ok,s1,Sem.run_pure]
   .cases j with
    |zero=>simp at hv hq;subst hv hq;exact r2
    |succ j=>exact s3 j v q (by simpa using hv) (by simpa using hq)
  .cases h
theorem Res.sound (Pm:TIok P ti){B:Nat->Prop}{R:PH}{γ:List Gh}{w:World}{a:Act}(hi:Inv B R γ L w)(hT:gv N R γ L T a){fn:Func}{r:CV}(h:Res ti fn.results.toList T L r) :
  ∃ v,(results fn a.tmps).run P w = .ok v w/\r.rep R v:=by
 unfold Res at h;split at h
 .rename_i ps φ hp
  obtain⟨hφ,rfl⟩:=h;obtain⟨us,s1,s2,s3⟩:=tX Pm hi hT hp hφ;have hm:(fn.results.mapM (oO a.tmps)).run P w = .ok us.toArray w:=by
   rw[Array.mapM_eq_mapM_toList];simp only[Sem.run_map,s1,Result.andThen_ok]
  refine⟨if h:us.toArray.size=1 then us.toArray[0]else .tuple us.toArray,?_,?_⟩
  .rw[oR]
   simp only[Sem.run_bind];rw[hm];rfl
  .match us,ps,s2,s3 with
   |[u],[p],_,s3=>exact s3 0 u p rfl rfl
   |[],[],_,_=>exact⟨#[],rfl,rfl,λj u p hu=>by simp at hu⟩
   |u1::u2::us,p1::p2::ps,s2,s3 =>
    rw[dif_neg m5];exact⟨_,rfl,by simpa using s2,λj u p hu hp=>s3 j u p (by simpa using hu) hp⟩
 .exact h.elim
def argT:Nat->List PV->Tm
 |_,[]=>[]
 |i,p::ps=>(i,p.av)::argT (i+1) ps
theorem pX:∀ (ps:List PV) (i t:Nat) (x:AV),(argT i ps).lookup t=some x ->∃ p,ps[t-i]?=some p/\x=p.av/\i<=t
 |[],i,t,x,h=>by simp[argT]at h
 |p::ps,i,t,x,h=>by
  rw[argT,List.lookup_cons]at h;by_cases e:t=i
  .subst e
   simp at h;subst h;exact⟨p,m5,rfl,ah7 _⟩
  .have:(t==i)=false:=by simpa using e
   rw[this]at h;obtain⟨q,h1,h2,h3⟩:=pX ps (i+1) t x h;refine⟨q,?_,h2,m0⟩;have:t-i=(t-(i+1))+1:=m0
   rw[this,List.getElem?_cons_succ];exact h1
theorem pa_ (Pm : TIok P ti) {f : FuncId} {fn : Func} {c : Code} {args : List PV} {r : CV} (hf : P.funcs[f]? = some fn) (hb : fn.body = some c) (Qy : (fn.name == "runtime.NumGoroutine") = false) (hN : fn.ntmps = N) (hlen : args.length <= N)
  (h:Aw P N 0 c (λx T L=>(x = .normal\/x = .ret)/\Res ti fn.results.toList T L r) (argT 0 args) []):Pure P f args r:=by
 refine⟨⟨fn,hf,by rw[hb];rfl,Qy⟩,λR w vs hR hs hv=>?_⟩;refine calls_of_wp hf hb ?_;have hi:Inv (· <w.heap.size) R [] [] w:=⟨rfl,hR,λid x g hx=>by simp at hx,λi j gi gj h=>by simp at h,λi g b h=>by simp at h,λ_ h=>h⟩;have hT:gv N R [] [] (argT 0 args) { tmps:=vs++Array.replicate (fn.ntmps-vs.size) Go.undef,defers:=[] } :=by
  refine⟨by simp;omega,rfl,λt x ht=>?_⟩;obtain⟨p,h1,rfl,_⟩:=pX args 0 t x ht;rw[Nat.sub_zero]at h1;have O8:t<vs.size:=by rw[hs];exact(ahR.1 h1).1
  have hu:vs[t]?=some vs[t]:=aie O8;exact⟨vs[t],by rw[Array.getElem?_append_left O8];exact hu,PV.av_rep (hv t _ p hu h1)⟩
 refine wp_mono (h (aia _) (· <w.heap.size) R [] w _ hi hT) ?_;rintro e a' w' ⟨x,T',L',R',γ',rfl,⟨hx,Sv⟩,i1,t1,e1,_⟩;obtain⟨v,h1,h2⟩:=Res.sound Pm i1 t1 Sv;obtain rfl|rfl:=hx
 .exact⟨t1.defers,v,h1,v,R',rfl,e1,i1.val,h2⟩
 .exact⟨t1.defers,v,h1,v,R',rfl,e1,i1.val,h2⟩
end
section
variable {P:Program} {ti:TI} {N n0:Nat} {T:Tm} {L:List Ob}
def vI (ti:TI)(rs:List ResultVar)(T:Tm)(L:List Ob)(r:AV):Prop :=
 (∃ t,rs=[.tmp t]/\T.lookup t=some r)\/(∃ q,Res ti rs T L q/\r=q.av)
structure afa (ti:TI)(rs:List ResultVar)(n0:Nat)(L1:List Ob)(r:AV)(T:Tm)(L:List Ob):Prop where
 val:vI ti rs T L r
 pre:∃ G,L=L1++G
 lo:n0<=L1.length
 obb:∀ x∈L1,x.below L1.length
 vb:r.below L1.length
theorem vI.sound (Pm:TIok P ti){B:Nat->Prop}{R:PH}{γ:List Gh}{w:World}{a:Act}(hi:Inv B R γ L w)(hT:gv N R γ L T a){fn:Func}{r:AV}(h:vI ti fn.results.toList T L r) :
  ∃ v,(results fn a.tmps).run P w = .ok v w/\r.rep R γ L v:=by
 obtain⟨t,hr,ht⟩|⟨q,hr,rfl⟩:=h
 .obtain⟨u,h1,h2⟩:=hT.slot t r ht
  refine⟨u,?_,h2⟩;have e:fn.results=#[.tmp t]:=by cases h:fn.results;rw[h]at hr;simp at hr;rw[hr]
  rw[oR,e];simp[oO,h1]
 .obtain⟨v,h1,h2⟩:=Res.sound Pm hi hT hr
  exact⟨v,h1,CV.av_rep h2⟩
def gp:Nat->List AV->Tm
 |_,[]=>[]
 |i,p::ps=>(i,p)::gp (i+1) ps
theorem pr:∀ (ps:List AV) (i t:Nat) (x:AV),(gp i ps).lookup t=some x->ps[t-i]?=some x/\i<=t
 |[],i,t,x,h=>by simp[gp]at h
 |p::ps,i,t,x,h=>by
  rw[gp,List.lookup_cons]at h;by_cases e:t=i
  .subst e
   simp at h;subst h;exact⟨m5,ah7 _⟩
  .have:(t==i)=false:=by simpa using e
   rw[this]at h;obtain⟨h1,h3⟩:=pr ps (i+1) t x h;refine⟨?_,m0⟩;have:t-i=(t-(i+1))+1:=m0
   rw[this,List.getElem?_cons_succ];exact h1
theorem bB (Pm : TIok P ti) {f : FuncId} {fn : Func} {c : Code} {args : List AV} {L0 L1 : List Ob} {r : AV} (hf : P.funcs[f]? = some fn) (hb : fn.body = some c) (Qy : (fn.name == "runtime.NumGoroutine") = false) (hN : fn.ntmps = N) (hlen : args.length <= N)
  (h:Aw P N L0.length c (λx T L=>(x = .normal\/x = .ret)/\afa ti fn.results.toList L0.length L1 r T L) (gp 0 args) L0):Run P f L0 args L1 r:=by
 refine⟨⟨fn,hf,by rw[hb];rfl,Qy⟩,λB R γ w vs hi hs hv=>?_⟩;refine calls_of_wp hf hb ?_;have hT:gv N R γ L0 (gp 0 args) { tmps:=vs++Array.replicate (fn.ntmps-vs.size) Go.undef,defers:=[] } :=by
  refine⟨by simp;omega,rfl,λt x ht=>?_⟩;obtain⟨h1,_⟩:=pr args 0 t x ht;rw[Nat.sub_zero]at h1;have O8:t<vs.size:=by rw[hs];exact(ahR.1 h1).1
  have hu:vs[t]?=some vs[t]:=aie O8;exact⟨vs[t],by rw[Array.getElem?_append_left O8];exact hu,hv t _ x hu h1⟩
 refine wp_mono (h (ah7 _) B R γ w _ hi hT) ?_;rintro e a' w' ⟨x,T',L',R',γ',rfl,⟨hx,Sv⟩,i1,t1,e1,m1⟩;obtain⟨v,h1,h2⟩:=vI.sound Pm i1 t1 Sv.val;obtain⟨G,rfl⟩:=Sv.pre;have QZ:Fits ([]:Tm) (L1++G) [] L1:=⟨λp hp=>(by cases hp),⟨G,rfl⟩,λp hp=>(by cases hp),Sv.obb⟩;have UF:gv N R' γ' (L1++G) ([]:Tm) a':=⟨t1.size,t1.defers,λt x hx=>by simp at hx⟩;obtain⟨j1,_⟩:=QZ.sound i1 UF;have Tf:=m1.trans hi.len (QZ.mvn i1 Sv.lo);have WC:Mv R R' γ (γ'.take L1.length) L0 L1:=by
  have:=Tf.mv;rw[aiu (ah7 _),aiu (by rw[hi.len];exact ah7 _)]at this;exact this
 have UE:=AV.cut i1.len h2 Sv.vb;obtain rfl|rfl:=hx
 .exact⟨t1.defers,v,h1,v,R',_,rfl,j1,e1,WC,UE⟩
 .exact⟨t1.defers,v,h1,v,R',_,rfl,j1,e1,WC,UE⟩
def ry (rs:List ResultVar)(T:Tm)(r:AV):Prop :=
 ∃ s t x y,rs=[.tmp s,.tmp t]/\T.lookup s=some (.one x)/\T.lookup t=some (.one y)/\r = .tupS [x,y]
structure adF (rs:List ResultVar)(n0:Nat)(L1:List Ob)(r:AV)(T:Tm)(L:List Ob):Prop where
 val:ry rs T r
 pre:∃ G,L=L1++G
 lo:n0<=L1.length
 obb:∀ x∈L1,x.below L1.length
 vb:r.below L1.length
theorem ry.sound {R:PH}{γ:List Gh}{w:World}{a:Act}(hT:gv N R γ L T a){fn:Func}{r:AV}(h:ry fn.results.toList T r) :
  ∃ v,(results fn a.tmps).run P w = .ok v w/\r.rep R γ L v:=by
 obtain⟨s,t,x,y,hr,hs,ht,rfl⟩:=h;obtain⟨u,h1,h2⟩:=hT.slot s _ hs;obtain⟨v,h3,h4⟩:=hT.slot t _ ht;refine⟨.tuple #[u,v],?_,#[u,v],rfl,rfl,λj z p hz hp=>?_⟩
 .have e:fn.results=#[.tmp s,.tmp t]:=by cases h:fn.results;rw[h]at hr;simp at hr;rw[hr]
  rw[oR,e];simp[oO,h1,h3]
 .match j,hz,hp with
  |0,hz,hp=>simp at hz hp;subst hz hp;exact h2
  |1,hz,hp=>simp at hz hp;subst hz hp;exact h4
  |j+2,hz,hp=>simp at hp
theorem JX (Pm : TIok P ti) {f : FuncId} {fn : Func} {c : Code} {args : List AV} {L0 L1 : List Ob} {r : AV} (hf : P.funcs[f]? = some fn) (hb : fn.body = some c) (Qy : (fn.name == "runtime.NumGoroutine") = false) (hN : fn.ntmps = N) (hlen : args.length <= N)
  (h:Aw P N L0.length c (λx T L=>(x = .normal\/x = .ret)/\adF fn.results.toList L0.length L1 r T L) (gp 0 args) L0):Run P f L0 args L1 r:=by
 refine⟨⟨fn,hf,by rw[hb];rfl,Qy⟩,λB R γ w vs hi hs hv=>?_⟩;refine calls_of_wp hf hb ?_;have hT:gv N R γ L0 (gp 0 args) { tmps:=vs++Array.replicate (fn.ntmps-vs.size) Go.undef,defers:=[] } :=by
  refine⟨by simp;omega,rfl,λt x ht=>?_⟩;obtain⟨h1,_⟩:=pr args 0 t x ht;rw[Nat.sub_zero]at h1;have O8:t<vs.size:=by rw[hs];exact(ahR.1 h1).1
  have hu:vs[t]?=some vs[t]:=aie O8;exact⟨vs[t],by rw[Array.getElem?_append_left O8];exact hu,hv t _ x hu h1⟩
 refine wp_mono (h (ah7 _) B R γ w _ hi hT) ?_;rintro e a' w' ⟨x,T',L',R',γ',rfl,⟨hx,Sv⟩,i1,t1,e1,m1⟩;obtain⟨v,h1,h2⟩:=ry.sound t1 Sv.val;obtain⟨G,rfl⟩:=Sv.pre;have QZ:Fits ([]:Tm) (L1++G) [] L1:=⟨λp hp=>(by cases hp),⟨G,rfl⟩,λp hp=>(by cases hp),Sv.obb⟩;have UF:gv N R' γ' (L1++G) ([]:Tm) a':=⟨t1.size,t1.defers,λt x hx=>by simp at hx⟩;obtain⟨j1,_⟩:=QZ.sound i1 UF;have Tf:=m1.trans hi.len (QZ.mvn i1 Sv.lo);have WC:Mv R R' γ (γ'.take L1.length) L0 L1:=by
  have:=Tf.mv;rw[aiu (ah7 _),aiu (by rw[hi.len];exact ah7 _)]at this;exact this
 have UE:=AV.cut i1.len h2 Sv.vb;obtain rfl|rfl:=hx
 .exact⟨t1.defers,v,h1,v,R',_,rfl,j1,e1,WC,UE⟩
 .exact⟨t1.defers,v,h1,v,R',_,rfl,j1,e1,WC,UE⟩
end
section
variable {P:Program} {ti:TI} {L:List Ob}
theorem sK {ρ ρ':Operand->Option AV}:∀ (ps:List (Nat×Operand)) (j:Nat),(∀ p∈ps,ρ p.2=ρ' p.2)->lY ρ ps j=lY ρ' ps j
 |[],_,_=>rfl
 |(i,x)::ps,j,h=>by
  have h1:ρ x=ρ' x:=h (i,x) m5;have h2:=sK ps (j+1) λp hp=>h p (aid _ hp)
  simp only[lY,h1,h2]
theorem kJ {ρ ρ':Operand->Option AV}:∀ (xs:List Operand),(∀ x∈xs,ρ x=ρ' x)->dt ρ xs=dt ρ' xs
 |[],_=>rfl
 |x::xs,h=>by
  have h1:ρ x=ρ' x:=h x m5;have h2:=kJ xs λy hy=>h y (aid _ hy)
  simp only[dt,h1,h2]
theorem C2 {ρ ρ':Operand->Option AV}{op:Op}(h:∀ x,x∈op.operands->ρ x=ρ' x):pop ti ρ L op=pop ti ρ' L op:=by
 unfold pop;split
 .rename_i x;rw[h x (by simp[Op.operands])]
 .rename_i x;rw[h x (by simp[Op.operands])]
 .rename_i c x y;rw[h c (by simp[Op.operands]),h x (by simp[Op.operands]),h y (by simp[Op.operands])]
 .rename_i o t x y yt;rw[h x (by simp[Op.operands]),h y (by simp[Op.operands])]
 .rename_i o t x;rw[h x (by simp[Op.operands])]
 .rename_i s d x;rw[h x (by simp[Op.operands])]
 .rename_i t x;rw[h x (by simp[Op.operands])]
 .rename_i s x i;rw[h x (by simp[Op.operands])]
 .rename_i s x i;rw[h x (by simp[Op.operands])]
 .rename_i t x y;rw[h x (by simp[Op.operands]),h y (by simp[Op.operands])]
 .rename_i t x y;rw[h x (by simp[Op.operands]),h y (by simp[Op.operands])]
 .rename_i x i;rw[h x (by simp[Op.operands])]
 .rename_i x;rw[h x (by simp[Op.operands])]
 .rename_i t x lo hi
  have h1:lo.map ρ=lo.map ρ':=by cases lo with|none=>rfl|some y=>simp[h y (by simp[Op.operands])]
  have h2:hi.map ρ=hi.map ρ':=by cases hi with|none=>rfl|some y=>simp[h y (by simp[Op.operands])]
  rw[h x (by simp[Op.operands]),h1,h2]
 .rename_i args ts
  split
  .rename_i x t hx ht
   rw[h x (by simp[Op.operands,Call.operands];rw[<- Array.mem_toList_iff,hx];simp)]
  .rfl
 .rename_i args ts
  have:args.toList.map ρ=args.toList.map ρ':=List.map_congr_left λx hx=>h x (by simp[Op.operands,Call.operands];simpa using hx)
  rw[this]
 .rename_i args ts
  have:args.toList.map ρ=args.toList.map ρ':=List.map_congr_left λx hx=>h x (by simp[Op.operands,Call.operands];simpa using hx)
  rw[this]
 .rename_i t parts
  have:(parts.toList.map λp=>(p.1,ρ p.2))=parts.toList.map λp=>(p.1,ρ' p.2):=List.map_congr_left λp hp=>by
   rw[h p.2 (by simp only[Op.operands,List.mem_toArray];exact List.mem_map_of_mem hp)]
  rw[this]
 .rename_i f first captured
  have:captured.toList.map ρ=captured.toList.map ρ':=List.map_congr_left λx hx=>h x (by simp[Op.operands];exact .inr (by simpa using hx))
  rw[this]
 .rfl
theorem yp {ρ:Operand->Option AV}{op:Op}{r:AV×List Ob×Prop}(h:yb ti ρ L op=some r):bT ti op=true:=by
 unfold yb at h;split at h
 .rfl
 .rfl
 .rfl
 .rfl
 .cases h
theorem fA {ρ:Operand->Option AV}{op:Op}{r:FuncId×List (List AC)×Option Nat×List PV}(h:eh ti ρ op=some r):bT ti op=true:=by
 unfold eh at h;split at h
 .rename_i f args ts
  split at h
  .rename_i x xs ho QP;exact ho
  .cases h
 .cases h
theorem wX {ρ ρ':Operand->Option AV}{op:Op}(h:∀ x,x∈op.operands->ρ x=ρ' x):sD ti ρ op=sD ti ρ' op:=by
 unfold sD;split
 .rename_i t len parts
  unfold wl;rw[sK parts.toList 0 λp hp=>h p.2 (by simp only[Op.operands,List.mem_toArray];exact List.mem_map_of_mem hp)]
 .rfl
theorem vm {ρ ρ':Operand->Option AV}{op:Op}(h:∀ x,x∈op.operands->ρ x=ρ' x):oL ρ op=oL ρ' op:=by
 unfold oL;split
 .rename_i f args ts
  have h1:ρ f=ρ' f:=h f (by simp[Op.operands,Call.operands]);have h2:dt ρ args.toList=dt ρ' args.toList:=kJ _ λx hx=>h x (by simp[Op.operands,Call.operands];exact .inr (by simpa using hx))
  rw[h1,h2]
 .rfl
theorem nV {ρ:Operand->Option AV}{op:Op}{r:FuncId×List AV}(h:dp ti ρ op=some r):bT ti op=true:=by
 unfold dp at h;split at h
 case h_2=>cases h
 split at h
 .rename_i hc _ _;exact hc
 .rename_i hc _ _;exact hc
 .cases h
theorem Hj {ρ:Operand->Option AV}{op:Op}{K:AV->List Ob->Prop}(hl:bT ti op=false)(ha:iE P ti ρ L K op):∃ v,iE P ti ρ L (λv' L'=>v'=v/\L'=L) op/\K v L:=by
 obtain⟨v,φ,hp,hφ,hk⟩|⟨v,φ,hp,hφ,hk⟩|⟨v,L',φ,hp,_⟩|⟨g,ps,r,hc,hP,hk⟩|⟨g,es,t,k,ps,Ql,hc,_⟩|⟨g,k,ps,Ql,hc,_⟩|⟨σ,g,L0,QB,L1,r,hc,_⟩|⟨v,L',hk,_⟩:=ha
 .exact⟨v,.inl ⟨v,φ,hp,hφ,rfl,rfl⟩,hk⟩
 .exact⟨v,.inr (.inl ⟨v,φ,hp,hφ,rfl,rfl⟩),hk⟩
 .rw[yp hp]at hl;cases hl
 .exact⟨r.av,.inr (.inr (.inr (.inl ⟨g,ps,r,hc,hP,rfl,rfl⟩))),hk⟩
 .rw[fA hc]at hl;cases hl
 .rw[fA hc]at hl;cases hl
 .rw[nV hc]at hl;cases hl
 .rw[hk.1]at hl;cases hl
end
def abH (acc:List Nat)(o:Oper):Nat:=o.after.toList.foldl (λs e=>if Region.binds .any e then s |||2 ^ e.on |||acc.getD e.on 0 else s) 0
def masks:List Oper->List Nat->List Nat
 |[],acc=>acc
 |o::rest,acc=>masks rest (acc++[abH acc o])
def f_ (ops:Array Oper)(o:Oper):List Tmp:=o.looksAt ops++o.dst.toList
inductive IZ (l:List Oper):Nat->Nat->Prop
 |edge {i:Nat} {o:Oper} {e:Edge} (h:l[i]?=some o) (he:e∈o.after.toList) (hb:Region.binds .any e=true):IZ l i e.on
 |step {i j:Nat} {o:Oper} {e:Edge} (h:l[i]?=some o) (he:e∈o.after.toList) (hb:Region.binds .any e=true) (h2:IZ l e.on j):IZ l i j
theorem Eo (acc:List Nat)(j:Nat):∀ (es:List Edge) (s:Nat),(es.foldl (λs e=>if Region.binds .any e then s |||2 ^ e.on |||acc.getD e.on 0 else s) s).testBit j=true ->
  s.testBit j=true \/ ∃ e∈es,Region.binds .any e=true/\(e.on=j\/(acc.getD e.on 0).testBit j=true)
 |[],s,h => .inl h
 |e::es,s,h=>by
  rw[aiC]at h;obtain h1|⟨e',h1,h2⟩:=Eo acc j es _ h
  .by_cases hb:Region.binds .any e=true
   .rw[if_pos hb,Nat.testBit_or,Nat.testBit_or]at h1
    simp only[Bool.or_eq_true,Nat.testBit_two_pow,decide_eq_true_eq]at h1;obtain(h1|h1)|h1:=h1
    .exact .inl h1
    .exact .inr ⟨e,m5,hb,.inl h1⟩
    .exact .inr ⟨e,m5,hb,.inr h1⟩
   .rw[if_neg hb]at h1;exact .inl h1
  .exact .inr ⟨e',aid _ h1,h2⟩
theorem tG (l:List Oper):∀ (rest:List Oper) (acc:List Nat),(∀ q,l[acc.length+q]?=rest[q]?)->(∀ i j,i<acc.length->(acc.getD i 0).testBit j=true->IZ l i j) ->
  ∀ i j,((masks rest acc).getD i 0).testBit j=true->IZ l i j
 |[],acc,_,h,i,j,hb=>by
  by_cases hi:i<acc.length
  .exact h i j hi hb
  .have Ry:(acc.getD i 0).testBit j=true:=hb
   rw[aiE,List.getElem?_eq_none m0]at Ry;simp at Ry
 |o::rest,acc,hl,h,i,j,hb=>by
  refine tG l rest (acc++[abH acc o]) (λq=>?_) (λi j hi hb=>?_) i j hb
  .have:=hl (q+1)
   simp only[List.getElem?_cons_succ]at this;rw[<- this];congr 1;simp;omega
  .by_cases U2:i<acc.length
   .rw[aiE,ah5 U2,<- aiE]at hb
    exact h i j U2 hb
   .have:i=acc.length:=by simp at hi;omega
    subst this;rw[aiE,ahY m0]at hb;simp only[Nat.sub_self,List.getElem?_cons_zero,Option.getD_some]at hb;have ho:l[acc.length]?=some o:=by simpa using hl 0
    obtain h0|⟨e,he,Zd,h1|h1⟩:=Eo acc j _ _ hb
    .simp at h0
    .subst h1;exact .edge ho he Zd
    .by_cases O8:e.on<acc.length
     .exact .step ho he Zd (h e.on j O8 h1)
     .rw[aiE,List.getElem?_eq_none m0]at h1
      simp at h1
structure Done (l:List Oper)(listed:Array Bool):Prop where
 size:listed.size=l.length
 down:∀ (i:Nat) o,l[i]?=some o->listed[i]?=some true ->∀ e∈o.after.toList,Region.binds .any e=true->listed[e.on]?=some true
theorem Done.anc {l:List Oper}{listed:Array Bool}(h:Done l listed){i j:Nat}(ha:IZ l i j)(hd:∀ o,l[i]?=some o ->∀ e∈o.after.toList,Region.binds .any e=true->listed[e.on]?=some true):listed[j]?=some true:=by
 induction ha with
 |edge ho he hb=>exact hd _ ho _ he hb
 |step ho he hb _ ih=>exact ih λo UX=>h.down _ o UX (hd _ ho _ he hb)
theorem Done.put {l:List Oper}{listed:Array Bool}(h:Done l listed){i:Nat}(hi:∀ o,l[i]?=some o ->∀ e∈o.after.toList,Region.binds .any e=true->listed[e.on]?=some true):Done l (listed.setIfInBounds i true):=by
 refine⟨by simp[h.size],λj o ho hj e he hb=>?_⟩;have key:listed[e.on]?=some true:=by
  by_cases Wu:j=i
  .subst Wu;exact hi o ho e he hb
  .rw[aix (Ne.symm Wu)]at hj
   exact h.down j o ho hj e he hb
 by_cases hx:e.on=i
 .rw[hx,aiF (by rw[hx]at key;exact(aiy.1 key).1)]
 .rw[aix (Ne.symm hx)];exact key
def fN (ds:List (Option Tmp))(T:Tm):Option (Nat×Bool)->Option Bool
 |none=>some true
 |some (j,want)=>match ds[j]? with
  |some (some d)=>match T.lookup d with
   |some (.one (.c (.bool b)))=>some (b==want)
   |some .undef=>some false
   |_=>none
  |_=>none
theorem aa9 {ds:List (Option Tmp)}{T:Tm}{A B:Prop}{g:Option (Nat×Bool)}(h:gd ds T A B g):(fN ds T g=some true/\A)\/(fN ds T g=some false/\B):=by
 cases g with
 |none=>exact .inl ⟨rfl,h⟩
 |some p =>
  obtain⟨j,want⟩:=p;simp only[gd]at h;simp only[fN];split at h
  .rename_i d hd
   try simp only[hd]
   split at h
   .rename_i b hb
    try simp only[hb]
    by_cases Yz:b=want
    .exact .inl ⟨by simp[Yz],h.1 Yz⟩
    .exact .inr ⟨by simp[Yz],h.2 (by cases b<;>cases want<;>simp_all)⟩
   .rename_i hb
    try simp only[hb]
    exact .inr ⟨m5,h⟩
   .exact h.elim
  .exact h.elim
def gO:List Oper->List AV->Tm->Nat->Tm
 |o::l,v::vs,T,i+1=>gO l vs (uJ T o.dst v) i
 |_,_,T,_=>T
theorem yD {T:Tm}{d:Option Tmp}{v:AV}{t:Nat}(h:d≠some t):(uJ T d v).lookup t=T.lookup t:=by
 cases d with
 |none=>rfl
 |some d =>
  have:(t==d)=false:=by simp;intro e;exact h (by rw[e])
  simp[uJ,List.lookup_cons,this]
theorem lX {t:Nat}:∀ (l:List Oper) (vs:List AV) (T:Tm) (i:Nat),(∀ j o,j<i->l[j]?=some o->o.dst≠some t)->(gO l vs T i).lookup t=T.lookup t
 |o::l,v::vs,T,i+1,h=>by
  rw[gO,lX l vs _ i λj o' hj ho=>h (j+1) o' m0 (by simpa using ho),yD (h 0 o m0 rfl)]
 |[],_,_,_,_=>by simp[gO]
 |_::_,[],_,_,_=>by simp[gO]
 |_::_,_::_,_,0,_=>by simp[gO]
theorem rY {t:Nat}:∀ (l:List Oper) (vs:List AV) (T:Tm) (i j:Nat) (o:Oper) (v:AV),j<i->l[j]?=some o->o.dst=some t->vs[j]?=some v->(∀ k o',j<k->k<i->l[k]?=some o'->o'.dst≠some t)->(∀ k,k<i->k<=j->k<vs.length)->(gO l vs T i).lookup t=some v
 |[],_,_,_,_,_,_,_,h,_,_,_,_=>by simp at h
 |_::_,[],_,_,_,_,_,_,_,_,h,_,_=>by simp at h
 |_::_,_::_,_,0,_,_,_,h,_,_,_,_,_=>by omega
 |o0::l,v0::vs,T,i+1,0,o,v,_,ho,hd,hv,hk,_=>by
  simp at ho hv;subst ho hv;rw[gO,lX l vs _ i λj o' hj UX=>hk (j+1) o' m0 m0 (by simpa using UX),hd];simp[uJ,List.lookup_cons]
 |o0::l,v0::vs,T,i+1,j+1,o,v,hj,ho,hd,hv,hk,hl=>by
  rw[gO];exact rY l vs _ i j o v m0 (by simpa using ho) hd (by simpa using hv) (λk o' h1 h2 h3=>hk (k+1) o' m0 m0 (by simpa using h3)) (λk h1 h2=>by have:=hl (k+1) m0 m0;simpa using this)
section
variable {P:Program} {ti:TI} {B:Nat->Prop} {N n0:Nat} {γ:List Gh} {L:List Ob}
theorem q9 {ops:Array Oper}{ds:List (Option Tmp)}(UW:∀ j:Nat,(ops[j]?).map (·.dst)=ds[j]?){T:Tm}{R:PH}{a:Act}{o:Oper}{b:Bool}(hs:∀ d x,d∈o.looksAt ops->T.lookup d=some x ->∃ u,a.tmps[d]?=some u/\x.rep R γ L u)(h:fN ds T o.guard=some b):Region.wanted o (yielded ops a.tmps)=b:=by
 cases hg:o.guard with
 |none=>rw[hg]at h;injection h with h;subst h;simp[Region.wanted,hg]
 |some p =>
  obtain⟨j,want⟩:=p;rw[hg]at h;simp only[fN]at h;split at h
  .rename_i d hd0
   have hd:(ops[j]?).bind (·.dst)=some d:=by
    have:=UW j;rw[hd0]at this
    cases ho:ops[j]? with
    |none=>simp[ho]at this
    |some o'=>simpa[ho]using this
   have Ss:d∈o.looksAt ops:=by
    unfold Oper.looksAt;rw[hg];simp[hd]
   split at h
   .rename_i b' hb
    injection h with h;subst h
    obtain⟨u,h1,h2⟩:=hs d _ Ss hb
    cases h2;have hy:yielded ops a.tmps j=some b':=by simp[yielded,hd,h1]
    simp[Region.wanted,hg,hy]
   .rename_i hb
    injection h with h;subst h
    obtain⟨u,h1,h2⟩:=hs d _ Ss hb;have W8:u=Go.undef:=h2;subst W8;have hy:yielded ops a.tmps j=none:=by simp[yielded,hd,h1,Go.undef]
    simp[Region.wanted,hg,hy]
   .cases h
  .cases h
theorem wB {α:Type}{p q:α->Bool}:∀ (l:List α),(∀ x∈l,q x=true->p x=true)->(∃ x∈l,p x=true/\q x=false)->l.countP q<l.countP p
 |[],_,⟨x,hx,_⟩=>by cases hx
 |y::l,h,⟨x,hx,h1,h2⟩=>by
  have hle:l.countP q<=l.countP p:=List.countP_mono_left λz hz=>h z (aid _ hz)
  rw[List.countP_cons,List.countP_cons];obtain rfl|hx:=ah8.1 hx
  .rw[h1,h2];simp;omega
  .have:=wB l (λz hz=>h z (aid _ hz)) ⟨x,hx,h1,h2⟩
   have hy:=h y m5
   cases hq:q y<;>cases hp:p y<;>simp_all<;>omega
def pQ (n:Nat)(listed:Array Bool):Nat:=(List.range n).countP λi=>listed[i]?==some false
end
def BD:Op->Bool
 |.load _ _=>false
 |.fieldAddr _ _ _=>false
 |.indexAddr _ _ _=>false
 |.nilCheck _=>false
 |.slice _ _ _ _ _=>false
 |.call { callee := .builtin .len,.. } =>false
 |_=>true
def isLoad:Op->Bool
 |.load _ _=>true
 |_=>false
def Ht (F:List Nat):Op->Bool
 |.load _ (.tmp t)=>F.contains t
 |_=>false
def okX (F:List Nat)(ti:TI)(i c:Nat)(oi oc:Op):Bool :=
 BD oi||(Ht F oi||(ti.soft&&match sk oc with
  |1=>decide (i<c)
  |2=>true
  |3 => !isLoad oi
  |4=>true
  |_=>false))
def tZ (F:List Nat)(ti:TI)(l:List Oper):Bool :=
 let ms:=masks l []
 (F.all λt=>l.all λo=>o.dst !=some t) &&
 (l.zipIdx.all λp=>p.1.after.toList.all λe => !Region.binds .any e||decide (e.on<p.2)) &&
 (l.zipIdx.all λp => !bT ti p.1.op||l.zipIdx.all λq => !bT ti q.1.op||decide (p.2<=q.2)||(ms.getD p.2 0).testBit q.2) &&
 (l.zipIdx.all λp=>l.zipIdx.all λq=>decide (p.2=q.2)||(match p.1.dst with
  |some d => !(f_ l.toArray q.1).contains d||(p.1.dst !=q.1.dst&&(if p.2<q.2 then(ms.getD q.2 0).testBit p.2 else(ms.getD p.2 0).testBit q.2))
  |none=>true)) &&
 (l.zipIdx.all λp=>bT ti p.1.op||l.zipIdx.all λq => !bT ti q.1.op||(ms.getD p.2 0).testBit q.2||(ms.getD q.2 0).testBit p.2||okX F ti p.2 q.2 p.1.op q.1.op)
def acH (ti:TI)(l:List Oper):Bool:=tZ [] ti l
structure adO (F:List Nat)(ti:TI)(l:List Oper):Prop where
 fz:∀ t∈F,∀ o∈l,o.dst≠some t
 back:∀ (i:Nat) o,l[i]?=some o ->∀ e∈o.after.toList,Region.binds .any e=true->e.on<i
 chain:∀ (i j:Nat) o o',l[i]?=some o->l[j]?=some o'->bT ti o.op=true->bT ti o'.op=true->j<i->IZ l i j
 apart:∀ (i j:Nat) o o' d,i≠j->l[i]?=some o->l[j]?=some o'->o.dst=some d->d∈f_ l.toArray o'->o'.dst≠some d/\(if i<j then IZ l j i else IZ l i j)
 cross:∀ (i c:Nat) o oc,l[i]?=some o->l[c]?=some oc->bT ti o.op=false->bT ti oc.op=true ->¬ IZ l i c ->¬ IZ l c i->okX F ti i c o.op oc.op=true
theorem abT {F:List Nat}{ti:TI}{l:List Oper}(h:tZ F ti l=true):adO F ti l:=by
 unfold tZ at h;simp only[ah9]at h;obtain⟨⟨⟨⟨h0,h1⟩,h2⟩,h3⟩,h4⟩:=h;have U6:=tG l l [] (λq=>by simp) (λi j hi=>by simp at hi);have zi:∀ {l':List Oper} (i:Nat) o,l'[i]?=some o->(o,i)∈l'.zipIdx:=by
  intro l' i o ho;rw[List.mem_iff_getElem?];exact⟨i,by simp[List.getElem?_zipIdx,ho]⟩
 refine⟨λt ht o ho e=>by have:=aiB.1 (aiB.1 h0 t ht) o ho;rw[e]at this;simp at this,λi o ho e he hb=>?_,λi j o o' ho UX hk ZF hj=>?_,λi j o o' d PE ho UX hd hn=>?_,λi c o oc ho R3 hk ZF n1 n2=>?_⟩
 .have:=aiB.1 (aiB.1 h1 (o,i) (zi i o ho)) e he
  simpa[hb]using this
 .have:=aiB.1 h2 (o,i) (zi i o ho)
  simp only[hk,Bool.not_true,Bool.false_or]at this;have:=aiB.1 this (o',j) (zi j o' UX);simp only[ZF,Bool.not_true,Bool.false_or,Bool.or_eq_true,decide_eq_true_eq]at this;obtain this|this:=this
  .omega
  .exact U6 i j this
 .have:=aiB.1 (aiB.1 h3 _ (zi i o ho)) _ (zi j o' UX)
  simp only[PE,decide_false,Bool.false_or,hd]at this;have hc:(f_ l.toArray o').contains d=true:=by simpa using hn
  rw[hc]at this;simp only[Bool.not_true,Bool.false_or,ah9,bne_iff_ne,ne_eq]at this;refine⟨λe=>this.1 e.symm,?_⟩;by_cases Wu:i<j
  .rw[if_pos Wu]at this ⊢
   exact U6 j i this.2
  .rw[if_neg Wu]at this ⊢
   exact U6 i j this.2
 .have:=aiB.1 h4 (o,i) (zi i o ho)
  simp only[hk,Bool.false_or]at this;have:=aiB.1 this (oc,c) (zi c oc R3);simp only[ZF,Bool.not_true,Bool.false_or,Bool.or_eq_true]at this;obtain(this|this)|this:=this
  .exact absurd (U6 i c this) n1
  .exact absurd (U6 c i this) n2
  .exact this
section
variable {P:Program} {ti:TI} {ρ:Operand->Option AV} {L L':List Ob}
theorem ad' {F:List Nat}{op:Op}(h:Ht F op=true)(hF:∀ t∈F,∃ x,ρ (.tmp t)=some (.one (.c x))):pop ti ρ L op=pop ti ρ L' op:=by
 unfold Ht at h;split at h
 .rename_i ty t
  obtain⟨x,hx⟩:=hF t (by simpa using h);simp only[pop,hx,ahQ];unfold fZ
  cases x<;>rfl
 .cases h
def Ob.vis:Ob->Bool
 |.box _=>true
 |.row _ _ _=>true
 |_=>false
def RelA (L L':List Ob):Prop :=∀ (id:Nat) x,L[id]?=some x->x.vis=true->L'[id]?=some x
def RelB (L L':List Ob):Prop :=∀ (id:Nat) O9 es k,L[id]?=some (.row O9 es k) ->∃ Ql,L'[id]?=some (.row O9 Ql k)
theorem RelA.toB (h:RelA L L'):RelB L L':=λid O9 es k e=>⟨es,h id _ e rfl⟩
theorem Lm {op:Op}(h:BD op=true):pop ti ρ L op=pop ti ρ L' op:=by
 cases op with
 |call c =>
  obtain⟨callee,args,ts⟩:=c
  cases callee with
  |builtin b=>cases b<;>first|(cases h;done)|rfl
  |_=>rfl
 |makeFunc f first captured=>cases f<;>rfl
 |_=>first|(cases h;done)|rfl
theorem CM (h:RelB L L'){s:TypeId}{i0 id O9 i off:Nat}{r:AV×Prop}(e:dX ti L s i0 id O9 i off=some r):dX ti L' s i0 id O9 i off=some r:=by
 unfold dX at e ⊢;split at e
 .rename_i Pn es k o t hL hf
  obtain⟨Ql,h'⟩:=h id _ _ _ hL;rw[h',hf];exact e
 .cases e
theorem IA (h:RelB L L'){t:TypeId}{id O9 n:Nat}{r:AV×Prop}(e:gU ti L t id O9 n=some r):gU ti L' t id O9 n=some r:=by
 unfold gU at e ⊢;split at e
 .rename_i Pn es k hL
  obtain⟨Ql,h'⟩:=h id _ _ _ hL;rw[h'];exact e
 .cases e
theorem B8 (h:RelB L L'){t:TypeId}{id O9 lo n:Nat}{ix:AV}{r:AV×Prop}(e:ec ti L t id O9 lo n ix=some r):ec ti L' t id O9 lo n ix=some r:=by
 unfold ec at e ⊢;split at e
 .rename_i Pn es k' kk i k hL hk
  obtain⟨Ql,h'⟩:=h id _ _ _ hL;rw[h',hk];exact e
 .cases e
theorem n8 (h:RelB L L'){t:TypeId}{x:AV}{lo hi:Option AV}{r:AV×Prop}(e:dJ ti L t x lo hi=some r):dJ ti L' t x lo hi=some r:=by
 unfold dJ at e ⊢;split at e
 .exact e
 .rename_i id O9 Xi n
  split at e
  .rename_i Pn es k' k hL hk
   obtain⟨Ql,h'⟩:=h id _ _ _ hL;simp only[h',hk];exact e
  .cases e
 .exact e
theorem aa8 (h:RelB L L'){op:Op}(hl:isLoad op=false){r:AV×Prop}(e:pop ti ρ L op=some r):pop ti ρ L' op=some r:=by
 by_cases Xu:BD op=true
 .rw[<- Lm Xu (L:=L)];exact e
 unfold pop at e ⊢;split at e
 all_goals first
  |exact e
  |(cases hl;done)
  |skip
 .split at e
  .exact CM h e
  .exact e
  .cases e
 .split at e
  .exact B8 h e
  .exact e
  .cases e
 .split at e
  .exact e
  .exact e
  .rename_i id O9 i o hx
   split at e
   .rename_i Pn es k hL
    obtain⟨Ql,h'⟩:=h id _ _ _ hL;simp only[h'];exact e
   .cases e
  .exact e
  .exact e
  .cases e
 .split at e
  .exact n8 h e
  .exact n8 h e
  .exact n8 h e
  .exact n8 h e
  .cases e
 .split at e
  .split at e
   .exact IA h e
   .exact e
   .cases e
  .cases e
theorem NW (h:RelA L L'){t:TypeId}{x:AV}{r:AV×Prop}(e:fZ ti L t x=some r):fZ ti L' t x=some r:=by
 unfold fZ at e ⊢;split at e
 .exact e
 .rename_i id off
  split at e
  .rename_i cs hL
   simp only[h id _ hL rfl];exact e
  .cases e
 .rename_i id O9 i o
  split at e
  .rename_i Pn es k hL
   simp only[h id _ hL rfl];exact e
  .cases e
 .cases e
theorem Ib (h:RelA L L'){op:Op}{r:AV×Prop}(e:pop ti ρ L op=some r):pop ti ρ L' op=some r:=by
 cases hl:isLoad op with
 |false=>exact aa8 h.toB hl e
 |true =>
  cases op<;>first|(cases hl;done)|skip
  rename_i t p;simp only[pop]at e ⊢
  cases hp:ρ p with
  |none=>simp[hp]at e
  |some v=>simp only[hp,ahQ]at e ⊢;exact NW h e
theorem acC {op:Op}{v:AV}{φ:Prop}(h:yb ti ρ L op=some (v,L',φ)):(sk op=1->RelA L L')/\(sk op=2->RelA L L'/\RelA L' L)/\(sk op=3->RelB L L'/\RelB L' L):=by
 have grow:∀ x,RelA L (L++[x]):=λx id y hy _=>by rw[ah5 (ahR.1 hy).1];exact hy
 have setA:∀ (i:Nat) (x y:Ob),L[i]?=some x->x.vis=false->y.vis=false->RelA L (L.set i y)/\RelA (L.set i y) L:=by
  intro i x y hx hv T0;have O8:=(ahR.1 hx).1;refine⟨λid z hz ZG=>?_,λid z hz ZG=>?_⟩
  .by_cases e:id=i
   .subst e;rw[hx]at hz;injection hz with hz;subst hz;rw[hv]at ZG;cases ZG
   .rw[ah' (Ne.symm e)];exact hz
  .by_cases e:id=i
   .subst e;rw[ah_ O8]at hz;injection hz with hz;subst hz;rw[T0]at ZG;cases ZG
   .rw[ah' (Ne.symm e)]at hz;exact hz
 unfold yb at h;split at h
 .split at h
  .injection h with h;injection h with e1 e2;injection e2 with e2 e3;subst e2
   exact⟨λ_=>grow _,λe=>(by cases e),λe=>by cases e⟩
  .cases h
 .split at h
  .injection h with h;injection h with e1 e2;injection e2 with e2 e3;subst e2
   exact⟨λ_=>grow _,λe=>(by cases e),λe=>by cases e⟩
  .cases h
 .refine⟨λe=>(by cases e),λe=>(by cases e),λ_=>?_⟩
  split at h
  .rename_i id off xs hp hx
   split at h
   .rename_i cs hL
    injection h with h;injection h with e1 e2;injection e2 with e2 e3;subst e2
    have O8:=(ahR.1 hL).1;refine⟨λW9 O9 es k e=>?_,λW9 O9 es k e=>?_⟩
    .by_cases hid:W9=id
     .subst hid;rw[hL]at e;cases e
     .exact⟨es,by rw[ah' (Ne.symm hid)];exact e⟩
    .by_cases hid:W9=id
     .subst hid;rw[ah_ O8]at e;cases e
     .exact⟨es,by rw[ah' (Ne.symm hid)]at e;exact e⟩
   .cases h
  .rename_i id O9 i o xs hp hx
   split at h
   .rename_i Pn es k hL
    split at h
    .rename_i e0 Uc
     injection h with h;injection h with e1 e2;injection e2 with e2 e3;subst e2
     have O8:=(ahR.1 hL).1;refine⟨λW9 Rl UC k2 e=>?_,λW9 Rl UC k2 e=>?_⟩
     .by_cases hid:W9=id
      .subst hid;rw[hL]at e;injection e with e;injection e with q1 q2 q3;subst q1 q2 q3
       exact⟨_,ah_ O8⟩
      .exact⟨UC,by rw[ah' (Ne.symm hid)];exact e⟩
     .by_cases hid:W9=id
      .subst hid;rw[ah_ O8]at e;injection e with e;injection e with q1 q2 q3;subst q1 q2 q3
       exact⟨es,hL⟩
      .exact⟨UC,by rw[ah' (Ne.symm hid)]at e;exact e⟩
    .cases h
   .cases h
  .cases h
 .refine⟨λe=>(by cases e),λ_=>?_,λe=>by cases e⟩
  split at h
  .split at h
   .unfold tq at h
    split at h
    .split at h
     .split at h
      .injection h with h;injection h with e1 e2;injection e2 with e2 e3;subst e2
       refine⟨grow _,λid x hx hv=>?_⟩;by_cases hid:id<L.length
       .rw[ah5 hid]at hx;exact hx
       .rw[ahY m0]at hx
        have:=(ahR.1 hx).1;have h0:id-L.length=0:=by simp at this;omega
        rw[h0]at hx;simp at hx;subst hx;cases hv
      .split at h
       .rename_i hL
        injection h with h;injection h with e1 e2;injection e2 with e2 e3;subst e2
        exact setA _ _ _ hL rfl rfl
       .cases h
      .cases h
     .cases h
    .cases h
   .cases h
  .cases h
 .cases h
theorem Nb {ρ':Operand->Option AV}{op:Op}(h:∀ x,x∈op.operands->ρ x=ρ' x):yb ti ρ L op=yb ti ρ' L op:=by
 unfold yb;split
 .rfl
 .rename_i t x;rw[h x (by simp[Op.operands])]
 .rename_i t p x;rw[h p (by simp[Op.operands]),h x (by simp[Op.operands])]
 .rename_i args ts
  split
  .rename_i s x t tx hs hx
   rw[h s (by simp[Op.operands,Call.operands];rw[<- Array.mem_toList_iff,hs];simp),h x (by simp[Op.operands,Call.operands];rw[<- Array.mem_toList_iff,hs];simp)]
  .rfl
 .rfl
theorem Eg {ρ':Operand->Option AV}:∀ (xs:List Operand),(∀ x∈xs,ρ x=ρ' x)->OM ρ xs=OM ρ' xs
 |[],_=>rfl
 |x::xs,h=>by
  have h1:ρ x=ρ' x:=h x m5;have h2:=Eg xs λy hy=>h y (aid _ hy)
  simp only[OM,h1,h2]
theorem sj {ρ':Operand->Option AV}{op:Op}(h:∀ x,x∈op.operands->ρ x=ρ' x):eh ti ρ op=eh ti ρ' op:=by
 unfold eh;split
 .rename_i f args ts
  split
  .rename_i x xs ho QP
   have hm:∀ y,y∈x::xs->ρ y=ρ' y:=λy hy=>h y (by simp[Op.operands,Call.operands];exact .inr (by rw[<- Array.mem_toList_iff,QP];exact hy))
   rw[hm x m5,kJ xs λy hy=>hm y (aid _ hy)]
  .rfl
 .rfl
theorem BP {ρ':Operand->Option AV}{op:Op}(h:∀ x,x∈op.operands->ρ x=ρ' x):dp ti ρ op=dp ti ρ' op:=by
 unfold dp;split
 .rename_i f args ts
  have h1:ρ f=ρ' f:=h f (by simp[Op.operands,Call.operands]);have h2:OM ρ args.toList=OM ρ' args.toList:=Eg _ λx hx=>h x (by simp[Op.operands,Call.operands];exact .inr (by simpa using hx))
  rw[h1,h2]
 .rfl
theorem N0 {ρ':Operand->Option AV}{op:Op}{v:AV}(h:∀ x,x∈op.operands->ρ x=ρ' x)(hs:nA P ρ L op v L'):nA P ρ' L op v L' :=
 λB R γ w ev o ho hi hρ RN=>hs B R γ w ev o ho hi (λx hx v hv=>hρ x hx v (by rw[<- h x hx];exact hv)) RN
theorem xn {ρ':Operand->Option AV}{op:Op}{K:AV->List Ob->Prop}(h:∀ x,x∈op.operands->ρ x=ρ' x)(ha:iE P ti ρ L K op):iE P ti ρ' L K op:=by
 obtain ha|ha|ha|ha|ha|ha|ha|⟨v,L',h1,h2,h3⟩:=ha
 .rw[C2 h]at ha;exact .inl ha
 .rw[wX h]at ha;exact .inr (.inl ha)
 .rw[Nb h]at ha;exact .inr (.inr (.inl ha))
 .rw[vm h]at ha;exact .inr (.inr (.inr (.inl ha)))
 .rw[sj h]at ha;exact .inr (.inr (.inr (.inr (.inl ha))))
 .rw[sj h]at ha;exact .inr (.inr (.inr (.inr (.inr (.inl ha)))))
 .rw[BP h]at ha;exact .inr (.inr (.inr (.inr (.inr (.inr (.inl ha))))))
 .exact .inr (.inr (.inr (.inr (.inr (.inr (.inr ⟨v,L',h1,N0 h h2,h3⟩))))))
theorem Oo {op:Op}{K:AV->List Ob->Prop}(ha:iE P ti ρ L K op):∃ v L1,iE P ti ρ L (λv' L'=>v'=v/\L'=L1) op/\K v L1:=by
 obtain⟨v,φ,hp,hφ,hk⟩|⟨v,φ,hp,hφ,hk⟩|⟨v,L',φ,hp,hφ,hk⟩|⟨g,ps,r,hc,hP,hk⟩|⟨g,es,t,k,ps,Ql,hc,h1,h2,hk⟩|⟨g,k,ps,Ql,hc,h1,hk⟩|⟨σ,g,L0,QB,L1,r,hc,h1,h2,hk⟩|⟨v,L',h1,h2,hk⟩:=ha
 .exact⟨v,_,.inl ⟨v,φ,hp,hφ,rfl,rfl⟩,hk⟩
 .exact⟨v,_,.inr (.inl ⟨v,φ,hp,hφ,rfl,rfl⟩),hk⟩
 .exact⟨v,_,.inr (.inr (.inl ⟨v,L',φ,hp,hφ,rfl,rfl⟩)),hk⟩
 .exact⟨_,_,.inr (.inr (.inr (.inl ⟨g,ps,r,hc,hP,rfl,rfl⟩))),hk⟩
 .exact⟨_,_,.inr (.inr (.inr (.inr (.inl ⟨g,es,t,k,ps,Ql,hc,h1,h2,rfl,rfl⟩)))),hk⟩
 .exact⟨_,_,.inr (.inr (.inr (.inr (.inr (.inl ⟨g,k,ps,Ql,hc,h1,rfl,rfl⟩))))),hk⟩
 .exact⟨_,_,.inr (.inr (.inr (.inr (.inr (.inr (.inl ⟨σ,g,L0,QB,L1,r,hc,h1,h2,rfl,rfl⟩)))))),hk⟩
 .exact⟨_,_,.inr (.inr (.inr (.inr (.inr (.inr (.inr ⟨v,L',h1,h2,rfl,rfl⟩)))))),hk⟩
theorem quiet_move {op:Op}{v:AV}{L1:List Ob}(hl:bT ti op=false)(ha:iE P ti ρ L (λv' L'=>v'=v/\L'=L1) op)(hr:∀ r,pop ti ρ L op=some r->pop ti ρ L' op=some r):iE P ti ρ L' (λv' Yn=>v'=v/\Yn=L') op:=by
 obtain⟨v',φ,hp,hφ,hk⟩|⟨v',φ,hp,hφ,hk⟩|⟨v',L',φ,hp,_⟩|⟨g,ps,r,hc,hP,hk⟩|⟨g,es,t,k,ps,Ql,hc,_⟩|⟨g,k,ps,Ql,hc,_⟩|⟨σ,g,L0,QB,L1,r,hc,_⟩|⟨v',L',hk,_⟩:=ha
 .exact .inl ⟨v',φ,hr _ hp,hφ,hk.1,rfl⟩
 .exact .inr (.inl ⟨v',φ,hp,hφ,hk.1,rfl⟩)
 .rw[yp hp]at hl;cases hl
 .exact .inr (.inr (.inr (.inl ⟨g,ps,r,hc,hP,hk.1,rfl⟩)))
 .rw[fA hc]at hl;cases hl
 .rw[fA hc]at hl;cases hl
 .rw[nV hc]at hl;cases hl
 .rw[hk.1]at hl;cases hl
theorem sS {op:Op}{v:AV}{L1:List Ob}(hl:bT ti op=false)(ha:iE P ti ρ L (λv' L'=>v'=v/\L'=L1) op):L1=L:=by
 obtain⟨v',_,h1,h2⟩:=Hj hl ha;exact h2.symm
theorem aal {op:Op}{v:AV}{L1:List Ob}(hs:ti.soft=true)(h0:sk op≠0)(ha:iE P ti ρ L (λv' L'=>v'=v/\L'=L1) op):(sk op=1->RelA L L1)/\(sk op=2->RelA L L1/\RelA L1 L)/\(sk op=3->RelB L L1/\RelB L1 L)/\(sk op=4->RelA L L1/\RelA L1 L):=by
 have self:RelA L L/\RelB L L:=⟨λ_ _ h _=>h,λ_ _ es _ h=>⟨es,h⟩⟩;have RU:∀ c,op = .call c->(∀ f,c.callee = .value f->False):=by
  intro c e f hf;subst e;obtain⟨callee,args,ts⟩:=c;simp only at hf;subst hf;exact h0 rfl
 obtain⟨v',φ,hp,hφ,rfl,rfl⟩|⟨v',φ,hp,hφ,rfl,rfl⟩|⟨v',L',φ,hp,hφ,rfl,rfl⟩|⟨g,ps,r,hc,hP,rfl,rfl⟩|⟨g,es,t,k,ps,Ql,hc,_⟩|⟨g,k,ps,Ql,hc,_⟩|⟨σ,g,L0,QB,L2,r,hc,_⟩|⟨v',L',hk,hh⟩:=ha
 .exact⟨λ_=>self.1,λ_=>⟨self.1,self.1⟩,λ_=>⟨self.2,self.2⟩,λ_=>⟨self.1,self.1⟩⟩
 .exact⟨λ_=>self.1,λ_=>⟨self.1,self.1⟩,λ_=>⟨self.2,self.2⟩,λ_=>⟨self.1,self.1⟩⟩
 .obtain⟨q1,q2,q3⟩:=acC hp
  refine⟨q1,q2,q3,λe4=>?_⟩;exfalso;unfold yb at hp;split at hp<;>first|(cases e4;done)|(cases hp;done)
 .exact⟨λ_=>self.1,λ_=>⟨self.1,self.1⟩,λ_=>⟨self.2,self.2⟩,λ_=>⟨self.1,self.1⟩⟩
 .exfalso
  unfold eh at hc;split at hc
  .exact RU _ rfl _ rfl
  .cases hc
 .exfalso
  unfold eh at hc;split at hc
  .exact RU _ rfl _ rfl
  .cases hc
 .exfalso
  unfold dp at hc;split at hc
  .exact RU _ rfl _ rfl
  .cases hc
 .obtain e|⟨e4,rfl⟩:=hk.2 hs
  .exact absurd e h0
  .obtain⟨_,_,rfl⟩:=hh
   exact⟨λ_=>self.1,λ_=>⟨self.1,self.1⟩,λ_=>⟨self.2,self.2⟩,λ_=>⟨self.1,self.1⟩⟩
end
section
variable {P:Program} {ti:TI} {B:Nat->Prop} {N n0:Nat}
theorem aaV {ds:List (Option Tmp)}{K:Tm->List Ob->Prop}:∀ (l:List Oper) (T:Tm) (L:List Ob),aK P ti N ds K l T L ->
  ∃ (vs:List AV) (Ls:Nat->List Ob),vs.length=l.length/\Ls 0=L/\(∀ (i:Nat) o,l[i]?=some o->dOK N o.dst /\ ∃ v,vs[i]?=some v /\
   ((fN ds (gO l vs T i) o.guard=some true/\iE P ti (look (gO l vs T i)) (Ls i) (λv' L'=>v'=v/\L'=Ls (i+1)) o.op)\/(fN ds (gO l vs T i) o.guard=some false/\v = .undef/\Ls (i+1)=Ls i))) /\
   K (gO l vs T l.length) (Ls l.length)
 |[],T,L,h=>⟨[],λ_=>L,rfl,rfl,λi o ho=>by simp at ho,by have h:K T L:=h;simpa[gO]using h⟩
 |o::l,T,L,h=>by
  obtain⟨hd,hg⟩:=h;have go:∀ v L1,((fN ds T o.guard=some true/\iE P ti (look T) L (λv' L'=>v'=v/\L'=L1) o.op)\/(fN ds T o.guard=some false/\v = .undef/\L1=L))->aK P ti N ds K l (uJ T o.dst v) L1 ->∃ (vs:List AV) (Ls:Nat->List Ob),vs.length=(o::l).length/\Ls 0=L/\(∀ (i:Nat) o',(o::l)[i]?=some o'->dOK N o'.dst /\ ∃ v,vs[i]?=some v /\
   ((fN ds (gO (o::l) vs T i) o'.guard=some true/\iE P ti (look (gO (o::l) vs T i)) (Ls i) (λv' L'=>v'=v/\L'=Ls (i+1)) o'.op)\/(fN ds (gO (o::l) vs T i) o'.guard=some false/\v = .undef/\Ls (i+1)=Ls i))) /\
   K (gO (o::l) vs T (o::l).length) (Ls (o::l).length):=by
   intro v L1 hv hr;obtain⟨vs,Ls,h1,h0,h2,h3⟩:=aaV l (uJ T o.dst v) L1 hr;refine⟨v::vs,λi=>match i with|0=>L|i+1=>Ls i,by simp[h1],rfl,λi o' ho=>?_,by simpa[gO]using h3⟩
   cases i with
   |zero =>
    simp at ho;subst ho;exact⟨hd,v,rfl,by simpa[gO,h0]using hv⟩
   |succ i =>
    obtain⟨g1,v',g2,g3⟩:=h2 i o' (by simpa using ho);exact⟨g1,v',by simpa using g2,by simpa[gO]using g3⟩
  obtain⟨h1,h2⟩|⟨h1,h2⟩:=aa9 hg
  .obtain⟨v,L1,g1,g2⟩:=Oo h2
   exact go v L1 (.inl ⟨h1,g1⟩) g2
  .exact go .undef L (.inr ⟨h1,rfl,rfl⟩) h2
structure acY (ti:TI)(l:List Oper)(N:Nat)(B:Nat->Prop)(Ls:Nat->List Ob)(T:Tm)(vs:List AV)(R0:PH)(γ0:List Gh)(w0:World)(listed:Array Bool)(e:Nat)(R:PH)(γ:List Gh)(a:Act)(w:World):Prop where
 inv:Inv B R γ (Ls e) w
 size:a.tmps.size=N
 defers:a.defers=[]
 done:Done l listed
 le:e<=l.length
 lo:∀ (c:Nat) o,c<e->l[c]?=some o->bT ti o.op=true->listed[c]?=some true
 hi:∀ (c:Nat) o,e<=c->l[c]?=some o->bT ti o.op=true->listed[c]?=some false
 fresh:∀ (i:Nat) o d v,listed[i]?=some true->l[i]?=some o->o.dst=some d->vs[i]?=some v ->∃ u,a.tmps[d]?=some u/\v.rep R γ (Ls e) u
 old:∀ t x,T.lookup t=some x->(∀ (i:Nat) o,listed[i]?=some true->l[i]?=some o->o.dst≠some t) ->∃ u,a.tmps[t]?=some u/\x.rep R γ (Ls e) u
 ext:Ext B R0 R w0 w
 mv:Mv R0 R γ0 γ (Ls 0) (Ls e)
theorem sO {l:List Oper}{listed:Array Bool}(ZH:∀ (i:Nat) o,l[i]?=some o ->∀ e∈o.after.toList,Region.binds .any e=true->e.on<i)(h:Done l listed)(i:Nat):i∈Region.ready .any l.toArray listed↔i<l.length/\listed[i]?=some false /\ ∀ o,l[i]?=some o ->∀ e∈o.after.toList,Region.binds .any e=true->listed[e.on]?=some true:=by
 unfold Region.ready;rw[List.mem_filter,List.mem_range];simp only[List.size_toArray,ah9];constructor
 .rintro⟨hi,h1,h2⟩
  have O8:i<listed.size:=by rw[h.size];exact hi
  have e1:listed[i]?=some listed[i]:=aie O8;refine⟨hi,?_,λo ho e he hb=>?_⟩
  .rw[Array.getD_eq_getD_getElem?,e1]at h1
   simp at h1;rw[e1,h1]
  .simp only[List.getElem?_toArray,ho,Option.map_some,Option.getD_some]at h2
   have:=Array.all_eq_true'.1 h2 e (by simpa using he);rw[hb]at this;have Rz:e.on<listed.size:=by rw[h.size];have:=ZH i o ho e he hb;omega
   have e2:listed[e.on]?=some listed[e.on]:=aie Rz;rw[Array.getD_eq_getD_getElem?,e2]at this;simp at this;rw[e2,this]
 .rintro⟨hi,h1,h2⟩
  refine⟨hi,by simp[Array.getD_eq_getD_getElem?,h1],?_⟩;have ho:l[i]?=some l[i]:=ah0 hi;simp only[List.getElem?_toArray,ho,Option.map_some,Option.getD_some];rw[Array.all_eq_true'];intro e he;by_cases hb:Region.binds .any e=true
  .simp[hb,Array.getD_eq_getD_getElem?,h2 _ ho e (by simpa using he) hb]
  .simp[hb]
open Classical in
theorem ahr (Pm:TIok P ti){l:List Oper}{ds:List (Option Tmp)}(UW:l.map (·.dst)=ds){F:List Nat}(hD:adO F ti l){K:Tm->List Ob->Prop}{Q:Exit->Act->World->Prop}{T:Tm}{vs:List AV}{Ls:Nat->List Ob}{R0:PH}{γ0:List Gh}{w0:World}(hvl:vs.length=l.length)(hF:∀ t∈F,∃ x,T.lookup t=some (.one (.c x)))
  (htr:∀ (i:Nat) o,l[i]?=some o->dOK N o.dst /\ ∃ v,vs[i]?=some v /\
   ((fN ds (gO l vs T i) o.guard=some true/\iE P ti (look (gO l vs T i)) (Ls i) (λv' L'=>v'=v/\L'=Ls (i+1)) o.op)\/(fN ds (gO l vs T i) o.guard=some false/\v = .undef/\Ls (i+1)=Ls i)))
  (hK:K (gO l vs T l.length) (Ls l.length))
  (hQ:∀ T' L' R' γ' w' a',K T' L'->Inv B R' γ' L' w'->gv N R' γ' L' T' a'->Ext B R0 R' w0 w'->Mv R0 R' γ0 γ' (Ls 0) L'->Q .normal a' w') :
  ∀ (fuel:Nat) (listed:Array Bool) (e:Nat) (R:PH) (γ:List Gh) (a:Act) (w:World),pQ l.length listed<=fuel->acY ti l N B Ls T vs R0 γ0 w0 listed e R γ a w->wpAny P .any l.toArray Q fuel listed a w:=by
 have uniq:∀ (i j:Nat) o o' d,l[i]?=some o->l[j]?=some o'->o.dst=some d->o'.dst=some d->i=j:=by
  intro i j o o' d ho UX hd Uo;by_cases PE:i=j
  .exact PE
  .exfalso
   exact(hD.apart i j o o' d PE ho UX hd (by unfold f_;simp[Uo])).1 Uo

 have flat:∀ n e,(∀ (c:Nat) o,e<=c->c<e+n->l[c]?=some o->bT ti o.op=false)->e+n<=l.length->Ls (e+n)=Ls e:=by
  intro n
  induction n with
  |zero=>intro e _ _;rfl
  |succ n ih =>
   intro e h hle;have h1:=ih e (λc o h1 h2=>h c o h1 m0) m0;have O8:e+n<l.length:=m0
   have ho:l[e+n]?=some l[e+n]:=ah0 O8;obtain⟨_,v,_,hs⟩:=htr _ _ ho;rw[<- h1];show Ls (e+n+1)=Ls (e+n);obtain⟨_,TJ⟩|⟨_,_,TJ⟩:=hs
   .exact sS (h _ _ m0 m0 ho) TJ
   .exact TJ

 have pass:∀ (i:Nat) o v,l[i]?=some o->bT ti o.op=false->iE P ti (look (gO l vs T i)) (Ls i) (λv' L'=>v'=v/\L'=Ls (i+1)) o.op ->∀ e,e<=l.length ->
   (∀ (c:Nat) oc,l[c]?=some oc->bT ti oc.op=true->(i<c/\c<e)\/(e<=c/\c<i)->okX F ti i c o.op oc.op=true)->iE P ti (look (gO l vs T i)) (Ls e) (λv' L'=>v'=v/\L'=Ls e) o.op:=by
  intro i o v ho hk TJ e Ze hx;have We:=(ahR.1 ho).1;refine quiet_move hk TJ ?_;by_cases Xu:BD o.op=true
  .intro r hr;rw[<- Lm Xu (L:=Ls i)];exact hr
  have ZI:BD o.op=false:=by simpa using Xu
  by_cases Xm:Ht F o.op=true
  .intro r hr
   rw[<- ad' (L:=Ls i) Xm (λt ht=>?_)]
   .exact hr
   .obtain⟨x,hx⟩:=hF t ht
    exact⟨x,(lX l vs T i λj o' _ hj=>hD.fz t ht o' (ahX hj)).trans hx⟩
  have hfz':Ht F o.op=false:=by simpa using Xm
  have step:∀ c,c<l.length->(∀ oc,l[c]?=some oc->bT ti oc.op=true->okX F ti i c o.op oc.op=true)->(i<c ->∀ r,pop ti (look (gO l vs T i)) (Ls c) o.op=some r->pop ti (look (gO l vs T i)) (Ls (c+1)) o.op=some r)/\(c<i ->∀ r,pop ti (look (gO l vs T i)) (Ls (c+1)) o.op=some r->pop ti (look (gO l vs T i)) (Ls c) o.op=some r):=by
   intro c hc Rb;have R3:l[c]?=some l[c]:=ah0 hc;obtain⟨_,vc,_,hs⟩:=htr c _ R3;obtain⟨_,Xv⟩|⟨_,_,Xv⟩:=hs
   .cases SZ:bT ti l[c].op with
    |false=>rw[sS SZ Xv];exact⟨λ_ r h=>h,λ_ r h=>h⟩
    |true =>
     have h1:=Rb _ R3 SZ;unfold okX at h1;rw[ZI,hfz']at h1;simp only[Bool.false_or,ah9]at h1;obtain⟨ZJ,h1⟩:=h1;have h0:sk l[c].op≠0:=by intro e0;rw[e0]at h1;cases h1
     obtain⟨r1,r2,r3,r4⟩:=aal ZJ h0 Xv;split at h1
     .rename_i W_
      have O8:i<c:=aii h1;exact⟨λ_ r h=>Ib (r1 W_) h,λhci=>by omega⟩
     .rename_i W_
      exact⟨λ_ r h=>Ib (r2 W_).1 h,λ_ r h=>Ib (r2 W_).2 h⟩
     .rename_i W_
      have hl:isLoad o.op=false:=by simpa using h1
      exact⟨λ_ r h=>aa8 (r3 W_).1 hl h,λ_ r h=>aa8 (r3 W_).2 hl h⟩
     .rename_i W_
      exact⟨λ_ r h=>Ib (r4 W_).1 h,λ_ r h=>Ib (r4 W_).2 h⟩
     .cases h1
   .rw[Xv];exact⟨λ_ r h=>h,λ_ r h=>h⟩

  have ZK:Ls (i+1)=Ls i:=sS hk TJ;by_cases hei:e<=i
  ·
   have:∀ n,n<=i-e ->∀ r,pop ti (look (gO l vs T i)) (Ls i) o.op=some r->pop ti (look (gO l vs T i)) (Ls (i-n)) o.op=some r:=by
    intro n
    induction n with
    |zero=>intro _ r h;exact h
    |succ n ih =>
     intro hn r h;have h2:=ih m0 r h;have h3:=(step (i-(n+1)) m0 (λoc R3 SZ=>hx _ oc R3 SZ (.inr ⟨m0,m0⟩))).2 m0 r;have e1:i-(n+1)+1=i-n:=m0
     rw[e1]at h3;exact h3 h2
   intro r h;have h2:=this (i-e) (ah7 _) r h;have e1:i-(i-e)=e:=m0
   rw[e1]at h2;exact h2
  .have:∀ n,i+1+n<=e ->∀ r,pop ti (look (gO l vs T i)) (Ls i) o.op=some r->pop ti (look (gO l vs T i)) (Ls (i+1+n)) o.op=some r:=by
    intro n
    induction n with
    |zero=>intro _ r h;show pop ti (look (gO l vs T i)) (Ls (i+1)) o.op=some r;rw[ZK];exact h
    |succ n ih =>
     intro hn r h;have h2:=ih m0 r h;exact(step (i+1+n) m0 (λoc R3 SZ=>hx _ oc R3 SZ (.inl ⟨m0,m0⟩))).1 m0 r h2
   intro r h;have h2:=this (e-(i+1)) m0 r h;have e1:i+1+(e-(i+1))=e:=m0
   rw[e1]at h2;exact h2

 have slots:∀ (listed:Array Bool) (e:Nat) (R:PH) (γ:List Gh) (a:Act) (w:World),acY ti l N B Ls T vs R0 γ0 w0 listed e R γ a w ->∀ (i:Nat) o,l[i]?=some o->listed[i]?=some false ->
   (∀ o',l[i]?=some o' ->∀ e∈o'.after.toList,Region.binds .any e=true->listed[e.on]?=some true) ->∀ t x,t∈f_ l.toArray o->(gO l vs T i).lookup t=some x ->∃ u,a.tmps[t]?=some u/\x.rep R γ (Ls e) u:=by
  intro listed e R γ a w M i o ho hli hed t x Ss hx;have We:=(ahR.1 ho).1;by_cases hex:∃ (j:Nat) (o':Oper),j<i/\l[j]?=some o'/\o'.dst=some t
  .obtain⟨j,o',hj,UX,Uo⟩:=hex
   have WE:=(hD.apart j i o' o t m0 UX ho Uo Ss).2;rw[if_pos hj]at WE;have Zf:=M.done.anc WE hed;have X7:vs[j]?=some vs[j]:=ah0 m0;have:=rY l vs T i j o' vs[j] hj UX Uo X7 (λk o2 h1 h2 h3 X1=>by
    have:=uniq j k o' o2 t UX h3 Uo X1;omega) (λk _ _=>by omega)
   rw[hx]at this;injection this with this
   subst this;exact M.fresh j o' t _ Zf UX Uo X7
  .have X8:∀ j o',j<i->l[j]?=some o'->o'.dst≠some t:=λj o' h1 h2 h3=>hex ⟨j,o',h1,h2,h3⟩
   rw[lX l vs T i X8]at hx;refine M.old t x hx λk o' Vx Rb hdk=>?_
   by_cases ZL:k<i
   .exact X8 k o' ZL Rb hdk
   .by_cases Vp:k=i
    .subst Vp;rw[hli]at Vx;cases Vx
    .have WE:=(hD.apart k i o' o t Vp Rb ho hdk Ss).2
     rw[if_neg ZL]at WE;have:=M.done.anc WE (λo2 h2=>M.done.down k o2 h2 Vx);rw[hli]at this;cases this
 have X9:∀ (listed:Array Bool),Done l listed ->∀ i,i<l.length->listed[i]?=some true\/listed[i]?=some false:=by
  intro listed hd i hi;have O8:i<listed.size:=by rw[hd.size];exact hi
  rw[aie O8]
  cases listed[i]<;>simp

 have fin:∀ (listed:Array Bool) (e:Nat) (R:PH) (γ:List Gh) (a:Act) (w:World),acY ti l N B Ls T vs R0 γ0 w0 listed e R γ a w->(∀ i,i<l.length->listed[i]?=some true)->Q .normal a w:=by
  intro listed e R γ a w M QA;have hle:Ls l.length=Ls e:=by
   have:=flat (l.length-e) e (λc o h1 h2 ho=>by
    cases hk:bT ti o.op with
    |false=>rfl
    |true=>have:=M.hi c o h1 ho hk;rw[QA c (ahR.1 ho).1]at this;cases this) (by have:=M.le;omega)
   have e1:e+(l.length-e)=l.length:=by have:=M.le;omega
   rw[e1]at this;exact this
  rw[hle]at hK;refine hQ _ _ R γ w a hK M.inv ⟨M.size,M.defers,λt x hx=>?_⟩ M.ext M.mv;by_cases hex:∃ (j:Nat) (o':Oper),j<l.length/\l[j]?=some o'/\o'.dst=some t
  .obtain⟨j,o',hj,UX,Uo⟩:=hex
   have X7:vs[j]?=some vs[j]:=ah0 m0;have:=rY l vs T l.length j o' vs[j] hj UX Uo X7 (λk o2 h1 h2 h3 X1=>by
    have:=uniq j k o' o2 t UX h3 Uo X1;omega) (λk _ _=>by omega)
   rw[hx]at this;injection this with this
   subst this;exact M.fresh j o' t _ (QA j hj) UX Uo X7
  .have X8:∀ j o',j<l.length->l[j]?=some o'->o'.dst≠some t:=λj o' h1 h2 h3=>hex ⟨j,o',h1,h2,h3⟩
   rw[lX l vs T l.length X8]at hx;exact M.old t x hx λk o' _ Rb hdk=>X8 k o' (ahR.1 Rb).1 Rb hdk
 have Xw:∀ (listed:Array Bool),Done l listed->Region.ready .any l.toArray listed=[] ->∀ i,i<l.length->listed[i]?=some true:=by
  intro listed hd UF i
  induction i using Nat.strongRecOn with
  |ind i ihi =>
   intro hi;obtain h|h:=X9 listed hd i hi
   .exact h
   .exfalso
    have:i∈Region.ready .any l.toArray listed:=(sO hD.back hd i).2 ⟨hi,h,λo ho e he hb=>ihi e.on (hD.back i o ho e he hb) (by have:=hD.back i o ho e he hb;omega)⟩;rw[UF]at this;cases this
 intro fuel
 induction fuel with
 |zero =>
  intro listed e R γ a w hc M;have QA:∀ i,i<l.length->listed[i]?=some true:=by
   intro i hi;obtain h|h:=X9 listed M.done i hi
   .exact h
   .exfalso
    have:0<pQ l.length listed:=List.countP_pos_iff.2 ⟨i,by simpa using hi,by rw[h];rfl⟩;omega
  refine⟨?_,fin listed e R γ a w M QA⟩;apply List.eq_nil_iff_forall_not_mem.2;intro i Ss;obtain⟨h1,h2,_⟩:=(sO hD.back M.done i).1 Ss;rw[QA i h1]at h2;cases h2
 |succ fuel ih =>
  intro listed e R γ a w hc M;refine⟨λUF=>fin listed e R γ a w M (Xw listed M.done UF),λi Ss=>?_⟩;obtain⟨h1,h2,h3⟩:=(sO hD.back M.done i).1 Ss;have ho:l[i]?=some l[i]:=ah0 h1;obtain⟨hd,v,hv,Qh⟩:=htr i _ ho;have VY:=slots listed e R γ a w M i _ ho h2 h3;have Sz:pQ l.length (listed.setIfInBounds i true)<=fuel:=by
   have:pQ l.length (listed.setIfInBounds i true)<pQ l.length listed:=by
    unfold pQ;refine wB _ (λx hx hq=>?_) ⟨i,by simpa using h1,by rw[h2];rfl,by rw[aiF (by rw[M.done.size];exact h1)];rfl⟩;by_cases hxi:x=i
    .subst hxi;rw[h2];rfl
    .rw[aix (Ne.symm hxi)]at hq;exact hq
   omega
  have VZ:∀ (e':Nat) (R':PH) (γ':List Gh) (w':World) (u:Value),e'<=l.length->(∀ (c:Nat) o,c<e'->l[c]?=some o->bT ti o.op=true->(listed.setIfInBounds i true)[c]?=some true)->(∀ (c:Nat) o,e'<=c->l[c]?=some o->bT ti o.op=true->(listed.setIfInBounds i true)[c]?=some false) ->
    Inv B R' γ' (Ls e') w'->Ext B R R' w w'->Mv R R' γ γ' (Ls e) (Ls e')->v.rep R' γ' (Ls e') u->acY ti l N B Ls T vs R0 γ0 w0 (listed.setIfInBounds i true) e' R' γ' (a.put l[i].dst u) w':=by
   intro e' R' γ' w' u hle' PU P8 Ub S3 Tf hu;have Qf:(a.put l[i].dst u).tmps.size=N:=by cases ZM:l[i].dst<;>simp[Act.put,M.size]
   have Vz:∀ t,l[i].dst≠some t->(a.put l[i].dst u).tmps[t]?=a.tmps[t]?:=by
    intro t ht
    cases ZM:l[i].dst with
    |none=>rfl
    |some d=>simp only[Act.put];rw[aix (by intro e;exact ht (by rw[ZM,e]))]
   refine⟨Ub,Qf,by cases ZM:l[i].dst<;>exact M.defers,M.done.put h3,hle',PU,P8,λj o d v' Zf Zg hdj ZN=>?_,λt x hx X8=>?_,M.ext.trans S3,M.mv.trans Tf⟩
   .by_cases VA:j=i
    .subst VA
     rw[ho]at Zg;injection Zg with Zg;subst Zg
     rw[hv]at ZN;injection ZN with ZN;subst ZN
     have hdN:d<N:=by have:=hd;rw[hdj]at this;exact this
     refine⟨u,?_,hu⟩;rw[hdj];simp only[Act.put];exact aiF (by rw[M.size];exact hdN)
    .rw[aix (Ne.symm VA)]at Zf
     obtain⟨u',g1,g2⟩:=M.fresh j o d v' Zf Zg hdj ZN;refine⟨u',?_,AV.mv Tf g2⟩;rw[Vz d (λe=>VA (uniq j i o _ d Zg ho hdj e))];exact g1
   .have hni:l[i].dst≠some t:=X8 i _ (aiF (by rw[M.done.size];exact h1)) ho
    obtain⟨u',g1,g2⟩:=M.old t x hx λk o Vx Rb=>X8 k o (by
     by_cases ZL:k=i
     .subst ZL;rw[h2]at Vx;cases Vx
     .rw[aix (Ne.symm ZL)];exact Vx) Rb
    exact⟨u',by rw[Vz t hni];exact g1,AV.mv Tf g2⟩
  have WF:∀ d x,d∈l[i].looksAt l.toArray->(gO l vs T i).lookup d=some x ->∃ u,a.tmps[d]?=some u/\x.rep R γ (Ls e) u:=λd x hd hx=>VY d x (by unfold f_;exact List.mem_append_left _ hd) hx

  have VL:bT ti l[i].op=false->(∀ (c:Nat) o,c<e->l[c]?=some o->bT ti o.op=true->(listed.setIfInBounds i true)[c]?=some true)/\(∀ (c:Nat) o,e<=c->l[c]?=some o->bT ti o.op=true->(listed.setIfInBounds i true)[c]?=some false):=by
   intro hk;have PE:∀ (c:Nat) o,l[c]?=some o->bT ti o.op=true->c≠i:=by
    rintro c o R3 SZ rfl;rw[ho]at R3;injection R3 with R3;subst R3;rw[hk]at SZ;cases SZ
   exact⟨λc o hc R3 SZ=>by rw[aix (Ne.symm (PE c o R3 SZ))];exact M.lo c o hc R3 SZ,λc o hc R3 SZ=>by rw[aix (Ne.symm (PE c o R3 SZ))];exact M.hi c o hc R3 SZ⟩
  have VM:bT ti l[i].op=true->e<=i/\Ls i=Ls e/\(∀ (c:Nat) o,c<i+1->l[c]?=some o->bT ti o.op=true->(listed.setIfInBounds i true)[c]?=some true)/\(∀ (c:Nat) o,i+1<=c->l[c]?=some o->bT ti o.op=true->(listed.setIfInBounds i true)[c]?=some false):=by
   intro hk;have hei:e<=i:=by
    obtain h|h:=Nat.lt_or_ge i e
    .have:=M.lo i _ h ho hk;rw[h2]at this;cases this
    .exact h
   have WG:∀ (c:Nat) o,c<i->l[c]?=some o->bT ti o.op=true->listed[c]?=some true:=λc o hc R3 SZ=>M.done.anc (hD.chain i c _ o ho R3 hk SZ hc) h3
   refine⟨hei,?_,λc o hc R3 SZ=>?_,λc o hc R3 SZ=>?_⟩
   .have:=flat (i-e) e (λc o c1 c2 R3=>by
     cases SZ:bT ti o.op with
     |false=>rfl
     |true=>have q:=M.hi c o c1 R3 SZ;rw[WG c o m0 R3 SZ]at q;cases q) m0
    have e1:e+(i-e)=i:=m0
    rw[e1]at this;exact this
   .by_cases hci:c=i
    .subst hci;exact aiF (by rw[M.done.size];exact h1)
    .rw[aix (Ne.symm hci)];exact WG c o m0 R3 SZ
   .rw[aix m0];exact M.hi c o m0 R3 SZ
  unfold wpOp;simp only[List.getElem?_toArray,ho];obtain⟨hw,TJ⟩|⟨hw,rfl,hLs⟩:=Qh
  .rw[if_pos (q9 (OE UW) WF hw)]
   refine .inl ?_;have operand:∀ x v',(λx=>if x∈l[i].op.operands then look (gO l vs T i) x else none) x=some v'->v'.rep R γ (Ls e) (a.eval x):=by
    intro x v' hx;by_cases hxo:x∈l[i].op.operands
    .simp only[hxo,if_true]at hx
     cases x with
     |tmp t =>
      obtain⟨u,g1,g2⟩:=WF t v' (by unfold Oper.looksAt;exact List.mem_append_left _ (List.mem_filterMap.2 ⟨.tmp t,by simpa using hxo,rfl⟩)) hx;have:a.eval (.tmp t)=u:=by simp[Act.eval,Array.getD_eq_getD_getElem?,g1]
      rw[this];exact g2
     |const c=>exact AV.ofVal_rep hx
     |global g=>cases hx
     |func f =>
      injection hx with hx;subst hx
      exact .fn f #[] [] rfl (λj v x hv=>by simp at hv)
    .simp only[hxo,if_false]at hx;cases hx
   cases hk:bT ti l[i].op with
   |false =>
    have hop2:=pass i _ v ho hk TJ e M.le (λc oc R3 SZ Y_=>by
     refine hD.cross i c _ oc ho R3 hk SZ (λha=>?_) (λha=>?_)
     .have q:=M.done.anc ha h3
      obtain⟨c1,c2⟩|⟨c1,c2⟩:=Y_
      ·
       have back:∀ i j,IZ l i j->j<i:=by
        intro i j h
        induction h with
        |edge ho he hb=>exact hD.back _ _ ho _ he hb
        |step ho he hb _ ih=>have:=hD.back _ _ ho _ he hb;omega
       have:=back i c ha;omega
      .rw[M.hi c oc c1 R3 SZ]at q;cases q
     .obtain⟨c1,c2⟩|⟨c1,c2⟩:=Y_
      .have q:=M.done.anc ha (λo2 W8=>M.done.down c o2 W8 (M.lo c oc c2 R3 SZ))
       rw[h2]at q;cases q
      .have back:∀ i j,IZ l i j->j<i:=by
        intro i j h
        induction h with
        |edge ho he hb=>exact hD.back _ _ ho _ he hb
        |step ho he hb _ ih=>have:=hD.back _ _ ho _ he hb;omega
       have:=back c i ha;omega)
    have YA:=xn (ρ':=λx=>if x∈l[i].op.operands then look (gO l vs T i) x else none) (λx hx=>by simp only[hx,if_true]) hop2;refine lw Pm M.inv operand YA ?_;rintro v' L' R' γ' w' u ⟨rfl,rfl⟩ k1 k2 k3 k4;obtain⟨q1,q2⟩:=VL hk;exact ih _ e R' γ' _ w' Sz (VZ e R' γ' w' u M.le q1 q2 k1 k2 k3 k4)
   |true =>
    obtain⟨hei,hLe,q1,q2⟩:=VM hk;rw[hLe]at TJ;have YA:=xn (ρ':=λx=>if x∈l[i].op.operands then look (gO l vs T i) x else none) (λx hx=>by simp only[hx,if_true]) TJ;refine lw Pm M.inv operand YA ?_;rintro v' L' R' γ' w' u ⟨rfl,rfl⟩ k1 k2 k3 k4;exact ih _ (i+1) R' γ' _ w' Sz (VZ (i+1) R' γ' w' u m0 q1 q2 k1 k2 k3 k4)
  .rw[if_neg (by rw[q9 (OE UW) WF hw];decide)]
   cases hk:bT ti l[i].op with
   |false =>
    obtain⟨q1,q2⟩:=VL hk;exact ih _ e R γ _ w Sz (VZ e R γ w Go.undef M.le q1 q2 M.inv (Ext.refl _ _ _) Mv.refl rfl)
   |true =>
    obtain⟨hei,hLe,q1,q2⟩:=VM hk;have hLi:Ls (i+1)=Ls e:=hLs.trans hLe;refine ih _ (i+1) R γ _ w Sz (VZ (i+1) R γ w Go.undef m0 q1 q2 ?_ (Ext.refl _ _ _) ?_ rfl)
    .rw[hLi];exact M.inv
    .rw[hLi];exact Mv.refl
def fzB (F:List Nat)(T:Tm):Bool:=F.all λt=>match T.lookup t with
 |some (.one (.c _))=>true
 |_=>false
theorem ad2 {F:List Nat}{T:Tm}(h:fzB F T=true):∀ t∈F,∃ x,T.lookup t=some (.one (.c x)):=by
 intro t ht;have:=aiB.1 h t ht;split at this
 .rename_i x hx;exact⟨x,hx⟩
 .cases this
theorem C3 (F:List Nat)(Pm:TIok P ti){Q:AX->Tm->List Ob->Prop}{T:Tm}{L:List Ob}{id:Nat}{l:List Oper}(ds:List (Option Tmp))(UW:l.map (·.dst)=ds)(YB:P.follows .mixedOrders=true)(hc:tZ F ti l=true)(hF:fzB F T=true)(h:aK P ti N ds (Q .normal) l T L):Aw P N n0 (.region id l.toArray true) Q T L:=by
 intro hn B R γ w a hi hT;have hD:=abT hc;obtain⟨vs,Ls,h1,h0,h2,h3⟩:=aaV l T L h;subst h0;have hiD:Inv B R γ (Ls 0) { w with drawn:=w.drawn+1 } :=⟨hi.len,hi.val,λid x g hx hg=>(hi.obj id x g hx hg).mv Mv.refl (λ_ _=>rfl) (λ_ _ _ h=>h),hi.inj,hi.new,hi.bsz⟩;have heD:Ext B R R w { w with drawn:=w.drawn+1 } :=⟨⟨rfl,rfl,rfl,ah7 _,λ_ _=>rfl⟩,PH.sub_refl _,λ_ _ _=>rfl⟩;refine wp_region_any YB ?_;have Qf:l.toArray.size=l.length:=by simp
 rw[Qf];refine ahr Pm UW (B:=B) hD h1 (ad2 hF) h2 h3 (R0:=R) (γ0:=γ) (w0:=w) ?_ l.length (Array.replicate l.length false) 0 R γ a { w with drawn:=w.drawn+1 } ?_ ?_
 .intro T' L' R' γ' w' a' q1 q2 q3 q4 q5
  exact⟨.normal,T',L',R',γ',rfl,q1,q2,q3,q4,uK.of hn q5⟩
 .unfold pQ
  exact Nat.le_trans List.countP_le_length m5
 .have hf:∀ i:Nat,i<l.length->(Array.replicate l.length false)[i]?=some false:=λi hi=>by simp[hi]
  have ht:∀ i:Nat,(Array.replicate l.length false)[i]?≠some true:=by
   intro i e;by_cases hi:i<l.length
   .rw[hf i hi]at e;cases e
   .rw[Array.getElem?_eq_none m8]at e;cases e
  exact⟨hiD,hT.size,hT.defers,⟨m5,λi o _ e=>absurd e (ht i)⟩,m0,λc _ hc=>by omega,λc o _ R3 _=>hf c (ahR.1 R3).1,λi o d v e=>absurd e (ht i),λt x hx _=>hT.slot t x hx,heD,Mv.refl⟩
theorem aw_drawn2 (Pm:TIok P ti){Q:AX->Tm->List Ob->Prop}{T:Tm}{L:List Ob}{id:Nat}{l:List Oper}(ds:List (Option Tmp))(UW:l.map (·.dst)=ds)(YB:P.follows .mixedOrders=true)(hc:acH ti l=true)(h:aK P ti N ds (Q .normal) l T L):Aw P N n0 (.region id l.toArray true) Q T L :=
 C3 [] Pm ds UW YB hc rfl h
end
def gdb (ds:List (Option Tmp))(T:Tm):Option (Nat×Bool)->Option Bool
 |none=>none
 |some (j,_)=>match ds[j]? with
  |some (some d)=>match T.lookup d with
   |some (.one (.c (.bool b)))=>some b
   |_=>none
  |_=>none
section
variable {P:Program} {ti:TI} {N:Nat} {ds:List (Option Tmp)} {K:Tm->List Ob->Prop} {o:Oper} {rest:List Oper} {T:Tm} {L:List Ob}
theorem ei {A B:Prop}{g:Option (Nat×Bool)}(h:fN ds T g=some true)(ha:A):gd ds T A B g:=by
 cases g with
 |none=>exact ha
 |some p =>
  obtain⟨j,want⟩:=p;simp only[fN]at h;simp only[gd];split at h
  .rename_i d hd
   try simp only[hd]
   split at h
   .rename_i b hb
    try simp only[hb]
    refine⟨λ_=>ha,λe=>?_⟩;subst e
    cases want<;>simp at h
   .cases h
   .cases h
  .cases h
theorem zy {A B:Prop}{g:Option (Nat×Bool)}(h:fN ds T g=some false)(hb:B):gd ds T A B g:=by
 cases g with
 |none=>cases h
 |some p =>
  obtain⟨j,want⟩:=p;simp only[fN]at h;simp only[gd];split at h
  .rename_i d hd
   try simp only[hd]
   split at h
   .rename_i b VK
    try simp only[VK]
    refine⟨λe=>?_,λ_=>hb⟩;subst e
    cases b<;>simp at h
   .rename_i VK
    try simp only[VK]
    exact hb
   .cases h
  .cases h
theorem fj {d:Nat}(hd:o.dst=some d)(hN:Nat.blt d N=true):dOK N o.dst:=by
 rw[hd];show d<N;exact Nat.blt_eq▸hN
theorem st_nil (h:K T L):aK P ti N ds K [] T L:=h
theorem st_pop {v:AV}{φ:Prop}{d:Nat}(hd:o.dst=some d)(hN:Nat.blt d N=true)(hg:fN ds T o.guard=some true)(hp:pop ti (look T) L o.op=some (v,φ))(hφ:φ)(h:aK P ti N ds K rest ((d,v)::T) L):aK P ti N ds K (o::rest) T L :=
 ⟨fj hd hN,ei hg (.inl ⟨v,φ,hp,hφ,by rw[hd];exact h⟩)⟩
theorem st_lit {v:AV}{φ:Prop}{d:Nat}(hd:o.dst=some d)(hN:Nat.blt d N=true)(hg:fN ds T o.guard=some true)(hp:sD ti (look T) o.op=some (v,φ))(hφ:φ)(h:aK P ti N ds K rest ((d,v)::T) L):aK P ti N ds K (o::rest) T L :=
 ⟨fj hd hN,ei hg (.inr (.inl ⟨v,φ,hp,hφ,by rw[hd];exact h⟩))⟩
theorem st_lop {v:AV}{L':List Ob}{φ:Prop}{d:Nat}(hd:o.dst=some d)(hN:Nat.blt d N=true)(hg:fN ds T o.guard=some true)(hp:yb ti (look T) L o.op=some (v,L',φ))(hφ:φ)(h:aK P ti N ds K rest ((d,v)::T) L'):aK P ti N ds K (o::rest) T L :=
 ⟨fj hd hN,ei hg (.inr (.inr (.inl ⟨v,L',φ,hp,hφ,by rw[hd];exact h⟩)))⟩
theorem sS_ {v:AV}{L':List Ob}{φ:Prop}(hd:o.dst=none)(hg:fN ds T o.guard=some true)(hp:yb ti (look T) L o.op=some (v,L',φ))(hφ:φ)(h:aK P ti N ds K rest T L'):aK P ti N ds K (o::rest) T L :=
 ⟨by rw[hd];trivial,ei hg (.inr (.inr (.inl ⟨v,L',φ,hp,hφ,by rw[hd];exact h⟩)))⟩
theorem au {g:FuncId}{ps:List PV}{r:CV}{d:Nat}{v:AV}(hd:o.dst=some d)(hN:Nat.blt d N=true)(hg:fN ds T o.guard=some true)(hp:oL (look T) o.op=some (g,ps))(hc:Pure P g ps r)(hv:r.av=v)(h:aK P ti N ds K rest ((d,v)::T) L):aK P ti N ds K (o::rest) T L :=
 ⟨fj hd hN,ei hg (.inr (.inr (.inr (.inl ⟨g,ps,r,hp,hc,by rw[hd,hv];exact h⟩))))⟩
theorem cl (σ:List Nat){g:FuncId}{L0 L1 L':List Ob}{args QB:List AV}{r r':AV}{d:Nat}(hd:o.dst=some d)(hN:Nat.blt d N=true)(hg:fN ds T o.guard=some true)(hp:dp ti (look T) o.op=some (g,QB))(hc:Run P g L0 args L1 r)(ha:QB=args.map (AV.ren σ))(hF:ig σ L0 args L)
  (hr:r.ren (dx σ L.length L1.length)=r') (hL:joinL σ L L1=L') (h:aK P ti N ds K rest ((d,r')::T) L'):aK P ti N ds K (o::rest) T L :=
 ⟨fj hd hN,ei hg (.inr (.inr (.inr (.inr (.inr (.inr (.inl ⟨σ,g,L0,args,L1,r,by rw[hp,ha],hF,hc,by rw[hd,hr,hL];exact h⟩)))))))⟩
theorem bQ {v:AV}{L':List Ob}{d:Nat}(hd:o.dst=some d)(hN:Nat.blt d N=true)(hg:fN ds T o.guard=some true)(hl:bT ti o.op=true)(ZJ:ti.soft=false)(hs:nA P (look T) L o.op v L')(h:aK P ti N ds K rest ((d,v)::T) L'):aK P ti N ds K (o::rest) T L :=
 ⟨fj hd hN,ei hg (.inr (.inr (.inr (.inr (.inr (.inr (.inr ⟨v,L',⟨hl,λe=>by rw[ZJ]at e;cases e⟩,hs,by rw[hd];exact h⟩)))))))⟩
theorem nZ {v:AV}{L':List Ob}(hd:o.dst=none)(hg:fN ds T o.guard=some true)(hl:bT ti o.op=true)(ZJ:ti.soft=false)(hs:nA P (look T) L o.op v L')(h:aK P ti N ds K rest T L'):aK P ti N ds K (o::rest) T L :=
 ⟨by rw[hd];trivial,ei hg (.inr (.inr (.inr (.inr (.inr (.inr (.inr ⟨v,L',⟨hl,λe=>by rw[ZJ]at e;cases e⟩,hs,by rw[hd];exact h⟩)))))))⟩
theorem cf {v:AV}{d:Nat}(hd:o.dst=some d)(hN:Nat.blt d N=true)(hg:fN ds T o.guard=some true)(hl:bT ti o.op=true)(hk:sk o.op=4)(hs:nA P (look T) L o.op v L)(h:aK P ti N ds K rest ((d,v)::T) L):aK P ti N ds K (o::rest) T L :=
 ⟨fj hd hN,ei hg (.inr (.inr (.inr (.inr (.inr (.inr (.inr ⟨v,L,⟨hl,λ_ => .inr ⟨hk,rfl⟩⟩,hs,by rw[hd];exact h⟩)))))))⟩
theorem Lj {v:AV}{L':List Ob}{d:Nat}(hd:o.dst=some d)(hN:Nat.blt d N=true)(hg:fN ds T o.guard=some true)(hl:bT ti o.op=true)(hk:sk o.op=0)(hs:nA P (look T) L o.op v L')(h:aK P ti N ds K rest ((d,v)::T) L'):aK P ti N ds K (o::rest) T L :=
 ⟨fj hd hN,ei hg (.inr (.inr (.inr (.inr (.inr (.inr (.inr ⟨v,L',⟨hl,λ_ => .inl hk⟩,hs,by rw[hd];exact h⟩)))))))⟩
theorem st_skip {d:Nat}(hd:o.dst=some d)(hN:Nat.blt d N=true)(hg:fN ds T o.guard=some false)(h:aK P ti N ds K rest ((d,.undef)::T) L):aK P ti N ds K (o::rest) T L :=
 ⟨fj hd hN,zy hg (by rw[hd];exact h)⟩
theorem sk0_ (hd:o.dst=none)(hg:fN ds T o.guard=some false)(h:aK P ti N ds K rest T L):aK P ti N ds K (o::rest) T L :=
 ⟨by rw[hd];trivial,zy hg (by rw[hd];exact h)⟩
theorem st_if {b:Bool}(_:gdb ds T o.guard=some b)(h1:b=true->aK P ti N ds K (o::rest) T L)(h2:b=false->aK P ti N ds K (o::rest) T L):aK P ti N ds K (o::rest) T L:=by
 cases hb:b
 .exact h2 hb
 .exact h1 hb
end
theorem eX {β:Type}{l:List (Nat×β)}{Pr:Nat->β->Prop}(h:∀ p∈l,Pr p.1 p.2):∀ t v,l.lookup t=some v->Pr t v:=by
 intro t v hv
 induction l with
 |nil=>cases hv
 |cons p l ih =>
  obtain⟨k,x⟩:=p;rw[List.lookup_cons]at hv;by_cases e:t=k
  .subst e;simp at hv;subst hv;exact h (t,x) m5
  .have:(t==k)=false:=by simpa using e
   rw[this]at hv;exact ih (λp hp=>h p (aid _ hp)) hv
theorem yx {α:Type}{l:List α}{f:α->Bool}{Pr:α->Prop}(h:l.all f=true)(hf:∀ x,f x=true->Pr x):∀ x∈l,Pr x:=λx hx=>hf x (aiB.1 h x hx)
def TI.of (sz:List (Nat×Nat))(ag:List (Nat×Bool))(el:List (Nat×Nat))(fl:List (Nat×List (Nat×Nat)))(ze:List (Nat×AV))(bt:List (Nat×Nat))(ki:List (Nat×TypeDesc))(st zo:List Nat)(eq:List (Nat×List Sc))(ow:List Nat):TI where
 size:=λt=>sz.lookup t
 agg:=λt=>ag.lookup t
 elem:=λt=>el.lookup t
 field:=λs i=>match fl.lookup s with
  |some fs=>fs[i]?
  |none=>none
 zero:=λt=>ze.lookup t
 bytes:=λt=>bt.lookup t
 kind:=λt=>ki.lookup t
 struct:=λt=>st.contains t
 zok:=λt=>zo.contains t
 eqs:=λt=>eq.lookup t
 owns:=λf=>ow.contains f
def aeD (P:Program)(t:TypeId):Bool :=
 match P.info? t with
 |some i=>match i.zero with
  |some z=>z.cells.size==i.size
  |none=>false
 |none=>false
theorem aeC {P:Program}{t:TypeId}(h:aeD P t=true):∀ k,dZ P t=some k->L3 P t k:=by
 intro k hk;unfold aeD at h;unfold dZ at hk;split at h
 .rename_i i hi
  split at h
  .rename_i z hz
   rw[hi]at hk;simp at hk;simp at h;exact⟨i,z,hi,hz,hk,by rw[h,hk]⟩
  .cases h
 .cases h
theorem TI.of_ok {P:Program}{sz:List (Nat×Nat)}{ag:List (Nat×Bool)}{el:List (Nat×Nat)}{fl:List (Nat×List (Nat×Nat))}{ze:List (Nat×AV)}{bt:List (Nat×Nat)}{ki:List (Nat×TypeDesc)}{st zo:List Nat}{eq:List (Nat×List Sc)}{ow:List Nat}
  (h1:(sz.all λp=>dZ P p.1==some p.2)=true) (h2:(ag.all λp=>G9 P p.1==some p.2)=true) (h3:(el.all λp=>mM P p.1==some p.2)=true)
  (h4:(fl.all λp=>(List.range p.2.length).all λi=>wc P p.1 i==p.2[i]?)=true) (h5:∀ p∈ze,zeroOf P p.1=some p.2) (h6:(bt.all λp=>kH P p.1==some p.2)=true) (h7:∀ p∈ki,P.underlying p.1=some p.2)
  (h8:(st.all λt=>x2 P t)=true) (h9:(zo.all λt=>aeD P t)=true)
  (YC:∀ p∈eq,P.eqGuardType P.depth p.1=false /\ ∀ xs ys,dY p.2 xs=true->dY p.2 ys=true->KJ P p.1 xs ys):TIok P (TI.of sz ag el fl ze bt ki st zo eq ow):=by
 refine⟨eX (yx h1 λp hp=>by simpa using hp),eX (yx h2 λp hp=>by simpa using hp),eX (yx h3 λp hp=>by simpa using hp),λs i r h=>?_,eX h5,eX (yx h6 λp hp=>by simpa using hp),eX h7,λt h=>?_,λt h=>?_,eX YC⟩
 .simp only[TI.of]at h
  split at h
  .rename_i fs hf
   have:=eX (Pr:=λs fs=>((List.range fs.length).all λi=>wc P s i==fs[i]?)=true) (yx h4 λp hp=>hp) s fs hf;have hi:i<fs.length:=(ahR.1 h).1;have h2:=aiB.1 this i (by simpa using hi);rw[<- h];simpa using h2
  .cases h
 .exact aiB.1 h8 t (by simpa[TI.of]using h)
 .exact aeC (aiB.1 h9 t (by simpa[TI.of]using h))
section
variable {P:Program} {ti:TI} {N n0:Nat} {Q:AX->Tm->List Ob->Prop} {T:Tm} {L:List Ob}
theorem aE {rs:List ResultVar}{ps:List PV}{φ:Prop}{r:CV}(h:pZ ti T L rs=some (ps,φ))(hφ:φ)(e:aaT ps=r):Res ti rs T L r:=by
 unfold Res;rw[h];exact⟨hφ,e⟩
theorem az {rs:List ResultVar}{r:CV}(h:Res ti rs T L r):(AX.ret=AX.normal\/AX.ret=AX.ret)/\Res ti rs T L r:=⟨.inr rfl,h⟩
end
def agw (n:Int):CV := .val (.one (.int .i64 n))
def Lx (T':Tm):Tm->Prop
 |[]=>True
 |(t,x)::T=>T'.lookup t=some x/\Lx T' T
def Fj (n:Nat):Tm->Prop
 |[]=>True
 |(_,x)::T=>x.below n/\Fj n T
def zT (n:Nat):List Ob->Prop
 |[]=>True
 |x::L=>x.below n/\zT n L
theorem fm_ {T' T:Tm}{L' L:List Ob}(h1:Lx T' T)(G:List Ob)(h2:L'=L++G)(h3:Fj L.length T)(h4:zT L.length L):Fits T' L' T L:=by
 refine⟨λp hp=>?_,⟨G,h2⟩,λp hp=>?_,λx hx=>?_⟩
 .clear h3 h2
  induction T with
  |nil=>cases hp
  |cons q T ih =>
   obtain rfl|hp:=ah8.1 hp
   .exact h1.1
   .exact ih h1.2 hp
 .clear h1 h2
  induction T with
  |nil=>cases hp
  |cons q T ih =>
   obtain rfl|hp:=ah8.1 hp
   .exact h3.1
   .exact ih h3.2 hp
 .clear h1 h2 h3
  generalize hn:L.length=n at h4;clear hn
  induction L with
  |nil=>cases hx
  |cons q L ih =>
   obtain rfl|hx:=ah8.1 hx
   .exact h4.1
   .exact ih hx h4.2
theorem aL {k:IntKind}{a b:Int}(h:a=b):some (AV.one (.c (.int k a)))=some (AV.one (.c (.int k b))):=by rw[h]
theorem bY {a b:List (List AC)}{t:Nat}(h:a=b):some (AV.one (.own a t))=some (AV.one (.own b t)):=by rw[h]
theorem aV {x:Int}(h : -9223372036854775808<=x/\x<=9223372036854775807):IntKind.i64.wrap x=x:=IntWalk.i64_in x m0
theorem a8 {x y:Int}(h:x=y)(hb : -9223372036854775808<=y/\y<=9223372036854775807):IntKind.i64.wrap x=y:=by rw[h];exact aV hb
theorem aU {α:Type}{l:List α}{f:α->List AC}{i:Nat}{x:α}(h:l[i]?=some x):(l.map f)[((i:Nat):Int).toNat]?=some (f x):=by
 rw[Int.toNat_natCast,aic,h];rfl
theorem gol_ {α:Type}{l:List α}{i:Nat}(h:i<l.length):∃ x,l[i]?=some x:=⟨l[i],ah0 h⟩
theorem bG {α:Type}{l:List α}{i:Nat}{x:α}(h:l[i]?=some x):l.take (i+1)=l.take i++[x]:=by
 obtain⟨hi,rfl⟩:=ahR.1 h;rw[List.take_succ_eq_append_getElem hi]
section
variable {P:Program} {ti:TI} {N n0:Nat} {ds:List (Option Tmp)} {K:Tm->List Ob->Prop} {o:Oper} {rest:List Oper} {T:Tm} {L:List Ob}
theorem adD {ρ:Operand->Option AV}{t:TypeId}{x ix:Operand}{vx:AV}{es:List (List AC)}{k0:IntKind}{i:Int}{k:Nat}{e:List AC}(hx:ρ x=some vx)(hl:cX vx=some es)(hi:ρ ix=some (.one (.c (.int k0 i))))(hk:(ti.elem t).bind ti.size=some k)(he:es[i.toNat]?=some e) :
  pop ti ρ L (.indexAddr t x ix)=some (.one (.c (.ref e)),0<=i/\e.length=k):=by
 simp only[pop,hx,hi];split
 .rename_i h1 h2
  injection h1 with h1;subst h1;simp[cX]at hl
 .rename_i h1 h2
  injection h1 with h1;injection h2 with h2;subst h1 h2
  simp only[fC,hl,hk,he]
 .rename_i h;exact(h _ _ rfl rfl).elim
theorem aO {t:TypeId}{x ix:Operand}{vx:AV}{es:List (List AC)}{k0:IntKind}{i:Int}{k d:Nat}{e:List AC}(hd:o.dst=some d)(hN:Nat.blt d N=true)(hg:fN ds T o.guard=some true)(ho:o.op = .indexAddr t x ix)(hx:look T x=some vx)(hl:cX vx=some es)(hi:look T ix=some (.one (.c (.int k0 i))))
  (hk:(ti.elem t).bind ti.size=some k) (he:es[i.toNat]?=some e) (hφ:0<=i/\e.length=k) (h:aK P ti N ds K rest ((d,.one (.c (.ref e)))::T) L):aK P ti N ds K (o::rest) T L :=
 st_pop hd hN hg (by rw[ho];exact adD hx hl hi hk he) hφ h
theorem adu {ρ:Operand->Option AV}{t:TypeId}{p:Operand}{id O9 i off k:Nat}{es:List (List SV)}{e:List SV}{x:SV}(hp:ρ p=some (.one (.ep id O9 i off)))(hL:L[id]?=some (.row O9 es k))(ha:ti.agg t=some false)(he:es[i]?=some e)(hx:e[off]?=some x) :
  pop ti ρ L (.load t p)=some (.one x,O9=O9):=by
 simp only[pop,hp,ahQ,fZ,hL,he,ha,hx]
theorem pO {t:TypeId}{p:Operand}{id O9 i off k d:Nat}{es:List (List SV)}{e:List SV}{x:SV}(hd:o.dst=some d)(hN:Nat.blt d N=true)(hg:fN ds T o.guard=some true)(ho:o.op = .load t p)(hp:look T p=some (.one (.ep id O9 i off)))(hL:L[id]?=some (.row O9 es k))(ha:ti.agg t=some false)(he:es[i]?=some e)(hx:e[off]?=some x)
  (h:aK P ti N ds K rest ((d,.one x)::T) L):aK P ti N ds K (o::rest) T L :=
 st_pop hd hN hg (by rw[ho];exact adu hp hL ha he hx) rfl h
theorem aaW {ρ:Operand->Option AV}{t:TypeId}{p:Operand}{id O9 i off k n:Nat}{es:List (List SV)}{e:List SV}(hp:ρ p=some (.one (.ep id O9 i off)))(hL:L[id]?=some (.row O9 es k))(ha:ti.agg t=some true)(hn:ti.size t=some n)(he:es[i]?=some e) :
  pop ti ρ L (.load t p)=some (.agg ((e.drop off).take n),O9=O9/\off+n<=e.length):=by
 simp only[pop,hp,ahQ,fZ,hL,he,ha,hn]
theorem acj {t:TypeId}{p:Operand}{id O9 i off k d n:Nat}{es:List (List SV)}{e xs:List SV}(hd:o.dst=some d)(hN:Nat.blt d N=true)(hg:fN ds T o.guard=some true)(ho:o.op = .load t p)(hp:look T p=some (.one (.ep id O9 i off)))(hL:L[id]?=some (.row O9 es k))(ha:ti.agg t=some true)(hn:ti.size t=some n)(he:es[i]?=some e)(hx:(e.drop off).take n=xs)(hle:off+n<=e.length)
  (h:aK P ti N ds K rest ((d,.agg xs)::T) L):aK P ti N ds K (o::rest) T L :=
 st_pop hd hN hg (φ:=O9=O9/\off+n<=e.length) (by rw[ho];exact aaW hp hL ha hn he) ⟨rfl,hle⟩ (by rw[hx];exact h)
theorem adi {ρ:Operand->Option AV}{t:TypeId}{p q:Operand}{id O9 i off k:Nat}{es:List (List SV)}{e xs:List SV}(hp:ρ p=some (.one (.ep id O9 i off)))(hq:(ρ q).bind AV.cells=some xs)(hL:L[id]?=some (.row O9 es k))(he:es[i]?=some e) :
  yb ti ρ L (.store t p q)=some (.undef,L.set id (.row O9 (es.set i (splice e off xs)) k),O9=O9/\off+xs.length<=e.length/\ti.size t=some xs.length):=by
 simp only[yb,hp,hq,hL,he]
theorem pu {t:TypeId}{p q:Operand}{id O9 i off k:Nat}{es:List (List SV)}{e xs:List SV}{L':List Ob}(hd:o.dst=none)(hg:fN ds T o.guard=some true)(ho:o.op = .store t p q)(hp:look T p=some (.one (.ep id O9 i off)))(hq:(look T q).bind AV.cells=some xs)(hL:L[id]?=some (.row O9 es k))(he:es[i]?=some e)
  (hφ:off+xs.length<=e.length/\ti.size t=some xs.length) (Yx:L.set id (.row O9 (es.set i (splice e off xs)) k)=L') (h:aK P ti N ds K rest T L'):aK P ti N ds K (o::rest) T L :=
 sS_ hd hg (φ:=O9=O9/\off+xs.length<=e.length/\ti.size t=some xs.length) (by rw[ho];exact adi hp hq hL he) ⟨rfl,hφ⟩ (by rw[Yx];exact h)
theorem acI {Q:AX->Tm->List Ob->Prop}{c:Code}(t:Nat){x:SV}{y:AC}(ht:T.lookup t=some (.one x))(hy:x.norm=some y)(h:Aw P N n0 c Q ((t,.one (.c y))::T) L):Aw P N n0 c Q T L:=by
 intro hn B R γ w a hi hT;refine h hn B R γ w a hi ⟨hT.size,hT.defers,λt' z hz=>?_⟩;rw[List.lookup_cons]at hz;by_cases e:t'=t
 .subst e
  simp at hz;subst hz;obtain⟨u,h1,h2⟩:=hT.slot t' _ ht;exact⟨u,h1,SV.norm_rep h2 hy⟩
 .have:(t'==t)=false:=by simpa using e
  rw[this]at hz;exact hT.slot t' z hz
end
